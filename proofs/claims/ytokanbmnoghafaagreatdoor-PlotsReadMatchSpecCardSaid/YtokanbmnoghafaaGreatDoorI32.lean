/- PlotsReadMatchSpec: the law. Plain Lean about the plain functions. Conditions: none beyond each theorem's own. -/
import Derived.Test.YtokanbmnoghafaaGreatDoorJ3
namespace Go.Proofs.YtokanbmnoghafaaGreatDoor
theorem linesL_fine {t : ByteArray} (ht : t.size ≤ 200000) : FineL (zB2 t) ∧ (zB2 t).length ≤ 200000 := by
  have hl := zOf_len (t.size + 1) t
  have hz := zOf_sz (t.size + 1) t 200000 ht
  unfold zB2
  refine ⟨fun l hm => ?_, by rw [List.length_map]; omega⟩
  obtain ⟨z, hzm, e⟩ := List.mem_map.1 hm
  have hs := hz z hzm
  unfold lnZ at e
  split at e
  · have hw := zFv z.1
    exact lnOf_fine (fun w hw => by have := zJV hw; omega) (by omega) e
  · cases e
theorem spec_fine {ls : List (Option Ln)} (hf : FineL ls) (hl : ls.length ≤ 200000) {p : QN} (h : zFc ls = .inr p) : J64 p.Unit ∧ (∀ t ∈ p.Tools, FineT t) ∧ p.Tools.length ≤ 200000 ∧ zDH p.Steps ∧ p.Steps.length ≤ 200000 := by
  cases ls with
  | nil => cases h
  | cons l ls =>
    cases l with
    | none => cases h
    | some l =>
      cases l with
      | tool t => cases h
      | step s => cases h
      | rep s => cases h
      | done => cases h
      | unit n =>
        have h : zEo n (zBr ls []).1 (ls.length + 1) (zBr ls []).2 = .inr p := h
        have hn : J64 n := hf (.unit n) (by simp)
        have hf' := hf.suf (List.suffix_cons _ _)
        simp at hl
        obtain ⟨t1, t2⟩ := refT_fine ls [] hf' (fun t h => by cases h)
        have t3 := (zHq ls [] 0).2.1
        simp at t2
        generalize (zBr ls []).1 = T at *
        generalize (zBr ls []).2 = ls2 at *
        obtain ⟨s1, s2⟩ := zFz (ls2.length + 1) false ls2 [] (by omega) (hf'.suf t3) (by rw [zDH]; trivial)
        unfold zEo at h
        split at h
        · cases h
        · injection h with h
          subst h
          simp at s2
          exact ⟨hn, t1, by show T.length ≤ _; omega, s1, by show (Jp (ls2.length + 1) false ls2 []).1.length ≤ _; omega⟩
theorem awake_ok {N : Nat} (hN : 20000 ≤ N) : Vq N = some true := by
  obtain ⟨N, rfl⟩ : ∃ n, N = n + 1 := ⟨N - 1, by omega⟩
  have h1 : KH (N + 1) ⟨7, [], []⟩ = some 0 := rfl
  have h2 : zG9 7 = some ⟨#[55]⟩ := by
    unfold zG9 Lib.itoa
    rw [if_pos (by decide), if_neg (by decide), Lib.decDigits]
    rfl
  have h3 : zDK ⟨#[117, 110, 105, 116, 32]⟩ ⟨#[55]⟩ = some ⟨#[117, 110, 105, 116, 32, 55]⟩ := by decide
  have h4 : zDK ⟨#[117, 110, 105, 116, 32, 55]⟩ ⟨#[10]⟩ = some ⟨#[117, 110, 105, 116, 32, 55, 10]⟩ := by decide
  have h5 : sbW ByteArray.empty ⟨#[117, 110, 105, 116, 32, 55, 10]⟩ = some ⟨#[117, 110, 105, 116, 32, 55, 10]⟩ := by decide
  unfold Vq zD2
  rw [h1, Option.bind_some, if_neg (by decide)]
  show ((zG9 7).bind _).bind _ = _
  rw [h2, Option.bind_some, h3, Option.bind_some, h4, Option.bind_some, h5, Option.bind_some, Vf]
  have h6 : WI (N + 1) ⟨#[117, 110, 105, 116, 32, 55, 10]⟩ [] = some ⟨#[117, 110, 105, 116, 32, 55, 10]⟩ := rfl
  show ((WI (N + 1) ⟨#[117, 110, 105, 116, 32, 55, 10]⟩ []).bind _).bind _ = _
  rw [h6, Option.bind_some]
  have h7 : sEq (⟨#[117, 110, 105, 116, 32, 55, 10]⟩ : ByteArray) ⟨#[117, 110, 105, 116, 32, 55, 10]⟩ = true := zBE.2 rfl
  show some ((0 : Int) == 0 && sEq (⟨#[117, 110, 105, 116, 32, 55, 10]⟩ : ByteArray) ⟨#[117, 110, 105, 116, 32, 55, 10]⟩) = some true
  rw [h7]; rfl
/-- Fuel for a text. -/
def zGy : List zt → Nat
  | [] => 0
  | t :: l => t.Rects.length + zGy l
theorem zIU {t : zt} : ∀ {l : List zt}, t ∈ l → t.Rects.length ≤ zGy l
  | x :: l, h => by
    rw [zGy]
    rcases List.mem_cons.1 h with e | e
    · subst e; omega
    · have := zIU e; omega
def zIY (t : ByteArray) : Nat := match zFc (zB2 t) with
  | .inl _ => 3000000
  | .inr p => Vu p.Steps + zFx p.Tools + zGy p.Tools + 3000000
theorem fuelT_le (t : ByteArray) : 3000000 ≤ zIY t := by unfold zIY; split <;> omega
theorem zP_same {N : Nat} (hN : 10 ≤ N) : KA N zP zP = some true :=
  samePl_ok (by show Vu [] + 5 ≤ N; rw [szSteps_nil]; omega) (by simp [zP]) (by show zDH []; rw [zDH]; trivial) (by show 0 < N; omega) (by simp [zP]) (fun t h => by cases h)
theorem law_of {N : Nat} (hN : 3000000 ≤ N) {t : ByteArray} {r : QN × Int × Int} (h1 : zAc N t = some r) (h2 : Kk N t = some r) (h3 : KA N r.1 r.1 = some true) : JO N t = some true := by
  unfold JO
  rw [h1, h2, Option.bind_some, Option.bind_some, h3, Option.bind_some, awake_ok (by omega)]
  simp
theorem plotsRead_ok (t : ByteArray) : JO (zIY t) t = some true := by
  have hN := fuelT_le t
  have hP := Reads_ok (N := zIY t) (by omega) t
  have hR := ReadR_ok (N := zIY t) (by omega) t
  by_cases ht : 200000 < t.size
  · rw [if_pos ht] at hP hR
    exact law_of hN hP hR (zP_same (by omega))
  · rw [if_neg ht] at hP hR
    obtain ⟨hf, hl⟩ := linesL_fine (t := t) (by omega)
    have hfu : zIY t = match zFc (zB2 t) with
      | .inl _ => 3000000
      | .inr p => Vu p.Steps + zFx p.Tools + zGy p.Tools + 3000000 := rfl
    generalize zIY t = N at *
    cases hs : zFc (zB2 t) with
    | inl n =>
      rw [hs] at hP hR
      exact law_of hN hP hR (zP_same (by omega))
    | inr p =>
      obtain ⟨p1, p2, p3, p4, p5⟩ := spec_fine hf hl hs
      rw [hs] at hP hR hfu
      simp only at hfu
      have hL : LenP p := ⟨p1, fun t h => ⟨(p2 t h).1, (p2 t h).2.2⟩, by omega, p4⟩
      obtain ⟨e, e1, e2, _⟩ := CheckPlot_ok (N := N) (p := p) (by unfold Fu; omega) hL
      have hP : zAc N t = (KH N p).bind fun e => if e != 0 then some (zP, 0, e) else some (p, 0, 0) := hP
      have hR : Kk N t = (JK N p).bind fun e => if e != 0 then some (zP, 0, e) else some (p, 0, 0) := hR
      rw [e1, Option.bind_some] at hP
      rw [e2, Option.bind_some] at hR
      by_cases he : e != 0
      · rw [if_pos he] at hP hR
        exact law_of hN hP hR (zP_same (by omega))
      · rw [if_neg he] at hP hR
        have hp := samePl_ok (N := N) (p := p) (by omega) (by show p.Steps.length ≤ _; omega) p4 (by show p.Tools.length < _; omega) (by show p.Tools.length ≤ _; omega) (fun t h => ⟨by have := zIU h; omega, (p2 t h).2.1⟩)
        exact law_of hN hP hR hp
end Go.Proofs.YtokanbmnoghafaaGreatDoor
