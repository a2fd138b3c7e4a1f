/- A point of a board comes back from the panel. Plain Lean about the plain functions. -/
import Derived.Test.YtpkicpnbpldkpaaB1
namespace Go.Proofs.Ytpkicpnbpldkpaa
theorem openErr_cells {p : TPanel} (h : openErr p = 0) : slotsErr p [] p.Slots = 0 := by
  unfold openErr at h
  split at h
  · omega
  · split at h
    · split at h
      · rename_i hc
        unfold cellsErr at hc
        split at hc
        · omega
        · exact hc
      · rename_i hc; exact absurd h hc
    · rename_i hk; exact absurd h hk
theorem slots_apart {p : TPanel} : ∀ {l : List TSlot} {prev : List TRect}, slotsErr p prev l = 0 → ∀ (j : Nat) (s : TSlot), l[j]? = some s → ∀ d ∈ prev ++ (l.take j).map (cellOf p), apart (cellOf p s) d p.Gap = true
  | [], _, _, j, s, hs => by simp at hs
  | a :: l, prev, h, j, s, hs => by
    unfold slotsErr at h
    split at h
    · rename_i h1
      cases j with
      | zero =>
        simp at hs
        subst hs
        intro d hd
        have hd : d ∈ prev := by simpa using hd
        have h2 := h1
        unfold slotErr at h2
        split at h2
        · omega
        split at h2
        · omega
        split at h2
        · omega
        split at h2
        · omega
        · rename_i hn
          cases hA : apart (cellOf p a) d p.Gap with
          | true => rfl
          | false => exact absurd (List.any_eq_true.2 ⟨d, hd, by simp [hA]⟩) hn
      | succ j =>
        simp only [List.getElem?_cons_succ] at hs
        intro d hd
        exact slots_apart h j s hs d (by simpa using hd)
    · rename_i h1; exact absurd h h1
theorem onBoard_found {p : TPanel} {q : TPoint} : ∀ (l : List TSlot) (k : Int) (j : Nat) (s : TSlot), l[j]? = some s → inC (cellOf p s) q = true →
    ∃ (n : Int) (x : TPoint), onBoard p q l k = (n, x, true, 0) ∧ ((n = k + j ∧ x = toB p s q) ∨ ∃ s', s' ∈ l.take j ∧ inC (cellOf p s') q = true)
  | [], _, j, s, hs, _ => by simp at hs
  | a :: l, k, j, s, hs, hc => by
    unfold onBoard
    by_cases ha : inC (cellOf p a) q = true
    · rw [if_pos ha]
      refine ⟨_, _, rfl, ?_⟩
      cases j with
      | zero => simp at hs; subst hs; exact .inl ⟨by simp, rfl⟩
      | succ j => exact .inr ⟨a, by simp, ha⟩
    · rw [if_neg ha]
      cases j with
      | zero => simp at hs; subst hs; exact absurd hc ha
      | succ j =>
        simp only [List.getElem?_cons_succ] at hs
        obtain ⟨n, x, h1, h2⟩ := onBoard_found l (k + 1) j s hs hc
        refine ⟨n, x, h1, ?_⟩
        rcases h2 with ⟨h2, h3⟩ | ⟨s', h2, h3⟩
        · exact .inl ⟨by rw [h2]; push_cast; omega, h3⟩
        · exact .inr ⟨s', by simp [h2], h3⟩
theorem in_cell {p : TPanel} (hB : PB p) {s : TSlot} (hs : SlotOk p s) {a : TPoint} (hx : 0 ≤ a.X ∧ a.X ≤ (kindOf p.Kinds s.Board).W) (hy : 0 ≤ a.Y ∧ a.Y ≤ (kindOf p.Kinds s.Board).H) :
    ((cellOf p s).X0 ≤ (toP p s a).X ∧ (toP p s a).X ≤ (cellOf p s).X1) ∧ ((cellOf p s).Y0 ≤ (toP p s a).Y ∧ (toP p s a).Y ≤ (cellOf p s).Y1) ∧ toB p s (toP p s a) = a := by
  obtain ⟨e, e0, e1, e2, e3⟩ := at_cell hB hs
  have hc : (cellOf p s).X0 = s.At.X ∧ (cellOf p s).Y0 = s.At.Y := ⟨rfl, rfl⟩
  obtain ⟨ax, ay⟩ := a
  simp only at hx hy
  rcases e with e | e | e | e
  · have h := e0 e
    simp only [toP, toB, rotX, rotY, backQ, e, TPoint.mk.injEq]
    simp only [if_true]
    refine ⟨by omega, by omega, by omega, by omega⟩
  · have h := e1 e
    simp only [toP, toB, rotX, rotY, backQ, e, TPoint.mk.injEq]
    simp only [show (1 : Int) ≠ 0 by decide, if_false, if_true, show (4 - 1 : Int) = 3 from rfl, show (3 : Int) ≠ 0 by decide, show (3 : Int) ≠ 1 by decide, show (3 : Int) ≠ 2 by decide]
    refine ⟨by omega, by omega, by omega, by omega⟩
  · have h := e2 e
    simp only [toP, toB, rotX, rotY, backQ, e, TPoint.mk.injEq]
    simp only [show (2 : Int) ≠ 0 by decide, show (2 : Int) ≠ 1 by decide, if_false, if_true, show (4 - 2 : Int) = 2 from rfl]
    refine ⟨by omega, by omega, by omega, by omega⟩
  · have h := e3 e
    simp only [toP, toB, rotX, rotY, backQ, e, TPoint.mk.injEq]
    simp only [show (3 : Int) ≠ 0 by decide, show (3 : Int) ≠ 1 by decide, show (3 : Int) ≠ 2 by decide, if_false, if_true, show (4 - 3 : Int) = 1 from rfl, show (1 : Int) ≠ 0 by decide]
    refine ⟨by omega, by omega, by omega, by omega⟩
theorem comeBack_ok {N : Nat} {p : TPanel} (h : FuelP N p) (i : Int) (a : TPoint) : F_etchhouselaw9_PanelPointsComeBack N p i a = some true := by
  unfold F_etchhouselaw9_PanelPointsComeBack
  rw [toPanel_ok h, Option.bind_some, awakeP_ok (by have := h.big; omega)]
  have fail : ∀ e : Int, e ≠ 0 → (toPanel p i a = (⟨0, 0⟩, e)) → (((toPanel p i a).2 != 0) = true ∧ eqTPoint (toPanel p i a).1 ⟨0, 0⟩ = true) := fun e he ht => by
    rw [ht]; exact ⟨by simpa using he, eqTPoint_iff.2 rfl⟩
  have done : ∀ {K : Option Bool}, (((toPanel p i a).2 != 0) = true ∧ eqTPoint (toPanel p i a).1 ⟨0, 0⟩ = true) → (if ((toPanel p i a).2 != 0) = true then
      (if eqTPoint (toPanel p i a).1 ⟨0, 0⟩ = true then (some true).bind fun y4 => some y4 else some false).bind fun g3 => some g3 else K) = some true := fun hh => by
    rw [if_pos hh.1, if_pos hh.2]; rfl
  by_cases he : openErr p = 0
  · obtain ⟨hB, hsl, _, hso⟩ := openErr_ok he
    cases hw : within i 0 ((p.Slots.length : Int) - 1)
    · exact done (fail 9 (by decide) (by simp [toPanel, he, hw]))
    have w1 := within_iff.1 hw
    obtain ⟨s, hi, hmem⟩ := idx_lt (l := p.Slots) (i := i) (by omega) (by omega)
    have hs := hso s (List.mem_of_getElem? hmem)
    by_cases ha : within a.X 0 (kindOf p.Kinds s.Board).W = true ∧ within a.Y 0 (kindOf p.Kinds s.Board).H = true
    · have ht : toPanel p i a = (toP p s a, 0) := by simp [toPanel, he, hw, hmem, ha]
      rw [ht]
      have wx := within_iff.1 ha.1
      have wy := within_iff.1 ha.2
      obtain ⟨c1, c2, c3⟩ := in_cell hB hs wx wy
      obtain ⟨_, _, _, d1, d2, d3, d4, d5, d6⟩ := hs.bd hB
      have hr := hB.r0
      have hx1 := hs.x1
      have hy1 := hs.y1
      have hin : inC (cellOf p s) (toP p s a) = true := by
        unfold inC
        rw [within_iff.2 c1, within_iff.2 c2]; rfl
      obtain ⟨n, x, hn, hor⟩ := onBoard_found p.Slots 0 i.toNat s hmem hin
      have htb : toBoard p (toP p s a) = (n, x, true, 0) := by
        unfold toBoard
        rw [if_pos he, if_pos ⟨within_iff.2 (by omega), within_iff.2 (by omega)⟩, hn]
      simp only [bne_self_eq_false, Bool.false_eq_true, if_false]
      unfold F_panel_Cells
      rw [open_ok h.names, Option.bind_some, if_pos he, Option.bind_some, if_neg (by simp; omega), toBoard_ok h, Option.bind_some, htb]
      have hcell : idx (p.Slots.map (cellOf p)) i = some (cellOf p s) := by
        unfold idx
        rw [if_pos w1.1, List.getElem?_map, hmem]; rfl
      simp only [bne_self_eq_false, Bool.not_true, Bool.or_self, Bool.false_eq_true, if_false, hcell, Option.bind_some]
      have hstrict : (((((decide ((cellOf p s).X0 < (toP p s a).X)) && (decide ((toP p s a).X < (cellOf p s).X1))) && (decide ((cellOf p s).Y0 < (toP p s a).Y))) && (decide ((toP p s a).Y < (cellOf p s).Y1))) && ((n != i) || (!(eqTPoint x a)))) = false := by
        rw [Bool.eq_false_iff]
        intro hb
        simp only [Bool.and_eq_true, decide_eq_true_eq] at hb
        obtain ⟨⟨⟨⟨b1, b2⟩, b3⟩, b4⟩, b5⟩ := hb
        rcases hor with ⟨o1, o2⟩ | ⟨s', o1, o2⟩
        · have e1 : n = i := by rw [o1]; omega
          have e2 : x = a := by rw [o2]; exact c3
          rw [e1, e2, eqTPoint_iff.2 rfl] at b5
          simp at b5
        · have hap := slots_apart (openErr_cells he) i.toNat s hmem (cellOf p s') (List.mem_append_right _ (List.mem_map.2 ⟨s', o1, rfl⟩))
          unfold inC at o2
          simp only [Bool.and_eq_true] at o2
          have w3 := within_iff.1 o2.1
          have w4 := within_iff.1 o2.2
          have hg := hB.g0
          unfold apart at hap
          simp only [Bool.or_eq_true, decide_eq_true_eq] at hap
          omega
      rw [hstrict]
      have hclosed : ((((decide ((cellOf p s).X0 ≤ (toP p s a).X)) && (decide ((toP p s a).X ≤ (cellOf p s).X1))) && (decide ((cellOf p s).Y0 ≤ (toP p s a).Y))) && (decide ((toP p s a).Y ≤ (cellOf p s).Y1))) = true := by
        simp only [Bool.and_eq_true, decide_eq_true_eq]
        omega
      rw [hclosed]
      rfl
    · refine done (fail 1 (by decide) ?_)
      simp only [toPanel, he, hw, hmem, if_true]
      rw [if_neg ha]
  · refine done (fail (openErr p) he ?_)
    simp [toPanel, he]
end Go.Proofs.Ytpkicpnbpldkpaa
