/- Regions: what is checked; program and reference agree. Plain Lean about the plain functions. -/
import Derived.Test.YtfdglihcpfpefaaGreatS4p
namespace Go.Proofs.YtfdglihcpfpefaaGreat
instance : DecidableEq TRect := fun _ _ => decidable_of_iff _ eqTRect_iff
/-- The error of a rectangle. -/
def rErr (r : TRect) : Int :=
  if (((within r.X0 (-1000000) 1000000 && within r.Y0 (-1000000) 1000000) && within r.X1 (-1000000) 1000000) && within r.Y1 (-1000000) 1000000) = false then 1
  else if (decide (r.X1 ≤ r.X0) || decide (r.Y1 ≤ r.Y0)) = true then 13 else 0
def rsErr : List TRect → Int
  | [] => 0
  | r :: l => if rErr r = 0 then rsErr l else rErr r
def rectsErr (l : List TRect) : Int := if 2000 < l.length then 2 else rsErr l
theorem rErr_ok {r : TRect} (h : rErr r = 0) : ROk r := by
  unfold rErr at h
  split at h
  · omega
  · rename_i h1
    split at h
    · omega
    · rename_i h2
      rw [Bool.not_eq_false, Bool.and_eq_true, Bool.and_eq_true, Bool.and_eq_true, within_iff, within_iff, within_iff, within_iff] at h1
      rw [Bool.or_eq_true, not_or, decide_eq_true_eq, decide_eq_true_eq] at h2
      exact ⟨h1.1.1.1, h1.1.1.2, h1.1.2, h1.2, by omega, by omega⟩
theorem rErr_of {r : TRect} (h : ROk r) : rErr r = 0 := by
  unfold rErr
  have a := h.x0; have b := h.y0; have c := h.x1; have d := h.y1; have e := h.x; have f := h.y
  rw [if_neg (by rw [Bool.not_eq_false, Bool.and_eq_true, Bool.and_eq_true, Bool.and_eq_true, within_iff, within_iff, within_iff, within_iff]; exact ⟨⟨⟨a, b⟩, c⟩, d⟩), if_neg (by rw [Bool.or_eq_true, not_or, decide_eq_true_eq, decide_eq_true_eq]; omega)]
theorem rsErr_ok : ∀ {l : List TRect}, rsErr l = 0 → ∀ r ∈ l, ROk r
  | [], _, r, hr => by simp at hr
  | a :: l, h, r, hr => by
    unfold rsErr at h
    split at h
    · rename_i h1
      rcases List.mem_cons.1 hr with rfl | hr
      · exact rErr_ok h1
      · exact rsErr_ok h r hr
    · rename_i h1; exact absurd h h1
theorem rsErr_of : ∀ {l : List TRect}, (∀ r ∈ l, ROk r) → rsErr l = 0
  | [], _ => rfl
  | a :: l, h => by
    unfold rsErr
    rw [if_pos (rErr_of (h a (by simp)))]
    exact rsErr_of fun r hr => h r (by simp [hr])
theorem rectsErr_ok {l : List TRect} (h : rectsErr l = 0) : l.length ≤ 2000 ∧ ∀ r ∈ l, ROk r := by
  unfold rectsErr at h
  split at h
  · omega
  · exact ⟨by omega, rsErr_ok h⟩
theorem isRect_ok (r : TRect) : F_shape_isRect r = some (((within r.X0 (-1000000) 1000000 && within r.Y0 (-1000000) 1000000) && within r.X1 (-1000000) 1000000) && within r.Y1 (-1000000) 1000000) := by
  unfold F_shape_isRect F_shape_IsAt F_shape_within within
  simp only [Option.bind_some]
  cases decide (-1000000 ≤ r.X0) && decide (r.X0 ≤ 1000000) <;> cases decide (-1000000 ≤ r.Y0) && decide (r.Y0 ≤ 1000000) <;> cases decide (-1000000 ≤ r.X1) && decide (r.X1 ≤ 1000000) <;> rfl
theorem CheckRects_ok (l : List TRect) : F_shape_CheckRects l = some (rectsErr l) := by
  have key : ∀ (l : List TRect) (i : Nat), F_shape_CheckRects_L1 l i = some (rsErr l) := by
    intro l
    induction l with
    | nil => intro i; rw [F_shape_CheckRects_L1.eq_1]; rfl
    | cons r l ih =>
      intro i
      rw [F_shape_CheckRects_L1.eq_2, isRect_ok, Option.bind_some, ih]
      show _ = some (if rErr r = 0 then rsErr l else rErr r)
      generalize rsErr l = z
      unfold rErr
      cases (((within r.X0 (-1000000) 1000000 && within r.Y0 (-1000000) 1000000) && within r.X1 (-1000000) 1000000) && within r.Y1 (-1000000) 1000000)
      · simp
      · cases (decide (r.X1 ≤ r.X0) || decide (r.Y1 ≤ r.Y0)) <;> simp
  unfold F_shape_CheckRects rectsErr
  by_cases h : 2000 < l.length
  · rw [if_pos (by simp; omega), if_pos h]
  · rw [if_neg (by simp; omega), if_neg h, key]
/-- Two rectangles in order. -/
def ltR (a b : TRect) : Bool := decide (a.Y0 < b.Y0) || (decide (a.Y0 = b.Y0) && decide (a.X0 < b.X0))
def ordR : List TRect → Bool
  | a :: b :: l => ltR a b && ordR (b :: l)
  | _ => true
def regionErr (l : List TRect) : Int := if rectsErr l = 0 then if ordR l = true then if rectsB (setB l) = l then 0 else 3 else 8 else rectsErr l
theorem CheckRegion_ok {N : Nat} (hN : 10000000000 ≤ N) (l : List TRect) : F_shape_CheckRegion N l = some (regionErr l) := by
  unfold F_shape_CheckRegion regionErr
  rw [CheckRects_ok, Option.bind_some]
  by_cases he : rectsErr l = 0
  · obtain ⟨hl, hok⟩ := rectsErr_ok he
    rw [if_neg (by simpa using he), if_pos he]
    have hend : (F_shape_SetOf N l).bind (fun y123 => (F_shape_Set__Rects N y123).bind fun y125 => (F_slices_Equal_Rect y125 l).bind fun y127 => if (!y127) then some 3 else some 0) = some (if rectsB (setB l) = l then (0 : Int) else 3) := by
      rw [SetOf_ok hN (by omega) (fun r hr => (hok r hr).r9), Option.bind_some, Rects_ok hN (setB_small (by omega)), Option.bind_some]
      obtain ⟨b, h1, h2⟩ := EqualR_ok (rectsB (setB l)) l
      rw [h1, Option.bind_some]
      cases b
      · rw [if_pos (by simp), if_neg (fun h => by have := h2.2 h; cases this)]
      · rw [if_neg (by simp), if_pos (h2.1 rfl)]
    have key : ∀ (suf pre : List TRect) (a : TRect) (m : Nat), l = pre ++ a :: suf → suf.length < m → F_shape_CheckRegion_L1 N l m ((pre.length : Int) + 1) = some (if ordR (a :: suf) = true then if rectsB (setB l) = l then 0 else 3 else 8) := by
      intro suf
      induction suf with
      | nil =>
        intro pre a m h1 h2
        obtain ⟨m, rfl⟩ : ∃ k, m = k + 1 := ⟨m - 1, by omega⟩
        rw [F_shape_CheckRegion_L1.eq_2, if_neg (by rw [h1]; simp), hend]
        rfl
      | cons b suf ih =>
        intro pre a m h1 h2
        obtain ⟨m, rfl⟩ : ∃ k, m = k + 1 := ⟨m - 1, by omega⟩
        have hpl : pre.length ≤ 2000 := by rw [h1] at hl; simp at hl; omega
        have ha : idx l (pre.length : Int) = some a := by rw [h1]; exact idx_mid pre _ a
        have hb : idx l ((pre.length : Int) + 1) = some b := by
          rw [h1, show pre ++ a :: b :: suf = (pre ++ [a]) ++ b :: suf by simp, show ((pre.length : Int) + 1) = ((pre ++ [a]).length : Int) by simp]
          exact idx_mid (pre ++ [a]) _ b
        rw [F_shape_CheckRegion_L1.eq_2, if_pos (by rw [h1]; simp; omega), w64_id (x := (pre.length : Int) + 1 - 1) (by omega) (by omega), show ((pre.length : Int) + 1 - 1) = (pre.length : Int) by omega, ha, Option.bind_some, hb, Option.bind_some, w64_id (by omega) (by omega)]
        have hlt : ((decide (b.Y0 < a.Y0)) || ((b.Y0 == a.Y0) && (decide (b.X0 ≤ a.X0)))) = !ltR a b := by
          unfold ltR
          rw [Bool.eq_iff_iff]
          simp
          omega
        rw [hlt]
        have hor : ordR (a :: b :: suf) = (ltR a b && ordR (b :: suf)) := rfl
        rw [hor]
        cases ltR a b
        · simp
        · have := ih (pre ++ [a]) b m (by rw [h1]; simp) (by simp at h2; omega)
          rw [show (((pre ++ [a]).length : Int) + 1) = (pre.length : Int) + 1 + 1 by simp] at this
          rw [this]
          simp
    cases l with
    | nil =>
      obtain ⟨m, hm⟩ : ∃ k, N = k + 1 := ⟨N - 1, by omega⟩
      have hf : F_shape_CheckRegion_L1 N ([] : List TRect) N 1 = F_shape_CheckRegion_L1 N ([] : List TRect) (m + 1) 1 := congrArg (fun z => F_shape_CheckRegion_L1 N ([] : List TRect) z 1) hm
      rw [hf, F_shape_CheckRegion_L1.eq_2, if_neg (by simp), hend]
      rfl
    | cons a suf =>
      exact key suf [] a N rfl (by simp at hl; omega)
  · rw [if_pos (by simpa using he), if_neg he]
/-- The region of rectangles. -/
def regionV (l : List TRect) : List TRect × Int := if rectsErr l = 0 then toldV (setB l) else ([], rectsErr l)
end Go.Proofs.YtfdglihcpfpefaaGreat
