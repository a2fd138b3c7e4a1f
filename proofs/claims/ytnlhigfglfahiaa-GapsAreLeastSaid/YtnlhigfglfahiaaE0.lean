/- Chapter 1: the law's own small region. Plain Lean about the plain functions. -/
import Derived.Test.YtnlhigfglfahiaaXF
import Derived.Test.YtnlhigfglfahiaaA0
namespace Go.Proofs.Ytnlhigfglfahiaa
theorem srtF_one {α : Type} {a : α} {c : α → α → Option Int} {k : Int} (h : c a a = some k) (hk : ¬ k < 0) : srtF [a] c = some [a] := by
  have hs : SortOk c [a] := ⟨by simp, fun x hx y hy => by simp at hx hy; subst hx hy; exact ⟨k, h⟩, fun x hx => by simp at hx; subst hx; simp [ltC, h]; omega, fun x hx y hy z hz h1 => by
    simp at hx hy; subst hx hy; simp [ltC, h] at h1; omega, fun x hx y hy z hz _ _ => by simp at hx hz; subst hx hz; simp [ltC, h]; omega⟩
  obtain ⟨m, hm⟩ := srtF_ok hs
  obtain ⟨_, hp, _⟩ := srtF_some hm
  rw [hm, List.perm_singleton.1 hp]
def r23 : TRect := ⟨0, 0, 2, 3⟩
theorem set23 (m : Nat) : F_shape_SetOf (m + 10) [r23] = some [⟨0, 3, [0, 2]⟩] := by
  have h1 : srtF [r23] (fun z0 z1 => F_shape_SetOf_1 z0 z1) = some [r23] := srtF_one (k := 0) rfl (by decide)
  have h2 : srtF [r23] (fun z0 z1 => F_shape_stretches_1 z0 z1) = some [r23] := srtF_one (k := 0) rfl (by decide)
  have h3 : srtI [0, 3] = some [0, 3] := by
    unfold srtI
    rw [if_pos (by simp), List.mergeSort_of_pairwise (by simp)]
  have h4 : F_shape_stretches [r23] = some ([0, 2], [r23]) := by
    unfold F_shape_stretches
    rw [h2]; rfl
  have h5 : cpI [0, 3] = some [0, 3] := rfl
  unfold F_shape_SetOf F_slices_Clone_Rect
  rw [show apd ([] : List TRect) [r23] = some [r23] from rfl, Option.bind_some, Option.bind_some, h1, Option.bind_some, F_shape_SetOf_L1.eq_2, show apd ([] : List Int) [r23.Y0, r23.Y1] = some [0, 3] from rfl, Option.bind_some, F_shape_SetOf_L1.eq_1, h3, Option.bind_some, h5, Option.bind_some,
    F_shape_SetOf_L4.eq_2, if_pos (by decide), show F_slices_DeleteFunc_Rect (m + 10) ([] : List TRect) (fun z0 => F_shape_SetOf_2 z0 [0, 3] 0) = some [] from rfl, Option.bind_some, F_shape_SetOf_L5.eq_2]
  show ((some (decide (r23.Y0 ≤ 0))).bind fun g261 => if g261 then _ else _) = _
  rw [Option.bind_some, if_pos (by decide)]
  show F_shape_SetOf_L5 [r23] [0, 3] 0 [] (F_shape_SetOf_L4 (m + 10) [r23] [0, 3] (m + 9)) (m + 9) [r23] 1 = _
  rw [F_shape_SetOf_L5.eq_2]
  show (((F_shape_stretches [r23]).bind fun y270 => (F_shape_Set__push [] (TBand.mk 0 3 y270.1)).bind fun y274 => F_shape_SetOf_L4 (m + 10) [r23] [0, 3] (m + 9) 1 y274 y270.2 1)) = _
  rw [h4]
  show F_shape_SetOf_L4 (m + 10) [r23] [0, 3] (m + 9) 1 [⟨0, 3, [0, 2]⟩] [r23] 1 = _
  rw [F_shape_SetOf_L4.eq_2, if_neg (by decide)]
theorem awake1_ok {N : Nat} (hN : 10 ≤ N) : F_etchhouselaw1_awake N = some true := by
  obtain ⟨m, rfl⟩ : ∃ m, N = m + 10 := ⟨N - 10, by omega⟩
  unfold F_etchhouselaw1_awake F_shape_Area F_shape_CheckRegion
  rw [show F_shape_CheckRects [TRect.mk 0 0 2 3] = some 0 from rfl, Option.bind_some, if_neg (by decide), F_shape_CheckRegion_L1.eq_2, if_neg (by decide)]
  have := set23 m
  unfold r23 at this
  rw [this]
  rfl
end Go.Proofs.Ytnlhigfglfahiaa
