/- Points of regions, the program's. Plain Lean about the plain functions. -/
import Derived.Test.YtnlhigfglfahiaaU6
namespace Go.Proofs.Ytnlhigfglfahiaa
theorem HasSquare_ok (l : List TRect) (p : TPoint) : ∃ b : Bool, F_shape_HasSquare l p = some b ∧ (b = true ↔ InR p.X p.Y l) := by
  unfold F_shape_HasSquare F_slices_ContainsFunc_Rect F_slices_IndexFunc_Rect
  have h := IndexR_ok (g := fun r => (((decide (r.X0 ≤ p.X)) && (decide (p.X < r.X1))) && (decide (r.Y0 ≤ p.Y))) && (decide (p.Y < r.Y1))) (f := fun z0 => F_shape_HasSquare_1 z0 p) l 0 (fun _ _ => rfl)
  rw [h, Option.bind_some, Option.bind_some, show ((0 : Nat) : Int) = 0 from rfl, ixOf_any _ l 0 (by omega)]
  refine ⟨_, rfl, ?_⟩
  rw [List.any_eq_true]
  unfold InR
  simp [and_assoc]
def pErr (p : TPoint) : Bool := within p.X (-1000000) 1000000 && within p.Y (-1000000) 1000000
theorem IsPoint_ok (p : TPoint) : F_shape_IsPoint p = some (pErr p) := by
  unfold F_shape_IsPoint F_shape_IsAt F_shape_within pErr within
  simp only [Option.bind_some]
  cases decide (-1000000 ≤ p.X) && decide (p.X ≤ 1000000) <;> rfl
theorem HasP_ok {N : Nat} (hN : 10000000000 ≤ N) (l : List TRect) (p : TPoint) : ∃ v : Bool × Int, F_shape_Has N l p = some v ∧ (regionErr l = 0 → pErr p = true → v.2 = 0 ∧ (v.1 = true ↔ InR p.X p.Y l)) ∧ (v.2 = 0 → regionErr l = 0 ∧ pErr p = true) := by
  unfold F_shape_Has
  rw [CheckRegion_ok hN, Option.bind_some]
  by_cases h : regionErr l = 0
  · rw [if_neg (by simpa using h), IsPoint_ok, Option.bind_some]
    by_cases hp : pErr p = true
    · rw [if_neg (by simp [hp])]
      obtain ⟨b, b1, b2⟩ := HasSquare_ok l p
      rw [b1]
      exact ⟨(b, 0), rfl, fun _ _ => ⟨rfl, b2⟩, fun _ => ⟨h, hp⟩⟩
    · rw [if_pos (by simp [hp])]
      exact ⟨(false, 1), rfl, fun _ k => absurd k hp, fun k => by cases k⟩
  · rw [if_pos (by simpa using h)]
    exact ⟨(false, regionErr l), rfl, fun k => absurd k h, fun k => absurd k h⟩
/-- Whether a square is in a region. -/
theorem hasL_ok {N : Nat} (hN : 10000000000 ≤ N) {l : List TRect} (h : regionErr l = 0) (p : TPoint) : F_etchhouselaw1_has N l p = some (pErr p && decide (InR p.X p.Y l)) := by
  unfold F_etchhouselaw1_has
  obtain ⟨v, v1, v3, v4⟩ := HasP_ok hN l p
  rw [v1, Option.bind_some]
  by_cases hp : pErr p = true
  · obtain ⟨h1, h2⟩ := v3 h hp
    rw [hp, h1]
    congr 1
    rw [Bool.eq_iff_iff]
    simp [h2]
  · have h1 : v.2 ≠ 0 := fun h1 => hp (v4 h1).2
    rw [Bool.not_eq_true] at hp
    rw [hp]
    simp [h1]
end Go.Proofs.Ytnlhigfglfahiaa
