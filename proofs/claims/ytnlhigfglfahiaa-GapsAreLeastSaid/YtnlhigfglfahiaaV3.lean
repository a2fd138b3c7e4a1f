/- Sets that fit. Plain Lean about the plain functions. -/
import Derived.Test.YtnlhigfglfahiaaV1
namespace Go.Proofs.Ytnlhigfglfahiaa
/-- A rectangle within the limits. -/
def lim (r : TRect) : Bool := ((within r.X0 (-1000000) 1000000 && within r.Y0 (-1000000) 1000000) && within r.X1 (-1000000) 1000000) && within r.Y1 (-1000000) 1000000
theorem lim_iff {r : TRect} : lim r = true ↔ ((((-1000000 ≤ r.X0 ∧ r.X0 ≤ 1000000) ∧ (-1000000 ≤ r.Y0 ∧ r.Y0 ≤ 1000000)) ∧ (-1000000 ≤ r.X1 ∧ r.X1 ≤ 1000000)) ∧ (-1000000 ≤ r.Y1 ∧ r.Y1 ≤ 1000000)) := by
  unfold lim
  rw [Bool.and_eq_true, Bool.and_eq_true, Bool.and_eq_true, within_iff, within_iff, within_iff, within_iff]
/-- A set fits just if all rectangles that make it do. -/
theorem Fits_ok {L : List TRect} (hL : L.length ≤ 100000000) (hne : ∀ r ∈ L, r.X0 < r.X1 ∧ r.Y0 < r.Y1) : F_shape_Set__Fits ((setB L).map toP) = some (L.all lim) := by
  unfold F_shape_Set__Fits
  obtain ⟨c1, c2⟩ := setB_ok hne
  obtain ⟨s1, s2⟩ := setB_len L
  by_cases h : setB L = []
  · have hnil : L = [] := by
      cases L with
      | nil => rfl
      | cons a l =>
        have ha := hne a (by simp)
        have := (c2 a.X0 a.Y0).2 ⟨a, by simp, ⟨by omega, by omega⟩, by omega, by omega⟩
        rw [h] at this
        exact absurd this InS_nil
    subst hnil
    rw [h]; rfl
  · have hlen := List.length_pos_iff.2 h
    obtain ⟨b, b1, b2⟩ := Around_ok c1 h (by omega) (fun c hc => by have := s2 c hc; omega)
    rw [if_neg (by simp; exact h), b1, Option.bind_some, isRect_ok, Option.bind_some, Option.bind_some]
    congr 1
    show lim b = L.all lim
    rw [Bool.eq_iff_iff, List.all_eq_true]
    constructor
    · intro hb r hr
      have hr' := hne r hr
      have k1 := b2.all _ _ ((c2 r.X0 r.Y0).2 ⟨r, hr, ⟨by omega, by omega⟩, by omega, by omega⟩)
      have k2 := b2.all _ _ ((c2 (r.X1 - 1) (r.Y1 - 1)).2 ⟨r, hr, ⟨by omega, by omega⟩, by omega, by omega⟩)
      rw [lim_iff] at hb ⊢
      omega
    · intro hall
      obtain ⟨y, hx0⟩ := b2.x0
      obtain ⟨y', hx1⟩ := b2.x1
      obtain ⟨x, hy0⟩ := b2.y0
      obtain ⟨x', hy1⟩ := b2.y1
      obtain ⟨r1, m1, e1⟩ := (c2 _ _).1 hx0
      obtain ⟨r2, m2, e2⟩ := (c2 _ _).1 hx1
      obtain ⟨r3, m3, e3⟩ := (c2 _ _).1 hy0
      obtain ⟨r4, m4, e4⟩ := (c2 _ _).1 hy1
      have l1 := lim_iff.1 (hall r1 m1)
      have l2 := lim_iff.1 (hall r2 m2)
      have l3 := lim_iff.1 (hall r3 m3)
      have l4 := lim_iff.1 (hall r4 m4)
      rw [lim_iff]
      omega
end Go.Proofs.Ytnlhigfglfahiaa
