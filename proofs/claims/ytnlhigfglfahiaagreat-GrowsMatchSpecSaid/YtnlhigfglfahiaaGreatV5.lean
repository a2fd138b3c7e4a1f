/- The least rectangle around a region, the reference's. Plain Lean about the plain functions. -/
import Derived.Test.YtnlhigfglfahiaaGreatV1
namespace Go.Proofs.YtnlhigfglfahiaaGreat
theorem BoundsOf_ok {N : Nat} (hN : 10000000000 ≤ N) {l : List TRect} (hne : l ≠ []) (hl : l.length ≤ 100000000) (hok : ∀ r ∈ l, r.X0 < r.X1 ∧ r.Y0 < r.Y1) : ∃ r, F_etchhouseref1_BoundsOf N l = some r ∧ IsBnd (fun x y => InR x y l) r := by
  obtain ⟨a, t, hat⟩ : ∃ a t, l = a :: t := by cases l with | nil => exact absurd rfl hne | cons b t => exact ⟨b, t, rfl⟩
  have ha : a ∈ l := by rw [hat]; simp
  have loop : ∀ (suf pre : List TRect) (m : Nat) (x0 y0 x1 y1 : Int), l = pre ++ suf → suf.length < m → (∀ r ∈ pre, x0 ≤ r.X0 ∧ y0 ≤ r.Y0 ∧ r.X1 ≤ x1 ∧ r.Y1 ≤ y1) → (∃ r ∈ l, x0 = r.X0) → (∃ r ∈ l, y0 = r.Y0) → (∃ r ∈ l, x1 = r.X1) → (∃ r ∈ l, y1 = r.Y1) →
      ∃ q : TRect, F_etchhouseref1_BoundsOf_L1 l m x0 y0 x1 y1 pre.length = some q ∧ (∀ r ∈ l, q.X0 ≤ r.X0 ∧ q.Y0 ≤ r.Y0 ∧ r.X1 ≤ q.X1 ∧ r.Y1 ≤ q.Y1) ∧ (∃ r ∈ l, q.X0 = r.X0) ∧ (∃ r ∈ l, q.Y0 = r.Y0) ∧ (∃ r ∈ l, q.X1 = r.X1) ∧ (∃ r ∈ l, q.Y1 = r.Y1) := by
    intro suf
    induction suf with
    | nil =>
      intro pre m x0 y0 x1 y1 h1 h2 h3 h4 h5 h6 h7
      obtain ⟨m, rfl⟩ : ∃ k, m = k + 1 := ⟨m - 1, by omega⟩
      rw [F_etchhouseref1_BoundsOf_L1.eq_2, if_neg (by rw [h1]; simp)]
      exact ⟨⟨x0, y0, x1, y1⟩, rfl, fun r hr => h3 r (by rw [h1] at hr; simpa using hr), h4, h5, h6, h7⟩
    | cons r suf ih =>
      intro pre m x0 y0 x1 y1 h1 h2 h3 h4 h5 h6 h7
      obtain ⟨m, rfl⟩ : ∃ k, m = k + 1 := ⟨m - 1, by omega⟩
      have hpl : pre.length ≤ 100000000 := by rw [h1] at hl; simp at hl; omega
      have hid : idx l (pre.length : Int) = some r := by rw [h1]; exact idx_mid pre suf r
      have hr : r ∈ l := by rw [h1]; simp
      rw [F_etchhouseref1_BoundsOf_L1.eq_2, if_pos (by rw [h1]; exact lt_mid pre suf r), hid, Option.bind_some, Option.bind_some, Option.bind_some, Option.bind_some, up_mid pre r (by omega)]
      have mn : ∀ {x y : Int} {g : TRect → Int}, y = g r → (∃ r ∈ l, x = g r) → ∃ r ∈ l, min x y = g r := fun {x y g} e h => by
        by_cases k : x ≤ y
        · rw [Int.min_eq_left k]; exact h
        · rw [Int.min_eq_right (by omega)]; exact ⟨r, hr, e⟩
      have mx : ∀ {x y : Int} {g : TRect → Int}, y = g r → (∃ r ∈ l, x = g r) → ∃ r ∈ l, max x y = g r := fun {x y g} e h => by
        by_cases k : y ≤ x
        · rw [Int.max_eq_left k]; exact h
        · rw [Int.max_eq_right (by omega)]; exact ⟨r, hr, e⟩
      refine ih (pre ++ [r]) m _ _ _ _ (by rw [h1]; simp) (by simp at h2; omega) (fun s hs => ?_) (mn rfl h4) (mn rfl h5) (mx rfl h6) (mx rfl h7)
      rcases List.mem_append.1 hs with hs | hs
      · have := h3 s hs; omega
      · simp at hs; subst hs; omega
  obtain ⟨q, q1, q2, ⟨r1, hr1, q3⟩, ⟨r2, hr2, q4⟩, ⟨r3, hr3, q5⟩, ⟨r4, hr4, q6⟩⟩ := loop l [] N a.X0 a.Y0 a.X1 a.Y1 rfl (by omega) (by simp) ⟨a, ha, rfl⟩ ⟨a, ha, rfl⟩ ⟨a, ha, rfl⟩ ⟨a, ha, rfl⟩
  refine ⟨q, ?_, fun x y hxy => ?_, ?_, ?_, ?_, ?_⟩
  · unfold F_etchhouseref1_BoundsOf
    rw [show idx l 0 = some a by rw [hat]; rfl, Option.bind_some]
    exact q1
  · obtain ⟨r, hr, h1, h2⟩ := hxy
    have := q2 r hr; omega
  · have := hok r1 hr1; exact ⟨r1.Y0, r1, hr1, ⟨by omega, by omega⟩, by omega, by omega⟩
  · have := hok r3 hr3; exact ⟨r3.Y0, r3, hr3, ⟨by omega, by omega⟩, by omega, by omega⟩
  · have := hok r2 hr2; exact ⟨r2.X0, r2, hr2, ⟨by omega, by omega⟩, by omega, by omega⟩
  · have := hok r4 hr4; exact ⟨r4.X0, r4, hr4, ⟨by omega, by omega⟩, by omega, by omega⟩
end Go.Proofs.YtnlhigfglfahiaaGreat
