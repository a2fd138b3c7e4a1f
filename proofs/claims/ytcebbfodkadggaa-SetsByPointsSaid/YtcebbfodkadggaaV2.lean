/- Points: Has and Bounds are as specified, and the law's fuel. Plain Lean about the plain functions. -/
import Derived.Test.YtcebbfodkadggaaV1
import Derived.Test.YtcebbfodkadggaaU2
import Derived.Test.YtcebbfodkadggaaE0
namespace Go.Proofs.Ytcebbfodkadggaa
theorem HasSquare_ok (l : List TRect) (p : TPoint) : ∃ b : Bool, F_shape_HasSquare l p = some b ∧ (b = true ↔ InR p.X p.Y l) := by
  unfold F_shape_HasSquare F_slices_ContainsFunc_Rect F_slices_IndexFunc_Rect
  have h := IndexR_ok (g := fun r => (((decide (r.X0 ≤ p.X)) && (decide (p.X < r.X1))) && (decide (r.Y0 ≤ p.Y))) && (decide (p.Y < r.Y1))) (f := fun z0 => F_shape_HasSquare_1 z0 p) l 0 (fun _ _ => rfl)
  rw [h, Option.bind_some, Option.bind_some, show ((0 : Nat) : Int) = 0 from rfl, ixOf_any _ l 0 (by omega)]
  refine ⟨_, rfl, ?_⟩
  rw [List.any_eq_true]
  unfold InR
  simp [and_assoc]
theorem HasPoint_ok {N : Nat} (hN : 10000000000 ≤ N) {l : List TRect} (hl : l.length ≤ 100000000) (hok : ∀ r ∈ l, r.X0 < r.X1) (p : TPoint) : ∃ b : Bool, F_etchhouseref1_HasPoint N l p = some b ∧ (b = true ↔ InR p.X p.Y l) := by
  unfold F_etchhouseref1_HasPoint
  obtain ⟨b, b1, b2⟩ := inside_ok (N := N) (l := rowS l p.Y) (x := p.X) hN (by have := rowS_len l p.Y; omega)
  rw [row_ok hN hl, Option.bind_some, b1, Option.bind_some]
  exact ⟨b, rfl, b2.trans ((rowS_ok hok p.Y).2 p.X)⟩
def pErr (p : TPoint) : Bool := within p.X (-1000000) 1000000 && within p.Y (-1000000) 1000000
theorem IsPoint_ok (p : TPoint) : F_shape_IsPoint p = some (pErr p) := by
  unfold F_shape_IsPoint F_shape_IsAt F_shape_within pErr within
  simp only [Option.bind_some]
  cases decide (-1000000 ≤ p.X) && decide (p.X ≤ 1000000) <;> rfl
theorem IsPointR_ok (p : TPoint) : F_etchhouseref1_IsPoint p = some (pErr p) := by
  unfold F_etchhouseref1_IsPoint F_etchhouseref1_At F_etchhouseref1_within pErr within
  simp only [Option.bind_some]
  cases decide (-1000000 ≤ p.X) && decide (p.X ≤ 1000000) <;> rfl
theorem Has_ok {N : Nat} (hN : 10000000000 ≤ N) (l : List TRect) (p : TPoint) : ∃ v : Bool × Int, F_shape_Has N l p = some v ∧ F_etchhouseref1_Has N l p = some v ∧ (regionErr l = 0 → pErr p = true → v.2 = 0 ∧ (v.1 = true ↔ InR p.X p.Y l)) ∧ (v.2 = 0 → regionErr l = 0 ∧ pErr p = true) := by
  unfold F_shape_Has F_etchhouseref1_Has
  rw [CheckRegion_ok hN, Option.bind_some, CheckRegionR_ok hN, Option.bind_some]
  by_cases h : regionErr l = 0
  · obtain ⟨_, hl, hok, _⟩ := regionErr_ok h
    rw [if_neg (by simpa using h), if_neg (by simpa using h), IsPoint_ok, IsPointR_ok, Option.bind_some, Option.bind_some]
    by_cases hp : pErr p = true
    · rw [if_neg (by simp [hp]), if_neg (by simp [hp])]
      obtain ⟨b, b1, b2⟩ := HasSquare_ok l p
      obtain ⟨c, c1, c2⟩ := HasPoint_ok hN (show l.length ≤ 100000000 by omega) (fun r hr => (hok r hr).x) p
      have e : c = b := by rw [Bool.eq_iff_iff, b2, c2]
      subst e
      rw [b1, c1]
      exact ⟨(c, 0), rfl, rfl, fun _ _ => ⟨rfl, b2⟩, fun _ => ⟨h, hp⟩⟩
    · rw [if_pos (by simp [hp]), if_pos (by simp [hp])]
      exact ⟨(false, 1), rfl, rfl, fun _ k => absurd k hp, fun k => by cases k⟩
  · rw [if_pos (by simpa using h), if_pos (by simpa using h)]
    exact ⟨(false, regionErr l), rfl, rfl, fun k => absurd k h, fun k => absurd k h⟩
theorem BoundsOf_ok {N : Nat} (hN : 10000000000 ≤ N) {l : List TRect} (hne : l ≠ []) (hl : l.length ≤ 100000000) (hok : ∀ r ∈ l, r.X0 < r.X1 ∧ r.Y0 < r.Y1) : ∃ r, F_etchhouseref1_BoundsOf N l = some r ∧ IsBnd (fun x y => InR x y l) r := by
  obtain ⟨a, t, hat⟩ : ∃ a t, l = a :: t := by cases l with | nil => exact absurd rfl hne | cons b t => exact ⟨b, t, rfl⟩
  have ha : a ∈ l := by rw [hat]; simp
  have loop : ∀ (suf pre : List TRect) (m : Nat) (x0 y0 x1 y1 : Int), l = pre ++ suf → suf.length < m → (∀ r ∈ pre, x0 ≤ r.X0 ∧ y0 ≤ r.Y0 ∧ r.X1 ≤ x1 ∧ r.Y1 ≤ y1) → (∃ r ∈ l, x0 = r.X0) → (∃ r ∈ l, y0 = r.Y0) → (∃ r ∈ l, x1 = r.X1) → (∃ r ∈ l, y1 = r.Y1) →
      ∃ q : TRect, F_etchhouseref1_BoundsOf_L1 l m x0 y0 x1 y1 pre.length = some q ∧ (∀ r ∈ l, q.X0 ≤ r.X0 ∧ q.Y0 ≤ r.Y0 ∧ r.X1 ≤ q.X1 ∧ r.Y1 ≤ q.Y1) ∧ (∃ r ∈ l, q.X0 = r.X0) ∧ (∃ r ∈ l, q.Y0 = r.Y0) ∧ (∃ r ∈ l, q.X1 = r.X1) ∧ (∃ r ∈ l, q.Y1 = r.Y1) := by
    intro suf
    induction suf with
    | nil =>
      intro pre m x0 y0 x1 y1 h1 h2 h3 h4 h5 h6 h7
      obtain ⟨m, rfl⟩ : ∃ k, m = k + 1 := ⟨m - 1, by omega⟩
      rw [F_etchhouseref1_BoundsOf_L1.eq_2, if_neg (by rw [h1]; simp)]
      exact ⟨⟨x0, y0, x1, y1⟩, rfl, fun r hr => h3 r (by rw [h1] at hr; simpa using hr), h4, h5, h6, h7⟩
    | cons r suf ih =>
      intro pre m x0 y0 x1 y1 h1 h2 h3 h4 h5 h6 h7
      obtain ⟨m, rfl⟩ : ∃ k, m = k + 1 := ⟨m - 1, by omega⟩
      have hpl : pre.length ≤ 100000000 := by rw [h1] at hl; simp at hl; omega
      have hid : idx l (pre.length : Int) = some r := by rw [h1]; exact idx_mid pre suf r
      have hr : r ∈ l := by rw [h1]; simp
      rw [F_etchhouseref1_BoundsOf_L1.eq_2, if_pos (by rw [h1]; exact lt_mid pre suf r), hid, Option.bind_some, Option.bind_some, Option.bind_some, Option.bind_some, up_mid pre r (by omega)]
      have mn : ∀ {x y : Int} {g : TRect → Int}, y = g r → (∃ r ∈ l, x = g r) → ∃ r ∈ l, min x y = g r := fun {x y g} e h => by
        by_cases k : x ≤ y
        · rw [Int.min_eq_left k]; exact h
        · rw [Int.min_eq_right (by omega)]; exact ⟨r, hr, e⟩
      have mx : ∀ {x y : Int} {g : TRect → Int}, y = g r → (∃ r ∈ l, x = g r) → ∃ r ∈ l, max x y = g r := fun {x y g} e h => by
        by_cases k : y ≤ x
        · rw [Int.max_eq_left k]; exact h
        · rw [Int.max_eq_right (by omega)]; exact ⟨r, hr, e⟩
      refine ih (pre ++ [r]) m _ _ _ _ (by rw [h1]; simp) (by simp at h2; omega) (fun s hs => ?_) (mn rfl h4) (mn rfl h5) (mx rfl h6) (mx rfl h7)
      rcases List.mem_append.1 hs with hs | hs
      · have := h3 s hs; omega
      · simp at hs; subst hs; omega
  obtain ⟨q, q1, q2, ⟨r1, hr1, q3⟩, ⟨r2, hr2, q4⟩, ⟨r3, hr3, q5⟩, ⟨r4, hr4, q6⟩⟩ := loop l [] N a.X0 a.Y0 a.X1 a.Y1 rfl (by omega) (by simp) ⟨a, ha, rfl⟩ ⟨a, ha, rfl⟩ ⟨a, ha, rfl⟩ ⟨a, ha, rfl⟩
  refine ⟨q, ?_, fun x y hxy => ?_, ?_, ?_, ?_, ?_⟩
  · unfold F_etchhouseref1_BoundsOf
    rw [show idx l 0 = some a by rw [hat]; rfl, Option.bind_some]
    exact q1
  · obtain ⟨r, hr, h1, h2⟩ := hxy
    have := q2 r hr; omega
  · have := hok r1 hr1; exact ⟨r1.Y0, r1, hr1, ⟨by omega, by omega⟩, by omega, by omega⟩
  · have := hok r3 hr3; exact ⟨r3.Y0, r3, hr3, ⟨by omega, by omega⟩, by omega, by omega⟩
  · have := hok r2 hr2; exact ⟨r2.X0, r2, hr2, ⟨by omega, by omega⟩, by omega, by omega⟩
  · have := hok r4 hr4; exact ⟨r4.X0, r4, hr4, ⟨by omega, by omega⟩, by omega, by omega⟩
theorem setB_ne {l : List TRect} (hne : l ≠ []) (hok : ∀ r ∈ l, r.X0 < r.X1 ∧ r.Y0 < r.Y1) : setB l ≠ [] := fun h => by
  cases l with
  | nil => exact hne rfl
  | cons a t =>
    have := hok a (by simp)
    have h2 := ((setB_ok hok).2 a.X0 a.Y0).2 ⟨a, by simp, ⟨by omega, by omega⟩, by omega, by omega⟩
    rw [h] at h2
    exact absurd h2 InS_nil
theorem Bounds_ok {N : Nat} (hN : 10000000000 ≤ N) (l : List TRect) : ∃ v : TRect × Bool × Int, F_shape_Bounds N l = some v ∧ F_etchhouseref1_Bounds N l = some v := by
  unfold F_shape_Bounds F_etchhouseref1_Bounds
  rw [CheckRegion_ok hN, Option.bind_some, CheckRegionR_ok hN, Option.bind_some]
  by_cases h : regionErr l = 0
  · obtain ⟨_, hl, hok, _⟩ := regionErr_ok h
    rw [if_neg (show ¬ (regionErr l != 0) = true by simpa using h)]
    by_cases hne : l = []
    · subst hne
      rw [if_pos (by simp), if_pos (by simp), h]
      exact ⟨_, rfl, rfl⟩
    · have hlen := List.length_pos_iff.2 hne
      rw [if_neg (by simp [h]; exact hne), if_neg (by simp; exact hne), SetOf_ok hN (by omega) (fun r hr => (hok r hr).r9), Option.bind_some]
      obtain ⟨c1, c2⟩ := setB_ok (ROk.ne hok)
      obtain ⟨s1, s2⟩ := setB_len l
      obtain ⟨q, q1, q2⟩ := Around_ok c1 (setB_ne hne (ROk.ne hok)) (by omega) (fun b hb => by have := s2 b hb; omega)
      obtain ⟨q', q1', q2'⟩ := BoundsOf_ok hN hne (by omega) (ROk.ne hok)
      have e : q = q' := q2.uniq q2' c2
      subst e
      rw [q1, q1']
      exact ⟨_, rfl, rfl⟩
  · rw [if_pos (show (regionErr l != 0) = true by simpa using h), if_pos (by simp [h])]
    exact ⟨_, rfl, rfl⟩
theorem pointsMatch_ok {N : Nat} (hN : 10000000000 ≤ N) (l : List TRect) (p : TPoint) : F_etchhouselaw1_PointsMatchSpec N l p = some true := by
  unfold F_etchhouselaw1_PointsMatchSpec
  obtain ⟨v, v1, v2, _⟩ := Has_ok hN l p
  obtain ⟨u, u1, u2⟩ := Bounds_ok hN l
  rw [v1, Option.bind_some, v2, Option.bind_some, u1, Option.bind_some, u2, Option.bind_some, awake1_ok (by omega)]
  have e : eqTRect u.1 u.1 = true := eqTRect_iff.2 rfl
  simp [e]
theorem Points_plain (l : List TRect) (p : TPoint) {X Y : Prop} (_ : X) (_ : Y) : ∃ N, F_etchhouselaw1_PointsMatchSpec N l p = some true := ⟨10000000000, pointsMatch_ok (Nat.le_refl _) l p⟩
end Go.Proofs.Ytcebbfodkadggaa
