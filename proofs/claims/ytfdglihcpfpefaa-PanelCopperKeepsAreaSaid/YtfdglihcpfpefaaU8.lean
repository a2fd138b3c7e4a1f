/- Areas: the program's, and squares. Plain Lean about the plain functions. -/
import Derived.Test.YtfdglihcpfpefaaU1
import Derived.Test.YtfdglihcpfpefaaS5p
namespace Go.Proofs.Ytfdglihcpfpefaa
/-- How many squares rectangles have, each for itself. -/
def arR : List TRect → Int
  | [] => 0
  | r :: l => (r.X1 - r.X0) * (r.Y1 - r.Y0) + arR l
theorem arR_lim : ∀ {l : List TRect}, (∀ r ∈ l, ROk r) → 0 ≤ arR l ∧ arR l ≤ 4000000000000 * l.length
  | [], _ => ⟨Int.le_refl _, by simp [arR]⟩
  | r :: l, h => by
    obtain ⟨i1, i2⟩ := arR_lim (l := l) fun x hx => h x (by simp [hx])
    have hr := h r (by simp)
    have := hr.x0; have := hr.x1; have := hr.y0; have := hr.y1; have := hr.x; have := hr.y
    have h1 : 0 ≤ (r.X1 - r.X0) * (r.Y1 - r.Y0) := Int.mul_nonneg (by omega) (by omega)
    have h2 : (r.X1 - r.X0) * (r.Y1 - r.Y0) ≤ 2000000 * 2000000 := Int.mul_le_mul (by omega) (by omega) (by omega) (by omega)
    rw [arR, List.length_cons]
    omega
theorem area_step {r : TRect} (h : ROk r) {n : Int} (h1 : 0 ≤ n) (h2 : n ≤ 8000000000000000) : w64 (n + w64 (w64 (r.X1 - r.X0) * w64 (r.Y1 - r.Y0))) = n + (r.X1 - r.X0) * (r.Y1 - r.Y0) := by
  have := h.x0; have := h.x1; have := h.y0; have := h.y1; have := h.x; have := h.y
  have k1 : 0 ≤ (r.X1 - r.X0) * (r.Y1 - r.Y0) := Int.mul_nonneg (by omega) (by omega)
  have k2 : (r.X1 - r.X0) * (r.Y1 - r.Y0) ≤ 2000000 * 2000000 := Int.mul_le_mul (by omega) (by omega) (by omega) (by omega)
  rw [w64_id (x := r.X1 - r.X0) (by omega) (by omega), w64_id (x := r.Y1 - r.Y0) (by omega) (by omega), w64_id (x := (r.X1 - r.X0) * (r.Y1 - r.Y0)) (by omega) (by omega), w64_id (by omega) (by omega)]
theorem AreaOf_ok {l : List TRect} (hl : l.length ≤ 2000) (h : ∀ r ∈ l, ROk r) : F_shape_AreaOf l = some (arR l) := by
  have key : ∀ (suf : List TRect) (i : Nat) (n : Int), (∀ r ∈ suf, ROk r) → 0 ≤ n → n + 4000000000000 * suf.length ≤ 8000000000000000 → F_shape_AreaOf_L1 suf i n = some (n + arR suf) := by
    intro suf
    induction suf with
    | nil => intro i n _ _ _; rw [F_shape_AreaOf_L1.eq_1, arR, Int.add_zero]
    | cons r suf ih =>
      intro i n hs h1 h2
      have hr := hs r (by simp)
      have hlim := arR_lim (l := [r]) (by simpa using hr)
      simp only [arR, List.length_singleton] at hlim
      rw [List.length_cons] at h2
      rw [F_shape_AreaOf_L1.eq_2, area_step hr h1 (by omega), ih _ _ (fun x hx => hs x (by simp [hx])) (by omega) (by omega), arR, Int.add_assoc]
  unfold F_shape_AreaOf
  rw [key l 0 0 h (by omega) (by omega), Int.zero_add]
def areaV (l : List TRect) : Int × Int := if regionErr l = 0 then (arR l, 0) else (0, regionErr l)
theorem Area_ok {N : Nat} (hN : 10000000000 ≤ N) (l : List TRect) : F_shape_Area N l = some (areaV l) := by
  unfold F_shape_Area areaV
  rw [CheckRegion_ok hN, Option.bind_some]
  by_cases h : regionErr l = 0
  · obtain ⟨_, hl, hok, _⟩ := regionErr_ok h
    rw [if_neg (by simpa using h), if_pos h, AreaOf_ok hl hok]; rfl
  · rw [if_pos (by simpa using h), if_neg h]
/-- A sum over numbers from one on. -/
def sumI (g : Int → Int) (lo : Int) : Nat → Int
  | 0 => 0
  | n + 1 => sumI g lo n + g (lo + n)
theorem sumI_congr {g h : Int → Int} {lo : Int} : ∀ {n : Nat}, (∀ x, lo ≤ x → x < lo + n → g x = h x) → sumI g lo n = sumI h lo n
  | 0, _ => rfl
  | n + 1, he => by
    rw [sumI, sumI, sumI_congr (n := n) fun x h1 h2 => he x h1 (by omega), he (lo + n) (by omega) (by omega)]
theorem sumI_add (g h : Int → Int) (lo : Int) : ∀ n : Nat, sumI (fun x => g x + h x) lo n = sumI g lo n + sumI h lo n
  | 0 => rfl
  | n + 1 => by rw [sumI, sumI, sumI, sumI_add g h lo n]; omega
theorem sumI_zero (lo : Int) : ∀ n : Nat, sumI (fun _ => 0) lo n = 0
  | 0 => rfl
  | n + 1 => by rw [sumI, sumI_zero lo n]; rfl
/-- A sum of one number over a stretch. -/
theorem sumI_box {lo a b c : Int} : ∀ {n : Nat}, lo ≤ a → a ≤ b → b ≤ lo + n → sumI (fun x => if a ≤ x ∧ x < b then c else 0) lo n = c * (b - a)
  | 0, h1, h2, h3 => by
    have : b - a = 0 := by omega
    rw [this, Int.mul_zero]; rfl
  | n + 1, h1, h2, h3 => by
    rw [sumI]
    by_cases hb : b ≤ lo + n
    · rw [sumI_box h1 h2 hb, if_neg (by omega), Int.add_zero]
    · by_cases ha : a ≤ lo + n
      · have e : sumI (fun x => if a ≤ x ∧ x < b then c else 0) lo n = sumI (fun x => if a ≤ x ∧ x < lo + n then c else 0) lo n := sumI_congr fun x k1 k2 => by
          by_cases hx : a ≤ x
          · rw [if_pos ⟨hx, by omega⟩, if_pos ⟨hx, k2⟩]
          · rw [if_neg (by omega), if_neg (by omega)]
        rw [e, sumI_box (b := lo + n) h1 ha (Int.le_refl _), if_pos ⟨ha, by omega⟩]
        have : b - a = (lo + n - a) + 1 := by omega
        rw [this, Int.mul_add, Int.mul_one]
      · have e : sumI (fun x => if a ≤ x ∧ x < b then c else 0) lo n = sumI (fun _ => 0) lo n := sumI_congr fun x k1 k2 => by rw [if_neg (by omega)]
        have hab : b - a = 0 := by omega
        rw [e, sumI_zero, if_neg (by omega), hab, Int.mul_zero]; rfl
def ind (p : Prop) [Decidable p] : Int := if p then 1 else 0
theorem ind_congr {p q : Prop} [Decidable p] [Decidable q] (h : p ↔ q) : ind p = ind q := by
  unfold ind
  by_cases hp : p
  · rw [if_pos hp, if_pos (h.1 hp)]
  · rw [if_neg hp, if_neg (fun hq => hp (h.2 hq))]
theorem ind_no {p : Prop} [Decidable p] (h : ¬ p) : ind p = 0 := if_neg h
instance (x : Int) (l : List (Int × Int)) : Decidable (InS x l) := decidable_of_iff (l.any (fun p => decide (p.1 ≤ x) && decide (x < p.2)) = true) (by
  rw [List.any_eq_true]; unfold InS; simp)
instance (x y : Int) (l : List Bd) : Decidable (InB x y l) := inferInstanceAs (Decidable (InS x (rowAt l y)))
/-- How many squares a set has, in the plane from -1000000 to 1000000. -/
def squares (l : List Bd) : Int := sumI (fun y => sumI (fun x => ind (InB x y l)) (-1000000) 2000000) (-1000000) 2000000
def lenS : List (Int × Int) → Int
  | [] => 0
  | p :: l => (p.2 - p.1) + lenS l
theorem row_sum : ∀ {l : List (Int × Int)} {lo : Int}, Can lo l → (∀ p ∈ l, -1000000 ≤ p.1 ∧ p.2 ≤ 1000000) → sumI (fun x => ind (InS x l)) (-1000000) 2000000 = lenS l
  | [], _, _, _ => by
    rw [sumI_congr (h := fun _ => 0) fun x _ _ => by unfold ind; rw [if_neg InS_nil], sumI_zero]; rfl
  | p :: l, lo, h, hl => by
    have hp := hl p (by simp)
    have e : sumI (fun x => ind (InS x (p :: l))) (-1000000) 2000000 = sumI (fun x => (if p.1 ≤ x ∧ x < p.2 then 1 else 0) + ind (InS x l)) (-1000000) 2000000 := sumI_congr fun x _ _ => by
      unfold ind
      by_cases h1 : p.1 ≤ x ∧ x < p.2
      · have h2 : ¬ InS x l := fun hx => by have := h.2.2.lt hx; omega
        rw [if_pos (InS_cons.2 (.inl h1)), if_pos h1, if_neg h2]; rfl
      · by_cases h2 : InS x l
        · rw [if_pos (InS_cons.2 (.inr h2)), if_neg h1, if_pos h2]; rfl
        · rw [if_neg (fun h => by rcases InS_cons.1 h with h | h; exact h1 h; exact h2 h), if_neg h1, if_neg h2]; rfl
    rw [e, sumI_add, row_sum h.2.2 fun q hq => hl q (by simp [hq]), sumI_box hp.1 (by have := h.2.1; omega) (by omega), lenS, Int.one_mul]
theorem arR_append : ∀ l m : List TRect, arR (l ++ m) = arR l + arR m
  | [], m => by simp [arR]
  | r :: l, m => by rw [List.cons_append, arR, arR_append l m, arR, Int.add_assoc]
theorem arR_rectsOf {b : Bd} : arR (rectsOf b) = lenS b.2.2 * (b.2.1 - b.1) := by
  unfold rectsOf
  generalize b.2.2 = l
  induction l with
  | nil => simp [arR, lenS]
  | cons p l ih => rw [List.map_cons, arR, ih, lenS, Int.add_mul]
theorem squares_rects : ∀ {l : List Bd} {lo : Int}, CanB lo l → (∀ b ∈ l, ∃ lo, Can lo b.2.2) → (∀ r ∈ rectsB l, ROk r) → squares l = arR (rectsB l)
  | [], _, _, _, _ => by
    unfold squares
    rw [sumI_congr (h := fun _ => 0) fun y _ _ => by
      rw [sumI_congr (g := fun x => ind (InB x y [])) (h := fun _ => 0) fun x _ _ => ind_no (p := InB x y []) InS_nil, sumI_zero], sumI_zero]; rfl
  | b :: l, lo, h, hr, hok => by
    obtain ⟨lo', hc⟩ := hr b (by simp)
    have ih := squares_rects h.2.2.2.2 (fun c hc => hr c (by simp [hc])) (fun r hr => hok r (by rw [rectsB_cons]; exact List.mem_append_right _ hr))
    have hrow : ∀ p ∈ b.2.2, ROk ⟨p.1, b.1, p.2, b.2.1⟩ := fun p hp => hok _ (mem_rectsB.2 ⟨b, by simp, p, hp, rfl⟩)
    obtain ⟨p, hp⟩ := List.exists_mem_of_ne_nil _ h.2.2.1
    have hpk := hrow p hp
    have e : squares (b :: l) = sumI (fun y => (if b.1 ≤ y ∧ y < b.2.1 then lenS b.2.2 else 0) + sumI (fun x => ind (InB x y l)) (-1000000) 2000000) (-1000000) 2000000 := sumI_congr fun y _ _ => by
      by_cases hy : b.1 ≤ y ∧ y < b.2.1
      · have e1 : rowAt (b :: l) y = b.2.2 := by show (if b.1 ≤ y ∧ y < b.2.1 then b.2.2 else rowAt l y) = _; rw [if_pos hy]
        have e2 : rowAt l y = [] := rowAt_lo h.2.2.2.2 hy.2
        rw [if_pos hy, sumI_congr (g := fun x => ind (InB x y (b :: l))) (h := fun x => ind (InS x b.2.2)) fun x _ _ => ind_congr (by unfold InB; rw [e1]), row_sum hc fun q hq => ⟨(hrow q hq).x0.1, (hrow q hq).x1.2⟩,
          sumI_congr (g := fun x => ind (InB x y l)) (h := fun _ => 0) fun x _ _ => ind_no (by unfold InB; rw [e2]; exact InS_nil), sumI_zero, Int.add_zero]
      · have e1 : rowAt (b :: l) y = rowAt l y := by show (if b.1 ≤ y ∧ y < b.2.1 then b.2.2 else rowAt l y) = _; rw [if_neg hy]
        rw [if_neg hy, Int.zero_add]
        exact sumI_congr fun x _ _ => ind_congr (by unfold InB; rw [e1])
    have hy0 := hpk.y0; have hy1 := hpk.y1; have hyy := hpk.y
    simp only at hy0 hy1 hyy
    rw [e, sumI_add, sumI_box hy0.1 (by omega) (by omega), rectsB_cons, arR_append, arR_rectsOf, ← ih]
    rfl
theorem squares_add {A B C D : List Bd} (h : ∀ x y, (ind (InB x y A) + ind (InB x y B) : Int) = ind (InB x y C) + ind (InB x y D)) : squares A + squares B = squares C + squares D := by
  unfold squares
  rw [← sumI_add, ← sumI_add]
  refine sumI_congr fun y _ _ => ?_
  rw [← sumI_add, ← sumI_add]
  exact sumI_congr fun x _ _ => h x y
instance (x y : Int) (l : List TRect) : Decidable (InR x y l) := decidable_of_iff (l.any (fun r => (decide (r.X0 ≤ x) && decide (x < r.X1)) && (decide (r.Y0 ≤ y) && decide (y < r.Y1))) = true) (by
  rw [List.any_eq_true]; unfold InR; simp [and_assoc])
end Go.Proofs.Ytfdglihcpfpefaa
