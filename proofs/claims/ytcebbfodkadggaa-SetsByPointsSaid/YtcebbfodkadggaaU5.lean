/- Sets: what the sums of areas say, and squares of unions. Plain Lean about the plain functions. -/
import Derived.Test.YtcebbfodkadggaaU4
import Derived.Test.YtcebbfodkadggaaV2
namespace Go.Proofs.Ytcebbfodkadggaa
/-- A sum over numbers from one on. -/
def sumI (g : Int → Int) (lo : Int) : Nat → Int
  | 0 => 0
  | n + 1 => sumI g lo n + g (lo + n)
theorem sumI_congr {g h : Int → Int} {lo : Int} : ∀ {n : Nat}, (∀ x, lo ≤ x → x < lo + n → g x = h x) → sumI g lo n = sumI h lo n
  | 0, _ => rfl
  | n + 1, he => by
    rw [sumI, sumI, sumI_congr (n := n) fun x h1 h2 => he x h1 (by omega), he (lo + n) (by omega) (by omega)]
theorem sumI_add (g h : Int → Int) (lo : Int) : ∀ n : Nat, sumI (fun x => g x + h x) lo n = sumI g lo n + sumI h lo n
  | 0 => rfl
  | n + 1 => by rw [sumI, sumI, sumI, sumI_add g h lo n]; omega
theorem sumI_zero (lo : Int) : ∀ n : Nat, sumI (fun _ => 0) lo n = 0
  | 0 => rfl
  | n + 1 => by rw [sumI, sumI_zero lo n]; rfl
/-- A sum of one number over a stretch. -/
theorem sumI_box {lo a b c : Int} : ∀ {n : Nat}, lo ≤ a → a ≤ b → b ≤ lo + n → sumI (fun x => if a ≤ x ∧ x < b then c else 0) lo n = c * (b - a)
  | 0, h1, h2, h3 => by
    have : b - a = 0 := by omega
    rw [this, Int.mul_zero]; rfl
  | n + 1, h1, h2, h3 => by
    rw [sumI]
    by_cases hb : b ≤ lo + n
    · rw [sumI_box h1 h2 hb, if_neg (by omega), Int.add_zero]
    · by_cases ha : a ≤ lo + n
      · have e : sumI (fun x => if a ≤ x ∧ x < b then c else 0) lo n = sumI (fun x => if a ≤ x ∧ x < lo + n then c else 0) lo n := sumI_congr fun x k1 k2 => by
          by_cases hx : a ≤ x
          · rw [if_pos ⟨hx, by omega⟩, if_pos ⟨hx, k2⟩]
          · rw [if_neg (by omega), if_neg (by omega)]
        rw [e, sumI_box (b := lo + n) h1 ha (Int.le_refl _), if_pos ⟨ha, by omega⟩]
        have : b - a = (lo + n - a) + 1 := by omega
        rw [this, Int.mul_add, Int.mul_one]
      · have e : sumI (fun x => if a ≤ x ∧ x < b then c else 0) lo n = sumI (fun _ => 0) lo n := sumI_congr fun x k1 k2 => by rw [if_neg (by omega)]
        have hab : b - a = 0 := by omega
        rw [e, sumI_zero, if_neg (by omega), hab, Int.mul_zero]; rfl
def ind (p : Prop) [Decidable p] : Int := if p then 1 else 0
theorem ind_congr {p q : Prop} [Decidable p] [Decidable q] (h : p ↔ q) : ind p = ind q := by
  unfold ind
  by_cases hp : p
  · rw [if_pos hp, if_pos (h.1 hp)]
  · rw [if_neg hp, if_neg (fun hq => hp (h.2 hq))]
theorem ind_no {p : Prop} [Decidable p] (h : ¬ p) : ind p = 0 := if_neg h
instance (x : Int) (l : List (Int × Int)) : Decidable (InS x l) := decidable_of_iff (l.any (fun p => decide (p.1 ≤ x) && decide (x < p.2)) = true) (by
  rw [List.any_eq_true]; unfold InS; simp)
instance (x y : Int) (l : List Bd) : Decidable (InB x y l) := inferInstanceAs (Decidable (InS x (rowAt l y)))
/-- How many squares a set has, in the plane from -1000000 to 1000000. -/
def squares (l : List Bd) : Int := sumI (fun y => sumI (fun x => ind (InB x y l)) (-1000000) 2000000) (-1000000) 2000000
def lenS : List (Int × Int) → Int
  | [] => 0
  | p :: l => (p.2 - p.1) + lenS l
theorem row_sum : ∀ {l : List (Int × Int)} {lo : Int}, Can lo l → (∀ p ∈ l, -1000000 ≤ p.1 ∧ p.2 ≤ 1000000) → sumI (fun x => ind (InS x l)) (-1000000) 2000000 = lenS l
  | [], _, _, _ => by
    rw [sumI_congr (h := fun _ => 0) fun x _ _ => by unfold ind; rw [if_neg InS_nil], sumI_zero]; rfl
  | p :: l, lo, h, hl => by
    have hp := hl p (by simp)
    have e : sumI (fun x => ind (InS x (p :: l))) (-1000000) 2000000 = sumI (fun x => (if p.1 ≤ x ∧ x < p.2 then 1 else 0) + ind (InS x l)) (-1000000) 2000000 := sumI_congr fun x _ _ => by
      unfold ind
      by_cases h1 : p.1 ≤ x ∧ x < p.2
      · have h2 : ¬ InS x l := fun hx => by have := h.2.2.lt hx; omega
        rw [if_pos (InS_cons.2 (.inl h1)), if_pos h1, if_neg h2]; rfl
      · by_cases h2 : InS x l
        · rw [if_pos (InS_cons.2 (.inr h2)), if_neg h1, if_pos h2]; rfl
        · rw [if_neg (fun h => by rcases InS_cons.1 h with h | h; exact h1 h; exact h2 h), if_neg h1, if_neg h2]; rfl
    rw [e, sumI_add, row_sum h.2.2 fun q hq => hl q (by simp [hq]), sumI_box hp.1 (by have := h.2.1; omega) (by omega), lenS, Int.one_mul]
theorem arR_append : ∀ l m : List TRect, arR (l ++ m) = arR l + arR m
  | [], m => by simp [arR]
  | r :: l, m => by rw [List.cons_append, arR, arR_append l m, arR, Int.add_assoc]
theorem arR_rectsOf {b : Bd} : arR (rectsOf b) = lenS b.2.2 * (b.2.1 - b.1) := by
  unfold rectsOf
  generalize b.2.2 = l
  induction l with
  | nil => simp [arR, lenS]
  | cons p l ih => rw [List.map_cons, arR, ih, lenS, Int.add_mul]
theorem squares_rects : ∀ {l : List Bd} {lo : Int}, CanB lo l → (∀ b ∈ l, ∃ lo, Can lo b.2.2) → (∀ r ∈ rectsB l, ROk r) → squares l = arR (rectsB l)
  | [], _, _, _, _ => by
    unfold squares
    rw [sumI_congr (h := fun _ => 0) fun y _ _ => by
      rw [sumI_congr (g := fun x => ind (InB x y [])) (h := fun _ => 0) fun x _ _ => ind_no (p := InB x y []) InS_nil, sumI_zero], sumI_zero]; rfl
  | b :: l, lo, h, hr, hok => by
    obtain ⟨lo', hc⟩ := hr b (by simp)
    have ih := squares_rects h.2.2.2.2 (fun c hc => hr c (by simp [hc])) (fun r hr => hok r (by rw [rectsB_cons]; exact List.mem_append_right _ hr))
    have hrow : ∀ p ∈ b.2.2, ROk ⟨p.1, b.1, p.2, b.2.1⟩ := fun p hp => hok _ (mem_rectsB.2 ⟨b, by simp, p, hp, rfl⟩)
    obtain ⟨p, hp⟩ := List.exists_mem_of_ne_nil _ h.2.2.1
    have hpk := hrow p hp
    have e : squares (b :: l) = sumI (fun y => (if b.1 ≤ y ∧ y < b.2.1 then lenS b.2.2 else 0) + sumI (fun x => ind (InB x y l)) (-1000000) 2000000) (-1000000) 2000000 := sumI_congr fun y _ _ => by
      by_cases hy : b.1 ≤ y ∧ y < b.2.1
      · have e1 : rowAt (b :: l) y = b.2.2 := by show (if b.1 ≤ y ∧ y < b.2.1 then b.2.2 else rowAt l y) = _; rw [if_pos hy]
        have e2 : rowAt l y = [] := rowAt_lo h.2.2.2.2 hy.2
        rw [if_pos hy, sumI_congr (g := fun x => ind (InB x y (b :: l))) (h := fun x => ind (InS x b.2.2)) fun x _ _ => ind_congr (by unfold InB; rw [e1]), row_sum hc fun q hq => ⟨(hrow q hq).x0.1, (hrow q hq).x1.2⟩,
          sumI_congr (g := fun x => ind (InB x y l)) (h := fun _ => 0) fun x _ _ => ind_no (by unfold InB; rw [e2]; exact InS_nil), sumI_zero, Int.add_zero]
      · have e1 : rowAt (b :: l) y = rowAt l y := by show (if b.1 ≤ y ∧ y < b.2.1 then b.2.2 else rowAt l y) = _; rw [if_neg hy]
        rw [if_neg hy, Int.zero_add]
        exact sumI_congr fun x _ _ => ind_congr (by unfold InB; rw [e1])
    have hy0 := hpk.y0; have hy1 := hpk.y1; have hyy := hpk.y
    simp only at hy0 hy1 hyy
    rw [e, sumI_add, sumI_box hy0.1 (by omega) (by omega), rectsB_cons, arR_append, arR_rectsOf, ← ih]
    rfl
theorem squares_add {A B C D : List Bd} (h : ∀ x y, (ind (InB x y A) + ind (InB x y B) : Int) = ind (InB x y C) + ind (InB x y D)) : squares A + squares B = squares C + squares D := by
  unfold squares
  rw [← sumI_add, ← sumI_add]
  refine sumI_congr fun y _ _ => ?_
  rw [← sumI_add, ← sumI_add]
  exact sumI_congr fun x _ _ => h x y
/-- A region: its bands, its squares, its area. -/
theorem region_set {l : List TRect} (h : regionErr l = 0) : BOk (setB l) ∧ (∀ x y, InB x y (setB l) ↔ InR x y l) ∧ rectsB (setB l) = l ∧ l.length ≤ 2000 ∧ (∀ r ∈ l, ROk r) ∧ squares (setB l) = arR l := by
  obtain ⟨_, hl, hok, hr⟩ := regionErr_ok h
  obtain ⟨b1, b2⟩ := setB_ok (ROk.ne hok)
  obtain ⟨lo, hc⟩ := b1.can
  refine ⟨b1, b2, hr, hl, hok, ?_⟩
  rw [squares_rects hc b1.row (by rw [hr]; exact hok), hr]
theorem TwoOk.region {k : Bool → Bool → Bool} (hk : k false false = false) {a b u : List TRect} (h : TwoOk k a b (u, 0)) : regionErr a = 0 ∧ regionErr b = 0 ∧ regionErr u = 0 ∧ ∀ x y, InR x y u ↔ KeptR k a b x y := by
  by_cases ha : regionErr a = 0
  · by_cases hb : regionErr b = 0
    · obtain ⟨C, c1, c2, c3⟩ := h.ok ha hb
      unfold toldV at c3
      split at c3
      · injection c3 with _ e; cases e
      · rename_i hn
        injection c3 with e _
        subst e
        obtain ⟨_, _, haok, _⟩ := regionErr_ok ha
        obtain ⟨_, _, hbok, _⟩ := regionErr_ok hb
        refine ⟨ha, hb, region_of c1 (fun x y hx => ?_) (by omega), fun x y => by rw [InR_rectsB c1, c2]⟩
        obtain ⟨p, q, hp, hq, h2⟩ := (c2 x y).1 hx
        cases hpv : p
        · cases hqv : q
          · subst hpv hqv
            rw [hk] at h2; cases h2
          · exact InR_lim hbok (hq.1 hqv)
        · exact InR_lim haok (hp.1 hpv)
    · have := h.e2 ha hb
      injection this with _ e; exact absurd e.symm hb
  · have := h.e1 ha
    injection this with _ e; exact absurd e.symm ha
theorem TwoOk.err {k : Bool → Bool → Bool} {a b : List TRect} {v : List TRect × Int} (h : TwoOk k a b v) (hv : v.2 ≠ 0) : v.1 = [] := by
  by_cases ha : regionErr a = 0
  · by_cases hb : regionErr b = 0
    · obtain ⟨C, c1, c2, c3⟩ := h.ok ha hb
      rw [c3] at hv ⊢
      unfold toldV at *
      split
      · rfl
      · rename_i h2; rw [if_neg h2] at hv; exact absurd rfl hv
    · rw [h.e2 ha hb]
  · rw [h.e1 ha]
/-- What two regions make is one that is told. -/
theorem TwoOk.is {k : Bool → Bool → Bool} {a b u : List TRect} {v : List TRect × Int} (h : TwoOk k a b v) (ha : regionErr a = 0) (hb : regionErr b = 0) (hu : regionErr u = 0) (hx : ∀ x y, InR x y u ↔ KeptR k a b x y) : v = (u, 0) := by
  obtain ⟨C, c1, c2, c3⟩ := h.ok ha hb
  obtain ⟨b1, b2, b3, b4, _⟩ := region_set hu
  have e : C = setB u := c1.uniq b1 fun x y => by rw [c2, b2, hx]
  rw [c3, e]
  unfold toldV
  rw [b3, if_neg (by omega)]
theorem areaL_ok {N : Nat} (hN : 10000000000 ≤ N) {l : List TRect} (h : regionErr l = 0) : F_etchhouselaw1_area N l = some (arR l) := by
  unfold F_etchhouselaw1_area
  rw [Area_ok hN, Option.bind_some]
  unfold areaV
  rw [if_pos h, if_neg (by simp)]
instance (x y : Int) (l : List TRect) : Decidable (InR x y l) := decidable_of_iff (l.any (fun r => (decide (r.X0 ≤ x) && decide (x < r.X1)) && (decide (r.Y0 ≤ y) && decide (y < r.Y1))) = true) (by
  rw [List.any_eq_true]; unfold InR; simp [and_assoc])
theorem KeptR_dec {k : Bool → Bool → Bool} {a b : List TRect} {x y : Int} : KeptR k a b x y ↔ k (decide (InR x y a)) (decide (InR x y b)) = true := KeptR_iff (by simp) (by simp)
theorem arR_small {l : List TRect} (h : regionErr l = 0) : 0 ≤ arR l ∧ arR l ≤ 8000000000000000 := by
  obtain ⟨_, _, _, b4, b5, _⟩ := region_set h
  have := arR_lim b5
  omega
theorem setsAdd_ok {N : Nat} (hN : 10000000000 ≤ N) (a b : List TRect) : F_etchhouselaw1_SetsAddUp N a b = some true := by
  unfold F_etchhouselaw1_SetsAddUp
  obtain ⟨⟨u, f⟩, v1, v2⟩ := Union_ok hN a b
  obtain ⟨⟨i, g⟩, i1, i2⟩ := Both_ok hN a b
  obtain ⟨⟨m, h⟩, m1, m2⟩ := Minus_ok hN a b
  rw [v1, Option.bind_some, i1, Option.bind_some, m1, Option.bind_some, awake1_ok (by omega)]
  by_cases hall : (f = 0 ∧ g = 0) ∧ h = 0
  · obtain ⟨⟨rfl, rfl⟩, rfl⟩ := hall
    rw [if_neg (by simp)]
    obtain ⟨ha, hb, hu, xu⟩ := v2.region rfl
    obtain ⟨_, _, hi, xi⟩ := i2.region rfl
    obtain ⟨_, _, hm, xm⟩ := m2.region rfl
    obtain ⟨v, w1, w2⟩ := Union_ok hN m i
    obtain ⟨t, t1, t2⟩ := Both_ok hN m b
    have e1 : v = (a, 0) := w2.is hm hi ha fun x y => by
      rw [KeptR_dec]
      have k1 := (xm x y).trans KeptR_dec
      have k2 := (xi x y).trans KeptR_dec
      by_cases pa : InR x y a <;> by_cases pb : InR x y b <;> simp [pa, pb] at k1 k2 ⊢ <;> simp [k1, k2]
    have hnil : regionErr ([] : List TRect) = 0 := by
      have := region_of (l := []) ⟨⟨0, trivial⟩, by simp⟩ (fun x y hx => absurd hx InS_nil) (by simp [rectsB])
      exact this
    have e2 : t = ([], 0) := t2.is hm hb hnil fun x y => by
      rw [KeptR_dec]
      have k1 := (xm x y).trans KeptR_dec
      have k0 : ¬ InR x y [] := by unfold InR; simp
      by_cases pa : InR x y a <;> by_cases pb : InR x y b <;> simp [pa, pb] at k1 ⊢ <;> simp [k1, k0]
    obtain ⟨q, q1, q2⟩ := EqualR_ok a a
    obtain rfl : q = true := q2.2 rfl
    have sq1 : arR u + arR i = arR a + arR b := by
      obtain ⟨_, bu, _, _, _, su⟩ := region_set hu
      obtain ⟨_, bi, _, _, _, si⟩ := region_set hi
      obtain ⟨_, ba, _, _, _, sa⟩ := region_set ha
      obtain ⟨_, bb, _, _, _, sb⟩ := region_set hb
      rw [← su, ← si, ← sa, ← sb]
      refine squares_add fun x y => ?_
      have k1 := ((bu x y).trans (xu x y)).trans KeptR_dec
      have k2 := ((bi x y).trans (xi x y)).trans KeptR_dec
      unfold ind
      simp only [k1, k2, ba, bb]
      by_cases pa : InR x y a <;> by_cases pb : InR x y b <;> simp [pa, pb]
    have sq2 : arR m + arR i = arR a + 0 := by
      obtain ⟨_, bm, _, _, _, sm⟩ := region_set hm
      obtain ⟨_, bi, _, _, _, si⟩ := region_set hi
      obtain ⟨_, ba, _, _, _, sa⟩ := region_set ha
      obtain ⟨_, bn, _, _, _, sn⟩ := region_set hnil
      have sn : squares (setB []) = 0 := sn
      rw [← sm, ← si, ← sa, ← sn]
      refine squares_add fun x y => ?_
      have k1 := ((bm x y).trans (xm x y)).trans KeptR_dec
      have k2 := ((bi x y).trans (xi x y)).trans KeptR_dec
      have k0 : ¬ InR x y [] := by unfold InR; simp
      unfold ind
      simp only [k1, k2, ba, bn]
      by_cases pa : InR x y a <;> by_cases pb : InR x y b <;> simp [pa, pb, k0]
    have a1 := arR_small hu; have a2 := arR_small hi; have a3 := arR_small ha; have a4 := arR_small hb; have a5 := arR_small hm
    rw [w1, Option.bind_some, t1, Option.bind_some, e1, e2, q1, areaL_ok hN hu, areaL_ok hN hi, areaL_ok hN ha, areaL_ok hN hb, areaL_ok hN hm]
    simp only [Option.bind_some]
    rw [w64_id (x := arR u + arR i) (by omega) (by omega), w64_id (x := arR a + arR b) (by omega) (by omega), w64_id (x := arR m + arR i) (by omega) (by omega), sq1, sq2]
    simp
  · rw [if_pos (by
      simp
      by_cases h1 : f = 0
      · by_cases h2 : g = 0
        · exact .inr fun h3 => hall ⟨⟨h1, h2⟩, h3⟩
        · exact .inl (.inr h2)
      · exact .inl (.inl h1))]
    have : (f == 0 || (u.length : Int) == 0) = true := by
      by_cases h1 : f = 0
      · simp [h1]
      · have := v2.err h1
        have e : u = [] := this
        simp [e]
    rw [if_pos this]; rfl
theorem SetsAdd_plain (a b : List TRect) {X Y : Prop} (_ : X) (_ : Y) : ∃ N, F_etchhouselaw1_SetsAddUp N a b = some true := ⟨10000000000, setsAdd_ok (Nat.le_refl _) a b⟩
/-- Whether a square is in a region. -/
theorem hasL_ok {N : Nat} (hN : 10000000000 ≤ N) {l : List TRect} (h : regionErr l = 0) (p : TPoint) : F_etchhouselaw1_has N l p = some (pErr p && decide (InR p.X p.Y l)) := by
  unfold F_etchhouselaw1_has
  obtain ⟨v, v1, _, v3, v4⟩ := Has_ok hN l p
  rw [v1, Option.bind_some]
  by_cases hp : pErr p = true
  · obtain ⟨h1, h2⟩ := v3 h hp
    rw [hp, h1]
    congr 1
    rw [Bool.eq_iff_iff]
    simp [h2]
  · have h1 : v.2 ≠ 0 := fun h1 => hp (v4 h1).2
    rw [Bool.not_eq_true] at hp
    rw [hp]
    simp [h1]
theorem setsPoints_ok {N : Nat} (hN : 10000000000 ≤ N) (a b : List TRect) (p : TPoint) : F_etchhouselaw1_SetsByPoints N a b p = some true := by
  unfold F_etchhouselaw1_SetsByPoints
  obtain ⟨⟨u, f⟩, v1, v2⟩ := Union_ok hN a b
  obtain ⟨⟨i, g⟩, i1, i2⟩ := Both_ok hN a b
  obtain ⟨⟨m, h⟩, m1, m2⟩ := Minus_ok hN a b
  rw [v1, Option.bind_some, i1, Option.bind_some, m1, Option.bind_some, awake1_ok (by omega)]
  by_cases hall : (f = 0 ∧ g = 0) ∧ h = 0
  · obtain ⟨⟨rfl, rfl⟩, rfl⟩ := hall
    rw [if_neg (by simp)]
    obtain ⟨ha, hb, hu, xu⟩ := v2.region rfl
    obtain ⟨_, _, hi, xi⟩ := i2.region rfl
    obtain ⟨_, _, hm, xm⟩ := m2.region rfl
    rw [hasL_ok hN ha, hasL_ok hN hb, hasL_ok hN hu, hasL_ok hN hi, hasL_ok hN hm]
    have k0 := (xu p.X p.Y).trans KeptR_dec
    have k1 := (xi p.X p.Y).trans KeptR_dec
    have k2 := (xm p.X p.Y).trans KeptR_dec
    simp only [Option.bind_some, k0, k1, k2]
    cases pErr p <;> by_cases pa : InR p.X p.Y a <;> by_cases pb : InR p.X p.Y b <;> simp [pa, pb]
  · rw [if_pos (by
      simp
      by_cases h1 : f = 0
      · by_cases h2 : g = 0
        · exact .inr fun h3 => hall ⟨⟨h1, h2⟩, h3⟩
        · exact .inl (.inr h2)
      · exact .inl (.inl h1))]
    have : (f == 0 || (u.length : Int) == 0) = true := by
      by_cases h1 : f = 0
      · simp [h1]
      · have := v2.err h1
        have e : u = [] := this
        simp [e]
    rw [if_pos this]; rfl
theorem SetsPoints_plain (a b : List TRect) (p : TPoint) {X Y Z : Prop} (_ : X) (_ : Y) (_ : Z) : ∃ N, F_etchhouselaw1_SetsByPoints N a b p = some true := ⟨10000000000, setsPoints_ok (Nat.le_refl _) a b p⟩
end Go.Proofs.Ytcebbfodkadggaa
