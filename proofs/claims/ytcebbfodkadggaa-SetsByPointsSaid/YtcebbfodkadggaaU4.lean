/- Sets: union, both, minus and area, program and reference. Plain Lean about the plain functions. -/
import Derived.Test.YtcebbfodkadggaaU3
import Derived.Test.YtcebbfodkadggaaS9
namespace Go.Proofs.Ytcebbfodkadggaa
/-- What comes of two regions, combined. -/
structure TwoOk (k : Bool → Bool → Bool) (a b : List TRect) (v : List TRect × Int) : Prop where
  e1 : regionErr a ≠ 0 → v = ([], regionErr a)
  e2 : regionErr a = 0 → regionErr b ≠ 0 → v = ([], regionErr b)
  ok : regionErr a = 0 → regionErr b = 0 → ∃ C, BOk C ∧ (∀ x y, InB x y C ↔ KeptR k a b x y) ∧ v = toldV C
theorem TwoOk.uniq {k : Bool → Bool → Bool} {a b : List TRect} {v u : List TRect × Int} (h1 : TwoOk k a b v) (h2 : TwoOk k a b u) : v = u := by
  by_cases ha : regionErr a = 0
  · by_cases hb : regionErr b = 0
    · obtain ⟨C, c1, c2, c3⟩ := h1.ok ha hb
      obtain ⟨D, d1, d2, d3⟩ := h2.ok ha hb
      rw [c3, d3, c1.uniq d1 fun x y => by rw [c2, d2]]
    · rw [h1.e2 ha hb, h2.e2 ha hb]
  · rw [h1.e1 ha, h2.e1 ha]
theorem KeptR_iff {k : Bool → Bool → Bool} {a b : List TRect} {x y : Int} {p q : Bool} (hp : p = true ↔ InR x y a) (hq : q = true ↔ InR x y b) : KeptR k a b x y ↔ k p q = true := by
  constructor
  · rintro ⟨p', q', h1, h2, h⟩
    have e1 : p' = p := by rw [Bool.eq_iff_iff, h1, hp]
    have e2 : q' = q := by rw [Bool.eq_iff_iff, h2, hq]
    rw [← e1, ← e2]; exact h
  · exact fun h => ⟨p, q, hp, hq, h⟩
theorem two_core {N : Nat} (hN : 10000000000 ≤ N) {k : Bool → Bool → Bool} {f : Bool → Bool → Option Bool} (hf : ∀ a b, f a b = some (k a b)) (hk : k false false = false) {a b : List TRect} (ha : regionErr a = 0) (hb : regionErr b = 0) :
    ∃ C, F_shape_SetOf N a = some ((setB a).map toP) ∧ F_shape_SetOf N b = some ((setB b).map toP) ∧ F_shape_Merge N ((setB a).map toP) ((setB b).map toP) f = some (C.map toP) ∧ F_shape_Set__Told N (C.map toP) = some (toldV C) ∧ BOk C ∧ ∀ x y, InB x y C ↔ KeptR k a b x y := by
  obtain ⟨_, hal, haok, _⟩ := regionErr_ok ha
  obtain ⟨_, hbl, hbok, _⟩ := regionErr_ok hb
  obtain ⟨sa, sa2⟩ := setB_len a
  obtain ⟨sb, sb2⟩ := setB_len b
  obtain ⟨ba, ia⟩ := setB_ok (ROk.ne haok)
  obtain ⟨bb, ib⟩ := setB_ok (ROk.ne hbok)
  obtain ⟨C, c1, c2, c3, c4, c5⟩ := Merge_ok hf hk hN (R1 := 2000) (R2 := 2000) ba bb (fun c hc => by have := sa2 c hc; omega) (fun c hc => by have := sb2 c hc; omega) (by omega) (by omega)
  have ht := rectsB_len (R := 4000) (l := C) fun c hc => by have := c5 c hc; omega
  refine ⟨C, SetOf_ok hN (by omega) (fun r hr => (haok r hr).r9), SetOf_ok hN (by omega) (fun r hr => (hbok r hr).r9), c1, Told_ok hN (by omega) (by omega), c2, fun x y => ?_⟩
  rw [c3]
  unfold Kept KeptR
  rw [ia, ib]
section
variable {N : Nat} (hN : 10000000000 ≤ N)
include hN
theorem Union_ok (a b : List TRect) : ∃ v, F_shape_Union N a b = some v ∧ TwoOk (fun p q => p || q) a b v := by
  unfold F_shape_Union F_shape_two__Or
  rw [CheckRegion_ok hN, Option.bind_some]
  by_cases ha : regionErr a = 0
  · rw [if_neg (by simpa using ha), CheckRegion_ok hN, Option.bind_some]
    by_cases hb : regionErr b = 0
    · obtain ⟨C, c1, c2, c3, c4, c5, c6⟩ := two_core hN (k := fun p q => p || q) (f := fun z0 z1 => F_shape_Set__Or_1 z0 z1) (fun _ _ => rfl) rfl ha hb
      unfold F_shape_Set__Or
      rw [if_neg (by simpa using hb), c1, Option.bind_some, c2, Option.bind_some, c3, Option.bind_some, Option.bind_some, c4]
      exact ⟨toldV C, rfl, fun h => absurd ha h, fun _ h => absurd hb h, fun _ _ => ⟨C, c5, c6, rfl⟩⟩
    · rw [if_pos (by simpa using hb)]
      exact ⟨_, rfl, fun h => absurd ha h, fun _ _ => rfl, fun _ h => absurd h hb⟩
  · rw [if_pos (by simpa using ha)]
    exact ⟨_, rfl, fun _ => rfl, fun h => absurd h ha, fun h => absurd h ha⟩
theorem Both_ok (a b : List TRect) : ∃ v, F_shape_Both N a b = some v ∧ TwoOk (fun p q => p && q) a b v := by
  unfold F_shape_Both F_shape_two__And
  rw [CheckRegion_ok hN, Option.bind_some]
  by_cases ha : regionErr a = 0
  · rw [if_neg (by simpa using ha), CheckRegion_ok hN, Option.bind_some]
    by_cases hb : regionErr b = 0
    · obtain ⟨C, c1, c2, c3, c4, c5, c6⟩ := two_core hN (k := fun p q => p && q) (f := fun z0 z1 => F_shape_Set__And_1 z0 z1) (fun _ _ => rfl) rfl ha hb
      unfold F_shape_Set__And
      rw [if_neg (by simpa using hb), c1, Option.bind_some, c2, Option.bind_some, c3, Option.bind_some, Option.bind_some, c4]
      exact ⟨toldV C, rfl, fun h => absurd ha h, fun _ h => absurd hb h, fun _ _ => ⟨C, c5, c6, rfl⟩⟩
    · rw [if_pos (by simpa using hb)]
      exact ⟨_, rfl, fun h => absurd ha h, fun _ _ => rfl, fun _ h => absurd h hb⟩
  · rw [if_pos (by simpa using ha)]
    exact ⟨_, rfl, fun _ => rfl, fun h => absurd h ha, fun h => absurd h ha⟩
theorem Minus_ok (a b : List TRect) : ∃ v, F_shape_Minus N a b = some v ∧ TwoOk (fun p q => p && !q) a b v := by
  unfold F_shape_Minus F_shape_two__Less
  rw [CheckRegion_ok hN, Option.bind_some]
  by_cases ha : regionErr a = 0
  · rw [if_neg (by simpa using ha), CheckRegion_ok hN, Option.bind_some]
    by_cases hb : regionErr b = 0
    · obtain ⟨C, c1, c2, c3, c4, c5, c6⟩ := two_core hN (k := fun p q => p && !q) (f := fun z0 z1 => F_shape_Set__Less_1 z0 z1) (fun _ _ => rfl) rfl ha hb
      unfold F_shape_Set__Less
      rw [if_neg (by simpa using hb), c1, Option.bind_some, c2, Option.bind_some, c3, Option.bind_some, Option.bind_some, c4]
      exact ⟨toldV C, rfl, fun h => absurd ha h, fun _ h => absurd hb h, fun _ _ => ⟨C, c5, c6, rfl⟩⟩
    · rw [if_pos (by simpa using hb)]
      exact ⟨_, rfl, fun h => absurd ha h, fun _ _ => rfl, fun _ h => absurd h hb⟩
  · rw [if_pos (by simpa using ha)]
    exact ⟨_, rfl, fun _ => rfl, fun h => absurd h ha, fun h => absurd h ha⟩
theorem twoR_ok (a b : List TRect) (w : Int) : ∃ v, F_etchhouseref1_two N a b w = some v ∧ TwoOk (wayK w) a b v := by
  unfold F_etchhouseref1_two
  rw [CheckRegionR_ok hN, Option.bind_some]
  by_cases ha : regionErr a = 0
  · rw [if_neg (by simpa using ha), CheckRegionR_ok hN, Option.bind_some]
    by_cases hb : regionErr b = 0
    · obtain ⟨_, hal, haok, _⟩ := regionErr_ok ha
      obtain ⟨_, hbl, hbok, _⟩ := regionErr_ok hb
      obtain ⟨C, c1, c2, c3, c4, c5⟩ := combined_ok (w := w) hN (ROk.ne haok) (ROk.ne hbok) (by omega)
      have ht := rectsB_len (R := 8000) (l := C) fun c hc => by have := c4 c hc; omega
      rw [if_neg (by simpa using hb), c5 (by omega), Option.bind_some]
      refine ⟨toldV C, ?_, fun h => absurd ha h, fun _ h => absurd hb h, fun _ _ => ⟨C, c1, c2, rfl⟩⟩
      unfold F_etchhouseref1_limited toldV
      by_cases h2 : 2000 < (rectsB C).length
      · rw [if_pos (by simp; omega), if_pos h2]; rfl
      · rw [if_neg (by simp; omega), if_neg h2]; rfl
    · rw [if_pos (by simpa using hb)]
      exact ⟨_, rfl, fun h => absurd ha h, fun _ _ => rfl, fun _ h => absurd h hb⟩
  · rw [if_pos (by simpa using ha)]
    exact ⟨_, rfl, fun _ => rfl, fun h => absurd h ha, fun h => absurd h ha⟩
omit hN in
theorem wayK1 : wayK 1 = fun p q => p || q := by funext p q; cases p <;> cases q <;> rfl
omit hN in
theorem wayK2 : wayK 2 = fun p q => p && q := by funext p q; cases p <;> cases q <;> rfl
omit hN in
theorem wayK3 : wayK 3 = fun p q => p && !q := by funext p q; cases p <;> cases q <;> rfl
theorem UnionR_ok (a b : List TRect) : ∃ v, F_etchhouseref1_Union N a b = some v ∧ TwoOk (fun p q => p || q) a b v := by
  obtain ⟨v, v1, v2⟩ := twoR_ok hN a b 1
  unfold F_etchhouseref1_Union
  rw [v1]
  exact ⟨v, rfl, by rw [← wayK1]; exact v2⟩
theorem BothR_ok (a b : List TRect) : ∃ v, F_etchhouseref1_Both N a b = some v ∧ TwoOk (fun p q => p && q) a b v := by
  obtain ⟨v, v1, v2⟩ := twoR_ok hN a b 2
  unfold F_etchhouseref1_Both
  rw [v1]
  exact ⟨v, rfl, by rw [← wayK2]; exact v2⟩
theorem MinusR_ok (a b : List TRect) : ∃ v, F_etchhouseref1_Minus N a b = some v ∧ TwoOk (fun p q => p && !q) a b v := by
  obtain ⟨v, v1, v2⟩ := twoR_ok hN a b 3
  unfold F_etchhouseref1_Minus
  rw [v1]
  exact ⟨v, rfl, by rw [← wayK3]; exact v2⟩
end
/-- How many squares rectangles have, each for itself. -/
def arR : List TRect → Int
  | [] => 0
  | r :: l => (r.X1 - r.X0) * (r.Y1 - r.Y0) + arR l
theorem arR_lim : ∀ {l : List TRect}, (∀ r ∈ l, ROk r) → 0 ≤ arR l ∧ arR l ≤ 4000000000000 * l.length
  | [], _ => ⟨Int.le_refl _, by simp [arR]⟩
  | r :: l, h => by
    obtain ⟨i1, i2⟩ := arR_lim (l := l) fun x hx => h x (by simp [hx])
    have hr := h r (by simp)
    have := hr.x0; have := hr.x1; have := hr.y0; have := hr.y1; have := hr.x; have := hr.y
    have h1 : 0 ≤ (r.X1 - r.X0) * (r.Y1 - r.Y0) := Int.mul_nonneg (by omega) (by omega)
    have h2 : (r.X1 - r.X0) * (r.Y1 - r.Y0) ≤ 2000000 * 2000000 := Int.mul_le_mul (by omega) (by omega) (by omega) (by omega)
    rw [arR, List.length_cons]
    omega
theorem area_step {r : TRect} (h : ROk r) {n : Int} (h1 : 0 ≤ n) (h2 : n ≤ 8000000000000000) : w64 (n + w64 (w64 (r.X1 - r.X0) * w64 (r.Y1 - r.Y0))) = n + (r.X1 - r.X0) * (r.Y1 - r.Y0) := by
  have := h.x0; have := h.x1; have := h.y0; have := h.y1; have := h.x; have := h.y
  have k1 : 0 ≤ (r.X1 - r.X0) * (r.Y1 - r.Y0) := Int.mul_nonneg (by omega) (by omega)
  have k2 : (r.X1 - r.X0) * (r.Y1 - r.Y0) ≤ 2000000 * 2000000 := Int.mul_le_mul (by omega) (by omega) (by omega) (by omega)
  rw [w64_id (x := r.X1 - r.X0) (by omega) (by omega), w64_id (x := r.Y1 - r.Y0) (by omega) (by omega), w64_id (x := (r.X1 - r.X0) * (r.Y1 - r.Y0)) (by omega) (by omega), w64_id (by omega) (by omega)]
theorem AreaOf_ok {l : List TRect} (hl : l.length ≤ 2000) (h : ∀ r ∈ l, ROk r) : F_shape_AreaOf l = some (arR l) := by
  have key : ∀ (suf : List TRect) (i : Nat) (n : Int), (∀ r ∈ suf, ROk r) → 0 ≤ n → n + 4000000000000 * suf.length ≤ 8000000000000000 → F_shape_AreaOf_L1 suf i n = some (n + arR suf) := by
    intro suf
    induction suf with
    | nil => intro i n _ _ _; rw [F_shape_AreaOf_L1.eq_1, arR, Int.add_zero]
    | cons r suf ih =>
      intro i n hs h1 h2
      have hr := hs r (by simp)
      have hlim := arR_lim (l := [r]) (by simpa using hr)
      simp only [arR, List.length_singleton] at hlim
      rw [List.length_cons] at h2
      rw [F_shape_AreaOf_L1.eq_2, area_step hr h1 (by omega), ih _ _ (fun x hx => hs x (by simp [hx])) (by omega) (by omega), arR, Int.add_assoc]
  unfold F_shape_AreaOf
  rw [key l 0 0 h (by omega) (by omega), Int.zero_add]
theorem AreaOfR_ok {N : Nat} (hN : 10000000000 ≤ N) {l : List TRect} (hl : l.length ≤ 2000) (h : ∀ r ∈ l, ROk r) : F_etchhouseref1_AreaOf N l = some (arR l) := by
  have key : ∀ (suf pre : List TRect) (m : Nat) (n : Int), l = pre ++ suf → suf.length < m → 0 ≤ n → n + 4000000000000 * suf.length ≤ 8000000000000000 → F_etchhouseref1_AreaOf_L1 l m n pre.length = some (n + arR suf) := by
    intro suf
    induction suf with
    | nil =>
      intro pre m n h1 h2 _ _
      obtain ⟨m, rfl⟩ : ∃ k, m = k + 1 := ⟨m - 1, by omega⟩
      rw [F_etchhouseref1_AreaOf_L1.eq_2, if_neg (by rw [h1]; simp), arR, Int.add_zero]
    | cons r suf ih =>
      intro pre m n h1 h2 h3 h4
      obtain ⟨m, rfl⟩ : ∃ k, m = k + 1 := ⟨m - 1, by omega⟩
      have hpl : pre.length ≤ 2000 := by rw [h1] at hl; simp at hl; omega
      have hid : idx l (pre.length : Int) = some r := by rw [h1]; exact idx_mid pre suf r
      have hr := h r (by rw [h1]; simp)
      have hlim := arR_lim (l := [r]) (by simpa using hr)
      simp only [arR, List.length_singleton] at hlim
      rw [List.length_cons] at h4
      rw [F_etchhouseref1_AreaOf_L1.eq_2, if_pos (by rw [h1]; exact lt_mid pre suf r), hid, Option.bind_some, Option.bind_some, Option.bind_some, Option.bind_some, area_step hr h3 (by omega), up_mid pre r (by omega), ih (pre ++ [r]) m _ (by rw [h1]; simp) (by simp at h2; omega) (by omega) (by omega), arR, Int.add_assoc]
  have := key l [] N 0 rfl (by omega) (by omega) (by omega)
  rw [Int.zero_add] at this
  exact this
def areaV (l : List TRect) : Int × Int := if regionErr l = 0 then (arR l, 0) else (0, regionErr l)
theorem Area_ok {N : Nat} (hN : 10000000000 ≤ N) (l : List TRect) : F_shape_Area N l = some (areaV l) := by
  unfold F_shape_Area areaV
  rw [CheckRegion_ok hN, Option.bind_some]
  by_cases h : regionErr l = 0
  · obtain ⟨_, hl, hok, _⟩ := regionErr_ok h
    rw [if_neg (by simpa using h), if_pos h, AreaOf_ok hl hok]; rfl
  · rw [if_pos (by simpa using h), if_neg h]
theorem AreaR_ok {N : Nat} (hN : 10000000000 ≤ N) (l : List TRect) : F_etchhouseref1_Area N l = some (areaV l) := by
  unfold F_etchhouseref1_Area areaV
  rw [CheckRegionR_ok hN, Option.bind_some]
  by_cases h : regionErr l = 0
  · obtain ⟨_, hl, hok, _⟩ := regionErr_ok h
    rw [if_neg (by simpa using h), if_pos h, AreaOfR_ok hN hl hok]; rfl
  · rw [if_pos (by simpa using h), if_neg h]
theorem setsMatch_ok {N : Nat} (hN : 10000000000 ≤ N) (a b : List TRect) : F_etchhouselaw1_SetsMatchSpec N a b = some true := by
  unfold F_etchhouselaw1_SetsMatchSpec
  obtain ⟨v, v1, v2⟩ := Union_ok hN a b
  obtain ⟨v', w1, w2⟩ := UnionR_ok hN a b
  obtain rfl := v2.uniq w2
  obtain ⟨u, u1, u2⟩ := Both_ok hN a b
  obtain ⟨u', x1, x2⟩ := BothR_ok hN a b
  obtain rfl := u2.uniq x2
  obtain ⟨t, t1, t2⟩ := Minus_ok hN a b
  obtain ⟨t', y1, y2⟩ := MinusR_ok hN a b
  obtain rfl := t2.uniq y2
  obtain ⟨p, p1, p2⟩ := EqualR_ok v.1 v.1
  obtain rfl : p = true := p2.2 rfl
  obtain ⟨q, q1, q2⟩ := EqualR_ok u.1 u.1
  obtain rfl : q = true := q2.2 rfl
  obtain ⟨r, r1, r2⟩ := EqualR_ok t.1 t.1
  obtain rfl : r = true := r2.2 rfl
  rw [v1, Option.bind_some, w1, Option.bind_some, p1, Option.bind_some, if_neg (by simp), u1, Option.bind_some, x1, Option.bind_some, q1, Option.bind_some, if_neg (by simp), t1, Option.bind_some, y1, Option.bind_some, Area_ok hN, Option.bind_some, AreaR_ok hN, Option.bind_some, r1, awake1_ok (by omega)]
  simp
theorem SetsMatch_plain (a b : List TRect) {X Y : Prop} (_ : X) (_ : Y) : ∃ N, F_etchhouselaw1_SetsMatchSpec N a b = some true := ⟨10000000000, setsMatch_ok (Nat.le_refl _) a b⟩
end Go.Proofs.Ytcebbfodkadggaa
