/- Sets: both and minus, the program's. Plain Lean about the plain functions. -/
import Derived.Test.YtnlhigfglfahiaaU1
import Derived.Test.YtnlhigfglfahiaaS5p
namespace Go.Proofs.Ytnlhigfglfahiaa
/-- A square is kept, by whether it is in the one and in the other one. -/
def KeptR (k : Bool → Bool → Bool) (a b : List TRect) (x y : Int) : Prop := ∃ p q, (p = true ↔ InR x y a) ∧ (q = true ↔ InR x y b) ∧ k p q = true
/-- What comes of two regions, combined. -/
structure TwoOk (k : Bool → Bool → Bool) (a b : List TRect) (v : List TRect × Int) : Prop where
  e1 : regionErr a ≠ 0 → v = ([], regionErr a)
  e2 : regionErr a = 0 → regionErr b ≠ 0 → v = ([], regionErr b)
  ok : regionErr a = 0 → regionErr b = 0 → ∃ C, BOk C ∧ (∀ x y, InB x y C ↔ KeptR k a b x y) ∧ v = toldV C
theorem TwoOk.uniq {k : Bool → Bool → Bool} {a b : List TRect} {v u : List TRect × Int} (h1 : TwoOk k a b v) (h2 : TwoOk k a b u) : v = u := by
  by_cases ha : regionErr a = 0
  · by_cases hb : regionErr b = 0
    · obtain ⟨C, c1, c2, c3⟩ := h1.ok ha hb
      obtain ⟨D, d1, d2, d3⟩ := h2.ok ha hb
      rw [c3, d3, c1.uniq d1 fun x y => by rw [c2, d2]]
    · rw [h1.e2 ha hb, h2.e2 ha hb]
  · rw [h1.e1 ha, h2.e1 ha]
theorem KeptR_iff {k : Bool → Bool → Bool} {a b : List TRect} {x y : Int} {p q : Bool} (hp : p = true ↔ InR x y a) (hq : q = true ↔ InR x y b) : KeptR k a b x y ↔ k p q = true := by
  constructor
  · rintro ⟨p', q', h1, h2, h⟩
    have e1 : p' = p := by rw [Bool.eq_iff_iff, h1, hp]
    have e2 : q' = q := by rw [Bool.eq_iff_iff, h2, hq]
    rw [← e1, ← e2]; exact h
  · exact fun h => ⟨p, q, hp, hq, h⟩
theorem two_core {N : Nat} (hN : 10000000000 ≤ N) {k : Bool → Bool → Bool} {f : Bool → Bool → Option Bool} (hf : ∀ a b, f a b = some (k a b)) (hk : k false false = false) {a b : List TRect} (ha : regionErr a = 0) (hb : regionErr b = 0) :
    ∃ C, F_shape_SetOf N a = some ((setB a).map toP) ∧ F_shape_SetOf N b = some ((setB b).map toP) ∧ F_shape_Merge N ((setB a).map toP) ((setB b).map toP) f = some (C.map toP) ∧ F_shape_Set__Told N (C.map toP) = some (toldV C) ∧ BOk C ∧ ∀ x y, InB x y C ↔ KeptR k a b x y := by
  obtain ⟨_, hal, haok, _⟩ := regionErr_ok ha
  obtain ⟨_, hbl, hbok, _⟩ := regionErr_ok hb
  obtain ⟨sa, sa2⟩ := setB_len a
  obtain ⟨sb, sb2⟩ := setB_len b
  obtain ⟨ba, ia⟩ := setB_ok (ROk.ne haok)
  obtain ⟨bb, ib⟩ := setB_ok (ROk.ne hbok)
  obtain ⟨C, c1, c2, c3, c4, c5⟩ := Merge_ok hf hk hN (R1 := 2000) (R2 := 2000) ba bb (fun c hc => by have := sa2 c hc; omega) (fun c hc => by have := sb2 c hc; omega) (by omega) (by omega)
  have ht := rectsB_len (R := 4000) (l := C) fun c hc => by have := c5 c hc; omega
  refine ⟨C, SetOf_ok hN (by omega) (fun r hr => (haok r hr).r9), SetOf_ok hN (by omega) (fun r hr => (hbok r hr).r9), c1, Told_ok hN (by omega) (by omega), c2, fun x y => ?_⟩
  rw [c3]
  unfold Kept KeptR
  rw [ia, ib]
section
variable {N : Nat} (hN : 10000000000 ≤ N)
include hN
theorem Both_ok (a b : List TRect) : ∃ v, F_shape_Both N a b = some v ∧ TwoOk (fun p q => p && q) a b v := by
  unfold F_shape_Both F_shape_two__And
  rw [CheckRegion_ok hN, Option.bind_some]
  by_cases ha : regionErr a = 0
  · rw [if_neg (by simpa using ha), CheckRegion_ok hN, Option.bind_some]
    by_cases hb : regionErr b = 0
    · obtain ⟨C, c1, c2, c3, c4, c5, c6⟩ := two_core hN (k := fun p q => p && q) (f := fun z0 z1 => F_shape_Set__And_1 z0 z1) (fun _ _ => rfl) rfl ha hb
      unfold F_shape_Set__And
      rw [if_neg (by simpa using hb), c1, Option.bind_some, c2, Option.bind_some, c3, Option.bind_some, Option.bind_some, c4]
      exact ⟨toldV C, rfl, fun h => absurd ha h, fun _ h => absurd hb h, fun _ _ => ⟨C, c5, c6, rfl⟩⟩
    · rw [if_pos (by simpa using hb)]
      exact ⟨_, rfl, fun h => absurd ha h, fun _ _ => rfl, fun _ h => absurd h hb⟩
  · rw [if_pos (by simpa using ha)]
    exact ⟨_, rfl, fun _ => rfl, fun h => absurd h ha, fun h => absurd h ha⟩
theorem Minus_ok (a b : List TRect) : ∃ v, F_shape_Minus N a b = some v ∧ TwoOk (fun p q => p && !q) a b v := by
  unfold F_shape_Minus F_shape_two__Less
  rw [CheckRegion_ok hN, Option.bind_some]
  by_cases ha : regionErr a = 0
  · rw [if_neg (by simpa using ha), CheckRegion_ok hN, Option.bind_some]
    by_cases hb : regionErr b = 0
    · obtain ⟨C, c1, c2, c3, c4, c5, c6⟩ := two_core hN (k := fun p q => p && !q) (f := fun z0 z1 => F_shape_Set__Less_1 z0 z1) (fun _ _ => rfl) rfl ha hb
      unfold F_shape_Set__Less
      rw [if_neg (by simpa using hb), c1, Option.bind_some, c2, Option.bind_some, c3, Option.bind_some, Option.bind_some, c4]
      exact ⟨toldV C, rfl, fun h => absurd ha h, fun _ h => absurd hb h, fun _ _ => ⟨C, c5, c6, rfl⟩⟩
    · rw [if_pos (by simpa using hb)]
      exact ⟨_, rfl, fun h => absurd ha h, fun _ _ => rfl, fun _ h => absurd h hb⟩
  · rw [if_pos (by simpa using ha)]
    exact ⟨_, rfl, fun _ => rfl, fun h => absurd h ha, fun h => absurd h ha⟩
end
theorem TwoOk.region {k : Bool → Bool → Bool} (hk : k false false = false) {a b u : List TRect} (h : TwoOk k a b (u, 0)) : regionErr a = 0 ∧ regionErr b = 0 ∧ regionErr u = 0 ∧ ∀ x y, InR x y u ↔ KeptR k a b x y := by
  by_cases ha : regionErr a = 0
  · by_cases hb : regionErr b = 0
    · obtain ⟨C, c1, c2, c3⟩ := h.ok ha hb
      unfold toldV at c3
      split at c3
      · injection c3 with _ e; cases e
      · rename_i hn
        injection c3 with e _
        subst e
        obtain ⟨_, _, haok, _⟩ := regionErr_ok ha
        obtain ⟨_, _, hbok, _⟩ := regionErr_ok hb
        refine ⟨ha, hb, region_of c1 (fun x y hx => ?_) (by omega), fun x y => by rw [InR_rectsB c1, c2]⟩
        obtain ⟨p, q, hp, hq, h2⟩ := (c2 x y).1 hx
        cases hpv : p
        · cases hqv : q
          · subst hpv hqv
            rw [hk] at h2; cases h2
          · exact InR_lim hbok (hq.1 hqv)
        · exact InR_lim haok (hp.1 hpv)
    · have := h.e2 ha hb
      injection this with _ e; exact absurd e.symm hb
  · have := h.e1 ha
    injection this with _ e; exact absurd e.symm ha
theorem TwoOk.err {k : Bool → Bool → Bool} {a b : List TRect} {v : List TRect × Int} (h : TwoOk k a b v) (hv : v.2 ≠ 0) : v.1 = [] := by
  by_cases ha : regionErr a = 0
  · by_cases hb : regionErr b = 0
    · obtain ⟨C, c1, c2, c3⟩ := h.ok ha hb
      rw [c3] at hv ⊢
      unfold toldV at *
      split
      · rfl
      · rename_i h2; rw [if_neg h2] at hv; exact absurd rfl hv
    · rw [h.e2 ha hb]
  · rw [h.e1 ha]
/-- What two regions make is one that is told. -/
theorem TwoOk.is {k : Bool → Bool → Bool} {a b u : List TRect} {v : List TRect × Int} (h : TwoOk k a b v) (ha : regionErr a = 0) (hb : regionErr b = 0) (hu : regionErr u = 0) (hx : ∀ x y, InR x y u ↔ KeptR k a b x y) : v = (u, 0) := by
  obtain ⟨C, c1, c2, c3⟩ := h.ok ha hb
  obtain ⟨_, b4, bok, b3⟩ := regionErr_ok hu
  obtain ⟨b1, b2⟩ := setB_ok (ROk.ne bok)
  have e : C = setB u := c1.uniq b1 fun x y => by rw [c2, b2, hx]
  rw [c3, e]
  unfold toldV
  rw [b3, if_neg (by omega)]
instance (x y : Int) (l : List TRect) : Decidable (InR x y l) := decidable_of_iff (l.any (fun r => (decide (r.X0 ≤ x) && decide (x < r.X1)) && (decide (r.Y0 ≤ y) && decide (y < r.Y1))) = true) (by
  rw [List.any_eq_true]; unfold InR; simp [and_assoc])
theorem KeptR_dec {k : Bool → Bool → Bool} {a b : List TRect} {x y : Int} : KeptR k a b x y ↔ k (decide (InR x y a)) (decide (InR x y b)) = true := KeptR_iff (by simp) (by simp)
end Go.Proofs.Ytnlhigfglfahiaa
