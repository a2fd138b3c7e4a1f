/- Regions that grow and shrink: the program's steps. Plain Lean about the plain functions. (35, 37: the numbers of grown and shrunk; 61: that of their type.) -/
import Derived.Test.YtnlhigfglfahiaaW6
namespace Go.Proofs.Ytnlhigfglfahiaa
/-- Bands of a region. -/
structure Good (S : List Bd) : Prop where
  ok : BOk S
  tot : (rectsB S).length ≤ 2000
  rok : ∀ r ∈ rectsB S, ROk r
theorem Good.region {S : List Bd} (h : Good S) : regionErr (rectsB S) = 0 := region_of h.ok (fun x y hx => InR_lim h.rok ((InR_rectsB h.ok x y).2 hx)) h.tot
theorem Good.of {r : List TRect} (h : regionErr r = 0) : Good (setB r) ∧ rectsB (setB r) = r := by
  obtain ⟨_, hl, hok, hr⟩ := regionErr_ok h
  exact ⟨⟨(setB_ok (ROk.ne hok)).1, by rw [hr]; exact hl, by rw [hr]; exact hok⟩, hr⟩
theorem Good.small {S : List Bd} (h : Good S) : Small S := by
  have := h.ok.le; have := h.tot
  exact ⟨by omega, fun b hb => by have := rectsB_row hb; omega, by omega⟩
theorem Good.sq {S : List Bd} (h : Good S) {x y : Int} (hx : InB x y S) : (-1000000 ≤ x ∧ x < 1000000) ∧ (-1000000 ≤ y ∧ y < 1000000) := InR_lim h.rok ((InR_rectsB h.ok x y).2 hx)
theorem lim_rok {r : TRect} (h : lim r = true) (hx : r.X0 < r.X1 ∧ r.Y0 < r.Y1) : ROk r := by
  have := lim_iff.1 h
  exact ⟨by omega, by omega, by omega, by omega, hx.1, hx.2⟩
/-- What grew, and fits, is a region. -/
theorem growV_ok {S : List Bd} (hS : Good S) {n : Int} (hn : 0 ≤ n) {W : List Bd} (h : growV S n = (W, 0)) : Good W ∧ ∀ x y, InB x y W ↔ Nr n (fun u v => InB u v S) x y := by
  unfold growV at h
  split at h
  · rename_i h1
    split at h
    · injection h with _ e; cases e
    · rename_i h2
      injection h with e _
      subst e
      have hne := widen_ne hn (rectsB_ne hS.ok)
      obtain ⟨b1, b2⟩ := setB_ok hne
      rw [List.all_eq_true] at h1
      have hrk : ∀ r ∈ (rectsB S).map (widen n), ROk r := fun r hr => lim_rok (h1 r hr) (hne r hr)
      have hp : ∀ x y, InB x y (setB ((rectsB S).map (widen n))) ↔ Nr n (fun u v => InB u v S) x y := fun x y => by
        rw [b2, InR_widen hn (rectsB_ne hS.ok)]
        exact Nr_congr (fun u v => InR_rectsB hS.ok u v) x y
      exact ⟨⟨b1, by omega, rectsB_rok b1 fun x y hx => InR_lim hrk ((b2 x y).1 hx)⟩, hp⟩
  · injection h with _ e; cases e
theorem growV_is {S : List Bd} (hS : Good S) {n : Int} (hn : 0 ≤ n) {W : List Bd} (hW : Good W) (h : ∀ x y, InB x y W ↔ Nr n (fun u v => InB u v S) x y) : growV S n = (W, 0) := by
  have hne := widen_ne hn (rectsB_ne hS.ok)
  obtain ⟨b1, b2⟩ := setB_ok hne
  have hp : ∀ x y, InB x y (setB ((rectsB S).map (widen n))) ↔ Nr n (fun u v => InB u v S) x y := fun x y => by
    rw [b2, InR_widen hn (rectsB_ne hS.ok)]
    exact Nr_congr (fun u v => InR_rectsB hS.ok u v) x y
  have e : setB ((rectsB S).map (widen n)) = W := b1.uniq hW.ok fun x y => by rw [hp, h]
  have hl : ((rectsB S).map (widen n)).all lim = true := by
    rw [List.all_eq_true]
    intro r hr
    have hr' := hne r hr
    have k1 := hW.sq ((h r.X0 r.Y0).2 ((hp r.X0 r.Y0).1 ((b2 _ _).2 ⟨r, hr, ⟨by omega, by omega⟩, by omega, by omega⟩)))
    have k2 := hW.sq ((h (r.X1 - 1) (r.Y1 - 1)).2 ((hp _ _).1 ((b2 _ _).2 ⟨r, hr, ⟨by omega, by omega⟩, by omega, by omega⟩)))
    rw [lim_iff]
    omega
  unfold growV
  rw [if_pos hl, e, if_neg (by have := hW.tot; omega)]
theorem growV_cases (S : List Bd) (n : Int) : (growV S n).2 = 0 ∨ (growV S n).1 = [] ∧ ((growV S n).2 = 1 ∨ (growV S n).2 = 2) := by
  unfold growV
  split
  · split
    · exact .inr ⟨rfl, .inr rfl⟩
    · exact .inl rfl
  · exact .inr ⟨rfl, .inl rfl⟩
theorem good_deep {S D : List Bd} (hS : Good S) {n : Int} (hD : BOk D) (ht : (rectsB D).length ≤ 2000) (h : ∀ x y, InB x y D ↔ InB x y S ∧ Deep n (fun u v => InB u v S) x y) : Good D :=
  ⟨hD, ht, rectsB_rok hD fun x y hx => hS.sq ((h x y).1 hx).1⟩
def inN (n : Int) : Prop := 0 ≤ n ∧ n ≤ 100000
instance (n : Int) : Decidable (inN n) := inferInstanceAs (Decidable (_ ∧ _))
section
variable {N : Nat} (hN : 10000000000 ≤ N) {n : Int} (hn : 0 ≤ n ∧ n ≤ 100000)
include hN hn
theorem stepG {S : List Bd} (hS : Good S) (rest : List Nat) (i : Nat) : F_shape_steps_L1 N n (35 :: rest) i (S.map toP) = if (growV S n).2 = 0 then F_shape_steps_L1 N n rest (i + 1) ((growV S n).1.map toP) else some ([], (growV S n).2) := by
  have e : F_disp_61 N 35 (S.map toP) n = F_shape_grown N (S.map toP) n := if_pos rfl
  rw [F_shape_steps_L1.eq_2, e, grown_ok hN hn hS.ok hS.tot hS.rok, Option.bind_some]
  by_cases h : (growV S n).2 = 0
  · rw [if_neg (by simpa using h), if_pos h]
  · rw [if_pos (by simpa using h), if_neg h]
theorem stepS {S : List Bd} (hS : Good S) : ∃ D, BOk D ∧ (∀ x y, InB x y D ↔ InB x y S ∧ Deep n (fun u v => InB u v S) x y) ∧ ∀ (rest : List Nat) (i : Nat), F_shape_steps_L1 N n (37 :: rest) i (S.map toP) = if 2000 < (rectsB D).length then some ([], 2) else F_shape_steps_L1 N n rest (i + 1) (D.map toP) := by
  obtain ⟨D, d1, d2, d3⟩ := shrunk_ok hN hn hS.ok hS.tot hS.rok
  refine ⟨D, d1, d2, fun rest i => ?_⟩
  have e : F_disp_61 N 37 (S.map toP) n = F_shape_shrunk N (S.map toP) n := (if_neg (by decide)).trans (if_pos rfl)
  rw [F_shape_steps_L1.eq_2, e, d3, Option.bind_some]
  by_cases h : 2000 < (rectsB D).length
  · rw [if_pos h, if_pos h, if_pos (by simp)]
  · rw [if_neg h, if_neg h, if_neg (by simp)]
omit hn in
theorem stepE {S : List Bd} (hS : Good S) (i : Nat) : F_shape_steps_L1 N n [] i (S.map toP) = some (rectsB S, 0) := by
  rw [F_shape_steps_L1.eq_1, Rects_ok hN hS.small]; rfl
end
/-- What is checked first. -/
theorem steps_ok {N : Nat} (hN : 10000000000 ≤ N) (r : List TRect) (n : Int) (l : List Nat) : F_shape_steps N r n l = if regionErr r = 0 then if inN n then F_shape_steps_L1 N n l 0 ((setB r).map toP) else some ([], 1) else some ([], regionErr r) := by
  unfold F_shape_steps
  rw [CheckRegion_ok hN, Option.bind_some]
  by_cases h : regionErr r = 0
  · obtain ⟨_, hl, hok, hr⟩ := regionErr_ok h
    have hw : F_shape_within n 0 100000 = some (within n 0 100000) := rfl
    rw [if_neg (by simpa using h), if_pos h, hw, Option.bind_some, SetOf_ok hN (by omega) (fun r hr => (hok r hr).r9)]
    by_cases hi : inN n
    · rw [if_neg (by rw [Bool.not_eq_true', Bool.not_eq_false]; exact within_iff.2 hi), if_pos hi, Option.bind_some]
    · rw [if_pos (by rw [Bool.not_eq_true', Bool.eq_false_iff]; exact fun h => hi (within_iff.1 h)), if_neg hi]
  · rw [if_pos (by simpa using h), if_neg h]
def outV (v : List Bd × Int) : List TRect × Int := if v.2 = 0 then (rectsB v.1, 0) else ([], v.2)
theorem Grow_ok {N : Nat} (hN : 10000000000 ≤ N) (r : List TRect) (n : Int) : F_shape_Grow N r n = some (if regionErr r = 0 then if inN n then outV (growV (setB r) n) else ([], 1) else ([], regionErr r)) := by
  unfold F_shape_Grow
  rw [steps_ok hN]
  by_cases h : regionErr r = 0
  · rw [if_pos h, if_pos h]
    by_cases hi : inN n
    · obtain ⟨hg, _⟩ := Good.of h
      rw [if_pos hi, if_pos hi, stepG hN hi hg]
      unfold outV
      by_cases h0 : (growV (setB r) n).2 = 0
      · have e : growV (setB r) n = ((growV (setB r) n).1, 0) := by rw [← h0]
        rw [if_pos h0, if_pos h0, stepE hN (growV_ok hg hi.1 e).1]; rfl
      · rw [if_neg h0, if_neg h0]; rfl
    · rw [if_neg hi, if_neg hi]; rfl
  · rw [if_neg h, if_neg h]; rfl
/-- What shrinks. -/
structure ShrOk (S : List Bd) (n : Int) (D : List Bd) : Prop where
  ok : BOk D
  sq : ∀ x y, InB x y D ↔ InB x y S ∧ Deep n (fun u v => InB u v S) x y
theorem ShrOk.uniq {S D E : List Bd} {n : Int} (h1 : ShrOk S n D) (h2 : ShrOk S n E) : D = E := h1.ok.uniq h2.ok fun x y => by rw [h1.sq, h2.sq]
theorem Shrink_ok {N : Nat} (hN : 10000000000 ≤ N) (r : List TRect) (n : Int) (h : regionErr r = 0) (hi : inN n) : ∃ D, ShrOk (setB r) n D ∧ F_shape_Shrink N r n = some (toldV D) := by
  obtain ⟨hg, _⟩ := Good.of h
  obtain ⟨D, d1, d2, d3⟩ := stepS hN hi hg
  refine ⟨D, ⟨d1, d2⟩, ?_⟩
  unfold F_shape_Shrink toldV
  rw [steps_ok hN, if_pos h, if_pos hi, d3]
  by_cases h2 : 2000 < (rectsB D).length
  · rw [if_pos h2, if_pos h2]; rfl
  · rw [if_neg h2, if_neg h2, stepE hN (good_deep hg d1 (by omega) d2)]; rfl
theorem Opened_ok {N : Nat} (hN : 10000000000 ≤ N) (r : List TRect) (n : Int) (h : regionErr r = 0) (hi : inN n) : ∃ D, ShrOk (setB r) n D ∧ F_shape_Opened N r n = some (if 2000 < (rectsB D).length then ([], 2) else outV (growV D n)) := by
  obtain ⟨hg, _⟩ := Good.of h
  obtain ⟨D, d1, d2, d3⟩ := stepS hN hi hg
  refine ⟨D, ⟨d1, d2⟩, ?_⟩
  unfold F_shape_Opened
  rw [steps_ok hN, if_pos h, if_pos hi, d3]
  by_cases h2 : 2000 < (rectsB D).length
  · rw [if_pos h2, if_pos h2]; rfl
  · have hD := good_deep hg d1 (by omega) d2
    rw [if_neg h2, if_neg h2, stepG hN hi hD]
    unfold outV
    by_cases h0 : (growV D n).2 = 0
    · have e : growV D n = ((growV D n).1, 0) := by rw [← h0]
      rw [if_pos h0, if_pos h0, stepE hN (growV_ok hD hi.1 e).1]; rfl
    · rw [if_neg h0, if_neg h0]; rfl
theorem Closed_ok {N : Nat} (hN : 10000000000 ≤ N) (r : List TRect) (n : Int) (h : regionErr r = 0) (hi : inN n) : ((growV (setB r) n).2 ≠ 0 ∧ F_shape_Closed N r n = some ([], (growV (setB r) n).2)) ∨ ((growV (setB r) n).2 = 0 ∧ ∃ D, ShrOk (growV (setB r) n).1 n D ∧ F_shape_Closed N r n = some (toldV D)) := by
  obtain ⟨hg, _⟩ := Good.of h
  unfold F_shape_Closed
  rw [steps_ok hN, if_pos h, if_pos hi, stepG hN hi hg]
  by_cases h0 : (growV (setB r) n).2 = 0
  · have e : growV (setB r) n = ((growV (setB r) n).1, 0) := by rw [← h0]
    have hW := (growV_ok hg hi.1 e).1
    obtain ⟨D, d1, d2, d3⟩ := stepS hN hi hW
    refine .inr ⟨h0, D, ⟨d1, d2⟩, ?_⟩
    rw [if_pos h0, d3]
    unfold toldV
    by_cases h2 : 2000 < (rectsB D).length
    · rw [if_pos h2, if_pos h2]; rfl
    · rw [if_neg h2, if_neg h2, stepE hN (good_deep hW d1 (by omega) d2)]; rfl
  · exact .inl ⟨h0, by rw [if_neg h0]; rfl⟩
theorem steps_err {N : Nat} (hN : 10000000000 ≤ N) (r : List TRect) (n : Int) (h : ¬ (regionErr r = 0 ∧ inN n)) : ∃ e : Int, e ≠ 0 ∧ F_shape_Shrink N r n = some ([], e) ∧ F_shape_Opened N r n = some ([], e) ∧ F_shape_Closed N r n = some ([], e) ∧ F_shape_Grow N r n = some ([], e) ∧ e = if regionErr r = 0 then 1 else regionErr r := by
  unfold F_shape_Shrink F_shape_Opened F_shape_Closed F_shape_Grow
  simp only [steps_ok hN]
  by_cases h1 : regionErr r = 0
  · have h2 : ¬ inN n := fun h2 => h ⟨h1, h2⟩
    simp only [if_pos h1, if_neg h2]
    exact ⟨1, by decide, rfl, rfl, rfl, rfl, rfl⟩
  · simp only [if_neg h1]
    exact ⟨regionErr r, h1, rfl, rfl, rfl, rfl, rfl⟩
end Go.Proofs.Ytnlhigfglfahiaa
