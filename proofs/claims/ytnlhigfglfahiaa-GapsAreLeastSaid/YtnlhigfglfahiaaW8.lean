/- Regions that grow and shrink: two laws, and their fuel. Plain Lean about the plain functions. -/
import Derived.Test.YtnlhigfglfahiaaW7
import Derived.Test.YtnlhigfglfahiaaW4
import Derived.Test.YtnlhigfglfahiaaV4
import Derived.Test.YtnlhigfglfahiaaE0
namespace Go.Proofs.Ytnlhigfglfahiaa
theorem nil_region : regionErr ([] : List TRect) = 0 := region_of (l := []) ⟨⟨0, trivial⟩, by simp⟩ (fun x y hx => absurd hx InS_nil) (by simp [rectsB])
theorem no_sq {x y : Int} : ¬ InR x y [] := by unfold InR; simp
/-- Whether one region lies in another one. -/
theorem insideL_ok {N : Nat} (hN : 10000000000 ≤ N) {a b : List TRect} (ha : regionErr a = 0) (hb : regionErr b = 0) : ∃ c : Bool, F_etchhouselaw1_inside N a b = some c ∧ (c = true ↔ ∀ x y, InR x y a → InR x y b) := by
  unfold F_etchhouselaw1_inside
  obtain ⟨v, v1, v2⟩ := Minus_ok hN a b
  rw [v1, Option.bind_some]
  refine ⟨_, rfl, ?_⟩
  constructor
  · intro h
    rw [Bool.and_eq_true] at h
    have h1 : v.2 = 0 := by simpa using h.1
    have h2 : v.1 = [] := by simpa using h.2
    have hv : v = ([], 0) := by rw [← h1, ← h2]
    rw [hv] at v2
    obtain ⟨_, _, _, hx⟩ := v2.region rfl
    intro x y hxa
    refine Classical.byContradiction fun hxb => ?_
    exact no_sq ((hx x y).2 (KeptR_dec.2 (by simp [hxa, hxb])))
  · intro h
    have := v2.is ha hb nil_region fun x y => by
      rw [KeptR_dec]
      refine ⟨fun h' => absurd h' no_sq, fun h' => ?_⟩
      simp at h'
      exact absurd (h x y h'.1) h'.2
    rw [this]; rfl
theorem outV_err {v : List Bd × Int} (h : v.2 ≠ 0) : outV v = ([], v.2) := if_neg h
theorem outV_ok {v : List Bd × Int} (h : v.2 = 0) : outV v = (rectsB v.1, 0) := if_pos h
theorem J1_ok {N : Nat} (hN : 10000000000 ≤ N) {r : List TRect} {n : Int} (h : regionErr r = 0) (hi : inN n) : F_etchhouselaw1_GrowsAdd_J1 N r n = some true := by
  unfold F_etchhouselaw1_GrowsAdd_J1
  obtain ⟨hg, hr⟩ := Good.of h
  obtain ⟨D, hD, o1⟩ := Opened_ok hN r n h hi
  have hS : ∀ x y, InB x y (setB r) ↔ InR x y r := (setB_ok (ROk.ne (regionErr_ok h).2.2.1)).2
  rw [o1, Option.bind_some, awake1_ok (by omega)]
  -- what is opened lies in the region
  have ho : ∀ v : List TRect × Int, v = (if 2000 < (rectsB D).length then ([], 2) else outV (growV D n)) → (if (v.2 != 0) then some true else (F_etchhouselaw1_inside N v.1 r).bind fun y120 => some y120) = some true := fun v hv => by
    by_cases h2 : 2000 < (rectsB D).length
    · rw [if_pos h2] at hv; subst hv; rfl
    · rw [if_neg h2] at hv
      have gD := good_deep hg hD.ok (by omega) hD.sq
      by_cases h0 : (growV D n).2 = 0
      · rw [outV_ok h0] at hv
        subst hv
        obtain ⟨gV, pV⟩ := growV_ok gD hi.1 (W := (growV D n).1) (by rw [← h0])
        obtain ⟨c, c1, c2⟩ := insideL_ok hN gV.region h
        have : c = true := c2.2 fun x y hx => by
          obtain ⟨u, v, h1, h2, h3⟩ := (pV x y).1 ((InR_rectsB gV.ok x y).1 hx)
          exact (hS x y).1 (((hD.sq u v).1 h1).2 x y ⟨by omega, by omega⟩ ⟨by omega, by omega⟩)
        rw [if_neg (by simp), c1, this]; rfl
      · rw [outV_err h0] at hv
        subst hv
        rw [if_pos (by simpa using h0)]
  have hc : ∀ v : List TRect × Int, ((growV (setB r) n).2 ≠ 0 ∧ v = ([], (growV (setB r) n).2)) ∨ ((growV (setB r) n).2 = 0 ∧ ∃ E, ShrOk (growV (setB r) n).1 n E ∧ v = toldV E) → (if (v.2 != 0) then some true else (F_etchhouselaw1_inside N r v.1).bind fun y127 => some y127) = some true := fun v hv => by
    rcases hv with ⟨h0, hv⟩ | ⟨h0, E, hE, hv⟩
    · subst hv
      rw [if_pos (by simpa using h0)]
    · obtain ⟨gW, pW⟩ := growV_ok hg hi.1 (W := (growV (setB r) n).1) (by rw [← h0])
      unfold toldV at hv
      by_cases h2 : 2000 < (rectsB E).length
      · rw [if_pos h2] at hv; subst hv; rfl
      · rw [if_neg h2] at hv
        subst hv
        have gE := good_deep gW hE.ok (by omega) hE.sq
        obtain ⟨c, c1, c2⟩ := insideL_ok hN h gE.region
        have : c = true := c2.2 fun x y hx => by
          have hb := (hS x y).2 hx
          refine (InR_rectsB gE.ok x y).2 ((hE.sq x y).2 ⟨(pW x y).2 ⟨x, y, hb, ⟨by have := hi.1; omega, by have := hi.1; omega⟩, by have := hi.1; omega, by have := hi.1; omega⟩, fun u v hu hv => (pW u v).2 ⟨x, y, hb, by omega, by omega⟩⟩)
        rw [if_neg (by simp), c1, this]; rfl
  obtain ⟨w, w1, w2⟩ : ∃ w, F_shape_Closed N r n = some w ∧ (((growV (setB r) n).2 ≠ 0 ∧ w = ([], (growV (setB r) n).2)) ∨ ((growV (setB r) n).2 = 0 ∧ ∃ E, ShrOk (growV (setB r) n).1 n E ∧ w = toldV E)) := by
    rcases Closed_ok hN r n h hi with ⟨h0, h1⟩ | ⟨h0, E, hE, h1⟩
    · exact ⟨_, h1, .inl ⟨h0, rfl⟩⟩
    · exact ⟨_, h1, .inr ⟨h0, E, hE, rfl⟩⟩
  rw [w1, Option.bind_some, ho _ rfl, Option.bind_some, if_pos rfl, hc w w2]
  rfl
theorem growsAdd_ok {N : Nat} (hN : 10000000000 ≤ N) (r : List TRect) (n m : Int) : F_etchhouselaw1_GrowsAdd N r n m = some true := by
  unfold F_etchhouselaw1_GrowsAdd
  rw [Grow_ok hN, Option.bind_some, awake1_ok (by omega)]
  by_cases h : regionErr r = 0
  · rw [if_pos h]
    by_cases hi : inN n
    · rw [if_pos hi]
      obtain ⟨hg, hr⟩ := Good.of h
      by_cases h0 : (growV (setB r) n).2 = 0
      · obtain ⟨gW, pW⟩ := growV_ok hg hi.1 (W := (growV (setB r) n).1) (by rw [← h0])
        rw [outV_ok h0, if_neg (by simp), Grow_ok hN, Option.bind_some, if_pos gW.region, setB_rectsB gW.ok, J1_ok hN h hi]
        by_cases him : inN m
        · rw [if_pos him]
          have h1 := hi.1; have h2 := hi.2; have h3 := him.1; have h4 := him.2
          by_cases h5 : (growV (growV (setB r) n).1 m).2 = 0
          · rw [outV_ok h5, w64_id (x := n + m) (by omega) (by omega)]
            by_cases h6 : n + m ≤ 100000
            · obtain ⟨gV, pV⟩ := growV_ok gW h3 (W := (growV (growV (setB r) n).1 m).1) (by rw [← h5])
              have e : growV (setB r) (n + m) = ((growV (growV (setB r) n).1 m).1, 0) := growV_is hg (by omega) gV fun x y => by
                rw [pV, Nr_congr pW, Nr_add h1 h3]
              obtain ⟨b, b1, b2⟩ := EqualR_ok (rectsB (growV (growV (setB r) n).1 m).1) (rectsB (growV (growV (setB r) n).1 m).1)
              obtain rfl : b = true := b2.2 rfl
              rw [if_pos (by simpa using h6), Grow_ok hN, Option.bind_some, if_pos h, if_pos (show inN (n + m) from ⟨by omega, h6⟩), e, outV_ok rfl, if_neg (by simp), b1]
              rfl
            · rw [if_neg (by simp; omega)]
          · rw [outV_err h5, if_neg (by simp [h5])]
        · rw [if_neg him, if_neg (by simp)]
      · rw [outV_err h0, if_pos (by simpa using h0)]; rfl
    · rw [if_neg hi]; rfl
  · rw [if_neg h, if_pos (by simpa using h)]; rfl
theorem GrowsAdd_plain (r : List TRect) (n m : Int) {X Y Z : Prop} (_ : X) (_ : Y) (_ : Z) : ∃ N, F_etchhouselaw1_GrowsAdd N r n m = some true := ⟨10000000000, growsAdd_ok (Nat.le_refl _) r n m⟩
theorem pErr_iff {p : TPoint} : pErr p = true ↔ (-1000000 ≤ p.X ∧ p.X ≤ 1000000) ∧ (-1000000 ≤ p.Y ∧ p.Y ≤ 1000000) := by
  unfold pErr
  rw [Bool.and_eq_true, within_iff, within_iff]
/-- A square is near to a region; all squares around it are in it. -/
theorem near_law {N : Nat} (hN : 10000000000 ≤ N) {r : List TRect} {n : Int} {p : TPoint} (h : regionErr r = 0) (hi : inN n) (hp : pErr p = true) {W D : List Bd} (hW : Good W) (pW : ∀ x y, InB x y W ↔ Nr n (fun u v => InB u v (setB r)) x y) (hD : Good D) (pD : ShrOk (setB r) n D) {A : TRect} (hA : A = ⟨p.X - n, p.Y - n, p.X + n + 1, p.Y + n + 1⟩) (hA0 : regionErr [A] = 0) :
    ∃ C, F_shape_Both N [A] r = some (rectsB C, 0) ∧ (decide (InR p.X p.Y (rectsB W)) = decide (0 < ((rectsB C).length : Int))) ∧ ∃ c, F_etchhouselaw1_inside N [A] r = some c ∧ decide (InR p.X p.Y (rectsB D)) = c := by
  obtain ⟨hg, hr⟩ := Good.of h
  have hS : ∀ x y, InB x y (setB r) ↔ InR x y r := (setB_ok (ROk.ne (regionErr_ok h).2.2.1)).2
  have hAin : ∀ x y, InR x y [A] ↔ (p.X - n ≤ x ∧ x ≤ p.X + n) ∧ (p.Y - n ≤ y ∧ y ≤ p.Y + n) := fun x y => by
    unfold InR
    constructor
    · rintro ⟨q, hq, h1, h2⟩
      simp at hq
      subst hq hA
      simp only at h1 h2
      omega
    · rintro ⟨h1, h2⟩
      exact ⟨A, by simp, by rw [hA]; simp only; omega, by rw [hA]; simp only; omega⟩
  obtain ⟨v, v1, v2⟩ := Both_ok hN [A] r
  obtain ⟨C, c1, c2, c3⟩ := v2.ok hA0 h
  have hC : ∀ x y, InB x y C ↔ InR x y [A] ∧ InR x y r := fun x y => by
    rw [c2, KeptR_dec]; simp
  have hlen := clip_len (S := setB r) (C := C) (x0 := p.X - n) (x1 := p.X + n + 1) (y0 := p.Y - n) (y1 := p.Y + n + 1) hg.ok c1 fun x y => by
    rw [hC, hAin, hS]
    constructor
    · rintro ⟨h1, h2⟩; exact ⟨by omega, by omega, h2⟩
    · rintro ⟨h1, h2, h3⟩; exact ⟨by omega, h3⟩
  have htot := hg.tot
  have hv : v = (rectsB C, 0) := by rw [c3]; unfold toldV; rw [if_neg (by omega)]
  obtain ⟨c, k1, k2⟩ := insideL_ok hN hA0 h
  refine ⟨C, by rw [v1, hv], ?_, c, k1, ?_⟩
  · rw [decide_eq_decide, InR_rectsB hW.ok, pW]
    constructor
    · rintro ⟨u, w, h1, h2, h3⟩
      have hm := (InR_rectsB c1 u w).2 ((hC u w).2 ⟨(hAin u w).2 ⟨h2, h3⟩, (hS u w).1 h1⟩)
      obtain ⟨q, hq, _⟩ := hm
      have := List.length_pos_of_mem hq
      omega
    · intro hpos
      cases hrc : rectsB C with
      | nil => rw [hrc] at hpos; simp at hpos
      | cons q t =>
        have hq : q ∈ rectsB C := by rw [hrc]; simp
        have hne := rectsB_ne c1 q hq
        have hm := (hC q.X0 q.Y0).1 ((InR_rectsB c1 q.X0 q.Y0).1 ⟨q, hq, ⟨by omega, by omega⟩, by omega, by omega⟩)
        have := (hAin _ _).1 hm.1
        exact ⟨q.X0, q.Y0, (hS _ _).2 hm.2, this.1, this.2⟩
  · rw [Bool.eq_iff_iff, decide_eq_true_eq, k2, InR_rectsB hD.ok, pD.sq]
    constructor
    · rintro ⟨_, h2⟩ x y hx
      have := (hAin x y).1 hx
      exact (hS x y).1 (h2 x y this.1 this.2)
    · intro h2
      have hd : Deep n (fun u v => InB u v (setB r)) p.X p.Y := fun u w h3 h4 => (hS u w).2 (h2 u w ((hAin u w).2 ⟨h3, h4⟩))
      exact ⟨deep_in hi.1 hd, hd⟩
theorem growsPoints_ok {N : Nat} (hN : 10000000000 ≤ N) (r : List TRect) (n : Int) (p : TPoint) : F_etchhouselaw1_GrowsByPoints N r n p = some true := by
  -- the errors
  have errs : ∀ (x y : List TRect × Int), (x.2 ≠ 0 → x.1 = []) → (y.2 ≠ 0 → y.1 = []) → ((if (((x.2 == 0) || ((x.1.length : Int) == 0)) && ((y.2 == 0) || ((y.1.length : Int) == 0))) then (F_etchhouselaw1_awake N).bind fun y111 => some y111 else some false).bind fun g110 => some g110) = some true := fun x y h1 h2 => by
    rw [awake1_ok (by omega)]
    have e1 : ((x.2 == 0) || ((x.1.length : Int) == 0)) = true := by
      by_cases h : x.2 = 0
      · simp [h]
      · simp [h1 h]
    have e2 : ((y.2 == 0) || ((y.1.length : Int) == 0)) = true := by
      by_cases h : y.2 = 0
      · simp [h]
      · simp [h2 h]
    rw [e1, e2]; rfl
  unfold F_etchhouselaw1_GrowsByPoints
  by_cases hok : regionErr r = 0 ∧ inN n
  · obtain ⟨h, hi⟩ := hok
    obtain ⟨hg, hr⟩ := Good.of h
    obtain ⟨D, hD, s1⟩ := Shrink_ok hN r n h hi
    rw [Grow_ok hN, Option.bind_some, s1, Option.bind_some, if_pos h, if_pos hi]
    have ex : (outV (growV (setB r) n)).2 ≠ 0 → (outV (growV (setB r) n)).1 = [] := fun h1 => by
      by_cases h0 : (growV (setB r) n).2 = 0
      · rw [outV_ok h0] at h1; exact absurd rfl h1
      · rw [outV_err h0]
    have ey : (toldV D).2 ≠ 0 → (toldV D).1 = [] := fun h1 => by
      unfold toldV at *
      split
      · rfl
      · rename_i h2; rw [if_neg h2] at h1; exact absurd rfl h1
    by_cases hbad : (((((((outV (growV (setB r) n)).2 != 0) || ((toldV D).2 != 0)) || (decide (p.X < (-1000000)))) || (decide (1000000 < p.X))) || (decide (p.Y < (-1000000)))) || (decide (1000000 < p.Y))) = true
    · rw [if_pos hbad, Option.bind_some, if_pos rfl]
      exact errs _ _ ex ey
    · rw [if_neg hbad]
      simp only [Bool.or_eq_true, not_or, decide_eq_true_eq, bne_iff_ne, ne_eq, Decidable.not_not] at hbad
      obtain ⟨⟨⟨⟨⟨b1, b2⟩, b3⟩, b4⟩, b5⟩, b6⟩ := hbad
      have hn1 := hi.1; have hn2 := hi.2
      have hp : pErr p = true := pErr_iff.2 ⟨by omega, by omega⟩
      rw [w64_id (x := p.X - n) (by omega) (by omega), w64_id (x := p.Y - n) (by omega) (by omega), w64_id (x := p.X + n) (by omega) (by omega), w64_id (x := p.Y + n) (by omega) (by omega), w64_id (x := p.X + n + 1) (by omega) (by omega), w64_id (x := p.Y + n + 1) (by omega) (by omega), CheckRegion_ok hN, Option.bind_some]
      by_cases hA : regionErr [(⟨p.X - n, p.Y - n, p.X + n + 1, p.Y + n + 1⟩ : TRect)] = 0
      · rw [hA, Option.bind_some, if_neg (by simp)]
        have h0 : (growV (setB r) n).2 = 0 := by
          by_cases h0 : (growV (setB r) n).2 = 0
          · exact h0
          · rw [outV_err h0] at b1; exact absurd b1 h0
        obtain ⟨gW, pW⟩ := growV_ok hg hi.1 (W := (growV (setB r) n).1) (by rw [← h0])
        have h2 : ¬ 2000 < (rectsB D).length := fun h2 => by
          unfold toldV at b2; rw [if_pos h2] at b2; cases b2
        have gD := good_deep hg hD.ok (by omega) hD.sq
        have eD : toldV D = (rectsB D, 0) := if_neg h2
        obtain ⟨C, k1, k2, c, k3, k4⟩ := near_law hN h hi hp gW pW gD hD rfl hA
        rw [outV_ok h0, eD, k1, Option.bind_some, if_pos (by rfl), hasL_ok hN gW.region, Option.bind_some, hp, Bool.true_and, k2, Option.bind_some, hasL_ok hN gD.region, hp, Bool.true_and, k3, awake1_ok (by omega)]
        subst k4
        simp
      · rw [Option.bind_some, if_pos (by simpa using hA)]
        exact errs _ _ ex ey
  · obtain ⟨e, e0, e1, _, _, e2, _⟩ := steps_err hN r n hok
    rw [e2, Option.bind_some, e1, Option.bind_some, if_pos (by simp [e0]), Option.bind_some, if_pos rfl]
    exact errs _ _ (fun _ => rfl) (fun _ => rfl)
theorem GrowsPoints_plain (r : List TRect) (n : Int) (p : TPoint) {X Y Z : Prop} (_ : X) (_ : Y) (_ : Z) : ∃ N, F_etchhouselaw1_GrowsByPoints N r n p = some true := ⟨10000000000, growsPoints_ok (Nat.le_refl _) r n p⟩
end Go.Proofs.Ytnlhigfglfahiaa
