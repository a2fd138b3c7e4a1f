/- Regions that grow and shrink: the reference, and the law that both agree, with its fuel. Plain Lean about the plain functions. -/
import Derived.Test.YtnlhigfglfahiaaGreatW7
import Derived.Test.YtnlhigfglfahiaaGreatU3
import Derived.Test.YtnlhigfglfahiaaGreatV5
import Derived.Test.YtnlhigfglfahiaaGreatE0
namespace Go.Proofs.YtnlhigfglfahiaaGreat
theorem XL.congr {xs : List Int} {P Q : Int → Int → Prop} (h : ∀ x y, P x y ↔ Q x y) (k : XL xs P) : XL xs Q := fun x y h1 h2 => k x y ((h x y).2 h1) fun h3 => h2 ((h _ _).1 h3)
theorem YY.congr {xs : List Int} {P Q : Int → Int → Prop} (h : ∀ x y, P x y ↔ Q x y) (k : YY xs P) : YY xs Q := fun x y h1 => k x y fun h2 => h1 (by rw [← h, ← h]; exact h2)
theorem wider_ok {r : TRect} {n : Int} (hn : 0 ≤ n ∧ n ≤ 100000) (h : (-1900000000 ≤ r.X0 ∧ r.X0 < r.X1 ∧ r.X1 ≤ 1900000000) ∧ (-1900000000 ≤ r.Y0 ∧ r.Y0 < r.Y1 ∧ r.Y1 ≤ 1900000000)) : F_etchhouseref1_wider r n = some (widen n r) := by
  unfold F_etchhouseref1_wider widen
  rw [w64_id (by omega) (by omega), w64_id (by omega) (by omega), w64_id (by omega) (by omega), w64_id (by omega) (by omega)]
section
variable {N : Nat} (hN : 10000000000 ≤ N) {n : Int} (hn : 0 ≤ n ∧ n ≤ 100000)
include hN hn
theorem grownR_ok {l : List TRect} (hl : l.length ≤ 100000000) (h : ∀ r ∈ l, (-1900000000 ≤ r.X0 ∧ r.X0 < r.X1 ∧ r.X1 ≤ 1900000000) ∧ (-1900000000 ≤ r.Y0 ∧ r.Y0 < r.Y1 ∧ r.Y1 ≤ 1900000000)) : F_etchhouseref1_grown N l n = some (l.map (widen n)) := by
  have loop : ∀ (suf pre : List TRect) (m : Nat), l = pre ++ suf → suf.length < m → F_etchhouseref1_grown_L1 l n m (pre.map (widen n)) pre.length = some (l.map (widen n)) := by
    intro suf
    induction suf with
    | nil =>
      intro pre m h1 h2
      obtain ⟨m, rfl⟩ : ∃ k, m = k + 1 := ⟨m - 1, by omega⟩
      rw [F_etchhouseref1_grown_L1.eq_2, if_neg (by rw [h1]; simp), h1, List.append_nil]
    | cons r suf ih =>
      intro pre m h1 h2
      obtain ⟨m, rfl⟩ : ∃ k, m = k + 1 := ⟨m - 1, by omega⟩
      have hpl : pre.length ≤ 100000000 := by rw [h1] at hl; simp at hl; omega
      have hid : idx l (pre.length : Int) = some r := by rw [h1]; exact idx_mid pre suf r
      have e : pre.map (widen n) ++ [widen n r] = (pre ++ [r]).map (widen n) := by simp
      rw [F_etchhouseref1_grown_L1.eq_2, if_pos (by rw [h1]; exact lt_mid pre suf r), hid, Option.bind_some, wider_ok hn (h r (by rw [h1]; simp)), Option.bind_some, apd_ok (by simp; omega), Option.bind_some, e, up_mid pre r (by omega)]
      exact ih (pre ++ [r]) m (by rw [h1]; simp) (by simp at h2; omega)
  exact loop l [] N rfl (by omega)
omit hN hn in
theorem limited_ok (D : List Bd) : ((F_etchhouseref1_limited (rectsB D)).bind fun y115 => some (y115.1, y115.2)) = some (toldV D) := by
  unfold F_etchhouseref1_limited toldV
  by_cases h2 : 2000 < (rectsB D).length
  · rw [if_pos (by simp; omega), if_pos h2]; rfl
  · rw [if_neg (by simp; omega), if_neg h2]; rfl
theorem growOf_ok {l : List TRect} (h : regionErr l = 0) : F_etchhouseref1_growOf N l n = some (outV (growV (setB l) n)) := by
  obtain ⟨_, hl, hok, hr⟩ := regionErr_ok h
  have hat : ∀ x, F_etchhouseref1_At x = some (within x (-1000000) 1000000) := fun x => rfl
  have hsm := setB_small (l := l.map (widen n)) (by simp; omega)
  have loop : ∀ (suf pre : List TRect) (m : Nat), l.map (widen n) = pre ++ suf → suf.length < m → F_etchhouseref1_growOf_L1 N (l.map (widen n)) m pre.length = some (if suf.all lim = true then toldV (setB (l.map (widen n))) else ([], 1)) := by
    intro suf
    induction suf with
    | nil =>
      intro pre m h1 h2
      obtain ⟨m, rfl⟩ : ∃ k, m = k + 1 := ⟨m - 1, by omega⟩
      rw [F_etchhouseref1_growOf_L1.eq_2, if_neg (by rw [h1]; simp), Canonical_ok hN (by simp; omega) hsm.tot, Option.bind_some, limited_ok]; rfl
    | cons r suf ih =>
      intro pre m h1 h2
      obtain ⟨m, rfl⟩ : ∃ k, m = k + 1 := ⟨m - 1, by omega⟩
      have hpl : pre.length ≤ 2000 := by have := congrArg List.length h1; simp at this; omega
      have hid : idx (l.map (widen n)) (pre.length : Int) = some r := by rw [h1]; exact idx_mid pre suf r
      have hlim : lim r = (((within r.X0 (-1000000) 1000000 && within r.Y0 (-1000000) 1000000) && within r.X1 (-1000000) 1000000) && within r.Y1 (-1000000) 1000000) := rfl
      rw [F_etchhouseref1_growOf_L1.eq_2, if_pos (by rw [h1]; exact lt_mid pre suf r), hid, Option.bind_some, hat, hat, hat, hat, up_mid pre r (by omega), ih (pre ++ [r]) m (by rw [h1]; simp) (by simp at h2; omega), List.all_cons, hlim]
      cases within r.X0 (-1000000) 1000000 <;> cases within r.Y0 (-1000000) 1000000 <;> cases within r.X1 (-1000000) 1000000 <;> cases within r.Y1 (-1000000) 1000000 <;> simp
  unfold F_etchhouseref1_growOf
  rw [grownR_ok hN hn (by omega) (lim_of_ok hok), Option.bind_some]
  have := loop (l.map (widen n)) [] N rfl (by simp; omega)
  rw [show ((([] : List TRect).length : Nat) : Int) = 0 from rfl] at this
  rw [this]
  unfold outV growV toldV
  rw [hr]
  cases (l.map (widen n)).all lim
  · rfl
  · rw [if_pos rfl, if_pos rfl]
    by_cases h2 : 2000 < (rectsB (setB (l.map (widen n)))).length
    · rw [if_pos h2, if_pos h2]; rfl
    · rw [if_neg h2, if_neg h2]; rfl
omit hN hn in
theorem Kept3 {a b : List TRect} {x y : Int} : KeptR (wayK 3) a b x y ↔ InR x y a ∧ ¬ InR x y b := by
  unfold KeptR
  constructor
  · rintro ⟨p, q, hp, hq, hk⟩
    unfold wayK at hk
    simp at hk
    exact ⟨hp.1 hk.1, fun h => by have := hq.2 h; rw [hk.2] at this; cases this⟩
  · rintro ⟨h1, h2⟩
    exact ⟨true, false, ⟨fun _ => h1, fun _ => rfl⟩, ⟨fun h => Bool.noConfusion h, fun h => absurd h h2⟩, rfl⟩
theorem shrinkOf_ok {l : List TRect} (h : regionErr l = 0) : ∃ D, ShrOk (setB l) n D ∧ F_etchhouseref1_shrinkOf N l n = some (toldV D) := by
  obtain ⟨_, hl, hok, hr⟩ := regionErr_ok h
  obtain ⟨bs, is⟩ := setB_ok (ROk.ne hok)
  by_cases hne : l = []
  · subst hne
    refine ⟨[], ⟨⟨⟨0, trivial⟩, by simp⟩, fun x y => ⟨fun h => absurd h InS_nil, fun h => absurd ((is x y).1 h.1) (by unfold InR; simp)⟩⟩, ?_⟩
    unfold F_etchhouseref1_shrinkOf
    rw [if_pos (by simp)]; rfl
  · obtain ⟨q, q1, q2⟩ := BoundsOf_ok hN hne (by omega) (ROk.ne hok)
    obtain ⟨u0, e0⟩ := q2.x0
    obtain ⟨u1, e1⟩ := q2.x1
    obtain ⟨u2, e2⟩ := q2.y0
    obtain ⟨u3, e3⟩ := q2.y1
    have l0 := InR_lim hok e0; have l1 := InR_lim hok e1; have l2 := InR_lim hok e2; have l3 := InR_lim hok e3
    have a0 := q2.all _ _ e0; have a2 := q2.all _ _ e2
    have hqlim : (-1900000000 ≤ q.X0 ∧ q.X0 < q.X1 ∧ q.X1 ≤ 1900000000) ∧ (-1900000000 ≤ q.Y0 ∧ q.Y0 < q.Y1 ∧ q.Y1 ≤ 1900000000) := by omega
    have hbne : ∀ r ∈ [widen n q], r.X0 < r.X1 ∧ r.Y0 < r.Y1 := by
      intro r hr
      simp at hr
      subst hr
      show q.X0 - n < q.X1 + n ∧ q.Y0 - n < q.Y1 + n
      omega
    obtain ⟨C, c1, c2, c3, c4, c5⟩ := combined_ok (w := 3) hN hbne (ROk.ne hok) (by simp; omega)
    have hct := rectsB_len (R := 4002) (l := C) fun c hc => by have := c4 c hc; simp at this; omega
    have hcl : C.length ≤ 4002 := by simp at c3; omega
    have hpC : ∀ x y, InB x y C ↔ InR x y [widen n q] ∧ ¬ InR x y l := fun x y => (c2 x y).trans Kept3
    have hCl := rectsB_lim c1 (m := 1900000000) fun x y hx => by
      obtain ⟨⟨r, hr, h1, h2⟩, _⟩ := (hpC x y).1 hx
      simp at hr
      subst hr
      have h1 : q.X0 - n ≤ x ∧ x < q.X1 + n := h1
      have h2 : q.Y0 - n ≤ y ∧ y < q.Y1 + n := h2
      omega
    have hEne := widen_ne hn.1 (rectsB_ne c1)
    obtain ⟨be, ie⟩ := setB_ok hEne
    have hEr : ∀ x y, InB x y (setB ((rectsB C).map (widen n))) ↔ Nr n (fun u v => InR u v [widen n q] ∧ ¬ InR u v l) x y := fun x y => by
      rw [ie, InR_widen hn.1 (rectsB_ne c1)]
      exact Nr_congr (fun u v => (InR_rectsB c1 u v).trans (hpC u v)) x y
    -- where it begins, ends and changes
    obtain ⟨b1, b2, b3⟩ := edges_R [widen n q]
    obtain ⟨r1, r2, r3⟩ := edges_R l
    obtain ⟨d1, d2, d3⟩ := edges_less b1 b2 b3 r1 r2 r3
    obtain ⟨n1, n2, n3⟩ := edges_near (n := n) d1 d2 d3
    have hE := tot_edges be (n1.congr fun x y => (hEr x y).symm) (n3.congr fun x y => (hEr x y).symm)
    have hElen : (rectsB (setB ((rectsB C).map (widen n)))).length ≤ 2001 * 8004 := by
      refine Nat.le_trans hE.2.2 (Nat.mul_le_mul ?_ ?_)
      · simp; omega
      · simp [ysOfR_len]; omega
    obtain ⟨D, g1, g2, g3, g4, g5⟩ := combined_ok (w := 3) hN (ROk.ne hok) (rectsB_ne be) (by omega)
    have hpD : ∀ x y, InB x y D ↔ InR x y l ∧ ¬ Nr n (fun u v => InR u v [widen n q] ∧ ¬ InR u v l) x y := fun x y => by
      rw [g2, Kept3, InR_rectsB be, hEr]
    obtain ⟨m1, _, m3⟩ := edges_less r1 r2 r3 n1 n2 n3
    have hD := tot_edges g1 (m1.congr fun x y => (hpD x y).symm) (m3.congr fun x y => (hpD x y).symm)
    have hDlen : (rectsB D).length ≤ 4001 * 12004 := by
      refine Nat.le_trans hD.2.2 (Nat.mul_le_mul ?_ ?_)
      · simp; omega
      · simp [ysOfR_len]; omega
    refine ⟨D, ⟨g1, fun x y => ?_⟩, ?_⟩
    · rw [hpD]
      refine (core_pts hn.1 (S := fun u v => InR u v l) (B := fun u v => InR u v [widen n q]) (fun x y hx u v hu hv => ?_) x y).trans ?_
      · have := q2.all x y hx
        refine ⟨widen n q, by simp, ?_, ?_⟩
        · show q.X0 - n ≤ u ∧ u < q.X1 + n; omega
        · show q.Y0 - n ≤ v ∧ v < q.Y1 + n; omega
      · unfold Deep
        simp only [is]
    · unfold F_etchhouseref1_shrinkOf
      rw [if_neg (by simp; exact hne), q1, Option.bind_some, wider_ok hn hqlim, Option.bind_some, c5 (by omega), Option.bind_some, grownR_ok hN hn (by omega) hCl, Option.bind_some, Canonical_ok hN (by simp; omega) (by omega), Option.bind_some, g5 (by omega), Option.bind_some]
      exact limited_ok D
end
theorem checkGrow_ok {N : Nat} (hN : 10000000000 ≤ N) (r : List TRect) (n : Int) : F_etchhouseref1_checkGrow N r n = some (if regionErr r = 0 then if inN n then 0 else 1 else regionErr r) := by
  unfold F_etchhouseref1_checkGrow
  rw [CheckRegionR_ok hN, Option.bind_some]
  by_cases h : regionErr r = 0
  · have hw : F_etchhouseref1_within n 0 100000 = some (within n 0 100000) := rfl
    rw [if_neg (by simpa using h), if_pos h, hw, Option.bind_some]
    by_cases hi : inN n
    · rw [if_neg (by rw [Bool.not_eq_true', Bool.not_eq_false]; exact within_iff.2 hi), if_pos hi]
    · rw [if_pos (by rw [Bool.not_eq_true', Bool.eq_false_iff]; exact fun h => hi (within_iff.1 h)), if_neg hi]
  · rw [if_pos (by simpa using h), if_neg h]
theorem pair_err {N : Nat} (hN : 10000000000 ≤ N) (r : List TRect) (n : Int) (h : ¬ (regionErr r = 0 ∧ inN n)) : ∃ e : Int, e ≠ 0 ∧ F_etchhouseref1_checkGrow N r n = some e ∧ F_shape_Shrink N r n = some ([], e) ∧ F_shape_Opened N r n = some ([], e) ∧ F_shape_Closed N r n = some ([], e) ∧ F_shape_Grow N r n = some ([], e) := by
  obtain ⟨e, e0, e1, e2, e3, e4, e5⟩ := steps_err hN r n h
  refine ⟨e, e0, ?_, e1, e2, e3, e4⟩
  rw [checkGrow_ok hN, e5]
  by_cases h1 : regionErr r = 0
  · rw [if_pos h1, if_pos h1, if_neg fun h2 => h ⟨h1, h2⟩]
  · rw [if_neg h1, if_neg h1]
theorem pair_ok {N : Nat} (hN : 10000000000 ≤ N) (r : List TRect) (n : Int) (h : regionErr r = 0 ∧ inN n) : F_etchhouseref1_checkGrow N r n = some 0 := by
  rw [checkGrow_ok hN, if_pos h.1, if_pos h.2]
theorem mGrow {N : Nat} (hN : 10000000000 ≤ N) (r : List TRect) (n : Int) : ∃ a, F_shape_Grow N r n = some a ∧ F_etchhouseref1_Grow N r n = some a := by
  unfold F_etchhouseref1_Grow
  by_cases hok : regionErr r = 0 ∧ inN n
  · rw [pair_ok hN r n hok, Option.bind_some, if_neg (by simp), growOf_ok hN hok.2 hok.1, Grow_ok hN, if_pos hok.1, if_pos hok.2]
    exact ⟨_, rfl, rfl⟩
  · obtain ⟨e, e0, e1, _, _, _, e5⟩ := pair_err hN r n hok
    rw [e1, Option.bind_some, if_pos (by simpa using e0), e5]
    exact ⟨_, rfl, rfl⟩
theorem mShrink {N : Nat} (hN : 10000000000 ≤ N) (r : List TRect) (n : Int) : ∃ a, F_shape_Shrink N r n = some a ∧ F_etchhouseref1_Shrink N r n = some a := by
  unfold F_etchhouseref1_Shrink
  by_cases hok : regionErr r = 0 ∧ inN n
  · obtain ⟨D, hD, s1⟩ := Shrink_ok hN r n hok.1 hok.2
    obtain ⟨D2, hD2, t1⟩ := shrinkOf_ok hN hok.2 hok.1
    obtain rfl := hD2.uniq hD
    rw [pair_ok hN r n hok, Option.bind_some, if_neg (by simp), t1, s1]
    exact ⟨_, rfl, rfl⟩
  · obtain ⟨e, e0, e1, e2, _, _, _⟩ := pair_err hN r n hok
    rw [e1, Option.bind_some, if_pos (by simpa using e0), e2]
    exact ⟨_, rfl, rfl⟩
theorem mOpened {N : Nat} (hN : 10000000000 ≤ N) (r : List TRect) (n : Int) : ∃ a, F_shape_Opened N r n = some a ∧ F_etchhouseref1_Opened N r n = some a := by
  unfold F_etchhouseref1_Opened
  by_cases hok : regionErr r = 0 ∧ inN n
  · obtain ⟨hg, _⟩ := Good.of hok.1
    obtain ⟨D, hD, s1⟩ := Opened_ok hN r n hok.1 hok.2
    obtain ⟨D2, hD2, t1⟩ := shrinkOf_ok hN hok.2 hok.1
    obtain rfl := hD2.uniq hD
    rw [pair_ok hN r n hok, Option.bind_some, if_neg (by simp), t1, s1, Option.bind_some]
    unfold toldV
    by_cases h2 : 2000 < (rectsB D2).length
    · rw [if_pos h2, if_pos h2]
      exact ⟨_, rfl, rfl⟩
    · have gD := good_deep hg hD.ok (by omega) hD.sq
      rw [if_neg h2, if_neg h2, if_neg (by simp), growOf_ok hN hok.2 gD.region, setB_rectsB gD.ok]
      exact ⟨_, rfl, rfl⟩
  · obtain ⟨e, e0, e1, _, e3, _, _⟩ := pair_err hN r n hok
    rw [e1, Option.bind_some, if_pos (by simpa using e0), e3]
    exact ⟨_, rfl, rfl⟩
theorem mClosed {N : Nat} (hN : 10000000000 ≤ N) (r : List TRect) (n : Int) : ∃ a, F_shape_Closed N r n = some a ∧ F_etchhouseref1_Closed N r n = some a := by
  unfold F_etchhouseref1_Closed
  by_cases hok : regionErr r = 0 ∧ inN n
  · obtain ⟨hg, _⟩ := Good.of hok.1
    rw [pair_ok hN r n hok, Option.bind_some, if_neg (by simp), growOf_ok hN hok.2 hok.1, Option.bind_some]
    rcases Closed_ok hN r n hok.1 hok.2 with ⟨h0, h1⟩ | ⟨h0, D, hD, h1⟩
    · have e : outV (growV (setB r) n) = ([], (growV (setB r) n).2) := if_neg h0
      rw [h1, e, if_pos (by simpa using h0)]
      exact ⟨_, rfl, rfl⟩
    · have e : outV (growV (setB r) n) = (rectsB (growV (setB r) n).1, 0) := if_pos h0
      obtain ⟨gW, _⟩ := growV_ok hg hok.2.1 (W := (growV (setB r) n).1) (by rw [← h0])
      obtain ⟨D2, hD2, t1⟩ := shrinkOf_ok hN hok.2 gW.region
      rw [setB_rectsB gW.ok] at hD2
      obtain rfl := hD2.uniq hD
      rw [h1, e, if_neg (by simp), t1]
      exact ⟨_, rfl, rfl⟩
  · obtain ⟨e, e0, e1, _, _, e4, _⟩ := pair_err hN r n hok
    rw [e1, Option.bind_some, if_pos (by simpa using e0), e4]
    exact ⟨_, rfl, rfl⟩
theorem growsMatch_ok {N : Nat} (hN : 10000000000 ≤ N) (r : List TRect) (n : Int) : F_etchhouselaw1_GrowsMatchSpec N r n = some true := by
  unfold F_etchhouselaw1_GrowsMatchSpec
  obtain ⟨a, a1, a2⟩ := mGrow hN r n
  obtain ⟨b, b1, b2⟩ := mShrink hN r n
  obtain ⟨c, c1, c2⟩ := mOpened hN r n
  obtain ⟨d, d1, d2⟩ := mClosed hN r n
  have eq : ∀ l : List TRect, F_slices_Equal_Rect l l = some true := fun l => by
    obtain ⟨b, b1, b2⟩ := EqualR_ok l l
    obtain rfl : b = true := b2.2 rfl
    exact b1
  rw [a1, Option.bind_some, a2, Option.bind_some, eq, Option.bind_some, if_neg (by simp), b1, Option.bind_some, b2, Option.bind_some, eq, Option.bind_some, if_neg (by simp), c1, Option.bind_some, c2, Option.bind_some, eq, Option.bind_some, if_neg (by simp), d1, Option.bind_some, d2, Option.bind_some, eq, awake1_ok (by omega)]
  simp
theorem GrowsMatch_plain (r : List TRect) (n : Int) {X Y : Prop} (_ : X) (_ : Y) : ∃ N, F_etchhouselaw1_GrowsMatchSpec N r n = some true := ⟨10000000000, growsMatch_ok (Nat.le_refl _) r n⟩
end Go.Proofs.YtnlhigfglfahiaaGreat
