/- Regions that grow and shrink: the program. Plain Lean about the plain functions. -/
import Derived.Test.YtnlhigfglfahiaaV3
import Derived.Test.YtnlhigfglfahiaaW1
namespace Go.Proofs.Ytnlhigfglfahiaa
theorem bands_le {C : List Bd} (h : ∀ b ∈ C, b.2.2 ≠ []) : C.length ≤ (rectsB C).length := by
  induction C with
  | nil => simp
  | cons b l ih =>
    rw [rectsB_cons, List.length_append, rectsOf_len, List.length_cons]
    have := ih fun c hc => h c (by simp [hc])
    have := List.length_pos_iff.2 (h b (by simp))
    omega
theorem BOk.le {C : List Bd} (h : BOk C) : C.length ≤ (rectsB C).length := by
  obtain ⟨lo, hc⟩ := h.can
  exact bands_le fun b hb => (hc.mem b hb).2.2
/-- Rectangles of squares within limits. -/
theorem rectsB_lim {C : List Bd} (h : BOk C) {m : Int} (hx : ∀ x y, InB x y C → (-m ≤ x ∧ x < m) ∧ (-m ≤ y ∧ y < m)) : ∀ r ∈ rectsB C, (-m ≤ r.X0 ∧ r.X0 < r.X1 ∧ r.X1 ≤ m) ∧ (-m ≤ r.Y0 ∧ r.Y0 < r.Y1 ∧ r.Y1 ≤ m) := fun r hr => by
  have hne := rectsB_ne h r hr
  have h1 := hx r.X0 r.Y0 ((InR_rectsB h _ _).1 ⟨r, hr, ⟨Int.le_refl _, hne.1⟩, ⟨Int.le_refl _, hne.2⟩⟩)
  have h2 := hx (r.X1 - 1) (r.Y1 - 1) ((InR_rectsB h _ _).1 ⟨r, hr, ⟨by omega, by omega⟩, ⟨by omega, by omega⟩⟩)
  omega
theorem widen_r9 {n : Int} (hn : 0 ≤ n ∧ n ≤ 100000) {l : List TRect} (h : ∀ r ∈ l, (-1900000000 ≤ r.X0 ∧ r.X0 < r.X1 ∧ r.X1 ≤ 1900000000) ∧ (-1900000000 ≤ r.Y0 ∧ r.Y0 < r.Y1 ∧ r.Y1 ≤ 1900000000)) : ∀ r ∈ l.map (widen n), R9 r := fun r hr => by
  obtain ⟨q, hq, rfl⟩ := List.mem_map.1 hr
  have := h q hq
  constructor <;> simp only [widen] <;> omega
theorem lim_of_ok {l : List TRect} (h : ∀ r ∈ l, ROk r) : ∀ r ∈ l, (-1900000000 ≤ r.X0 ∧ r.X0 < r.X1 ∧ r.X1 ≤ 1900000000) ∧ (-1900000000 ≤ r.Y0 ∧ r.Y0 < r.Y1 ∧ r.Y1 ≤ 1900000000) := fun r hr => by
  have k := h r hr
  have := k.x0; have := k.x1; have := k.y0; have := k.y1; have h1 := k.x; have h2 := k.y
  omega
section
variable {N : Nat} (hN : 10000000000 ≤ N) {n : Int} (hn : 0 ≤ n ∧ n ≤ 100000)
include hN hn
theorem Spread_ok {S : List Bd} (hS : BOk S) (ht : (rectsB S).length ≤ 100000000) (hlim : ∀ r ∈ rectsB S, (-1900000000 ≤ r.X0 ∧ r.X0 < r.X1 ∧ r.X1 ≤ 1900000000) ∧ (-1900000000 ≤ r.Y0 ∧ r.Y0 < r.Y1 ∧ r.Y1 ≤ 1900000000)) : F_shape_Set__Spread N (S.map toP) n n n n = some ((setB ((rectsB S).map (widen n))).map toP) := by
  have hle := hS.le
  have loop : ∀ (suf pre : List TRect) (m : Nat), rectsB S = pre ++ suf → suf.length < m → F_shape_Set__Spread_L1 N n n n n (rectsB S) m (pre.map (widen n) ++ suf) pre.length = some ((setB ((rectsB S).map (widen n))).map toP) := by
    intro suf
    induction suf with
    | nil =>
      intro pre m h1 h2
      obtain ⟨m, rfl⟩ : ∃ k, m = k + 1 := ⟨m - 1, by omega⟩
      rw [List.append_nil] at h1
      rw [F_shape_Set__Spread_L1.eq_2, if_neg (by rw [h1]; simp), List.append_nil, ← h1, SetOf_ok hN (by simp; omega) (widen_r9 hn hlim)]; rfl
    | cons r suf ih =>
      intro pre m h1 h2
      obtain ⟨m, rfl⟩ : ∃ k, m = k + 1 := ⟨m - 1, by omega⟩
      have hpl : pre.length ≤ 100000000 := by rw [h1] at ht; simp at ht; omega
      have hr := hlim r (by rw [h1]; simp)
      have e0 : (pre.length : Int) = ((pre.map (widen n)).length : Int) := by simp
      have hid : idx (pre.map (widen n) ++ r :: suf) (pre.length : Int) = some r := by rw [e0]; exact idx_mid _ suf r
      have hset : sets (pre.map (widen n) ++ r :: suf) (pre.length : Int) (widen n r) = some ((pre ++ [r]).map (widen n) ++ suf) := by
        unfold sets
        rw [if_pos ⟨by omega, by simp⟩]
        simp
      have hw : TRect.mk (w64 (r.X0 - n)) (w64 (r.Y0 - n)) (w64 (r.X1 + n)) (w64 (r.Y1 + n)) = widen n r := by
        rw [w64_id (by omega) (by omega), w64_id (by omega) (by omega), w64_id (by omega) (by omega), w64_id (by omega) (by omega)]; rfl
      rw [F_shape_Set__Spread_L1.eq_2, if_pos (by rw [h1]; exact lt_mid pre suf r), hid, Option.bind_some, Option.bind_some, hw, hset, Option.bind_some, up_mid pre r (by omega)]
      exact ih (pre ++ [r]) m (by rw [h1]; simp) (by simp at h2; omega)
  unfold F_shape_Set__Spread
  rw [Rects_ok hN ⟨by omega, fun b hb => by have := rectsB_row hb; omega, by omega⟩, Option.bind_some]
  exact loop (rectsB S) [] N rfl (by omega)
/-- What grows of a set, if it fits. -/
def growV (S : List Bd) (n : Int) : List Bd × Int :=
  if ((rectsB S).map (widen n)).all lim = true then if 2000 < (rectsB (setB ((rectsB S).map (widen n)))).length then ([], 2) else (setB ((rectsB S).map (widen n)), 0) else ([], 1)
theorem grown_ok {S : List Bd} (hS : BOk S) (ht : (rectsB S).length ≤ 2000) (hok : ∀ r ∈ rectsB S, ROk r) : F_shape_grown N (S.map toP) n = some ((growV S n).1.map toP, (growV S n).2) := by
  unfold F_shape_grown F_shape_Set__Wide
  have hsm := setB_small (l := (rectsB S).map (widen n)) (by simp; omega)
  rw [Spread_ok hN hn hS (by omega) (lim_of_ok hok), Option.bind_some, Option.bind_some, Fits_ok (by simp; omega) (widen_ne hn.1 (rectsB_ne hS)), Option.bind_some, Many_ok (by have := hsm.tot; omega)]
  unfold growV
  cases ((rectsB S).map (widen n)).all lim
  · rfl
  · rw [if_neg (by simp), if_pos rfl, Option.bind_some]
    by_cases h2 : 2000 < (rectsB (setB ((rectsB S).map (widen n)))).length
    · rw [if_pos (by simp; omega), if_pos h2]; rfl
    · rw [if_neg (by simp; omega), if_neg h2]
theorem shrunk_ok {S : List Bd} (hS : BOk S) (ht : (rectsB S).length ≤ 2000) (hok : ∀ r ∈ rectsB S, ROk r) : ∃ D, BOk D ∧ (∀ x y, InB x y D ↔ InB x y S ∧ Deep n (fun u v => InB u v S) x y) ∧ F_shape_shrunk N (S.map toP) n = some (if 2000 < (rectsB D).length then ([], 2) else (D.map toP, 0)) := by
  have fin : ∀ D, (rectsB D).length ≤ 1000000000000000000 → F_shape_Set__Core N (S.map toP) n n n n = some (D.map toP) → F_shape_shrunk N (S.map toP) n = some (if 2000 < (rectsB D).length then ([], 2) else (D.map toP, 0)) := fun D hD hc => by
    unfold F_shape_shrunk F_shape_Set__Deep
    rw [hc, Option.bind_some, Option.bind_some, Many_ok hD, Option.bind_some]
    by_cases h2 : 2000 < (rectsB D).length
    · rw [if_pos (by simp; omega), if_pos h2]
    · rw [if_neg (by simp; omega), if_neg h2]
  by_cases hne : S = []
  · subst hne
    refine ⟨[], ⟨⟨0, trivial⟩, by simp⟩, fun x y => ⟨fun h => absurd h InS_nil, fun h => h.1⟩, fin [] (by simp [rectsB]) ?_⟩
    unfold F_shape_Set__Core
    rw [if_pos (by simp)]; rfl
  · have hle := hS.le
    obtain ⟨q, q1, q2⟩ := Around_ok hS hne (by omega) (fun b hb => by have := rectsB_row hb; omega)
    have hlimS : ∀ x y, InB x y S → (-1000000 ≤ x ∧ x < 1000000) ∧ (-1000000 ≤ y ∧ y < 1000000) := fun x y hx => InR_lim hok ((InR_rectsB hS x y).2 hx)
    obtain ⟨u0, e0⟩ := q2.x0
    obtain ⟨u1, e1⟩ := q2.x1
    obtain ⟨u2, e2⟩ := q2.y0
    obtain ⟨u3, e3⟩ := q2.y1
    have l0 := hlimS _ _ e0; have l1 := hlimS _ _ e1; have l2 := hlimS _ _ e2; have l3 := hlimS _ _ e3
    have a0 := q2.all _ _ e0; have a1 := q2.all _ _ e1; have a2 := q2.all _ _ e2; have a3 := q2.all _ _ e3
    obtain ⟨box, hbox⟩ : ∃ box : TRect, box = ⟨q.X0 - (4 * n + 1), q.Y0 - (4 * n + 1), q.X1 + (4 * n + 1), q.Y1 + (4 * n + 1)⟩ := ⟨_, rfl⟩
    have hb9 : ∀ r ∈ [box], R9 r := by
      intro r hr
      simp at hr
      subst hr hbox
      constructor <;> simp only <;> omega
    have hbne : ∀ r ∈ [box], r.X0 < r.X1 ∧ r.Y0 < r.Y1 := fun r hr => ⟨(hb9 r hr).x, (hb9 r hr).y⟩
    have hbl := setB_len [box]
    obtain ⟨bb, ib⟩ := setB_ok hbne
    have hwn : w64 (w64 (w64 (w64 (n + n) + n) + n) + 1) = 4 * n + 1 := by
      rw [w64_id (x := n + n) (by omega) (by omega), w64_id (x := n + n + n) (by omega) (by omega), w64_id (x := n + n + n + n) (by omega) (by omega), w64_id (by omega) (by omega)]; omega
    have hbw : TRect.mk (w64 (q.X0 - (4 * n + 1))) (w64 (q.Y0 - (4 * n + 1))) (w64 (q.X1 + (4 * n + 1))) (w64 (q.Y1 + (4 * n + 1))) = box := by
      rw [hbox, w64_id (by omega) (by omega), w64_id (by omega) (by omega), w64_id (by omega) (by omega), w64_id (by omega) (by omega)]
    obtain ⟨C, c1, c2, c3, c4, c5⟩ := Merge_ok (k := fun p q => p && !q) (f := fun z0 z1 => F_shape_Set__Less_1 z0 z1) (fun _ _ => rfl) rfl hN (R1 := 1) (R2 := 2000) bb hS (fun b hb => by have := hbl.2 b hb; simpa using this) (fun b hb => by have := rectsB_row hb; omega) (by omega) (by have := hbl.1; simp at this; omega)
    have hct := rectsB_len (R := 2001) (l := C) fun c hc => by have := c5 c hc; omega
    have hcl : C.length ≤ 4005 := by have := hbl.1; simp at this; omega
    have hpC : ∀ x y, InB x y C ↔ (InR x y [box] ∧ ¬ InB x y S) := fun x y => by
      rw [c3]
      unfold Kept
      constructor
      · rintro ⟨p, q', hp, hq, hk⟩
        simp at hk
        exact ⟨(ib x y).1 (hp.1 hk.1), fun h => by have := hq.2 h; rw [hk.2] at this; cases this⟩
      · rintro ⟨h1, h2⟩
        exact ⟨true, false, ⟨fun _ => (ib x y).2 h1, fun _ => rfl⟩, ⟨fun h => Bool.noConfusion h, fun h => absurd h h2⟩, rfl⟩
    have hCl := rectsB_lim c2 (m := 1900000000) fun x y hx => by
      obtain ⟨⟨r, hr, h1, h2⟩, _⟩ := (hpC x y).1 hx
      simp at hr
      subst hr
      rw [hbox] at h1 h2
      simp only at h1 h2
      omega
    have hEne := widen_ne hn.1 (rectsB_ne c2)
    obtain ⟨be, ie⟩ := setB_ok hEne
    obtain ⟨s1, s2⟩ := setB_len ((rectsB C).map (widen n))
    have hEr : ∀ x y, InB x y (setB ((rectsB C).map (widen n))) ↔ Nr n (fun u v => InR u v [box] ∧ ¬ InB u v S) x y := fun x y => by
      rw [ie, InR_widen hn.1 (rectsB_ne c2)]
      exact Nr_congr (fun u v => (InR_rectsB c2 u v).trans (hpC u v)) x y
    obtain ⟨D, d1, d2, d3, d4, d5⟩ := Merge_ok (k := fun p q => p && !q) (f := fun z0 z1 => F_shape_Set__Less_1 z0 z1) (fun _ _ => rfl) rfl hN (R1 := 2000) (R2 := 8014005) hS be (fun b hb => by have := rectsB_row hb; omega) (fun b hb => by have := s2 b hb; simp at this; omega) (by omega) (by simp at s1; omega)
    have hdt := rectsB_len (R := 8016005) (l := D) fun c hc => by have := d5 c hc; omega
    have hdl : D.length ≤ 33000000 := by simp at s1; omega
    refine ⟨D, d2, fun x y => ?_, fin D (Nat.le_trans hdt (Nat.le_trans (Nat.mul_le_mul_left _ hdl) (by omega))) ?_⟩
    · rw [d3]
      refine Iff.trans ?_ (core_pts hn.1 (S := fun u v => InB u v S) (B := fun u v => InR u v [box]) (fun x y hx u v hu hv => ?_) x y)
      · unfold Kept
        constructor
        · rintro ⟨p, q', hp, hq, hk⟩
          simp at hk
          exact ⟨hp.1 hk.1, fun h => by have := hq.2 ((hEr x y).2 h); rw [hk.2] at this; cases this⟩
        · rintro ⟨h1, h2⟩
          exact ⟨true, false, ⟨fun _ => h1, fun _ => rfl⟩, ⟨fun h => Bool.noConfusion h, fun h => absurd ((hEr x y).1 h) h2⟩, rfl⟩
      · have := q2.all x y hx
        refine ⟨box, by simp, ?_, ?_⟩
        · rw [hbox]; show q.X0 - (4 * n + 1) ≤ u ∧ u < q.X1 + (4 * n + 1); omega
        · rw [hbox]; show q.Y0 - (4 * n + 1) ≤ v ∧ v < q.Y1 + (4 * n + 1); omega
    · unfold F_shape_Set__Core F_shape_Set__Less
      have hlen := List.length_pos_iff.2 hne
      rw [if_neg (by simp; exact hne), q1, Option.bind_some, hwn, hbw, SetOf_ok hN (by simp) hb9, Option.bind_some, c1, Option.bind_some, Option.bind_some, Spread_ok hN hn c2 (by omega) hCl, Option.bind_some, d1]
      rfl
end
end Go.Proofs.Ytnlhigfglfahiaa
