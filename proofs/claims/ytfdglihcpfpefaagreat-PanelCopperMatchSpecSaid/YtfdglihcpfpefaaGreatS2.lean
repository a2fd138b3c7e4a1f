/- Sets of rectangles: the program's bands are the ones. Plain Lean about the plain functions. -/
import Derived.Test.YtfdglihcpfpefaaGreatS1
namespace Go.Proofs.YtfdglihcpfpefaaGreat
/-- Strictly ascending lists with the same members are one list. -/
theorem strict_uniq : ∀ {l m : List Int}, l.Pairwise (fun x y => x < y) → m.Pairwise (fun x y => x < y) → (∀ x, x ∈ l ↔ x ∈ m) → l = m
  | [], [], _, _, _ => rfl
  | [], y :: m, _, _, h => by have := (h y).2 (by simp); simp at this
  | x :: l, [], _, _, h => by have := (h x).1 (by simp); simp at this
  | x :: l, y :: m, h1, h2, h => by
    rw [List.pairwise_cons] at h1 h2
    have hxy : x = y := by
      have a := (h x).1 (by simp)
      have b := (h y).2 (by simp)
      rcases List.mem_cons.1 a with a | a
      · exact a
      · rcases List.mem_cons.1 b with b | b
        · exact b.symm
        · have := h1.1 y b; have := h2.1 x a; omega
    subst hxy
    rw [strict_uniq h1.2 h2.2 fun z => by
      have hz := h z
      simp only [List.mem_cons] at hz
      constructor
      · intro hm
        have hne : z ≠ x := by have := h1.1 z hm; omega
        rcases hz.1 (.inr hm) with e | e
        · exact absurd e hne
        · exact e
      · intro hm
        have hne : z ≠ x := by have := h2.1 z hm; omega
        rcases hz.2 (.inr hm) with e | e
        · exact absurd e hne
        · exact e]
theorem srtd_perm {l m : List Int} (h : ∀ x, x ∈ l ↔ x ∈ m) : srtd l = srtd m := strict_uniq (srtd_strict l) (srtd_strict m) fun x => by rw [srtd_mem, srtd_mem, h]
theorem mem_ysOfR {l : List TRect} {y : Int} : y ∈ ysOfR l ↔ ∃ r ∈ l, y = r.Y0 ∨ y = r.Y1 := by
  unfold ysOfR
  simp [List.mem_flatMap]
theorem ysOfR_len : ∀ l : List TRect, (ysOfR l).length = 2 * l.length
  | [] => rfl
  | r :: l => by
    show ([r.Y0, r.Y1] ++ ysOfR l).length = _
    rw [List.length_append, ysOfR_len l]; simp; omega
theorem srtd_len (l : List Int) : (srtd l).length ≤ l.length := by
  unfold srtd
  exact Nat.le_trans (cpI_len _) (by rw [List.length_mergeSort]; exact Nat.le_refl _)
theorem pushB_len (l : List Bd) (b : Bd) : (pushB l b).length ≤ l.length + 1 := by
  by_cases he : b.2.2 = []
  · rw [pushB_empty he]; omega
  · rcases List.eq_nil_or_concat l with rfl | ⟨j, c, h⟩
    · rw [pushB_nil he]; simp
    · rw [List.concat_eq_append] at h
      subst h
      rw [pushB_snoc he]
      split <;> simp
section
variable {N : Nat} {l M : List TRect} {ys : List Int} (hN : 10000000000 ≤ N) (hMl : M.length ≤ 100000000) (hok : ∀ r ∈ M, R9 r) (hyl : ys.length ≤ 200000000)
include hN hMl hok hyl
omit hN hyl in
theorem set_in {k a b : Int} {bands : List Bd} (hbl : bands.length ≤ 250000000) (hk0 : 0 ≤ k ∧ k ≤ 250000000) (ha : idx ys k = some a) (hb : idx ys (k + 1) = some b) (hab : a < b) {K : Int → List TBand → List TRect → Int → Option (List TBand)} : ∀ (suf pre now : List TRect) (m : Nat), M = pre ++ suf → suf.length < m → (∀ r ∈ now, R9 r) → now.length + suf.length ≤ 150000000 →
    ∃ t suf' now', suf = t ++ suf' ∧ (∀ r ∈ t, r.Y0 ≤ a) ∧ (∀ r, suf'.head? = some r → a < r.Y0) ∧ now'.Perm (now ++ t) ∧
      F_shape_SetOf_L5 M ys k (bands.map toP) K m now pre.length = K (k + 1) ((pushB bands (a, b, covS ((now ++ t).map xsR))).map toP) now' (pre ++ t).length
  | suf, pre, now, 0, _, h, _, _ => absurd h (Nat.not_lt_zero _)
  | [], pre, now, m + 1, h1, _, h3, h4 => by
    obtain ⟨now', p1, p2⟩ := stretches_ok (l := now) (by simp at h4; omega) h3
    refine ⟨[], [], now', rfl, by simp, by simp, by simpa using p1, ?_⟩
    have hpush := push_ok (l := bands) (b := (a, b, covS (now.map xsR))) (by omega) hab
    rw [F_shape_SetOf_L5.eq_2, if_neg (by rw [h1]; simp), Option.bind_some, if_neg (by simp), ha, Option.bind_some, w64_id (by omega) (by omega), hb, Option.bind_some, p2, Option.bind_some]
    show (F_shape_Set__push (bands.map toP) (toP (a, b, covS (now.map xsR)))).bind _ = _
    rw [hpush, Option.bind_some]
    simp
  | r :: suf, pre, now, m + 1, h1, h2, h3, h4 => by
    have hrM : r ∈ M := by rw [h1]; simp
    have hpl : pre.length ≤ 100000000 := by rw [h1] at hMl; simp at hMl; omega
    have hid : idx M (pre.length : Int) = some r := by rw [h1]; exact idx_mid pre suf r
    simp only [List.length_cons] at h2 h4
    by_cases hle : r.Y0 ≤ a
    · obtain ⟨t, suf', now', e1, e2, e3, e4, e5⟩ := set_in hbl hk0 ha hb hab (K := K) suf (pre ++ [r]) (now ++ [r]) m (by rw [h1]; simp) (by omega) (fun x hx => by
        rcases List.mem_append.1 hx with hx | hx
        · exact h3 x hx
        · simp at hx; subst hx; exact hok _ hrM) (by simp; omega)
      refine ⟨r :: t, suf', now', by rw [e1]; rfl, fun x hx => ?_, e3, by simpa using e4, ?_⟩
      · rcases List.mem_cons.1 hx with rfl | hx
        · exact hle
        · exact e2 x hx
      · rw [F_shape_SetOf_L5.eq_2, if_pos (by rw [h1]; exact lt_mid pre suf r), hid, Option.bind_some, ha, Option.bind_some, Option.bind_some, if_pos (by simpa using hle), Option.bind_some, apd_ok (by simp; omega), Option.bind_some, up_mid pre r (by omega), e5]
        simp
    · obtain ⟨now', p1, p2⟩ := stretches_ok (l := now) (by omega) h3
      refine ⟨[], r :: suf, now', rfl, by simp, fun x hx => by simp at hx; subst hx; omega, by simpa using p1, ?_⟩
      have hpush := push_ok (l := bands) (b := (a, b, covS (now.map xsR))) (by omega) hab
      rw [F_shape_SetOf_L5.eq_2, if_pos (by rw [h1]; exact lt_mid pre suf r), hid, Option.bind_some, ha, Option.bind_some, Option.bind_some, if_neg (by simpa using hle), Option.bind_some, w64_id (by omega) (by omega), hb, Option.bind_some, p2, Option.bind_some]
      show (F_shape_Set__push (bands.map toP) (toP (a, b, covS (now.map xsR)))).bind _ = _
      rw [hpush, Option.bind_some]
      simp
theorem set_out (hMs : M.Pairwise fun x y => x.Y0 ≤ y.Y0) (hys : ys.Pairwise fun x y => x < y) (hmem : ∀ r ∈ M, r.Y0 ∈ ys) (hl : ∀ r, r ∈ l ↔ r ∈ M) : ∀ (hsuf hpre : List Int) (m : Nat) (bands : List Bd) (pre suf now : List TRect) (v : Int), ys = hpre ++ hsuf → M = pre ++ suf → hsuf.length < m → bands.length ≤ hpre.length →
    (∀ r ∈ pre, r.Y0 ≤ v) → (∀ r ∈ suf, v < r.Y0) → now.Perm (pre.filter fun r => decide (v < r.Y1)) → (∀ h ∈ hsuf, v < h) → (∀ h ∈ hpre, h ≤ v) →
    F_shape_SetOf_L4 N M ys m hpre.length (bands.map toP) now pre.length = some ((bandsGo l hsuf bands).map toP)
  | [], hpre, m + 1, bands, pre, suf, now, v, e1, e2, _, _, _, _, _, _, _ => by
    have hpl : hpre.length ≤ 200000000 := by rw [e1] at hyl; simpa using hyl
    rw [F_shape_SetOf_L4.eq_2, if_neg (by rw [w64_id (by omega) (by omega), e1]; simp; omega)]
    rfl
  | [a], hpre, m + 1, bands, pre, suf, now, v, e1, e2, _, _, _, _, _, _, _ => by
    have hpl : hpre.length ≤ 200000000 := by rw [e1] at hyl; simp at hyl; omega
    rw [F_shape_SetOf_L4.eq_2, if_neg (by rw [w64_id (by omega) (by omega), e1]; simp)]
    rfl
  | a :: b :: hsuf, hpre, m + 1, bands, pre, suf, now, v, e1, e2, hm, hbl, i1, i2, i3, i4, i5 => by
    have hpl : hpre.length + 2 ≤ 200000000 := by rw [e1] at hyl; simp at hyl; omega
    have hva : v < a := i4 a (by simp)
    have hs2 : (a :: b :: hsuf).Pairwise fun x y => x < y := by rw [e1] at hys; exact (List.pairwise_append.1 hys).2.1
    have hab : a < b := (List.pairwise_cons.1 hs2).1 b (by simp)
    have ha : idx ys (hpre.length : Int) = some a := by rw [e1]; exact idx_mid hpre _ a
    have hb : idx ys ((hpre.length : Int) + 1) = some b := by
      rw [e1, show hpre ++ a :: b :: hsuf = (hpre ++ [a]) ++ b :: hsuf by simp, show ((hpre.length : Int) + 1) = ((hpre ++ [a]).length : Int) by simp]
      exact idx_mid (hpre ++ [a]) _ b
    have hnl : now.length ≤ pre.length := by rw [i3.length_eq]; exact List.length_filter_le _ _
    have hMl2 : pre.length + suf.length ≤ 100000000 := by rw [e2] at hMl; simpa using hMl
    have hnok : ∀ r ∈ now, R9 r := fun r hr => hok r (by rw [e2]; exact List.mem_append_left _ (List.mem_filter.1 (i3.subset hr)).1)
    have hdel := Delete_ok (N := N) (g := fun r => decide (r.Y1 ≤ a)) (f := fun z0 => F_shape_SetOf_2 z0 ys hpre.length) (l := now) (by omega) (by omega) (fun r _ => by unfold F_shape_SetOf_2; rw [ha]; rfl)
    obtain ⟨t, suf', now', s1, s2, s3, s4, s5⟩ := set_in hMl hok (bands := bands) (by omega) (k := (hpre.length : Int)) ⟨by omega, by omega⟩ ha hb hab (K := F_shape_SetOf_L4 N M ys m) suf pre (now.filter fun x => !decide (x.Y1 ≤ a)) N e2 (by omega) (fun r hr => hnok r (List.mem_filter.1 hr).1) (by
      have := List.length_filter_le (fun x : TRect => !decide (x.Y1 ≤ a)) now
      omega)
    have hsM : suf.Pairwise fun x y => x.Y0 ≤ y.Y0 := by rw [e2] at hMs; exact (List.pairwise_append.1 hMs).2.1
    have hsuf' : ∀ r ∈ suf', a < r.Y0 := fun r hr => by
      cases suf' with
      | nil => simp at hr
      | cons c cs =>
        have hc := s3 c rfl
        rcases List.mem_cons.1 hr with rfl | hr
        · exact hc
        · rw [s1] at hsM
          have := (List.pairwise_cons.1 (List.pairwise_append.1 hsM).2.1).1 r hr
          omega
    have ht : ∀ r ∈ t, r.Y0 = a ∧ a < r.Y1 := fun r hr => by
      have hrs : r ∈ suf := by rw [s1]; exact List.mem_append_left _ hr
      have hrM : r ∈ M := by rw [e2]; exact List.mem_append_right _ hrs
      have h1 := s2 r hr
      have h2 := i2 r hrs
      have h3 := hmem r hrM
      have hin : r.Y0 ∈ a :: b :: hsuf := by
        rw [e1] at h3
        rcases List.mem_append.1 h3 with h | h
        · have := i5 _ h; omega
        · exact h
      have hle : a ≤ r.Y0 := by
        rcases List.mem_cons.1 hin with h | h
        · omega
        · have := (List.pairwise_cons.1 hs2).1 _ h; omega
      have := (hok r hrM).y
      omega
    have hperm : (now.filter (fun x => !decide (x.Y1 ≤ a)) ++ t).Perm ((pre ++ t).filter fun r => decide (a < r.Y1)) := by
      rw [List.filter_append]
      have p1 : (now.filter fun x => !decide (x.Y1 ≤ a)).Perm (pre.filter fun r => decide (a < r.Y1)) := by
        refine (i3.filter _).trans ?_
        rw [List.filter_filter]
        refine List.Perm.of_eq (List.filter_congr fun r _ => ?_)
        rw [Bool.eq_iff_iff]
        simp
        omega
      have p2 : t.filter (fun r => decide (a < r.Y1)) = t := List.filter_eq_self.2 fun r hr => by simpa using (ht r hr).2
      rw [p2]
      exact p1.append_right t
    have hcov : covS ((now.filter (fun x => !decide (x.Y1 ≤ a)) ++ t).map xsR) = rowS l a := by
      have hin : ∀ r, r ∈ (now.filter (fun x => !decide (x.Y1 ≤ a)) ++ t) ↔ r ∈ l.filter fun r => decide (r.Y0 ≤ a) && decide (a < r.Y1) := fun r => by
        rw [hperm.mem_iff, List.mem_filter, List.mem_filter, hl, e2, s1]
        simp only [List.mem_append, Bool.and_eq_true, decide_eq_true_eq]
        constructor
        · rintro ⟨h | h, h2⟩
          · exact ⟨.inl h, by have := i1 r h; omega, h2⟩
          · exact ⟨.inr (.inl h), by have := (ht r h).1; omega, h2⟩
        · rintro ⟨h | h | h, h1, h2⟩
          · exact ⟨.inl h, h2⟩
          · exact ⟨.inr h, h2⟩
          · have := hsuf' r h; omega
      have hlim : ∀ r, r ∈ M → -2000000001 < (xsR r).1 ∧ (xsR r).1 < (xsR r).2 := fun r hr => by
        have := hok r hr
        exact ⟨by have := this.x0; show -2000000001 < r.X0; omega, this.x⟩
      have hMr : ∀ r, r ∈ (now.filter (fun x => !decide (x.Y1 ≤ a)) ++ t) → r ∈ M := fun r hr => (hl r).1 (List.mem_filter.1 ((hin r).1 hr)).1
      unfold rowS
      refine covS_congr (lo := -2000000001) (fun p hp => ?_) (fun p hp => ?_) fun x => ?_
      · obtain ⟨r, hr, rfl⟩ := List.mem_map.1 hp; exact hlim r (hMr r hr)
      · obtain ⟨r, hr, rfl⟩ := List.mem_map.1 hp; exact hlim r ((hl r).1 (List.mem_filter.1 hr).1)
      · unfold InS
        constructor
        · rintro ⟨p, hp, h⟩
          obtain ⟨r, hr, rfl⟩ := List.mem_map.1 hp
          exact ⟨_, List.mem_map.2 ⟨r, (hin r).1 hr, rfl⟩, h⟩
        · rintro ⟨p, hp, h⟩
          obtain ⟨r, hr, rfl⟩ := List.mem_map.1 hp
          exact ⟨_, List.mem_map.2 ⟨r, (hin r).2 hr, rfl⟩, h⟩
    rw [F_shape_SetOf_L4.eq_2, if_pos (by rw [w64_id (by omega) (by omega), e1]; simp; omega), hdel, Option.bind_some, s5, hcov]
    have hpb := pushB_len bands (a, b, rowS l a)
    have ih := set_out hMs hys hmem hl (b :: hsuf) (hpre ++ [a]) m (pushB bands (a, b, rowS l a)) (pre ++ t) suf' now' a (by rw [e1]; simp) (by rw [e2, s1]; simp) (by simp at hm ⊢; omega) (by simp; omega) (fun r hr => by
      rcases List.mem_append.1 hr with hr | hr
      · have := i1 r hr; omega
      · have := (ht r hr).1; omega) hsuf' (s4.trans hperm) (fun h hh => (List.pairwise_cons.1 hs2).1 h hh) (fun h hh => by
      rcases List.mem_append.1 hh with hh | hh
      · have := i5 h hh; omega
      · simp at hh; omega)
    rw [show ((hpre.length : Int) + 1) = ((hpre ++ [a]).length : Int) by simp, ih]
    rfl
end
theorem ysOfR_cons (r : TRect) (l : List TRect) : ysOfR (r :: l) = [r.Y0, r.Y1] ++ ysOfR l := rfl
theorem SetOf_ok {N : Nat} {l : List TRect} (hN : 10000000000 ≤ N) (hl : l.length ≤ 100000000) (hok : ∀ r ∈ l, R9 r) : F_shape_SetOf N l = some ((setB l).map toP) := by
  obtain ⟨M, m1, m2, m3⟩ := sort_key (c := fun z0 z1 => F_shape_SetOf_1 z0 z1) (k := fun r => r.Y0) (l := l) (by omega) (fun x hx y hy => by
    have a := (hok x hx).y0; have b := (hok y hy).y0
    unfold F_shape_SetOf_1
    rw [w64_id (by omega) (by omega)])
  have hMl : M.length ≤ 100000000 := by rw [m2.length_eq]; exact hl
  have hMok : ∀ r ∈ M, R9 r := fun r hr => hok r (m2.subset hr)
  have hy : srtd (ysOfR M) = srtd (ysOfR l) := srtd_perm fun y => by
    rw [mem_ysOfR, mem_ysOfR]
    exact ⟨fun ⟨r, hr, h⟩ => ⟨r, m2.subset hr, h⟩, fun ⟨r, hr, h⟩ => ⟨r, m2.symm.subset hr, h⟩⟩
  have hyl : (srtd (ysOfR l)).length ≤ 200000000 := Nat.le_trans (srtd_len _) (by rw [ysOfR_len]; omega)
  have L1 : ∀ (suf : List TRect) (i : Nat) (out : List Int), out.length + 2 * suf.length ≤ 250000000 → F_shape_SetOf_L1 N M suf i out = (F_shape_SetOf_L4 N M (srtd (out ++ ysOfR suf)) N 0 [] [] 0) := by
    intro suf
    induction suf with
    | nil =>
      intro i out ho
      rw [F_shape_SetOf_L1.eq_1]
      have := srtd_ok (l := out) (by simp at ho; omega)
      rw [srtI_ok (by simp at ho; omega), Option.bind_some]
      rw [srtI_ok (by simp at ho; omega), Option.bind_some] at this
      rw [this, Option.bind_some]
      show _ = F_shape_SetOf_L4 N M (srtd (out ++ [])) N 0 [] [] 0
      rw [List.append_nil]
    | cons r suf ih =>
      intro i out ho
      simp only [List.length_cons] at ho
      rw [F_shape_SetOf_L1.eq_2, apd_ok (by simp; omega), Option.bind_some, ih (i + 1) _ (by simp; omega), ysOfR_cons, List.append_assoc]
  unfold F_shape_SetOf F_slices_Clone_Rect
  rw [apd_ok (by simp; omega), Option.bind_some, Option.bind_some, List.nil_append, m1, Option.bind_some, L1 M 0 [] (by simp; omega), List.nil_append, hy]
  have := set_out (l := l) hN hMl hMok hyl m3 (srtd_strict _) (fun r hr => (srtd_mem _ _).2 (mem_ysOfR.2 ⟨r, m2.subset hr, .inl rfl⟩)) (fun r => ⟨fun h => m2.symm.subset h, fun h => m2.subset h⟩) (srtd (ysOfR l)) [] N [] [] M [] (-3000000000) rfl rfl (by omega) (by simp) (by simp) (fun r hr => by have := (hMok r hr).y0; omega) (by simp) (fun h hh => by
    obtain ⟨r, hr, e⟩ := mem_ysOfR.1 ((srtd_mem _ _).1 hh)
    have a := hok r hr
    have := a.y0; have := a.y1
    rcases e with rfl | rfl <;> omega) (by simp)
  exact this
theorem rowS_len (l : List TRect) (y : Int) : (rowS l y).length ≤ l.length := by
  unfold rowS covS
  have := covS_len ((l.filter fun r => decide (r.Y0 ≤ y) && decide (y < r.Y1)).map xsR) []
  have h2 := List.length_filter_le (fun r : TRect => decide (r.Y0 ≤ y) && decide (y < r.Y1)) l
  simp at this
  omega
end Go.Proofs.YtfdglihcpfpefaaGreat
