/- Regions: what is told of sets, what is checked; program and reference agree. Plain Lean about the plain functions. -/
import Derived.Test.YtcebbfodkadggaaS3
namespace Go.Proofs.Ytcebbfodkadggaa
/-- Bands that are not too many. -/
structure Small (l : List Bd) : Prop where
  len : l.length ≤ 4000
  row : ∀ b ∈ l, b.2.2.length ≤ 2000
theorem rectsB_cons (b : Bd) (l : List Bd) : rectsB (b :: l) = rectsOf b ++ rectsB l := rfl
theorem rectsOf_len (b : Bd) : (rectsOf b).length = b.2.2.length := by unfold rectsOf; simp
theorem rectsB_len {l : List Bd} (h : ∀ b ∈ l, b.2.2.length ≤ 2000) : (rectsB l).length ≤ 2000 * l.length := by
  induction l with
  | nil => simp [rectsB]
  | cons b l ih =>
    rw [rectsB_cons, List.length_append, rectsOf_len]
    have := ih (fun c hc => h c (by simp [hc])); have := h b (by simp)
    simp only [List.length_cons]
    omega
theorem pushB_row {l : List Bd} {b : Bd} (h : ∀ c ∈ l, c.2.2.length ≤ 2000) (hb : b.2.2.length ≤ 2000) : ∀ c ∈ pushB l b, c.2.2.length ≤ 2000 := by
  by_cases he : b.2.2 = []
  · rw [pushB_empty he]; exact h
  · rcases List.eq_nil_or_concat l with rfl | ⟨j, c, hc⟩
    · rw [pushB_nil he]
      intro c hc
      simp at hc
      subst hc
      exact hb
    · rw [List.concat_eq_append] at hc
      subst hc
      rw [pushB_snoc he]
      intro d hd
      split at hd
      · rcases List.mem_append.1 hd with hd | hd
        · exact h d (by simp [hd])
        · simp at hd; subst hd; exact h c (by simp)
      · rcases List.mem_append.1 hd with hd | hd
        · exact h d hd
        · simp at hd; subst hd; exact hb
theorem bandsGo_small {l : List TRect} (hl : l.length ≤ 2000) : ∀ (ys : List Int) (out : List Bd), (∀ c ∈ out, c.2.2.length ≤ 2000) → (bandsGo l ys out).length ≤ out.length + ys.length ∧ ∀ c ∈ bandsGo l ys out, c.2.2.length ≤ 2000
  | [], out, h => ⟨by simp [bandsGo], h⟩
  | [a], out, h => ⟨by simp [bandsGo], h⟩
  | a :: b :: ys, out, h => by
    have hr := rowS_len l a
    have hp := pushB_len out (a, b, rowS l a)
    obtain ⟨i1, i2⟩ := bandsGo_small hl (b :: ys) (pushB out (a, b, rowS l a)) (pushB_row h (by show (rowS l a).length ≤ 2000; omega))
    simp only [List.length_cons] at i1 ⊢
    exact ⟨by show (bandsGo l (b :: ys) (pushB out (a, b, rowS l a))).length ≤ _; omega, i2⟩
theorem setB_small {l : List TRect} (hl : l.length ≤ 2000) : Small (setB l) := by
  obtain ⟨h1, h2⟩ := bandsGo_small hl (srtd (ysOfR l)) [] (by simp)
  have := srtd_len (ysOfR l)
  rw [ysOfR_len] at this
  exact ⟨by show (bandsGo l (srtd (ysOfR l)) []).length ≤ _; simp at h1; omega, h2⟩
section
variable {N : Nat} (hN : 20000 ≤ N)
include hN
omit hN in
theorem told_in {l : List Bd} {b : Bd} {K : List TRect → Int → Option (List TRect)} {i : Int} (hi0 : 0 ≤ i ∧ i ≤ 10000) (hi : idx (l.map toRB) i = some (toRB b)) (hb : b.2.2.length ≤ 2000) : ∀ (suf pre : List (Int × Int)) (m : Nat) (out : List TRect), b.2.2 = pre ++ suf → suf.length < m → out.length + suf.length ≤ 4294967296 →
    F_etchhouseref1_told_L4 (l.map toRB) i K m out pre.length = K (out ++ suf.map fun s => ⟨s.1, b.1, s.2, b.2.1⟩) (i + 1)
  | [], pre, m + 1, out, h1, _, _ => by
    rw [F_etchhouseref1_told_L4.eq_2, hi, Option.bind_some, if_neg (by show ¬ decide ((pre.length : Int) < ((b.2.2.map toSp).length : Int)) = true; rw [h1]; simp), w64_id (by omega) (by omega)]
    simp
  | s :: suf, pre, m + 1, out, h1, h2, h3 => by
    have hpl : pre.length ≤ 2000 := by rw [h1] at hb; simp at hb; omega
    have hid : idx (toRB b).spans (pre.length : Int) = some (toSp s) := by
      show idx (b.2.2.map toSp) _ = _
      rw [h1, List.map_append, List.map_cons, show pre.length = (pre.map toSp).length by simp]; exact idx_mid _ _ _
    simp only [List.length_cons] at h2 h3
    rw [F_etchhouseref1_told_L4.eq_2, hi, Option.bind_some, if_pos (by show decide ((pre.length : Int) < ((b.2.2.map toSp).length : Int)) = true; rw [h1]; simp; omega)]
    simp only [Option.bind_some, hid]
    rw [apd_ok (by simp; omega), Option.bind_some, up_mid pre s (by omega), told_in hi0 hi hb suf (pre ++ [s]) m _ (by rw [h1]; simp) (by omega) (by simp; omega)]
    simp [toSp, toRB]
theorem told_ok {l : List Bd} (h : Small l) : F_etchhouseref1_told N (l.map toRB) = some (rectsB l) := by
  have key : ∀ (suf pre : List Bd) (m : Nat), l = pre ++ suf → suf.length < m → F_etchhouseref1_told_L3 N (l.map toRB) m (rectsB pre) pre.length = some (rectsB l) := by
    intro suf
    induction suf with
    | nil =>
      intro pre m h1 h2
      obtain ⟨m, rfl⟩ : ∃ k, m = k + 1 := ⟨m - 1, by omega⟩
      rw [F_etchhouseref1_told_L3.eq_2, if_neg (by rw [h1]; simp), h1, List.append_nil]
    | cons b suf ih =>
      intro pre m h1 h2
      obtain ⟨m, rfl⟩ : ∃ k, m = k + 1 := ⟨m - 1, by omega⟩
      have hlen := h.len
      have hpl : pre.length + 1 ≤ 4000 := by rw [h1] at hlen; simp at hlen; omega
      have hid : idx (l.map toRB) (pre.length : Int) = some (toRB b) := by
        rw [h1, List.map_append, List.map_cons, show pre.length = (pre.map toRB).length by simp]; exact idx_mid _ _ _
      have hr := rectsB_len (l := pre) (fun c hc => h.row c (by rw [h1]; simp [hc]))
      have hb := h.row b (by rw [h1]; simp)
      rw [F_etchhouseref1_told_L3.eq_2, if_pos (by rw [h1]; simp; omega)]
      have := told_in (K := F_etchhouseref1_told_L3 N (l.map toRB) m) (i := (pre.length : Int)) ⟨by omega, by omega⟩ hid hb b.2.2 [] N (rectsB pre) rfl (by omega) (by omega)
      rw [show ((([] : List (Int × Int)).length : Nat) : Int) = 0 from rfl] at this
      rw [this, show rectsB pre ++ (b.2.2.map fun s => (⟨s.1, b.1, s.2, b.2.1⟩ : TRect)) = rectsB (pre ++ [b]) by unfold rectsB; simp [rectsOf], show ((pre.length : Int) + 1) = ((pre ++ [b]).length : Int) by simp]
      exact ih (pre ++ [b]) m (by rw [h1]; simp) (by simp at h2; omega)
  exact key l [] N rfl (by have := h.len; omega)
omit hN in
theorem Rects_in {b : Bd} {K : List TRect → Option (List TRect)} (hb : b.2.2.length ≤ 2000) : ∀ (suf pre : List (Int × Int)) (m : Nat) (out : List TRect), b.2.2 = pre ++ suf → suf.length < m → out.length + suf.length ≤ 4294967296 →
    F_shape_Set__Rects_L4 K (toP b) m out ((2 * pre.length : Nat) : Int) = K (out ++ suf.map fun s => ⟨s.1, b.1, s.2, b.2.1⟩)
  | [], pre, m + 1, out, h1, _, _ => by
    rw [F_shape_Set__Rects_L4.eq_2, if_neg (by show ¬ decide (((2 * pre.length : Nat) : Int) < ((flatS b.2.2).length : Int)) = true; rw [h1, flatS_len]; simp)]
    simp
  | s :: suf, pre, m + 1, out, h1, h2, h3 => by
    have hpl : pre.length ≤ 2000 := by rw [h1] at hb; simp at hb; omega
    have hfl : flatS b.2.2 = flatS pre ++ s.1 :: s.2 :: flatS suf := by rw [h1, flatS_append]; rfl
    have hid : idx (flatS b.2.2) ((2 * pre.length : Nat) : Int) = some s.1 := by rw [hfl, ← flatS_len]; exact idx_mid _ _ _
    have hid2 : idx (flatS b.2.2) (((2 * pre.length : Nat) : Int) + 1) = some s.2 := by
      rw [hfl, show flatS pre ++ s.1 :: s.2 :: flatS suf = (flatS pre ++ [s.1]) ++ s.2 :: flatS suf by simp, show (((2 * pre.length : Nat) : Int) + 1) = ((flatS pre ++ [s.1]).length : Int) by simp [flatS_len]]
      exact idx_mid _ _ _
    simp only [List.length_cons] at h2 h3
    rw [F_shape_Set__Rects_L4.eq_2, if_pos (by show decide (((2 * pre.length : Nat) : Int) < ((flatS b.2.2).length : Int)) = true; rw [hfl]; simp [flatS_len]; omega), w64_id (x := ((2 * pre.length : Nat) : Int) + 1) (by omega) (by omega), w64_id (x := ((2 * pre.length : Nat) : Int) + 2) (by omega) (by omega)]
    show ((idx (flatS b.2.2) _).bind fun x172 => (idx (flatS b.2.2) _).bind fun x173 => _) = _
    rw [hid, Option.bind_some, hid2, Option.bind_some, apd_ok (by simp; omega), Option.bind_some]
    have := Rects_in (K := K) hb suf (pre ++ [s]) m (out ++ [⟨s.1, b.1, s.2, b.2.1⟩]) (by rw [h1]; simp) (by omega) (by simp; omega)
    rw [show ((2 * (pre ++ [s]).length : Nat) : Int) = ((2 * pre.length : Nat) : Int) + 2 by simp; omega] at this
    show F_shape_Set__Rects_L4 K (toP b) m (out ++ [⟨s.1, b.1, s.2, b.2.1⟩]) _ = _
    rw [this]
    simp
theorem Rects_ok {l : List Bd} (h : Small l) : F_shape_Set__Rects N (l.map toP) = some (rectsB l) := by
  have key : ∀ (suf : List Bd) (i : Nat) (out : List TRect), (∀ b ∈ suf, b.2.2.length ≤ 2000) → out.length + 2000 * suf.length ≤ 4294967296 → F_shape_Set__Rects_L3 N (suf.map toP) i out = some (out ++ rectsB suf) := by
    intro suf
    induction suf with
    | nil => intro i out _ _; rw [List.map_nil, F_shape_Set__Rects_L3.eq_1]; simp [rectsB]
    | cons b suf ih =>
      intro i out hb ho
      have hb0 := hb b (by simp)
      simp only [List.length_cons] at ho
      rw [List.map_cons, F_shape_Set__Rects_L3.eq_2]
      have := Rects_in (K := F_shape_Set__Rects_L3 N (suf.map toP) (i + 1)) hb0 b.2.2 [] N out rfl (by omega) (by omega)
      rw [show ((2 * ([] : List (Int × Int)).length : Nat) : Int) = 0 from rfl] at this
      rw [this, ih (i + 1) _ (fun c hc => hb c (by simp [hc])) (by simp; omega), rectsB_cons, List.append_assoc]
      rfl
  have := key l 0 [] h.row (by have := h.len; simp; omega)
  rw [List.nil_append] at this
  exact this
omit hN in
theorem Many_ok {l : List Bd} (h : Small l) : F_shape_Set__Many (l.map toP) = some ((rectsB l).length : Int) := by
  have key : ∀ (suf : List Bd) (i : Nat) (c : Int), (∀ b ∈ suf, b.2.2.length ≤ 2000) → 0 ≤ c → c + 2000 * suf.length ≤ 4294967296 → F_shape_Set__Many_L1 (suf.map toP) i c = some (c + ((rectsB suf).length : Int)) := by
    intro suf
    induction suf with
    | nil => intro i c _ _ _; rw [List.map_nil, F_shape_Set__Many_L1.eq_1]; simp [rectsB]
    | cons b suf ih =>
      intro i c hb h0 ho
      have hb0 := hb b (by simp)
      simp only [List.length_cons] at ho
      have e : Int.tdiv ((toP b).Xs.length : Int) 2 = (b.2.2.length : Int) := by
        show Int.tdiv ((flatS b.2.2).length : Int) 2 = _
        rw [flatS_len, Int.tdiv_eq_ediv_of_nonneg (by omega)]; omega
      rw [List.map_cons, F_shape_Set__Many_L1.eq_2, e, w64_id (x := (b.2.2.length : Int)) (by omega) (by omega), w64_id (by omega) (by omega), ih (i + 1) _ (fun c hc => hb c (by simp [hc])) (by omega) (by omega), rectsB_cons, List.length_append, rectsOf_len]
      congr 1
      omega
  have := key l 0 0 h.row (by omega) (by have := h.len; omega)
  rw [Int.zero_add] at this
  exact this
theorem Told_ok {l : List Bd} (h : Small l) : F_shape_Set__Told N (l.map toP) = some (if 2000 < (rectsB l).length then ([], 2) else (rectsB l, 0)) := by
  unfold F_shape_Set__Told
  rw [Many_ok h, Option.bind_some, Rects_ok hN h, Option.bind_some]
  by_cases h2 : 2000 < (rectsB l).length
  · rw [if_pos (by simp; omega), if_pos h2]
  · rw [if_neg (by simp; omega), if_neg h2]
theorem Canonical_ok {l : List TRect} (hl : l.length ≤ 2000) : F_etchhouseref1_Canonical N l = some (rectsB (setB l)) := by
  have hyl : (srtd (ysOfR l)).length ≤ 4000 := Nat.le_trans (srtd_len _) (by rw [ysOfR_len]; omega)
  have hsm := setB_small hl
  have key : ∀ (hsuf hpre : List Int) (a : Int) (m : Nat) (bands : List Bd), srtd (ysOfR l) = hpre ++ a :: hsuf → hsuf.length < m → bands.length ≤ hpre.length → (∀ c ∈ bands, c.2.2.length ≤ 2000) → bandsGo l (a :: hsuf) bands = setB l →
      F_etchhouseref1_Canonical_L1 N l (srtd (ysOfR l)) m (bands.map toRB) ((hpre.length : Int) + 1) = some (rectsB (setB l)) := by
    intro hsuf
    induction hsuf with
    | nil =>
      intro hpre a m bands h1 h2 h3 h4 h5
      obtain ⟨m, rfl⟩ : ∃ k, m = k + 1 := ⟨m - 1, by omega⟩
      rw [F_etchhouseref1_Canonical_L1.eq_2, if_neg (by rw [h1]; simp)]
      have e : bands = setB l := h5
      rw [e, told_ok hN hsm]; rfl
    | cons b hsuf ih =>
      intro hpre a m bands h1 h2 h3 h4 h5
      obtain ⟨m, rfl⟩ : ∃ k, m = k + 1 := ⟨m - 1, by omega⟩
      have hpl : hpre.length + 2 ≤ 4000 := by rw [h1] at hyl; simp at hyl; omega
      have ha : idx (srtd (ysOfR l)) (hpre.length : Int) = some a := by rw [h1]; exact idx_mid hpre _ a
      have hb : idx (srtd (ysOfR l)) ((hpre.length : Int) + 1) = some b := by
        rw [h1, show hpre ++ a :: b :: hsuf = (hpre ++ [a]) ++ b :: hsuf by simp, show ((hpre.length : Int) + 1) = ((hpre ++ [a]).length : Int) by simp]
        exact idx_mid (hpre ++ [a]) _ b
      have hst := stacked_ok (N := N) (l := bands) (b := (a, b, rowS l a)) hN (by omega) (fun c hc => by have := h4 c hc; omega)
      have hr := rowS_len l a
      have hpb := pushB_len bands (a, b, rowS l a)
      rw [F_etchhouseref1_Canonical_L1.eq_2, if_pos (by rw [h1]; simp; omega), w64_id (x := (hpre.length : Int) + 1 - 1) (by omega) (by omega), show ((hpre.length : Int) + 1 - 1) = (hpre.length : Int) by omega, ha, Option.bind_some, hb, Option.bind_some, Option.bind_some, row_ok hN hl, Option.bind_some]
      show (F_etchhouseref1_stacked N (bands.map toRB) (toRB (a, b, rowS l a))).bind _ = _
      rw [hst, Option.bind_some, w64_id (by omega) (by omega)]
      have := ih (hpre ++ [a]) b m (pushB bands (a, b, rowS l a)) (by rw [h1]; simp) (by simp at h2; omega) (by simp; omega) (pushB_row h4 (by show (rowS l a).length ≤ 2000; omega)) h5
      rw [show ((hpre ++ [a]).length : Int) = (hpre.length : Int) + 1 by simp] at this
      exact this
  unfold F_etchhouseref1_Canonical
  rw [heights_ok hN hl, Option.bind_some]
  cases hy : srtd (ysOfR l) with
  | nil =>
    obtain ⟨m, hm⟩ : ∃ k, N = k + 1 := ⟨N - 1, by omega⟩
    have e : setB l = [] := by unfold setB; rw [hy]; rfl
    have hf : F_etchhouseref1_Canonical_L1 N l [] N [] 1 = F_etchhouseref1_Canonical_L1 N l [] (m + 1) [] 1 := congrArg (fun z => F_etchhouseref1_Canonical_L1 N l [] z [] 1) hm
    rw [hf, F_etchhouseref1_Canonical_L1.eq_2, if_neg (by simp)]
    have := told_ok hN hsm
    rw [e] at this ⊢
    rw [List.map_nil] at this
    rw [this]; rfl
  | cons a hsuf =>
    have := key hsuf [] a N [] hy (by rw [hy] at hyl; simp at hyl; omega) (by simp) (by simp) (by unfold setB; rw [hy])
    rw [hy] at this
    exact this
end
end Go.Proofs.Ytcebbfodkadggaa
