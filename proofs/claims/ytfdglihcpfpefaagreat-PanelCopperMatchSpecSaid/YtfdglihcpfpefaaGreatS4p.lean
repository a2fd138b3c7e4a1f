/- Regions: what the program tells of sets. Plain Lean about the plain functions. -/
import Derived.Test.YtfdglihcpfpefaaGreatS2
namespace Go.Proofs.YtfdglihcpfpefaaGreat
/-- Bands that are not too many. -/
structure Small (l : List Bd) : Prop where
  len : l.length ≤ 200000000
  row : ∀ b ∈ l, b.2.2.length ≤ 100000000
  tot : (rectsB l).length ≤ 2100000000000
theorem rectsB_cons (b : Bd) (l : List Bd) : rectsB (b :: l) = rectsOf b ++ rectsB l := rfl
theorem rectsOf_len (b : Bd) : (rectsOf b).length = b.2.2.length := by unfold rectsOf; simp
theorem rectsB_len {l : List Bd} {R : Nat} (h : ∀ b ∈ l, b.2.2.length ≤ R) : (rectsB l).length ≤ R * l.length := by
  induction l with
  | nil => simp [rectsB]
  | cons b l ih =>
    rw [rectsB_cons, List.length_append, rectsOf_len]
    have := ih (fun c hc => h c (by simp [hc])); have := h b (by simp)
    rw [List.length_cons, Nat.mul_succ]
    omega
theorem rectsB_append (l m : List Bd) : rectsB (l ++ m) = rectsB l ++ rectsB m := by unfold rectsB; rw [List.flatMap_append]
theorem rectsB_row {l : List Bd} {b : Bd} (h : b ∈ l) : b.2.2.length ≤ (rectsB l).length := by
  obtain ⟨s, t, rfl⟩ := List.append_of_mem h
  rw [rectsB_append, rectsB_cons, List.length_append, List.length_append, rectsOf_len]
  omega
theorem pushB_row {l : List Bd} {b : Bd} {R : Nat} (h : ∀ c ∈ l, c.2.2.length ≤ R) (hb : b.2.2.length ≤ R) : ∀ c ∈ pushB l b, c.2.2.length ≤ R := by
  by_cases he : b.2.2 = []
  · rw [pushB_empty he]; exact h
  · rcases List.eq_nil_or_concat l with rfl | ⟨j, c, hc⟩
    · rw [pushB_nil he]
      intro c hc
      simp at hc
      subst hc
      exact hb
    · rw [List.concat_eq_append] at hc
      subst hc
      rw [pushB_snoc he]
      intro d hd
      split at hd
      · rcases List.mem_append.1 hd with hd | hd
        · exact h d (by simp [hd])
        · simp at hd; subst hd; exact h c (by simp)
      · rcases List.mem_append.1 hd with hd | hd
        · exact h d hd
        · simp at hd; subst hd; exact hb
theorem bandsGo_small {l : List TRect} {R : Nat} (hl : l.length ≤ R) : ∀ (ys : List Int) (out : List Bd), (∀ c ∈ out, c.2.2.length ≤ R) → (bandsGo l ys out).length ≤ out.length + ys.length ∧ ∀ c ∈ bandsGo l ys out, c.2.2.length ≤ R
  | [], out, h => ⟨by simp [bandsGo], h⟩
  | [a], out, h => ⟨by simp [bandsGo], h⟩
  | a :: b :: ys, out, h => by
    have hr := rowS_len l a
    have hp := pushB_len out (a, b, rowS l a)
    obtain ⟨i1, i2⟩ := bandsGo_small hl (b :: ys) (pushB out (a, b, rowS l a)) (pushB_row h (by show (rowS l a).length ≤ R; omega))
    simp only [List.length_cons] at i1 ⊢
    exact ⟨by show (bandsGo l (b :: ys) (pushB out (a, b, rowS l a))).length ≤ _; omega, i2⟩
theorem setB_len (l : List TRect) : (setB l).length ≤ 2 * l.length ∧ ∀ b ∈ setB l, b.2.2.length ≤ l.length := by
  obtain ⟨h1, h2⟩ := bandsGo_small (Nat.le_refl l.length) (srtd (ysOfR l)) [] (by simp)
  have := srtd_len (ysOfR l)
  rw [ysOfR_len] at this
  exact ⟨by show (bandsGo l (srtd (ysOfR l)) []).length ≤ _; simp at h1; omega, h2⟩
theorem setB_small' {l : List TRect} (hl : l.length ≤ 100000000) (ht : (rectsB (setB l)).length ≤ 2100000000000) : Small (setB l) := by
  obtain ⟨h1, h2⟩ := setB_len l
  exact ⟨by omega, fun b hb => by have := h2 b hb; omega, ht⟩
theorem setB_small {l : List TRect} (hl : l.length ≤ 20000) : Small (setB l) := by
  obtain ⟨h1, h2⟩ := setB_len l
  refine setB_small' (by omega) ?_
  have := rectsB_len (R := 20000) (l := setB l) fun b hb => by have := h2 b hb; omega
  omega
section
variable {N : Nat} (hN : 10000000000 ≤ N)
include hN
omit hN in
theorem Rects_in {b : Bd} {K : List TRect → Option (List TRect)} (hb : b.2.2.length ≤ 100000000) : ∀ (suf pre : List (Int × Int)) (m : Nat) (out : List TRect), b.2.2 = pre ++ suf → suf.length < m → out.length + suf.length ≤ 2199023255552 →
    F_shape_Set__Rects_L4 K (toP b) m out ((2 * pre.length : Nat) : Int) = K (out ++ suf.map fun s => ⟨s.1, b.1, s.2, b.2.1⟩)
  | [], pre, m + 1, out, h1, _, _ => by
    rw [F_shape_Set__Rects_L4.eq_2, if_neg (by show ¬ decide (((2 * pre.length : Nat) : Int) < ((flatS b.2.2).length : Int)) = true; rw [h1, flatS_len]; simp)]
    simp
  | s :: suf, pre, m + 1, out, h1, h2, h3 => by
    have hpl : pre.length ≤ 100000000 := by rw [h1] at hb; simp at hb; omega
    have hfl : flatS b.2.2 = flatS pre ++ s.1 :: s.2 :: flatS suf := by rw [h1, flatS_append]; rfl
    have hid : idx (flatS b.2.2) ((2 * pre.length : Nat) : Int) = some s.1 := by rw [hfl, ← flatS_len]; exact idx_mid _ _ _
    have hid2 : idx (flatS b.2.2) (((2 * pre.length : Nat) : Int) + 1) = some s.2 := by
      rw [hfl, show flatS pre ++ s.1 :: s.2 :: flatS suf = (flatS pre ++ [s.1]) ++ s.2 :: flatS suf by simp, show (((2 * pre.length : Nat) : Int) + 1) = ((flatS pre ++ [s.1]).length : Int) by simp [flatS_len]]
      exact idx_mid _ _ _
    simp only [List.length_cons] at h2 h3
    rw [F_shape_Set__Rects_L4.eq_2, if_pos (by show decide (((2 * pre.length : Nat) : Int) < ((flatS b.2.2).length : Int)) = true; rw [hfl]; simp [flatS_len]; omega), w64_id (x := ((2 * pre.length : Nat) : Int) + 1) (by omega) (by omega), w64_id (x := ((2 * pre.length : Nat) : Int) + 2) (by omega) (by omega)]
    show ((idx (flatS b.2.2) _).bind fun x172 => (idx (flatS b.2.2) _).bind fun x173 => _) = _
    rw [hid, Option.bind_some, hid2, Option.bind_some, apd_ok (by simp; omega), Option.bind_some]
    have := Rects_in (K := K) hb suf (pre ++ [s]) m (out ++ [⟨s.1, b.1, s.2, b.2.1⟩]) (by rw [h1]; simp) (by omega) (by simp; omega)
    rw [show ((2 * (pre ++ [s]).length : Nat) : Int) = ((2 * pre.length : Nat) : Int) + 2 by simp; omega] at this
    show F_shape_Set__Rects_L4 K (toP b) m (out ++ [⟨s.1, b.1, s.2, b.2.1⟩]) _ = _
    rw [this]
    simp
theorem Rects_ok {l : List Bd} (h : Small l) : F_shape_Set__Rects N (l.map toP) = some (rectsB l) := by
  have key : ∀ (suf : List Bd) (i : Nat) (out : List TRect), (∀ b ∈ suf, b.2.2.length ≤ 100000000) → out.length + (rectsB suf).length ≤ 2199023255552 → F_shape_Set__Rects_L3 N (suf.map toP) i out = some (out ++ rectsB suf) := by
    intro suf
    induction suf with
    | nil => intro i out _ _; rw [List.map_nil, F_shape_Set__Rects_L3.eq_1]; simp [rectsB]
    | cons b suf ih =>
      intro i out hb ho
      have hb0 := hb b (by simp)
      rw [rectsB_cons, List.length_append, rectsOf_len] at ho
      rw [List.map_cons, F_shape_Set__Rects_L3.eq_2]
      have := Rects_in (K := F_shape_Set__Rects_L3 N (suf.map toP) (i + 1)) hb0 b.2.2 [] N out rfl (by omega) (by omega)
      rw [show ((2 * ([] : List (Int × Int)).length : Nat) : Int) = 0 from rfl] at this
      rw [this, ih (i + 1) _ (fun c hc => hb c (by simp [hc])) (by simp; omega), rectsB_cons, List.append_assoc]
      rfl
  have := key l 0 [] h.row (by have := h.tot; simp; omega)
  rw [List.nil_append] at this
  exact this
omit hN in
theorem Many_ok {l : List Bd} (h : (rectsB l).length ≤ 1000000000000000000) : F_shape_Set__Many (l.map toP) = some ((rectsB l).length : Int) := by
  have key : ∀ (suf : List Bd) (i : Nat) (c : Int), 0 ≤ c → c + (rectsB suf).length ≤ 1000000000000000000 → F_shape_Set__Many_L1 (suf.map toP) i c = some (c + ((rectsB suf).length : Int)) := by
    intro suf
    induction suf with
    | nil => intro i c _ _; rw [List.map_nil, F_shape_Set__Many_L1.eq_1]; simp [rectsB]
    | cons b suf ih =>
      intro i c h0 ho
      rw [rectsB_cons, List.length_append, rectsOf_len] at ho
      have e : Int.tdiv ((toP b).Xs.length : Int) 2 = (b.2.2.length : Int) := by
        show Int.tdiv ((flatS b.2.2).length : Int) 2 = _
        rw [flatS_len, Int.tdiv_eq_ediv_of_nonneg (by omega)]; omega
      rw [List.map_cons, F_shape_Set__Many_L1.eq_2, e, w64_id (x := (b.2.2.length : Int)) (by omega) (by omega), w64_id (by omega) (by omega), ih (i + 1) _ (by omega) (by omega), rectsB_cons, List.length_append, rectsOf_len]
      congr 1
      omega
  have := key l 0 0 (by omega) (by omega)
  rw [Int.zero_add] at this
  exact this
/-- What is told of bands: their rectangles, if they are not too many. -/
def toldV (l : List Bd) : List TRect × Int := if 2000 < (rectsB l).length then ([], 2) else (rectsB l, 0)
end
end Go.Proofs.YtfdglihcpfpefaaGreat
