/- Regions: what the reference tells of sets. Plain Lean about the plain functions. -/
import Derived.Test.YtfdglihcpfpefaaGreatS3
import Derived.Test.YtfdglihcpfpefaaGreatS4p
namespace Go.Proofs.YtfdglihcpfpefaaGreat
section
variable {N : Nat} (hN : 10000000000 ≤ N)
include hN
omit hN in
theorem told_in {l : List Bd} {b : Bd} {K : List TRect → Int → Option (List TRect)} {i : Int} (hi0 : 0 ≤ i ∧ i ≤ 1000000000) (hi : idx (l.map toRB) i = some (toRB b)) (hb : b.2.2.length ≤ 100000000) : ∀ (suf pre : List (Int × Int)) (m : Nat) (out : List TRect), b.2.2 = pre ++ suf → suf.length < m → out.length + suf.length ≤ 2199023255552 →
    F_etchhouseref1_told_L4 (l.map toRB) i K m out pre.length = K (out ++ suf.map fun s => ⟨s.1, b.1, s.2, b.2.1⟩) (i + 1)
  | [], pre, m + 1, out, h1, _, _ => by
    rw [F_etchhouseref1_told_L4.eq_2, hi, Option.bind_some, if_neg (by show ¬ decide ((pre.length : Int) < ((b.2.2.map toSp).length : Int)) = true; rw [h1]; simp), w64_id (by omega) (by omega)]
    simp
  | s :: suf, pre, m + 1, out, h1, h2, h3 => by
    have hpl : pre.length ≤ 100000000 := by rw [h1] at hb; simp at hb; omega
    have hid : idx (toRB b).spans (pre.length : Int) = some (toSp s) := by
      show idx (b.2.2.map toSp) _ = _
      rw [h1, List.map_append, List.map_cons, show pre.length = (pre.map toSp).length by simp]; exact idx_mid _ _ _
    simp only [List.length_cons] at h2 h3
    rw [F_etchhouseref1_told_L4.eq_2, hi, Option.bind_some, if_pos (by show decide ((pre.length : Int) < ((b.2.2.map toSp).length : Int)) = true; rw [h1]; simp; omega)]
    simp only [Option.bind_some, hid]
    rw [apd_ok (by simp; omega), Option.bind_some, up_mid pre s (by omega), told_in hi0 hi hb suf (pre ++ [s]) m _ (by rw [h1]; simp) (by omega) (by simp; omega)]
    simp [toSp, toRB]
theorem told_ok {l : List Bd} (h : Small l) : F_etchhouseref1_told N (l.map toRB) = some (rectsB l) := by
  have key : ∀ (suf pre : List Bd) (m : Nat), l = pre ++ suf → suf.length < m → F_etchhouseref1_told_L3 N (l.map toRB) m (rectsB pre) pre.length = some (rectsB l) := by
    intro suf
    induction suf with
    | nil =>
      intro pre m h1 h2
      obtain ⟨m, rfl⟩ : ∃ k, m = k + 1 := ⟨m - 1, by omega⟩
      rw [F_etchhouseref1_told_L3.eq_2, if_neg (by rw [h1]; simp), h1, List.append_nil]
    | cons b suf ih =>
      intro pre m h1 h2
      obtain ⟨m, rfl⟩ : ∃ k, m = k + 1 := ⟨m - 1, by omega⟩
      have hlen := h.len
      have hpl : pre.length + 1 ≤ 200000000 := by rw [h1] at hlen; simp at hlen; omega
      have hid : idx (l.map toRB) (pre.length : Int) = some (toRB b) := by
        rw [h1, List.map_append, List.map_cons, show pre.length = (pre.map toRB).length by simp]; exact idx_mid _ _ _
      have hr := h.tot
      rw [h1, rectsB_append, rectsB_cons, List.length_append, List.length_append, rectsOf_len] at hr
      have hb := h.row b (by rw [h1]; simp)
      rw [F_etchhouseref1_told_L3.eq_2, if_pos (by rw [h1]; simp; omega)]
      have := told_in (K := F_etchhouseref1_told_L3 N (l.map toRB) m) (i := (pre.length : Int)) ⟨by omega, by omega⟩ hid hb b.2.2 [] N (rectsB pre) rfl (by omega) (by omega)
      rw [show ((([] : List (Int × Int)).length : Nat) : Int) = 0 from rfl] at this
      rw [this, show rectsB pre ++ (b.2.2.map fun s => (⟨s.1, b.1, s.2, b.2.1⟩ : TRect)) = rectsB (pre ++ [b]) by unfold rectsB; simp [rectsOf], show ((pre.length : Int) + 1) = ((pre ++ [b]).length : Int) by simp]
      exact ih (pre ++ [b]) m (by rw [h1]; simp) (by simp at h2; omega)
  exact key l [] N rfl (by have := h.len; omega)
theorem Canonical_ok {l : List TRect} (hl : l.length ≤ 100000000) (ht : (rectsB (setB l)).length ≤ 2100000000000) : F_etchhouseref1_Canonical N l = some (rectsB (setB l)) := by
  have hyl : (srtd (ysOfR l)).length ≤ 200000000 := Nat.le_trans (srtd_len _) (by rw [ysOfR_len]; omega)
  have hsm := setB_small' hl ht
  have key : ∀ (hsuf hpre : List Int) (a : Int) (m : Nat) (bands : List Bd), srtd (ysOfR l) = hpre ++ a :: hsuf → hsuf.length < m → bands.length ≤ hpre.length → (∀ c ∈ bands, c.2.2.length ≤ 100000000) → bandsGo l (a :: hsuf) bands = setB l →
      F_etchhouseref1_Canonical_L1 N l (srtd (ysOfR l)) m (bands.map toRB) ((hpre.length : Int) + 1) = some (rectsB (setB l)) := by
    intro hsuf
    induction hsuf with
    | nil =>
      intro hpre a m bands h1 h2 h3 h4 h5
      obtain ⟨m, rfl⟩ : ∃ k, m = k + 1 := ⟨m - 1, by omega⟩
      rw [F_etchhouseref1_Canonical_L1.eq_2, if_neg (by rw [h1]; simp)]
      have e : bands = setB l := h5
      rw [e, told_ok hN hsm]; rfl
    | cons b hsuf ih =>
      intro hpre a m bands h1 h2 h3 h4 h5
      obtain ⟨m, rfl⟩ : ∃ k, m = k + 1 := ⟨m - 1, by omega⟩
      have hpl : hpre.length + 2 ≤ 200000000 := by rw [h1] at hyl; simp at hyl; omega
      have ha : idx (srtd (ysOfR l)) (hpre.length : Int) = some a := by rw [h1]; exact idx_mid hpre _ a
      have hb : idx (srtd (ysOfR l)) ((hpre.length : Int) + 1) = some b := by
        rw [h1, show hpre ++ a :: b :: hsuf = (hpre ++ [a]) ++ b :: hsuf by simp, show ((hpre.length : Int) + 1) = ((hpre ++ [a]).length : Int) by simp]
        exact idx_mid (hpre ++ [a]) _ b
      have hst := stacked_ok (N := N) (l := bands) (b := (a, b, rowS l a)) hN (by omega) (fun c hc => by have := h4 c hc; omega)
      have hr := rowS_len l a
      have hpb := pushB_len bands (a, b, rowS l a)
      rw [F_etchhouseref1_Canonical_L1.eq_2, if_pos (by rw [h1]; simp; omega), w64_id (x := (hpre.length : Int) + 1 - 1) (by omega) (by omega), show ((hpre.length : Int) + 1 - 1) = (hpre.length : Int) by omega, ha, Option.bind_some, hb, Option.bind_some, Option.bind_some, row_ok hN hl, Option.bind_some]
      show (F_etchhouseref1_stacked N (bands.map toRB) (toRB (a, b, rowS l a))).bind _ = _
      rw [hst, Option.bind_some, w64_id (by omega) (by omega)]
      have := ih (hpre ++ [a]) b m (pushB bands (a, b, rowS l a)) (by rw [h1]; simp) (by simp at h2; omega) (by simp; omega) (pushB_row h4 (by show (rowS l a).length ≤ 100000000; omega)) h5
      rw [show ((hpre ++ [a]).length : Int) = (hpre.length : Int) + 1 by simp] at this
      exact this
  unfold F_etchhouseref1_Canonical
  rw [heights_ok hN hl, Option.bind_some]
  cases hy : srtd (ysOfR l) with
  | nil =>
    obtain ⟨m, hm⟩ : ∃ k, N = k + 1 := ⟨N - 1, by omega⟩
    have e : setB l = [] := by unfold setB; rw [hy]; rfl
    have hf : F_etchhouseref1_Canonical_L1 N l [] N [] 1 = F_etchhouseref1_Canonical_L1 N l [] (m + 1) [] 1 := congrArg (fun z => F_etchhouseref1_Canonical_L1 N l [] z [] 1) hm
    rw [hf, F_etchhouseref1_Canonical_L1.eq_2, if_neg (by simp)]
    have := told_ok hN hsm
    rw [e] at this ⊢
    rw [List.map_nil] at this
    rw [this]; rfl
  | cons a hsuf =>
    have := key hsuf [] a N [] hy (by rw [hy] at hyl; simp at hyl; omega) (by simp) (by simp) (by unfold setB; rw [hy])
    rw [hy] at this
    exact this
end
end Go.Proofs.YtfdglihcpfpefaaGreat
