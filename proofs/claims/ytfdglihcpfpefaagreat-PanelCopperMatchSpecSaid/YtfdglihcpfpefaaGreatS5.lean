/- Regions: what the reference checks. Plain Lean about the plain functions. -/
import Derived.Test.YtfdglihcpfpefaaGreatS4
import Derived.Test.YtfdglihcpfpefaaGreatS5p
namespace Go.Proofs.YtfdglihcpfpefaaGreat
theorem CheckRectsR_ok {N : Nat} (hN : 10000000000 ≤ N) (l : List TRect) : F_etchhouseref1_CheckRects N l = some (rectsErr l) := by
  unfold F_etchhouseref1_CheckRects rectsErr
  by_cases h : 2000 < l.length
  · rw [if_pos (by simp; omega), if_pos h]
  · rw [if_neg (by simp; omega), if_neg h]
    have key : ∀ (suf pre : List TRect) (m : Nat), l = pre ++ suf → suf.length < m → F_etchhouseref1_CheckRects_L1 l m pre.length = some (rsErr suf) := by
      intro suf
      induction suf with
      | nil =>
        intro pre m h1 h2
        obtain ⟨m, rfl⟩ : ∃ k, m = k + 1 := ⟨m - 1, by omega⟩
        rw [F_etchhouseref1_CheckRects_L1.eq_2, if_neg (by rw [h1]; simp)]; rfl
      | cons r suf ih =>
        intro pre m h1 h2
        obtain ⟨m, rfl⟩ : ∃ k, m = k + 1 := ⟨m - 1, by omega⟩
        have hpl : pre.length ≤ 2000 := by rw [h1] at h; simp at h; omega
        have hid : idx l (pre.length : Int) = some r := by rw [h1]; exact idx_mid pre suf r
        have hat : ∀ x, F_etchhouseref1_At x = some (within x (-1000000) 1000000) := fun x => rfl
        rw [F_etchhouseref1_CheckRects_L1.eq_2, if_pos (by rw [h1]; exact lt_mid pre suf r), hid, Option.bind_some, hat, hat, hat, hat, up_mid pre r (by omega), ih (pre ++ [r]) m (by rw [h1]; simp) (by simp at h2; omega)]
        show _ = some (if rErr r = 0 then rsErr suf else rErr r)
        generalize rsErr suf = z
        unfold rErr
        cases within r.X0 (-1000000) 1000000 <;> cases within r.Y0 (-1000000) 1000000 <;> cases within r.X1 (-1000000) 1000000 <;> cases within r.Y1 (-1000000) 1000000 <;> cases (decide (r.X1 ≤ r.X0) || decide (r.Y1 ≤ r.Y0)) <;> simp
    exact key l [] N rfl (by omega)
theorem SameRects_ok {N : Nat} {l m : List TRect} (hN : 10000000000 ≤ N) (hl : l.length ≤ 1000000000) : ∃ b : Bool, F_etchhouseref1_SameRects N l m = some b ∧ (b = true ↔ l = m) := by
  have key : ∀ (s1 s2 p1 p2 : List TRect) (n : Nat), l = p1 ++ s1 → m = p2 ++ s2 → p1.length = p2.length → s1.length = s2.length → s1.length < n → ∃ b : Bool, F_etchhouseref1_SameRects_L1 l m n p1.length = some b ∧ (b = true ↔ s1 = s2) := by
    intro s1
    induction s1 with
    | nil =>
      intro s2 p1 p2 n h1 h2 h3 h4 h5
      obtain ⟨n, rfl⟩ : ∃ k, n = k + 1 := ⟨n - 1, by omega⟩
      have : s2 = [] := List.eq_nil_of_length_eq_zero h4.symm
      subst this
      rw [F_etchhouseref1_SameRects_L1.eq_2, if_neg (by rw [h1]; simp)]; exact ⟨true, rfl, by simp⟩
    | cons q s1 ih =>
      intro s2 p1 p2 n h1 h2 h3 h4 h5
      obtain ⟨n, rfl⟩ : ∃ k, n = k + 1 := ⟨n - 1, by omega⟩
      cases s2 with
      | nil => simp at h4
      | cons q2 s2 =>
        have hp : p1.length ≤ 1000000000 := by rw [h1] at hl; simp at hl; omega
        have e1 : idx l (p1.length : Int) = some q := by rw [h1]; exact idx_mid _ _ _
        have e2 : idx m (p1.length : Int) = some q2 := by rw [h2, h3]; exact idx_mid _ _ _
        rw [F_etchhouseref1_SameRects_L1.eq_2, if_pos (by rw [h1]; simp; omega), e1, Option.bind_some, e2, Option.bind_some, up_mid p1 q (by omega)]
        by_cases hq : q = q2
        · subst hq
          obtain ⟨b, b1, b2⟩ := ih s2 (p1 ++ [q]) (p2 ++ [q]) n (by rw [h1]; simp) (by rw [h2]; simp) (by simp; omega) (by simpa using h4) (by simp at h5; omega)
          rw [eqTRect_iff.2 rfl, if_neg (by simp), b1]
          exact ⟨b, rfl, by simp [b2]⟩
        · have : eqTRect q q2 = false := by rw [Bool.eq_false_iff]; exact fun h => hq (eqTRect_iff.1 h)
          rw [this, if_pos (by simp)]
          exact ⟨false, rfl, by simp [hq]⟩
  unfold F_etchhouseref1_SameRects
  by_cases h : l.length = m.length
  · rw [if_neg (by simp; omega)]
    exact key l m [] [] N rfl rfl rfl h (by omega)
  · rw [if_pos (by simp; omega)]
    exact ⟨false, rfl, by simp; exact fun e => h (by rw [e])⟩
theorem CheckRegionR_ok {N : Nat} (hN : 10000000000 ≤ N) (l : List TRect) : F_etchhouseref1_CheckRegion N l = some (regionErr l) := by
  unfold F_etchhouseref1_CheckRegion regionErr
  rw [CheckRectsR_ok hN, Option.bind_some]
  by_cases he : rectsErr l = 0
  · obtain ⟨hl, hok⟩ := rectsErr_ok he
    rw [if_neg (by simpa using he), if_pos he]
    have hend : (F_etchhouseref1_Canonical N l).bind (fun y114 => (F_etchhouseref1_SameRects N l y114).bind fun y116 => if (!y116) then some 3 else some 0) = some (if rectsB (setB l) = l then (0 : Int) else 3) := by
      rw [Canonical_ok hN (by omega) (setB_small (by omega)).tot, Option.bind_some]
      obtain ⟨b, h1, h2⟩ := SameRects_ok (N := N) (l := l) (m := rectsB (setB l)) hN (by omega)
      rw [h1, Option.bind_some]
      cases b
      · rw [if_pos (by simp), if_neg (fun h => by have := h2.2 h.symm; cases this)]
      · rw [if_neg (by simp), if_pos (h2.1 rfl).symm]
    have key : ∀ (suf pre : List TRect) (a : TRect) (m : Nat), l = pre ++ a :: suf → suf.length < m → F_etchhouseref1_CheckRegion_L1 N l m ((pre.length : Int) + 1) = some (if ordR (a :: suf) = true then if rectsB (setB l) = l then 0 else 3 else 8) := by
      intro suf
      induction suf with
      | nil =>
        intro pre a m h1 h2
        obtain ⟨m, rfl⟩ : ∃ k, m = k + 1 := ⟨m - 1, by omega⟩
        rw [F_etchhouseref1_CheckRegion_L1.eq_2, if_neg (by rw [h1]; simp), hend]
        rfl
      | cons b suf ih =>
        intro pre a m h1 h2
        obtain ⟨m, rfl⟩ : ∃ k, m = k + 1 := ⟨m - 1, by omega⟩
        have hpl : pre.length ≤ 2000 := by rw [h1] at hl; simp at hl; omega
        have ha : idx l (pre.length : Int) = some a := by rw [h1]; exact idx_mid pre _ a
        have hb : idx l ((pre.length : Int) + 1) = some b := by
          rw [h1, show pre ++ a :: b :: suf = (pre ++ [a]) ++ b :: suf by simp, show ((pre.length : Int) + 1) = ((pre ++ [a]).length : Int) by simp]
          exact idx_mid (pre ++ [a]) _ b
        have hbf : F_etchhouseref1_before a b = some (ltR a b) := by
          unfold F_etchhouseref1_before ltR
          congr 1
        rw [F_etchhouseref1_CheckRegion_L1.eq_2, if_pos (by rw [h1]; simp; omega), w64_id (x := (pre.length : Int) + 1 - 1) (by omega) (by omega), show ((pre.length : Int) + 1 - 1) = (pre.length : Int) by omega, ha, Option.bind_some, hb, Option.bind_some, hbf, Option.bind_some, w64_id (by omega) (by omega)]
        have hor : ordR (a :: b :: suf) = (ltR a b && ordR (b :: suf)) := rfl
        rw [hor]
        cases ltR a b
        · simp
        · have := ih (pre ++ [a]) b m (by rw [h1]; simp) (by simp at h2; omega)
          rw [show (((pre ++ [a]).length : Int) + 1) = (pre.length : Int) + 1 + 1 by simp] at this
          rw [this]
          simp
    cases l with
    | nil =>
      obtain ⟨m, hm⟩ : ∃ k, N = k + 1 := ⟨N - 1, by omega⟩
      have hf : F_etchhouseref1_CheckRegion_L1 N ([] : List TRect) N 1 = F_etchhouseref1_CheckRegion_L1 N ([] : List TRect) (m + 1) 1 := congrArg (fun z => F_etchhouseref1_CheckRegion_L1 N ([] : List TRect) z 1) hm
      rw [hf, F_etchhouseref1_CheckRegion_L1.eq_2, if_neg (by simp), hend]
      rfl
    | cons a suf =>
      exact key suf [] a N rfl (by simp at hl; omega)
  · rw [if_pos (by simpa using he), if_neg he]
end Go.Proofs.YtfdglihcpfpefaaGreat
