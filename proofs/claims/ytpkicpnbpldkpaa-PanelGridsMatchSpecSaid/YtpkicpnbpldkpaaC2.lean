/- Rows has as many slots as any grid, or more. Plain Lean about the plain functions. -/
import Derived.Test.YtpkicpnbpldkpaaC1
namespace Go.Proofs.Ytpkicpnbpldkpaa
section
variable {N : Nat} {p : TPanel} {b : ByteArray} (h : FuelP N p) (hB : PB p) (hk : kindIx p.Kinds b ≠ -1)
include hB hk
theorem left_ok {n : Int} (h0 : 0 ≤ n) (hn : n ≤ gridN p b 0) : 0 ≤ left p b n ∧ left p b n ≤ 2000000 ∧ (0 < colsOf p b 1 →
    F_panel_many (w64 (w64 (p.H - w64 (2 * p.Rail)) - w64 (n * w64 (sizeH (kindOf p.Kinds b) 0 + p.Gap)))) (sizeW (kindOf p.Kinds b) 0) p.Gap = some (left p b n)) := by
  have b3 := hB.h0; have b4 := hB.h1; have b5 := hB.r0; have b6 := hB.r1; have b7 := hB.g0; have b8 := hB.g1
  have hs := sizeWH hB hk 0
  obtain ⟨_, k2, k3, _, k5⟩ := many_ok (room := p.H - 2 * p.Rail) (size := sizeH (kindOf p.Kinds b) 0) (gap := p.Gap) (by omega) (by omega) ⟨hB.g0, hB.g1⟩
  have hgr : gridN p b 0 ≤ many (p.H - 2 * p.Rail) (sizeH (kindOf p.Kinds b) 0) p.Gap := by
    unfold gridN
    split
    · exact k2
    · exact Int.le_refl _
  have hmul : n * (sizeH (kindOf p.Kinds b) 0 + p.Gap) ≤ max 0 (p.H - 2 * p.Rail + p.Gap) := Int.le_trans (Int.mul_le_mul_of_nonneg_right (by omega) (by omega)) k5
  have hmul0 : 0 ≤ n * (sizeH (kindOf p.Kinds b) 0 + p.Gap) := Int.mul_nonneg h0 (by omega)
  obtain ⟨m1, m2, m3, _⟩ := many_ok (room := p.H - 2 * p.Rail - n * (sizeH (kindOf p.Kinds b) 0 + p.Gap)) (size := sizeW (kindOf p.Kinds b) 0) (gap := p.Gap) (by omega) (by omega) ⟨hB.g0, hB.g1⟩
  unfold left
  by_cases ht : 0 < colsOf p b 1
  · rw [if_pos ht]
    refine ⟨m2, m3, fun _ => ?_⟩
    rw [w64_id (x := 2 * p.Rail) (by omega) (by omega), w64_id (x := p.H - 2 * p.Rail) (by omega) (by omega), w64_id (x := sizeH (kindOf p.Kinds b) 0 + p.Gap) (by omega) (by omega), w64_id (x := n * (sizeH (kindOf p.Kinds b) 0 + p.Gap)) (by omega) (by omega), w64_id (by omega) (by omega)]
    exact m1
  · rw [if_neg ht]
    exact ⟨by omega, by omega, fun hh => absurd hh ht⟩
theorem rowsLoop : ∀ (r m : Nat) (bN bM n : Int), 0 ≤ n → n + r = gridN p b 0 + 1 → r < m → (0 ≤ bN ∧ bN ≤ gridN p b 0) → (0 ≤ bM ∧ bM ≤ 2000000) → (colsOf p b 1 = 0 → bM = 0) →
    ∃ N' M', F_panel_Rows_L4 N p b (sizeW (kindOf p.Kinds b) 0, sizeH (kindOf p.Kinds b) 0) (colsOf p b 0) (colsOf p b 1) (gridN p b 0) m bN bM n = ((F_panel_rows N p b 0 (colsOf p b 0) N' (colsOf p b 1) M').bind fun y37 => some (y37.1, y37.2)) ∧
      (0 ≤ N' ∧ N' ≤ gridN p b 0) ∧ (0 ≤ M' ∧ M' ≤ 2000000) ∧ (colsOf p b 1 = 0 → M' = 0) ∧ val p b bN bM ≤ val p b N' M' ∧ ∀ k, n ≤ k → k ≤ gridN p b 0 → val p b k (left p b k) ≤ val p b N' M'
  | 0, m + 1, bN, bM, n, h0, h1, _, h3, h4, h5 => by
    rw [F_panel_Rows_L4.eq_2, if_neg (by simp; omega)]
    exact ⟨bN, bM, rfl, h3, h4, h5, Int.le_refl _, fun k k1 k2 => by omega⟩
  | r + 1, m + 1, bN, bM, n, h0, h1, h2, h3, h4, h5 => by
    obtain ⟨⟨_, c2, c3⟩, ⟨_, r2, r3⟩⟩ := cols_bd hB hk 0
    obtain ⟨⟨_, t2, t3⟩, _⟩ := cols_bd hB hk 1
    have hg : gridN p b 0 ≤ 2000000 := by unfold gridN; split <;> omega
    obtain ⟨l1, l2, l3⟩ := left_ok hB hk h0 (by omega)
    have v1 := mul_bd (a := bN) (c := colsOf p b 0) ⟨h3.1, by omega⟩ ⟨c2, c3⟩
    have v2 := mul_bd (a := bM) (c := colsOf p b 1) h4 ⟨t2, t3⟩
    have v3 := mul_bd (a := n) (c := colsOf p b 0) ⟨h0, by omega⟩ ⟨c2, c3⟩
    have v4 := mul_bd (a := left p b n) (c := colsOf p b 1) ⟨l1, l2⟩ ⟨t2, t3⟩
    have step : F_panel_Rows_L4 N p b (sizeW (kindOf p.Kinds b) 0, sizeH (kindOf p.Kinds b) 0) (colsOf p b 0) (colsOf p b 1) (gridN p b 0) (m + 1) bN bM n = F_panel_Rows_J5 (colsOf p b 0) (colsOf p b 1) bN bM n (F_panel_Rows_L4 N p b (sizeW (kindOf p.Kinds b) 0, sizeH (kindOf p.Kinds b) 0) (colsOf p b 0) (colsOf p b 1) (gridN p b 0) m) (left p b n) := by
      rw [F_panel_Rows_L4.eq_2, if_pos (by simp; omega)]
      by_cases ht : 0 < colsOf p b 1
      · rw [if_pos (by simpa using ht), l3 ht, Option.bind_some]
      · rw [if_neg (by simpa using ht)]
        have : left p b n = 0 := by unfold left; rw [if_neg ht]
        rw [this]
    have hl0 : colsOf p b 1 = 0 → left p b n = 0 := fun hh => by unfold left; rw [if_neg (by omega)]
    rw [step]
    unfold F_panel_Rows_J5
    rw [w64_id (x := bN * colsOf p b 0) (by omega) (by omega), w64_id (x := bM * colsOf p b 1) (by omega) (by omega), w64_id (x := n * colsOf p b 0) (by omega) (by omega), w64_id (x := left p b n * colsOf p b 1) (by omega) (by omega), w64_id (by omega) (by omega), w64_id (by omega) (by omega), w64_id (x := n + 1) (by omega) (by omega)]
    by_cases hle : val p b bN bM ≤ val p b n (left p b n)
    · rw [if_pos (by simpa [val] using hle)]
      obtain ⟨N', M', e, a1, a2, a3, a4, a5⟩ := rowsLoop r m n (left p b n) (n + 1) (by omega) (by omega) (by omega) ⟨h0, by omega⟩ ⟨l1, l2⟩ hl0
      refine ⟨N', M', e, a1, a2, a3, Int.le_trans hle a4, fun k k1 k2 => ?_⟩
      by_cases hkn : k = n
      · subst hkn; exact a4
      · exact a5 k (by omega) k2
    · rw [if_neg (by simpa [val] using hle)]
      obtain ⟨N', M', e, a1, a2, a3, a4, a5⟩ := rowsLoop r m bN bM (n + 1) (by omega) (by omega) (by omega) h3 h4 h5
      refine ⟨N', M', e, a1, a2, a3, a4, fun k k1 k2 => ?_⟩
      by_cases hkn : k = n
      · subst hkn; omega
      · exact a5 k (by omega) k2
end
/-- No grid has more than rows have. -/
theorem grid_le {p : TPanel} (hB : PB p) {b : ByteArray} (hk : kindIx p.Kinds b ≠ -1) (q : Int) {V : Int} (hV : ∀ k, 0 ≤ k → k ≤ gridN p b 0 → val p b k (left p b k) ≤ V) : gridN p b q * colsOf p b q ≤ V := by
  obtain ⟨⟨_, c2, c3⟩, ⟨_, r2, r3⟩⟩ := cols_bd hB hk 0
  obtain ⟨⟨_, t2, t3⟩, ⟨_, s2, s3⟩⟩ := cols_bd hB hk 1
  have hg0 : 0 ≤ gridN p b 0 := by unfold gridN; split <;> omega
  by_cases hq : Int.tmod q 2 = 1
  · have e1 : colsOf p b q = colsOf p b 1 := by unfold colsOf sizeW; rw [if_pos hq, if_pos (by rfl)]
    have e2 : rowsOf p b q = rowsOf p b 1 := by unfold rowsOf sizeH; rw [if_pos hq, if_pos (by rfl)]
    have e3 : gridN p b q = left p b 0 := by
      unfold gridN left
      rw [e1, e2]
      by_cases ht : colsOf p b 1 = 0
      · rw [if_pos ht, if_neg (by omega)]
      · rw [if_neg ht, if_pos (by omega), Int.zero_mul, Int.sub_zero]
        rfl
    have := hV 0 (Int.le_refl _) hg0
    unfold val at this
    rw [e1, e3]
    omega
  · have e1 : colsOf p b q = colsOf p b 0 := by unfold colsOf sizeW; rw [if_neg hq, if_neg (by decide)]
    have e2 : rowsOf p b q = rowsOf p b 0 := by unfold rowsOf sizeH; rw [if_neg hq, if_neg (by decide)]
    have e3 : gridN p b q = gridN p b 0 := by unfold gridN; rw [e1, e2]
    have h1 := hV (gridN p b 0) hg0 (Int.le_refl _)
    have h2 := left_ok hB hk hg0 (Int.le_refl _)
    have h3 : 0 ≤ left p b (gridN p b 0) * colsOf p b 1 := Int.mul_nonneg h2.1 t2
    unfold val at h1
    rw [e1, e3]
    omega
/-- What Rows computes. -/
theorem Rows_ok {N : Nat} {p : TPanel} {b : ByteArray} (h : FuelP N p) : ∃ x e, F_panel_Rows N p b = some (x, e) ∧ (e ≠ 0 → x.W = 0) ∧
    (e = 0 → (∃ l, x = withSlots p l ∧ openErr x = 0) ∧ ∀ q, gridN p b q * colsOf p b q ≤ (x.Slots.length : Int)) := by
  unfold F_panel_Rows
  rw [checkPanelP_ok h, Option.bind_some]
  by_cases he : openErr p = 0
  · obtain ⟨hB, hsl, hml, hso⟩ := openErr_ok he
    rw [if_neg (by simpa using he), kindAt_ok, Option.bind_some]
    rcases kindIx_lo p.Kinds b with hk | ⟨hk, hi, _, _⟩
    · rw [if_pos (by simp; omega)]; exact ⟨_, _, rfl, fun _ => rfl, fun h => absurd h (by decide)⟩
    have hk1 : kindIx p.Kinds b ≠ -1 := by omega
    obtain ⟨⟨c1, c2, c3⟩, ⟨r1, r2, r3⟩⟩ := cols_bd hB hk1 0
    obtain ⟨⟨t1, t2, t3⟩, _⟩ := cols_bd hB hk1 1
    have t1' : F_panel_many (w64 (p.W - w64 (2 * p.Rail))) (sizeH (kindOf p.Kinds b) 0) p.Gap = some (colsOf p b 1) := t1
    rw [if_neg (by simp; omega), hi, Option.bind_some, sizeOf_ok, Option.bind_some]
    simp only [c1, t1', r1, Option.bind_some]
    have hg : 0 ≤ gridN p b 0 ∧ gridN p b 0 ≤ 2000000 := by unfold gridN; split <;> omega
    have fin : ∃ x e, F_panel_Rows_J6 N p b (sizeW (kindOf p.Kinds b) 0, sizeH (kindOf p.Kinds b) 0) (colsOf p b 0) (colsOf p b 1) (gridN p b 0) = some (x, e) ∧ (e ≠ 0 → x.W = 0) ∧
        (e = 0 → (∃ l, x = withSlots p l ∧ openErr x = 0) ∧ ∀ q, gridN p b q * colsOf p b q ≤ (x.Slots.length : Int)) := by
      unfold F_panel_Rows_J6
      obtain ⟨N', M', e, a1, a2, a3, a4, a5⟩ := rowsLoop (N := N) hB hk1 (gridN p b 0 + 1).toNat N 0 0 0 (Int.le_refl _) (by omega) (by have := h.big; omega) ⟨Int.le_refl _, hg.1⟩ ⟨Int.le_refl _, by omega⟩ (fun _ => rfl)
      rw [e]
      have hcn : colsOf p b 0 = 0 → N' = 0 := fun hh => by
        have : gridN p b 0 = 0 := by unfold gridN; rw [if_pos hh]
        omega
      rcases rows_ok (q := 0) h hB hml hk1 ⟨c2, c3⟩ ⟨a1.1, by omega⟩ ⟨t2, t3⟩ a2 hcn a3 with ⟨_, e3⟩ | ⟨_, l', e3, e4⟩
      · rw [e3]; exact ⟨_, _, rfl, fun _ => rfl, fun h => absurd h (by decide)⟩
      · rw [e3, Option.bind_some]
        unfold toldOf
        by_cases ho : openErr (withSlots p l') = 0
        · rw [if_pos ho]
          refine ⟨_, _, rfl, fun h => absurd rfl h, fun _ => ⟨⟨l', rfl, ho⟩, fun q => ?_⟩⟩
          have := grid_le hB hk1 q (V := val p b N' M') (fun k k1 k2 => a5 k k1 k2)
          show _ ≤ (l'.length : Int)
          rw [e4]; exact this
        · rw [if_neg ho]
          exact ⟨_, _, rfl, fun _ => rfl, fun h => absurd h ho⟩
    by_cases hc : colsOf p b 0 = 0
    · rw [if_pos (by simpa using hc)]
      have : gridN p b 0 = 0 := by unfold gridN; rw [if_pos hc]
      rw [this] at fin; exact fin
    · rw [if_neg (by simpa using hc)]
      have : gridN p b 0 = rowsOf p b 0 := by unfold gridN; rw [if_neg hc]
      rw [this] at fin; exact fin
  · rw [if_pos (by simpa using he)]
    exact ⟨_, _, rfl, fun _ => rfl, fun h => absurd h he⟩
end Go.Proofs.Ytpkicpnbpldkpaa
