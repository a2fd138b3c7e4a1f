/- Rows and grids of a panel, slot by slot: the program and the reference lay the same. Plain Lean about the plain functions. -/
import Derived.Test.YtpkicpnbpldkpaaC2
namespace Go.Proofs.Ytpkicpnbpldkpaa
/-- A row of slots. -/
def rowFrom (p : TPanel) (b : ByteArray) (q w y : Int) : Nat → Int → List TSlot
  | 0, _ => []
  | r + 1, x => TSlot.mk b q (TPoint.mk (w64 (p.Rail + (w64 (x * (w64 (w + p.Gap)))))) y) :: rowFrom p b q w y r (x + 1)
theorem rowFrom_len (p : TPanel) (b : ByteArray) (q w y : Int) : ∀ (r : Nat) (x : Int), (rowFrom p b q w y r x).length = r
  | 0, _ => rfl
  | r + 1, x => by simp [rowFrom, rowFrom_len p b q w y r (x + 1)]
theorem row_loopS {p : TPanel} {b : ByteArray} {q c y : Int} {sz : Int × Int} (hc : c ≤ 2000000) : ∀ (r m : Nat) (l : List TSlot) (x : Int), 0 ≤ x → x + r = c → r < m → l.length + r ≤ 4000000 →
    F_panel_row_L1 p b q c y sz m l x = some (l ++ rowFrom p b q sz.1 y r x)
  | 0, m + 1, l, x, _, h1, _, _ => by rw [F_panel_row_L1.eq_2, if_neg (by simp; omega)]; simp [rowFrom]
  | r + 1, m + 1, l, x, h0, h1, h2, h3 => by
    rw [F_panel_row_L1.eq_2, if_pos (by simp; omega), apd_ok (by simp; omega), Option.bind_some, w64_id (x := x + 1) (by omega) (by omega)]
    rw [row_loopS hc r m _ (x + 1) (by omega) (by omega) (by omega) (by simp; omega)]
    simp [rowFrom]
theorem row_okS {N : Nat} {p : TPanel} {b : ByteArray} (hN : 20000000 ≤ N) (hk : kindIx p.Kinds b ≠ -1) (q y : Int) (c : Nat) (hc : c ≤ 2000000) : F_panel_row N p b q c y = some (rowFrom p b q (sizeW (kindOf p.Kinds b) q) y c 0) := by
  rcases kindIx_lo p.Kinds b with h' | ⟨_, hi, _, _⟩
  · exact absurd h' hk
  unfold F_panel_row
  rw [kindAt_ok, Option.bind_some, hi, Option.bind_some, sizeOf_ok, Option.bind_some]
  simpa using row_loopS (p := p) (b := b) (q := q) (c := (c : Int)) (y := y) (sz := (sizeW (kindOf p.Kinds b) q, sizeH (kindOf p.Kinds b) q)) (by omega) c N [] 0 (by omega) (by omega) (by omega) (by simp; omega)
theorem rowR_loop {p : TPanel} {b : ByteArray} {q w y c : Int} (hc : c ≤ 2000000) : ∀ (r m : Nat) (l : List TSlot) (x : Int), 0 ≤ x → x + r = c → r < m → l.length + r ≤ 4000000 →
    F_etchhouseref9_row_L1 p b q w y c m l x = some (l ++ rowFrom p b q w y r x)
  | 0, m + 1, l, x, _, h1, _, _ => by rw [F_etchhouseref9_row_L1.eq_2, if_neg (by simp; omega)]; simp [rowFrom]
  | r + 1, m + 1, l, x, h0, h1, h2, h3 => by
    rw [F_etchhouseref9_row_L1.eq_2, if_pos (by simp; omega), apd_ok (by simp; omega), Option.bind_some, w64_id (x := x + 1) (by omega) (by omega)]
    rw [rowR_loop hc r m _ (x + 1) (by omega) (by omega) (by omega) (by simp; omega)]
    simp [rowFrom]
theorem rowR_ok {N : Nat} {p : TPanel} {b : ByteArray} (hN : 20000000 ≤ N) (q w y : Int) (c : Nat) (hc : c ≤ 2000000) (l : List TSlot) (hl : l.length + c ≤ 4000000) : F_etchhouseref9_row N p l b q w y c = some (l ++ rowFrom p b q w y c 0) := by
  unfold F_etchhouseref9_row
  exact rowR_loop (by omega) c N l 0 (by omega) (by omega) (by omega) hl
/-- Rows of slots, one above the other. -/
def rowsFrom (p : TPanel) (b : ByteArray) (q w h : Int) (c : Nat) : Nat → Int → List TSlot
  | 0, _ => []
  | r + 1, y => rowFrom p b q w y c 0 ++ rowsFrom p b q w h c r (w64 (y + w64 (h + p.Gap)))
/-- The height behind them. -/
def yEnd (p : TPanel) (h : Int) : Nat → Int → Int
  | 0, y => y
  | r + 1, y => yEnd p h r (w64 (y + w64 (h + p.Gap)))
theorem rowsFrom_len (p : TPanel) (b : ByteArray) (q w h : Int) (c : Nat) : ∀ (r : Nat) (y : Int), (rowsFrom p b q w h c r y).length = r * c
  | 0, _ => by simp [rowsFrom]
  | r + 1, y => by rw [rowsFrom, List.length_append, rowFrom_len, rowsFrom_len p b q w h c r, Nat.succ_mul, Nat.add_comm]
section
variable {N : Nat} {p : TPanel} {b : ByteArray} {q : Int} {c n t m : Nat} (h : FuelP N p) (hB : PB p) (hmk : p.Marks.length ≤ 10) (hk : kindIx p.Kinds b ≠ -1) (hn : n ≤ 2000000) (hm : m ≤ 2000000) (hc : c ≤ 2000000) (ht : t ≤ 2000000)
include h hB hmk hk hn hm hc ht
omit hc in
theorem rows_secondS : ∀ (r fu : Nat) (l : List TSlot) (y : Int), r ≤ m → r < fu → l.length + r * t ≤ 500 →
    F_panel_rows_L3 N p b q c n t m (kindOf p.Kinds b) fu l y ((n + m - r : Nat) : Int) = some (toldOf p (l ++ rowsFrom p b (w64 (q + 1)) (sizeW (kindOf p.Kinds b) (w64 (q + 1))) (sizeH (kindOf p.Kinds b) (w64 (q + 1))) t r y))
  | 0, fu + 1, l, y, _, _, _ => by
    rw [F_panel_rows_L3.eq_2, w64_id (x := (n : Int) + m) (by omega) (by omega), if_neg (by simp), end_ok h hB.klen hmk l]
    simp [rowsFrom]
  | r + 1, fu + 1, l, y, h1, h2, h3 => by
    rw [Nat.succ_mul] at h3
    rw [F_panel_rows_L3.eq_2, w64_id (x := (n : Int) + m) (by omega) (by omega), if_pos (by simp; omega), if_pos (by simp; omega)]
    unfold F_panel_rows_J4
    have e1 := row_okS (p := p) (b := b) h.big hk (w64 (q + 1)) y t (by omega)
    rw [sizeOf_ok, Option.bind_some, e1, Option.bind_some, apd_ok (by rw [rowFrom_len]; omega), Option.bind_some, w64_id (x := ((n + m - (r + 1) : Nat) : Int) + 1) (by omega) (by omega)]
    rw [show ((n + m - (r + 1) : Nat) : Int) + 1 = ((n + m - r : Nat) : Int) by omega]
    rw [rows_secondS r fu _ _ (by omega) (by omega) (by rw [List.length_append, rowFrom_len]; omega)]
    simp [rowsFrom]
theorem rows_firstS : ∀ (r fu : Nat) (l : List TSlot) (y : Int), r ≤ n → r + m < fu → l.length + (r * c + m * t) ≤ 500 →
    F_panel_rows_L3 N p b q c n t m (kindOf p.Kinds b) fu l y ((n - r : Nat) : Int) = some (toldOf p (l ++ rowsFrom p b q (sizeW (kindOf p.Kinds b) q) (sizeH (kindOf p.Kinds b) q) c r y ++
      rowsFrom p b (w64 (q + 1)) (sizeW (kindOf p.Kinds b) (w64 (q + 1))) (sizeH (kindOf p.Kinds b) (w64 (q + 1))) t m (yEnd p (sizeH (kindOf p.Kinds b) q) r y)))
  | 0, fu, l, y, _, h2, h3 => by
    have e1 := rows_secondS (q := q) (c := c) h hB hmk hk hn hm ht m fu l y (Nat.le_refl _) (by omega) (by omega)
    rw [show (n + m - m : Nat) = n - 0 by omega] at e1
    rw [e1]
    simp [rowsFrom, yEnd]
  | r + 1, fu + 1, l, y, h1, h2, h3 => by
    rw [Nat.succ_mul] at h3
    rw [F_panel_rows_L3.eq_2, w64_id (x := (n : Int) + m) (by omega) (by omega), if_pos (by simp; omega), if_neg (by simp; omega)]
    unfold F_panel_rows_J4
    have e1 := row_okS (p := p) (b := b) h.big hk q y c (by omega)
    rw [sizeOf_ok, Option.bind_some, e1, Option.bind_some, apd_ok (by rw [rowFrom_len]; omega), Option.bind_some, w64_id (x := ((n - (r + 1) : Nat) : Int) + 1) (by omega) (by omega)]
    rw [show ((n - (r + 1) : Nat) : Int) + 1 = ((n - r : Nat) : Int) by omega]
    rw [rows_firstS r fu _ _ (by omega) (by omega) (by rw [List.length_append, rowFrom_len]; omega)]
    simp [rowsFrom, yEnd]
end
/-- What rows lay. -/
def laidOf (p : TPanel) (b : ByteArray) (q : Int) (c n t m : Nat) : List TSlot :=
  rowsFrom p b q (sizeW (kindOf p.Kinds b) q) (sizeH (kindOf p.Kinds b) q) c n p.Rail ++
    rowsFrom p b (w64 (q + 1)) (sizeW (kindOf p.Kinds b) (w64 (q + 1))) (sizeH (kindOf p.Kinds b) (w64 (q + 1))) t m (yEnd p (sizeH (kindOf p.Kinds b) q) n p.Rail)
def rowsOut (p : TPanel) (b : ByteArray) (q : Int) (c n t m : Nat) : TPanel × Int := if 500 < n * c + m * t then (zeroP, 2) else toldOf p (laidOf p b q c n t m)
theorem rows_okS {N : Nat} {p : TPanel} {b : ByteArray} {q : Int} (h : FuelP N p) (hB : PB p) (hmk : p.Marks.length ≤ 10) (hk : kindIx p.Kinds b ≠ -1) {c n t m : Nat} (hc : c ≤ 2000000) (hn : n ≤ 2000000) (ht : t ≤ 2000000) (hm : m ≤ 2000000) :
    F_panel_rows N p b q c n t m = some (rowsOut p b q c n t m) := by
  have b1 := mul_bd (a := (n : Int)) (c := (c : Int)) ⟨by omega, by omega⟩ ⟨by omega, by omega⟩
  have b2 := mul_bd (a := (m : Int)) (c := (t : Int)) ⟨by omega, by omega⟩ ⟨by omega, by omega⟩
  unfold F_panel_rows rowsOut
  rw [w64_id (x := (n : Int) * c) (by omega) (by omega), w64_id (x := (m : Int) * t) (by omega) (by omega), w64_id (by omega) (by omega)]
  have e : ((500 : Int) < (n : Int) * c + (m : Int) * t) ↔ 500 < n * c + m * t := by
    rw [← Int.natCast_mul, ← Int.natCast_mul, ← Int.natCast_add]; omega
  by_cases hbig : 500 < n * c + m * t
  · rw [if_pos (by simpa using e.2 hbig), if_pos hbig]; rfl
  · rw [if_neg (by simpa using fun hh => hbig (e.1 hh)), if_neg hbig]
    rcases kindIx_lo p.Kinds b with h' | ⟨_, hi, _, _⟩
    · exact absurd h' hk
    rw [kindAt_ok, Option.bind_some, hi, Option.bind_some]
    have e1 := rows_firstS (q := q) (c := c) (t := t) (n := n) (m := m) h hB hmk hk hn hm hc ht n N [] p.Rail (Nat.le_refl _) (by have := h.big; omega) (by simp; omega)
    rw [Nat.sub_self] at e1
    simpa [laidOf] using e1
theorem laid_ok {N : Nat} {p : TPanel} (h : FuelP N p) (l : List TSlot) : F_etchhouseref9_laid N p l = some (toldOf p l) := by
  unfold F_etchhouseref9_laid
  have := checkPanel_ok (p := withSlots p l) (N := N) (by have := h.big; omega) h.kinds h.names
  unfold withSlots at this
  rw [this, Option.bind_some]
  unfold toldOf withSlots
  by_cases he : openErr ⟨p.W, p.H, p.Rail, p.Gap, p.Kinds, l, p.Marks⟩ = 0
  · rw [if_neg (by simpa using he), if_pos he]
  · rw [if_pos (by simpa using he), if_neg he]; rfl
theorem fit_many (a b c : Int) : F_etchhouseref9_fit a b c = F_panel_many a b c := rfl
theorem sz0 (k : TBoardKind) : sizeW k 0 = k.W ∧ sizeH k 0 = k.H ∧ sizeW k 1 = k.H ∧ sizeH k 1 = k.W := ⟨rfl, rfl, rfl, rfl⟩
section
variable {N : Nat} {p : TPanel} {b : ByteArray} (h : FuelP N p) (hB : PB p) (hmk : p.Marks.length ≤ 10) (hk : kindIx p.Kinds b ≠ -1)
include h hB
theorem gridR_loop {q w ht : Int} {c n : Nat} (hh : 1 ≤ ht ∧ ht ≤ 1000000) (hc : 0 < c) (hnc : n * c ≤ 500) : ∀ (r fu : Nat) (l : List TSlot) (x : Nat), x + r = n → r < fu → l.length + r * c ≤ 500 →
    F_etchhouseref9_Grid_L1 N p b q (w, ht) c n fu l x = some (toldOf p (l ++ rowsFrom p b q w ht c r (p.Rail + x * (ht + p.Gap))))
  | 0, fu + 1, l, x, h1, _, _ => by
    rw [F_etchhouseref9_Grid_L1.eq_2, if_neg (by simp; omega), laid_ok h, Option.bind_some]
    simp [rowsFrom]
  | r + 1, fu + 1, l, x, h1, h2, h3 => by
    have b5 := hB.r0; have b6 := hB.r1; have b7 := hB.g0; have b8 := hB.g1; have hbig := h.big
    have hn : n ≤ 500 := Nat.le_trans (Nat.le_mul_of_pos_right n hc) hnc
    have hc5 : c ≤ 500 := by
      have : 1 * c ≤ n * c := Nat.mul_le_mul_right c (by omega)
      omega
    have hx0 : 0 ≤ (x : Int) * (ht + p.Gap) := Int.mul_nonneg (by omega) (by omega)
    have hx1 : (x : Int) * (ht + p.Gap) ≤ 500 * 2000000 := Int.mul_le_mul (by omega) (by omega) (by omega) (by omega)
    rw [Nat.succ_mul] at h3
    rw [F_etchhouseref9_Grid_L1.eq_2, if_pos (by simp; omega)]
    rw [rowR_ok (by omega) q w _ c (by omega) l (by omega), Option.bind_some, w64_id (x := (x : Int) + 1) (by omega) (by omega)]
    have ih := gridR_loop (q := q) (w := w) hh hc hnc r fu (l ++ rowFrom p b q w (w64 (p.Rail + w64 ((x : Int) * w64 (ht + p.Gap)))) c 0) (x + 1) (by omega) (by omega) (by rw [List.length_append, rowFrom_len]; omega)
    rw [Int.natCast_succ] at ih
    rw [ih]
    have e1 : w64 (p.Rail + w64 ((x : Int) * w64 (ht + p.Gap))) = p.Rail + x * (ht + p.Gap) := by
      rw [w64_id (x := ht + p.Gap) (by omega) (by omega), w64_id (x := (x : Int) * (ht + p.Gap)) (by omega) (by omega), w64_id (by omega) (by omega)]
    rw [e1]
    simp only [rowsFrom, List.append_assoc]
    rw [w64_id (x := ht + p.Gap) (by omega) (by omega), w64_id (x := p.Rail + (x : Int) * (ht + p.Gap) + (ht + p.Gap)) (by omega) (by omega)]
    rw [show p.Rail + ((x : Int) + 1) * (ht + p.Gap) = p.Rail + (x : Int) * (ht + p.Gap) + (ht + p.Gap) by rw [Int.add_mul]; omega]
end
theorem rowsOut_cut (p : TPanel) (b : ByteArray) (q : Int) (c n : Nat) : rowsOut p b q c n 0 0 = if 500 < n * c then (zeroP, 2) else toldOf p (rowsFrom p b q (sizeW (kindOf p.Kinds b) q) (sizeH (kindOf p.Kinds b) q) c n p.Rail) := by
  unfold rowsOut laidOf
  simp [rowsFrom]
/-- What a grid is, by the program and by the reference. -/
theorem grid_both {N : Nat} {p : TPanel} {b : ByteArray} {q : Int} (h : FuelP N p) : ∃ r, F_panel_Grid N p b q = some r ∧ F_etchhouseref9_Grid N p b q = some r ∧ (r = (zeroP, r.2) ∨ ∃ l, r = toldOf p l ∧ l.length ≤ 500 ∧ p.Kinds.length ≤ 50 ∧ p.Marks.length ≤ 10) := by
  unfold F_panel_Grid F_etchhouseref9_Grid
  rw [checkPanelP_ok h, Option.bind_some, checkPanel_ok (by have := h.big; omega) h.kinds h.names, Option.bind_some]
  by_cases he : openErr p = 0
  · obtain ⟨hB, hsl, hml, hso⟩ := openErr_ok he
    have b5 := hB.r0; have b6 := hB.r1; have b1 := hB.w0; have b2 := hB.w1; have b3 := hB.h0; have b4 := hB.h1
    rw [if_neg (by simpa using he), if_neg (by simpa using he), kindAt_ok, kindR_ok b (by have := hB.klen; omega) h.kinds, Option.bind_some, Option.bind_some]
    rcases kindIx_lo p.Kinds b with hk | ⟨hk, hi, _, _⟩
    · rw [if_pos (by simp; omega), if_pos (by simp; omega)]; exact ⟨_, rfl, rfl, .inl rfl⟩
    have hk1 : kindIx p.Kinds b ≠ -1 := by omega
    rw [if_neg (by simp; omega), if_neg (by simp; omega), within_ok, withinR_ok, Option.bind_some, Option.bind_some]
    cases hq : within q 0 3
    · exact ⟨_, rfl, rfl, .inl rfl⟩
    rw [if_neg (by simp), if_neg (by simp)]
    simp only [hi, Option.bind_some, sizeOf_ok, sizeOfR_ok]
    obtain ⟨⟨c1, c2, c3⟩, ⟨r1, r2, r3⟩⟩ := cols_bd hB hk1 q
    have hs := sizeWH hB hk1 q
    simp only [Option.bind_some, fit_many, c1, r1]
    obtain ⟨c, hc⟩ := Int.eq_ofNat_of_zero_le c2
    obtain ⟨n, hn⟩ := Int.eq_ofNat_of_zero_le r2
    have hc3 : c ≤ 2000000 := by omega
    have hn3 : n ≤ 2000000 := by omega
    simp only [hc, hn]
    by_cases hc0 : c = 0
    · subst hc0
      have e1 := rows_okS (q := q) h hB hml hk1 (c := 0) (n := 0) (t := 0) (m := 0) (by omega) (by omega) (by omega) (by omega)
      refine ⟨toldOf p [], ?_, ?_, .inr ⟨[], rfl, by simp, hB.klen, hml⟩⟩
      · rw [if_pos (by simp)]
        unfold F_panel_Grid_J1
        rw [show ((0 : Nat) : Int) = 0 from rfl] at e1
        rw [show ((0 : Nat) : Int) = 0 from rfl, e1, Option.bind_some]
        simp [rowsOut, laidOf, rowsFrom]
      · rw [if_neg (by simp), Option.bind_some, if_neg (by simp)]
        obtain ⟨M, hM⟩ : ∃ M, N = M + 1 := ⟨N - 1, by have := h.big; omega⟩
        have hl := laid_ok h []
        have e2 : ∀ fu, F_etchhouseref9_Grid_L1 N p b q (sizeW (kindOf p.Kinds b) q, sizeH (kindOf p.Kinds b) q) ((0 : Nat) : Int) (n : Int) (fu + 1) [] 0 = some (toldOf p []) := fun fu => by
          rw [F_etchhouseref9_Grid_L1.eq_2, if_neg (by simp), hl, Option.bind_some]
        rw [hM] at e2 ⊢
        exact e2 M
    · have e1 := rows_okS (q := q) h hB hml hk1 (c := c) (n := n) (t := 0) (m := 0) (by omega) (by omega) (by omega) (by omega)
      have hd : dv 500 (c : Int) = some ((500 : Int) / c) := by
        rw [dv_ok2 (by omega) (by rw [Int.tdiv_eq_ediv_of_nonneg (by omega)]; have := Int.ediv_nonneg (a := 500) (b := (c : Int)) (by omega) (by omega); omega)
          (by rw [Int.tdiv_eq_ediv_of_nonneg (by omega)]; have := Int.ediv_le_self (a := 500) (b := (c : Int)) (by omega); omega)]
        rw [Int.tdiv_eq_ediv_of_nonneg (by omega)]
      have hlt : ((500 : Int) / c < n) ↔ 500 < n * c := by
        rw [Int.ediv_lt_iff_lt_mul (by omega), ← Int.natCast_mul]; omega
      refine ⟨rowsOut p b q c n 0 0, ?_, ?_, ?_⟩
      · rw [if_neg (by simp; omega)]
        unfold F_panel_Grid_J1
        rw [show F_panel_rows N p b q c n 0 0 = _ from e1, Option.bind_some]
      · rw [if_pos (by simp; omega), hd, Option.bind_some, Option.bind_some, rowsOut_cut]
        by_cases hb : 500 < n * c
        · rw [if_pos (by simpa using hlt.2 hb), if_pos hb]; rfl
        · rw [if_neg (by simpa using fun hh => hb (hlt.1 hh)), if_neg hb]
          have := gridR_loop (b := b) (q := q) (w := sizeW (kindOf p.Kinds b) q) h hB (ht := sizeH (kindOf p.Kinds b) q) (c := c) (n := n) (by omega) (by omega) (by omega) n N [] 0 (by omega) (by
            have hn5 : n ≤ n * c := Nat.le_mul_of_pos_right n (by omega)
            have := h.big; omega) (by simp; omega)
          simpa using this
      · rw [rowsOut_cut]
        split
        · exact .inl rfl
        · exact .inr ⟨_, rfl, by rw [rowsFrom_len]; omega, hB.klen, hml⟩
  · rw [if_pos (by simpa using he), if_pos (by simpa using he)]
    exact ⟨_, rfl, rfl, .inl rfl⟩
section
variable {N : Nat} {p : TPanel} {b : ByteArray} (h : FuelP N p) (hB : PB p) (hk : kindIx p.Kinds b ≠ -1)
/-- So many slots when n rows are not turned. -/
def vOf (p : TPanel) (b : ByteArray) (n : Int) : Int := val p b n (left p b n)
/-- The most slots, with as many rows that are not turned as can be. -/
def Best (p : TPanel) (b : ByteArray) (n : Int) : Prop := (0 ≤ n ∧ n ≤ gridN p b 0) ∧ ∀ k, 0 ≤ k → k ≤ gridN p b 0 → vOf p b k ≤ vOf p b n ∧ (n < k → vOf p b k < vOf p b n)
theorem Best.one {n m : Int} (h1 : Best p b n) (h2 : Best p b m) : n = m := by
  have a := h1.2 m h2.1.1 h2.1.2
  have c := h2.2 n h1.1.1 h1.1.2
  rcases Int.lt_trichotomy n m with hh | hh | hh
  · have := a.2 hh; omega
  · exact hh
  · have := c.2 hh; omega
include hB hk
theorem v_bd {k : Int} (h0 : 0 ≤ k) (h1 : k ≤ gridN p b 0) : (0 ≤ k * colsOf p b 0 ∧ k * colsOf p b 0 ≤ 4000000000000) ∧ (0 ≤ left p b k * colsOf p b 1 ∧ left p b k * colsOf p b 1 ≤ 4000000000000) ∧ k ≤ 2000000 ∧ 0 ≤ left p b k ∧ left p b k ≤ 2000000 := by
  obtain ⟨⟨_, c2, c3⟩, ⟨_, r2, r3⟩⟩ := cols_bd hB hk 0
  obtain ⟨⟨_, t2, t3⟩, _⟩ := cols_bd hB hk 1
  have hg : gridN p b 0 ≤ 2000000 := by unfold gridN; split <;> omega
  obtain ⟨l1, l2, _⟩ := left_ok hB hk h0 h1
  exact ⟨mul_bd ⟨h0, by omega⟩ ⟨c2, c3⟩, mul_bd ⟨l1, l2⟩ ⟨t2, t3⟩, by omega, l1, l2⟩
/-- The program's loop, upwards. -/
theorem upLoop : ∀ (r m : Nat) (bN n : Int), 1 ≤ n → n + r = gridN p b 0 + 1 → r < m → 0 ≤ bN → bN < n → (∀ k, 0 ≤ k → k < n → vOf p b k ≤ vOf p b bN ∧ (bN < k → vOf p b k < vOf p b bN)) →
    ∃ N', F_panel_Rows_L4 N p b (sizeW (kindOf p.Kinds b) 0, sizeH (kindOf p.Kinds b) 0) (colsOf p b 0) (colsOf p b 1) (gridN p b 0) m bN (left p b bN) n = ((F_panel_rows N p b 0 (colsOf p b 0) N' (colsOf p b 1) (left p b N')).bind fun y37 => some (y37.1, y37.2)) ∧ Best p b N'
  | 0, m + 1, bN, n, h0, h1, _, h3, h4, h5 => by
    rw [F_panel_Rows_L4.eq_2, if_neg (by simp; omega)]
    exact ⟨bN, rfl, ⟨h3, by omega⟩, fun k k0 k1 => h5 k k0 (by omega)⟩
  | r + 1, m + 1, bN, n, h0, h1, h2, h3, h4, h5 => by
    obtain ⟨_, _, l3⟩ := left_ok hB hk (n := n) (by omega) (by omega)
    obtain ⟨v1, v2, v3, v4, v5⟩ := v_bd hB hk (k := n) (by omega) (by omega)
    obtain ⟨u1, u2, u3, u4, u5⟩ := v_bd hB hk (k := bN) (by omega) (by omega)
    have step : F_panel_Rows_L4 N p b (sizeW (kindOf p.Kinds b) 0, sizeH (kindOf p.Kinds b) 0) (colsOf p b 0) (colsOf p b 1) (gridN p b 0) (m + 1) bN (left p b bN) n = F_panel_Rows_J5 (colsOf p b 0) (colsOf p b 1) bN (left p b bN) n (F_panel_Rows_L4 N p b (sizeW (kindOf p.Kinds b) 0, sizeH (kindOf p.Kinds b) 0) (colsOf p b 0) (colsOf p b 1) (gridN p b 0) m) (left p b n) := by
      rw [F_panel_Rows_L4.eq_2, if_pos (by simp; omega)]
      by_cases ht : 0 < colsOf p b 1
      · rw [if_pos (by simpa using ht), l3 ht, Option.bind_some]
      · rw [if_neg (by simpa using ht)]
        have : left p b n = 0 := by unfold left; rw [if_neg ht]
        rw [this]
    rw [step]
    unfold F_panel_Rows_J5
    rw [w64_id (x := bN * colsOf p b 0) (by omega) (by omega), w64_id (x := left p b bN * colsOf p b 1) (by omega) (by omega), w64_id (x := n * colsOf p b 0) (by omega) (by omega), w64_id (x := left p b n * colsOf p b 1) (by omega) (by omega), w64_id (by omega) (by omega), w64_id (by omega) (by omega), w64_id (x := n + 1) (by omega) (by omega)]
    by_cases hle : vOf p b bN ≤ vOf p b n
    · rw [if_pos (by simpa [vOf, val] using hle)]
      refine upLoop r m n (n + 1) (by omega) (by omega) (by omega) (by omega) (by omega) (fun k k0 k1 => ?_)
      by_cases hkn : k = n
      · subst hkn; exact ⟨Int.le_refl _, fun hh => absurd hh (by omega)⟩
      · have := h5 k k0 (by omega)
        exact ⟨by omega, fun hh => by omega⟩
    · rw [if_neg (by simpa [vOf, val] using hle)]
      refine upLoop r m bN (n + 1) (by omega) (by omega) (by omega) h3 (by omega) (fun k k0 k1 => ?_)
      by_cases hkn : k = n
      · subst hkn; exact ⟨by omega, fun _ => by omega⟩
      · exact h5 k k0 (by omega)
theorem up_ok {m : Nat} (hm : (gridN p b 0).toNat + 2 < m) : ∃ N', F_panel_Rows_L4 N p b (sizeW (kindOf p.Kinds b) 0, sizeH (kindOf p.Kinds b) 0) (colsOf p b 0) (colsOf p b 1) (gridN p b 0) m 0 0 0 = ((F_panel_rows N p b 0 (colsOf p b 0) N' (colsOf p b 1) (left p b N')).bind fun y37 => some (y37.1, y37.2)) ∧ Best p b N' := by
  obtain ⟨⟨_, c2, c3⟩, ⟨_, r2, r3⟩⟩ := cols_bd hB hk 0
  have hg : 0 ≤ gridN p b 0 ∧ gridN p b 0 ≤ 2000000 := by unfold gridN; split <;> omega
  obtain ⟨m, rfl⟩ : ∃ m', m = m' + 1 := ⟨m - 1, by omega⟩
  obtain ⟨_, _, l3⟩ := left_ok hB hk (n := 0) (by omega) (by omega)
  obtain ⟨v1, v2, v3, v4, v5⟩ := v_bd hB hk (k := 0) (by omega) (by omega)
  have step : F_panel_Rows_L4 N p b (sizeW (kindOf p.Kinds b) 0, sizeH (kindOf p.Kinds b) 0) (colsOf p b 0) (colsOf p b 1) (gridN p b 0) (m + 1) 0 0 0 = F_panel_Rows_J5 (colsOf p b 0) (colsOf p b 1) 0 0 0 (F_panel_Rows_L4 N p b (sizeW (kindOf p.Kinds b) 0, sizeH (kindOf p.Kinds b) 0) (colsOf p b 0) (colsOf p b 1) (gridN p b 0) m) (left p b 0) := by
    rw [F_panel_Rows_L4.eq_2, if_pos (by simp; omega)]
    by_cases ht : 0 < colsOf p b 1
    · rw [if_pos (by simpa using ht), l3 ht, Option.bind_some]
    · rw [if_neg (by simpa using ht)]
      have : left p b 0 = 0 := by unfold left; rw [if_neg ht]
      rw [this]
  rw [step]
  unfold F_panel_Rows_J5
  have e1 : w64 (w64 (0 * colsOf p b 0) + w64 (0 * colsOf p b 1)) = 0 := by simp; rfl
  have e2 : w64 (w64 (0 * colsOf p b 0) + w64 (left p b 0 * colsOf p b 1)) = 0 * colsOf p b 0 + left p b 0 * colsOf p b 1 := by
    rw [w64_id (x := 0 * colsOf p b 0) (by omega) (by omega), w64_id (x := left p b 0 * colsOf p b 1) (by omega) (by omega), w64_id (by omega) (by omega)]
  rw [e1, e2, if_pos (by simp; omega)]
  rw [show w64 (0 + 1) = 1 from rfl]
  exact upLoop hB hk (gridN p b 0).toNat m 0 1 (by omega) (by omega) (by omega) (Int.le_refl _) (by omega) (fun k k0 k1 => by
    have : k = 0 := by omega
    subst this
    exact ⟨Int.le_refl _, fun hh => absurd hh (by omega)⟩)
/-- The reference's loop, downwards. -/
theorem downLoop : ∀ (r m : Nat) (A a : Int), a + 1 = r → a < A → r < m → 0 ≤ A → A ≤ gridN p b 0 → (∀ k, a < k → k ≤ gridN p b 0 → vOf p b k ≤ vOf p b A ∧ (A < k → vOf p b k < vOf p b A)) →
    ∃ N', F_etchhouseref9_Rows_L3 N p b (kindOf p.Kinds b) (kindOf p.Kinds b) (colsOf p b 0) (colsOf p b 1) m (vOf p b A) A (left p b A) a = (if 500 < vOf p b N' then some (zeroP, 2) else F_etchhouseref9_Rows_L5 N p b (kindOf p.Kinds b) (kindOf p.Kinds b) (colsOf p b 0) (colsOf p b 1) N' (left p b N') N [] p.Rail 0) ∧ Best p b N'
  | 0, m + 1, A, a, h0, h1, _, h3, h4, h5 => by
    rw [F_etchhouseref9_Rows_L3.eq_2, if_neg (by simp; omega)]
    refine ⟨A, ?_, ⟨h3, h4⟩, fun k k0 k1 => h5 k (by omega) k1⟩
    by_cases hb : 500 < vOf p b A
    · rw [if_pos (by simpa using hb), if_pos hb]; rfl
    · rw [if_neg (by simpa using hb), if_neg hb]
  | r + 1, m + 1, A, a, h0, h1, h2, h3, h4, h5 => by
    obtain ⟨_, _, l3⟩ := left_ok hB hk (n := a) (by omega) (by omega)
    obtain ⟨v1, v2, v3, v4, v5⟩ := v_bd hB hk (k := a) (by omega) (by omega)
    have step : F_etchhouseref9_Rows_L3 N p b (kindOf p.Kinds b) (kindOf p.Kinds b) (colsOf p b 0) (colsOf p b 1) (m + 1) (vOf p b A) A (left p b A) a = F_etchhouseref9_Rows_J4 (colsOf p b 0) (colsOf p b 1) (vOf p b A) A (left p b A) a (F_etchhouseref9_Rows_L3 N p b (kindOf p.Kinds b) (kindOf p.Kinds b) (colsOf p b 0) (colsOf p b 1) m) (left p b a) := by
      rw [F_etchhouseref9_Rows_L3.eq_2, if_pos (by simp; omega)]
      by_cases ht : 0 < colsOf p b 1
      · rw [if_pos (by simpa using ht)]
        have := l3 ht
        rw [(sz0 _).1, (sz0 _).2.1] at this
        rw [fit_many, this, Option.bind_some]
      · rw [if_neg (by simpa using ht)]
        have : left p b a = 0 := by unfold left; rw [if_neg ht]
        rw [this]
    rw [step]
    unfold F_etchhouseref9_Rows_J4
    rw [w64_id (x := a * colsOf p b 0) (by omega) (by omega), w64_id (x := left p b a * colsOf p b 1) (by omega) (by omega), w64_id (by omega) (by omega), w64_id (x := a - 1) (by omega) (by omega)]
    by_cases hlt : vOf p b A < vOf p b a
    · rw [if_pos (by exact decide_eq_true hlt)]
      refine downLoop r m a (a - 1) (by omega) (by omega) (by omega) (by omega) (by omega) (fun k k0 k1 => ?_)
      by_cases hkn : k = a
      · subst hkn; exact ⟨Int.le_refl _, fun hh => absurd hh (by omega)⟩
      · have := h5 k (by omega) k1
        exact ⟨by omega, fun hh => by omega⟩
    · rw [if_neg (by rw [decide_eq_false (show ¬ vOf p b A < a * colsOf p b 0 + left p b a * colsOf p b 1 from hlt)]; simp)]
      refine downLoop r m A (a - 1) (by omega) (by omega) (by omega) h3 h4 (fun k k0 k1 => ?_)
      by_cases hkn : k = a
      · subst hkn; exact ⟨by omega, fun hh => absurd hh (by omega)⟩
      · exact h5 k (by omega) k1
theorem down_ok {m : Nat} (hm : (gridN p b 0).toNat + 2 < m) : ∃ N', F_etchhouseref9_Rows_L3 N p b (kindOf p.Kinds b) (kindOf p.Kinds b) (colsOf p b 0) (colsOf p b 1) m (-1) 0 0 (gridN p b 0) = (if 500 < vOf p b N' then some (zeroP, 2) else F_etchhouseref9_Rows_L5 N p b (kindOf p.Kinds b) (kindOf p.Kinds b) (colsOf p b 0) (colsOf p b 1) N' (left p b N') N [] p.Rail 0) ∧ Best p b N' := by
  obtain ⟨⟨_, c2, c3⟩, ⟨_, r2, r3⟩⟩ := cols_bd hB hk 0
  have hg : 0 ≤ gridN p b 0 ∧ gridN p b 0 ≤ 2000000 := by unfold gridN; split <;> omega
  obtain ⟨m, rfl⟩ : ∃ m', m = m' + 1 := ⟨m - 1, by omega⟩
  generalize ha : gridN p b 0 = a at *
  obtain ⟨_, _, l3⟩ := left_ok hB hk (n := a) (by omega) (by omega)
  obtain ⟨v1, v2, v3, v4, v5⟩ := v_bd hB hk (k := a) (by omega) (by omega)
  have step : F_etchhouseref9_Rows_L3 N p b (kindOf p.Kinds b) (kindOf p.Kinds b) (colsOf p b 0) (colsOf p b 1) (m + 1) (-1) 0 0 a = F_etchhouseref9_Rows_J4 (colsOf p b 0) (colsOf p b 1) (-1) 0 0 a (F_etchhouseref9_Rows_L3 N p b (kindOf p.Kinds b) (kindOf p.Kinds b) (colsOf p b 0) (colsOf p b 1) m) (left p b a) := by
    rw [F_etchhouseref9_Rows_L3.eq_2, if_pos (by simp; omega)]
    by_cases ht : 0 < colsOf p b 1
    · rw [if_pos (by simpa using ht)]
      have := l3 ht
      rw [(sz0 _).1, (sz0 _).2.1] at this
      rw [fit_many, this, Option.bind_some]
    · rw [if_neg (by simpa using ht)]
      have : left p b a = 0 := by unfold left; rw [if_neg ht]
      rw [this]
  rw [step]
  unfold F_etchhouseref9_Rows_J4
  rw [w64_id (x := a * colsOf p b 0) (by omega) (by omega), w64_id (x := left p b a * colsOf p b 1) (by omega) (by omega), w64_id (by omega) (by omega), w64_id (x := a - 1) (by omega) (by omega)]
  rw [if_pos (by simp; omega)]
  exact downLoop hB hk a.toNat m a (a - 1) (by omega) (by omega) (by omega) hg.1 (by omega) (fun k k0 k1 => by
    have : k = a := by omega
    subst this
    exact ⟨Int.le_refl _, fun hh => absurd hh (by omega)⟩)
end
section
variable {N : Nat} {p : TPanel} {b : ByteArray} (h : FuelP N p) {cA cB n m : Nat} (h1 : n * cA + m * cB ≤ 500) (hA : cA ≤ 2000000) (hB : cB ≤ 2000000) (hn : n ≤ 2000000) (hm : m ≤ 2000000)
include h h1 hA hB hn hm
omit h1 hA hn in
theorem L7_ok (K : TBoardKind) : ∀ (r fu x : Nat) (l : List TSlot) (y : Int), x + r = m → r < fu → l.length + r * cB ≤ 500 →
    F_etchhouseref9_Rows_L6 N p b K K cB m fu l y x = some (toldOf p (l ++ rowsFrom p b 1 K.H K.W cB r y))
  | 0, fu + 1, x, l, y, e, _, _ => by
    rw [F_etchhouseref9_Rows_L6.eq_2, if_neg (by simp; omega), laid_ok h, Option.bind_some]
    simp [rowsFrom]
  | r + 1, fu + 1, x, l, y, e, hf, hl => by
    rw [Nat.succ_mul] at hl
    rw [F_etchhouseref9_Rows_L6.eq_2, if_pos (by simp; omega), rowR_ok h.big 1 K.H y cB hB l (by omega), Option.bind_some, w64_id (x := (x : Int) + 1) (by omega) (by omega)]
    have := L7_ok K r fu (x + 1) (l ++ rowFrom p b 1 K.H y cB 0) (w64 (y + w64 (K.W + p.Gap))) (by omega) (by omega) (by rw [List.length_append, rowFrom_len]; omega)
    rw [Int.natCast_succ] at this
    rw [this]
    simp [rowsFrom]
theorem L6_ok (K : TBoardKind) : ∀ (r fu x : Nat) (l : List TSlot) (y : Int), x + r = n → r < fu → l.length + (r * cA + m * cB) ≤ 500 →
    F_etchhouseref9_Rows_L5 N p b K K cA cB n m fu l y x = some (toldOf p (l ++ rowsFrom p b 0 K.W K.H cA r y ++ rowsFrom p b 1 K.H K.W cB m (yEnd p K.H r y)))
  | 0, fu + 1, x, l, y, e, _, hl => by
    rw [F_etchhouseref9_Rows_L5.eq_2, if_neg (by simp; omega)]
    have := L7_ok h hB hm (b := b) K m N 0 l y (by omega) (by have := h.big; omega) (by omega)
    rw [show ((0 : Nat) : Int) = 0 from rfl] at this
    rw [this]
    simp [rowsFrom, yEnd]
  | r + 1, fu + 1, x, l, y, e, hf, hl => by
    rw [Nat.succ_mul] at hl
    rw [F_etchhouseref9_Rows_L5.eq_2, if_pos (by simp; omega), rowR_ok h.big 0 K.W y cA hA l (by omega), Option.bind_some, w64_id (x := (x : Int) + 1) (by omega) (by omega)]
    have := L6_ok K r fu (x + 1) (l ++ rowFrom p b 0 K.W y cA 0) (w64 (y + w64 (K.H + p.Gap))) (by omega) (by omega) (by rw [List.length_append, rowFrom_len]; omega)
    rw [Int.natCast_succ] at this
    rw [this]
    simp [rowsFrom, yEnd]
end
theorem rows_both {N : Nat} {p : TPanel} {b : ByteArray} (h : FuelP N p) : ∃ r, F_panel_Rows N p b = some r ∧ F_etchhouseref9_Rows N p b = some r ∧ (r = (zeroP, r.2) ∨ ∃ l, r = toldOf p l ∧ l.length ≤ 500 ∧ p.Kinds.length ≤ 50 ∧ p.Marks.length ≤ 10) := by
  unfold F_panel_Rows F_etchhouseref9_Rows
  rw [checkPanelP_ok h, Option.bind_some, checkPanel_ok (by have := h.big; omega) h.kinds h.names, Option.bind_some]
  by_cases he : openErr p = 0
  · obtain ⟨hB, hsl, hml, hso⟩ := openErr_ok he
    rw [if_neg (by simpa using he), if_neg (by simpa using he), kindAt_ok, kindR_ok b (by have := hB.klen; omega) h.kinds, Option.bind_some, Option.bind_some]
    rcases kindIx_lo p.Kinds b with hk | ⟨hk, hi, _, _⟩
    · rw [if_pos (by simp; omega), if_pos (by simp; omega)]; exact ⟨_, rfl, rfl, .inl rfl⟩
    have hk1 : kindIx p.Kinds b ≠ -1 := by omega
    obtain ⟨⟨c1, c2, c3⟩, ⟨r1, r2, r3⟩⟩ := cols_bd hB hk1 0
    obtain ⟨⟨t1, t2, t3⟩, _⟩ := cols_bd hB hk1 1
    have t1' : F_panel_many (w64 (p.W - w64 (2 * p.Rail))) (sizeH (kindOf p.Kinds b) 0) p.Gap = some (colsOf p b 1) := t1
    have c1' : F_panel_many (w64 (p.W - w64 (2 * p.Rail))) (kindOf p.Kinds b).W p.Gap = some (colsOf p b 0) := c1
    have t1'' : F_panel_many (w64 (p.W - w64 (2 * p.Rail))) (kindOf p.Kinds b).H p.Gap = some (colsOf p b 1) := t1
    have r1' : F_panel_many (w64 (p.H - w64 (2 * p.Rail))) (kindOf p.Kinds b).H p.Gap = some (rowsOf p b 0) := r1
    rw [if_neg (by simp; omega), if_neg (by simp; omega)]
    simp only [hi, Option.bind_some, sizeOf_ok, fit_many, c1, t1', r1, c1', t1'', r1']
    have hg : 0 ≤ gridN p b 0 ∧ gridN p b 0 ≤ 2000000 := by unfold gridN; split <;> omega
    have hbig := h.big
    have goal : ∃ r, F_panel_Rows_J6 N p b (sizeW (kindOf p.Kinds b) 0, sizeH (kindOf p.Kinds b) 0) (colsOf p b 0) (colsOf p b 1) (gridN p b 0) = some r ∧ F_etchhouseref9_Rows_J7 N p b (kindOf p.Kinds b) (kindOf p.Kinds b) (colsOf p b 0) (colsOf p b 1) (gridN p b 0) = some r ∧ (r = (zeroP, r.2) ∨ ∃ l, r = toldOf p l ∧ l.length ≤ 500 ∧ p.Kinds.length ≤ 50 ∧ p.Marks.length ≤ 10) := by
      unfold F_panel_Rows_J6 F_etchhouseref9_Rows_J7
      obtain ⟨A, eA, bA⟩ := up_ok (N := N) hB hk1 (m := N) (by omega)
      obtain ⟨A', eA', bA'⟩ := down_ok (N := N) hB hk1 (m := N) (by omega)
      have := bA.one bA'
      subst this
      obtain ⟨v1, v2, v3, v4, v5⟩ := v_bd hB hk1 bA.1.1 bA.1.2
      rw [eA, eA']
      obtain ⟨n, hn⟩ := Int.eq_ofNat_of_zero_le bA.1.1
      obtain ⟨m, hm⟩ := Int.eq_ofNat_of_zero_le v4
      obtain ⟨c, hc⟩ := Int.eq_ofNat_of_zero_le c2
      obtain ⟨t, ht⟩ := Int.eq_ofNat_of_zero_le t2
      have hv : vOf p b A = ((n * c + m * t : Nat) : Int) := by
        unfold vOf val
        rw [hm, hc, ht, hn]; push_cast; rfl
      rw [hv, hm, hc, ht, hn]
      have e1 := rows_okS (q := 0) h hB hml hk1 (c := c) (n := n) (t := t) (m := m) (by omega) (by omega) (by omega) (by omega)
      refine ⟨rowsOut p b 0 c n t m, by rw [e1]; rfl, ?_, ?_⟩
      · unfold rowsOut
        by_cases hbg : 500 < n * c + m * t
        · rw [if_pos (by omega), if_pos hbg]
        · rw [if_neg (by omega), if_neg hbg]
          have := L6_ok (b := b) h (cA := c) (cB := t) (n := n) (m := m) (by omega) (by omega) (by omega) (by omega) (by omega) (kindOf p.Kinds b) n N 0 [] p.Rail (by omega) (by omega) (by simp; omega)
          rw [show ((0 : Nat) : Int) = 0 from rfl] at this
          rw [this]
          rfl
      · unfold rowsOut
        split
        · exact .inl rfl
        · exact .inr ⟨_, rfl, by unfold laidOf; rw [List.length_append, rowsFrom_len, rowsFrom_len]; omega, hB.klen, hml⟩
    by_cases hc : colsOf p b 0 = 0
    · rw [if_pos (by simpa using hc), if_neg (by simp; omega)]
      have : gridN p b 0 = 0 := by unfold gridN; rw [if_pos hc]
      rw [this] at goal; exact goal
    · rw [if_neg (by simpa using hc), if_pos (by simp; omega)]
      have : gridN p b 0 = rowsOf p b 0 := by unfold gridN; rw [if_neg hc]
      rw [this] at goal; exact goal
  · rw [if_pos (by simpa using he), if_pos (by simpa using he)]
    exact ⟨_, rfl, rfl, .inl rfl⟩
section
variable {N : Nat} (hN : 1000 ≤ N)
include hN
omit hN in
theorem same3 (x : TPanel) (hl : x.Marks.length ≤ 500) : ∀ (r i m : Nat), i + r = x.Marks.length → r < m → F_etchhouseref9_Same_L3 x x m i = some true
  | 0, i, m + 1, h1, _ => by rw [F_etchhouseref9_Same_L3.eq_2, if_neg (by simp; omega)]
  | r + 1, i, m + 1, h1, h2 => by
    have e : idx x.Marks (i : Int) = some (x.Marks[i]'(by omega)) := idx_nat (by omega)
    have ih := same3 x hl r (i + 1) m (by omega) (by omega)
    rw [F_etchhouseref9_Same_L3.eq_2, if_pos (by simp; omega), e, Option.bind_some, Option.bind_some, w64_id (by omega) (by omega), if_neg (by simp [eqTPoint_iff])]
    simpa using ih
theorem same2 (x : TPanel) (hl : x.Slots.length ≤ 500) (hm : x.Marks.length ≤ 500) : ∀ (r i m : Nat), i + r = x.Slots.length → r < m → F_etchhouseref9_Same_L2 N x x m i = some true
  | 0, i, m + 1, h1, _ => by rw [F_etchhouseref9_Same_L2.eq_2, if_neg (by simp; omega)]; exact same3 x hm x.Marks.length 0 N (by omega) (by omega)
  | r + 1, i, m + 1, h1, h2 => by
    have e : idx x.Slots (i : Int) = some (x.Slots[i]'(by omega)) := idx_nat (by omega)
    have ih := same2 x hl hm r (i + 1) m (by omega) (by omega)
    rw [F_etchhouseref9_Same_L2.eq_2, if_pos (by simp; omega), e, Option.bind_some, Option.bind_some, w64_id (by omega) (by omega), if_neg (by simp [eqTSlot_iff])]
    simpa using ih
theorem same1 (x : TPanel) (hk : x.Kinds.length ≤ 500) (hl : x.Slots.length ≤ 500) (hm : x.Marks.length ≤ 500) : ∀ (r i m : Nat), i + r = x.Kinds.length → r < m → F_etchhouseref9_Same_L1 N x x m i = some true
  | 0, i, m + 1, h1, _ => by rw [F_etchhouseref9_Same_L1.eq_2, if_neg (by simp; omega)]; exact same2 hN x hl hm x.Slots.length 0 N (by omega) (by omega)
  | r + 1, i, m + 1, h1, h2 => by
    have e : idx x.Kinds (i : Int) = some (x.Kinds[i]'(by omega)) := idx_nat (by omega)
    have ih := same1 x hk hl hm r (i + 1) m (by omega) (by omega)
    rw [F_etchhouseref9_Same_L1.eq_2, if_pos (by simp; omega), e, Option.bind_some, Option.bind_some, w64_id (by omega) (by omega), if_neg (by simp [eqTBoardKind_iff])]
    simpa using ih
theorem Same_ok (x : TPanel) (hk : x.Kinds.length ≤ 500) (hl : x.Slots.length ≤ 500) (hm : x.Marks.length ≤ 500) : F_etchhouseref9_Same N x x = some true := by
  unfold F_etchhouseref9_Same
  rw [if_neg (by simp)]
  exact same1 hN x hk hl hm x.Kinds.length 0 N (by omega) (by omega)
end
theorem lens {p : TPanel} {r : TPanel × Int} (h : r = (zeroP, r.2) ∨ ∃ l, r = toldOf p l ∧ l.length ≤ 500 ∧ p.Kinds.length ≤ 50 ∧ p.Marks.length ≤ 10) : r.1.Kinds.length ≤ 500 ∧ r.1.Slots.length ≤ 500 ∧ r.1.Marks.length ≤ 500 := by
  rcases h with h | ⟨l, rfl, h1, h2, h3⟩
  · rw [h]; simp [zeroP]
  · unfold toldOf
    split
    · show p.Kinds.length ≤ 500 ∧ l.length ≤ 500 ∧ p.Marks.length ≤ 500
      omega
    · simp [zeroP]
theorem gridsMatch_ok {N : Nat} {p : TPanel} (h : FuelP N p) (b : ByteArray) (q : Int) : F_etchhouselaw9_PanelGridsMatchSpec N p b q = some true := by
  have hbig := h.big
  obtain ⟨r, a1, a2, a3⟩ := grid_both (b := b) (q := q) h
  obtain ⟨s, c1, c2, c3⟩ := rows_both (b := b) h
  obtain ⟨l1, l2, l3⟩ := lens a3
  obtain ⟨k1, k2, k3⟩ := lens c3
  unfold F_etchhouselaw9_PanelGridsMatchSpec
  rw [a1, a2, c1, c2]
  simp only [Option.bind_some]
  rw [Same_ok (by omega) _ l1 l2 l3, Same_ok (by omega) _ k1 k2 k3, awakeP_ok (by omega)]
  simp
end Go.Proofs.Ytpkicpnbpldkpaa
