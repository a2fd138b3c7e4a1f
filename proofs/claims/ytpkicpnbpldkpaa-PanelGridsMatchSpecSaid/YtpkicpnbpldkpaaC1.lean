/- Rows and grids of a panel: how many slots they have. Plain Lean about the plain functions. -/
import Derived.Test.YtpkicpnbpldkpaaB1
namespace Go.Proofs.Ytpkicpnbpldkpaa
theorem dv_ok2 {a b : Int} (hb : b ≠ 0) (h1 : -4611686018427387904 ≤ a.tdiv b) (h2 : a.tdiv b ≤ 4611686018427387904) : dv a b = some (a.tdiv b) := by
  unfold dv; rw [if_neg hb, w64_id h1 h2]
/-- How many things of a size fit. -/
def many (room size gap : Int) : Int := if room < size then 0 else (room + gap) / (size + gap)
theorem many_ok {room size gap : Int} (hr : -4000000 ≤ room ∧ room ≤ 1000000) (hs : 1 ≤ size ∧ size ≤ 1000000) (hg : 0 ≤ gap ∧ gap ≤ 1000000) :
    F_panel_many room size gap = some (many room size gap) ∧ 0 ≤ many room size gap ∧ many room size gap ≤ 2000000 ∧ (room ≤ 0 → many room size gap = 0) ∧ many room size gap * (size + gap) ≤ max 0 (room + gap) := by
  unfold F_panel_many many
  by_cases h : room < size
  · rw [if_pos (by simpa using h), if_pos h]
    exact ⟨rfl, by omega, by omega, fun _ => rfl, by simp; omega⟩
  · have e : (room + gap).tdiv (size + gap) = (room + gap) / (size + gap) := Int.tdiv_eq_ediv_of_nonneg (by omega)
    have b1 : (room + gap) / (size + gap) ≤ 2000000 := Int.ediv_le_of_le_mul (by omega) (by omega)
    have b2 : 0 ≤ (room + gap) / (size + gap) := Int.ediv_nonneg (by omega) (by omega)
    have b3 : (room + gap) / (size + gap) * (size + gap) ≤ room + gap := Int.ediv_mul_le _ (by omega)
    rw [if_neg (by simpa using h), if_neg h, w64_id (x := room + gap) (by omega) (by omega), w64_id (x := size + gap) (by omega) (by omega), dv_ok2 (by omega) (by omega) (by omega), e]
    exact ⟨rfl, b2, b1, fun hh => by omega, by omega⟩
theorem mul_bd {a c : Int} (ha : 0 ≤ a ∧ a ≤ 2000000) (hc : 0 ≤ c ∧ c ≤ 2000000) : 0 ≤ a * c ∧ a * c ≤ 4000000000000 :=
  ⟨Int.mul_nonneg ha.1 hc.1, by have := Int.mul_le_mul ha.2 hc.2 hc.1 (by omega : (0 : Int) ≤ 2000000); omega⟩
theorem row_loop {p : TPanel} {b : ByteArray} {q c y : Int} {sz : Int × Int} (hc : c ≤ 2000000) : ∀ (r m : Nat) (l : List TSlot) (x : Int), 0 ≤ x → x + r = c → r < m → l.length + r ≤ 4000000 → ∃ l', F_panel_row_L1 p b q c y sz m l x = some l' ∧ l'.length = l.length + r
  | 0, m + 1, l, x, _, h1, _, _ => ⟨l, by rw [F_panel_row_L1.eq_2, if_neg (by simp; omega)], by simp⟩
  | r + 1, m + 1, l, x, h0, h1, h2, h3 => by
    rw [F_panel_row_L1.eq_2, if_pos (by simp; omega), apd_ok (by simp; omega), Option.bind_some, w64_id (x := x + 1) (by omega) (by omega)]
    obtain ⟨l', e1, e2⟩ := row_loop hc r m (l ++ [TSlot.mk b q (TPoint.mk (w64 (p.Rail + (w64 (x * (w64 (sz.1 + p.Gap)))))) y)]) (x + 1) (by omega) (by omega) (by omega) (by simp; omega)
    exact ⟨l', e1, by rw [e2]; simp; omega⟩
theorem row_ok {N : Nat} {p : TPanel} {b : ByteArray} (hN : 20000000 ≤ N) (hk : kindIx p.Kinds b ≠ -1) (q y : Int) (c : Nat) (hc : c ≤ 2000000) : ∃ l', F_panel_row N p b q c y = some l' ∧ l'.length = c := by
  rcases kindIx_lo p.Kinds b with h' | ⟨_, hi, _, _⟩
  · exact absurd h' hk
  obtain ⟨l', e1, e2⟩ := row_loop (p := p) (b := b) (q := q) (c := (c : Int)) (y := y) (sz := (sizeW (kindOf p.Kinds b) q, sizeH (kindOf p.Kinds b) q)) (by omega) c N [] 0 (by omega) (by omega) (by omega) (by simp; omega)
  refine ⟨l', ?_, by simpa using e2⟩
  unfold F_panel_row
  rw [kindAt_ok, Option.bind_some, hi, Option.bind_some, sizeOf_ok, Option.bind_some]
  exact e1
/-- The panel with other slots. -/
def withSlots (p : TPanel) (l : List TSlot) : TPanel := ⟨p.W, p.H, p.Rail, p.Gap, p.Kinds, l, p.Marks⟩
def zeroP : TPanel := ⟨0, 0, 0, 0, [], [], []⟩
def toldOf (p : TPanel) (l : List TSlot) : TPanel × Int := if openErr (withSlots p l) = 0 then (withSlots p l, 0) else (zeroP, openErr (withSlots p l))
theorem FuelP.slots {N : Nat} {p : TPanel} (h : FuelP N p) (l : List TSlot) : FuelP N (withSlots p l) := ⟨h.big, h.kinds, h.names⟩
theorem end_ok {N : Nat} {p : TPanel} (h : FuelP N p) (hk : p.Kinds.length ≤ 50) (hm : p.Marks.length ≤ 10) (l : List TSlot) :
    ((F_panel_own p l).bind fun y32 => (F_panel_told N y32).bind fun y33 => some (y33.1, y33.2)) = some (toldOf p l) := by
  unfold F_panel_own F_slices_Clone_BoardKind F_slices_Clone_Point
  rw [apd_ok (by simp; omega), apd_ok (by simp; omega)]
  simp only [Option.bind_some, List.nil_append]
  unfold F_panel_told
  have := checkPanelP_ok (h.slots l)
  unfold withSlots at this
  rw [this, Option.bind_some]
  unfold toldOf withSlots
  by_cases he : openErr ⟨p.W, p.H, p.Rail, p.Gap, p.Kinds, l, p.Marks⟩ = 0
  · rw [if_neg (by simpa using he), if_pos he]; rfl
  · rw [if_pos (by simpa using he), if_neg he]; rfl
section
variable {N : Nat} {p : TPanel} {b : ByteArray} {q : Int} {c n t m : Nat} (h : FuelP N p) (hB : PB p) (hmk : p.Marks.length ≤ 10) (hk : kindIx p.Kinds b ≠ -1) (hn : n ≤ 2000000) (hm : m ≤ 2000000) (hc : c ≤ 2000000) (ht : t ≤ 2000000)
include h hB hmk hk hn hm hc ht
omit hc in
theorem rows_second : ∀ (r fu : Nat) (l : List TSlot) (y : Int), r ≤ m → r < fu → l.length + r * t ≤ 500 →
    ∃ l', F_panel_rows_L3 N p b q c n t m (kindOf p.Kinds b) fu l y ((n + m - r : Nat) : Int) = some (toldOf p l') ∧ l'.length = l.length + r * t
  | 0, fu + 1, l, y, _, _, _ => by
    rw [F_panel_rows_L3.eq_2, w64_id (x := (n : Int) + m) (by omega) (by omega), if_neg (by simp)]
    exact ⟨l, end_ok h hB.klen hmk l, by simp⟩
  | r + 1, fu + 1, l, y, h1, h2, h3 => by
    rw [Nat.succ_mul] at h3
    rw [F_panel_rows_L3.eq_2, w64_id (x := (n : Int) + m) (by omega) (by omega), if_pos (by simp; omega), if_pos (by simp; omega)]
    unfold F_panel_rows_J4
    obtain ⟨lr, e1, e2⟩ := row_ok (p := p) (b := b) h.big hk (w64 (q + 1)) y t (by omega)
    rw [sizeOf_ok, Option.bind_some, e1, Option.bind_some, apd_ok (by omega), Option.bind_some, w64_id (x := ((n + m - (r + 1) : Nat) : Int) + 1) (by omega) (by omega)]
    obtain ⟨l', e3, e4⟩ := rows_second r fu (l ++ lr) (w64 (y + w64 ((sizeW (kindOf p.Kinds b) (w64 (q + 1)), sizeH (kindOf p.Kinds b) (w64 (q + 1))).2 + p.Gap))) (by omega) (by omega) (by simp; omega)
    rw [show ((n + m - (r + 1) : Nat) : Int) + 1 = ((n + m - r : Nat) : Int) by omega]
    exact ⟨l', e3, by rw [e4, Nat.succ_mul]; simp; omega⟩
theorem rows_first : ∀ (r fu : Nat) (l : List TSlot) (y : Int), r ≤ n → r + m < fu → l.length + (r * c + m * t) ≤ 500 →
    ∃ l', F_panel_rows_L3 N p b q c n t m (kindOf p.Kinds b) fu l y ((n - r : Nat) : Int) = some (toldOf p l') ∧ l'.length = l.length + (r * c + m * t)
  | 0, fu, l, y, _, h2, h3 => by
    obtain ⟨l', e1, e2⟩ := rows_second (q := q) (c := c) h hB hmk hk hn hm ht m fu l y (Nat.le_refl _) (by omega) (by omega)
    rw [show (n + m - m : Nat) = n - 0 by omega] at e1
    exact ⟨l', e1, by rw [e2]; simp⟩
  | r + 1, fu + 1, l, y, h1, h2, h3 => by
    rw [Nat.succ_mul] at h3
    rw [F_panel_rows_L3.eq_2, w64_id (x := (n : Int) + m) (by omega) (by omega), if_pos (by simp; omega), if_neg (by simp; omega)]
    unfold F_panel_rows_J4
    obtain ⟨lr, e1, e2⟩ := row_ok (p := p) (b := b) h.big hk q y c (by omega)
    rw [sizeOf_ok, Option.bind_some, e1, Option.bind_some, apd_ok (by omega), Option.bind_some, w64_id (x := ((n - (r + 1) : Nat) : Int) + 1) (by omega) (by omega)]
    obtain ⟨l', e3, e4⟩ := rows_first r fu (l ++ lr) (w64 (y + w64 ((sizeW (kindOf p.Kinds b) q, sizeH (kindOf p.Kinds b) q).2 + p.Gap))) (by omega) (by omega) (by simp; omega)
    rw [show ((n - (r + 1) : Nat) : Int) + 1 = ((n - r : Nat) : Int) by omega]
    exact ⟨l', e3, by rw [e4, Nat.succ_mul]; simp; omega⟩
end
/-- Rows of a board: too many, or so many slots. -/
theorem rows_ok {N : Nat} {p : TPanel} {b : ByteArray} {q : Int} (h : FuelP N p) (hB : PB p) (hmk : p.Marks.length ≤ 10) (hk : kindIx p.Kinds b ≠ -1) {c n t m : Int} (hc : 0 ≤ c ∧ c ≤ 2000000) (hn : 0 ≤ n ∧ n ≤ 2000000) (ht : 0 ≤ t ∧ t ≤ 2000000) (hm : 0 ≤ m ∧ m ≤ 2000000) (hcn : c = 0 → n = 0) (htm : t = 0 → m = 0) :
    (500 < n * c + m * t ∧ F_panel_rows N p b q c n t m = some (zeroP, 2)) ∨ (n * c + m * t ≤ 500 ∧ ∃ l', F_panel_rows N p b q c n t m = some (toldOf p l') ∧ (l'.length : Int) = n * c + m * t) := by
  have b1 := mul_bd hn hc
  have b2 := mul_bd hm ht
  unfold F_panel_rows
  rw [w64_id (x := n * c) (by omega) (by omega), w64_id (x := m * t) (by omega) (by omega), w64_id (by omega) (by omega)]
  by_cases hbig : 500 < n * c + m * t
  · left
    exact ⟨hbig, by rw [if_pos (by simpa using hbig)]; rfl⟩
  right
  refine ⟨by omega, ?_⟩
  rw [if_neg (by simpa using hbig)]
  rcases kindIx_lo p.Kinds b with h' | ⟨_, hi, _, _⟩
  · exact absurd h' hk
  rw [kindAt_ok, Option.bind_some, hi, Option.bind_some]
  obtain ⟨c', rfl⟩ := Int.eq_ofNat_of_zero_le hc.1
  obtain ⟨n', rfl⟩ := Int.eq_ofNat_of_zero_le hn.1
  obtain ⟨t', rfl⟩ := Int.eq_ofNat_of_zero_le ht.1
  obtain ⟨m', rfl⟩ := Int.eq_ofNat_of_zero_le hm.1
  have hsum : n' * c' + m' * t' ≤ 500 := by
    have : ((n' * c' + m' * t' : Nat) : Int) ≤ 500 := by push_cast; omega
    omega
  obtain ⟨l', e1, e2⟩ := rows_first (q := q) (c := c') (t := t') (n := n') (m := m') h hB hmk hk (by omega) (by omega) (by omega) (by omega) n' N [] p.Rail (Nat.le_refl _) (by have := h.big; omega) (by simpa using hsum)
  rw [Nat.sub_self] at e1
  refine ⟨l', e1, ?_⟩
  rw [e2]; simp
-- a grid
def colsOf (p : TPanel) (b : ByteArray) (q : Int) : Int := many (p.W - 2 * p.Rail) (sizeW (kindOf p.Kinds b) q) p.Gap
def rowsOf (p : TPanel) (b : ByteArray) (q : Int) : Int := many (p.H - 2 * p.Rail) (sizeH (kindOf p.Kinds b) q) p.Gap
def gridN (p : TPanel) (b : ByteArray) (q : Int) : Int := if colsOf p b q = 0 then 0 else rowsOf p b q
theorem cols_bd {p : TPanel} (hB : PB p) {b : ByteArray} (hk : kindIx p.Kinds b ≠ -1) (q : Int) : (F_panel_many (w64 (p.W - w64 (2 * p.Rail))) (sizeW (kindOf p.Kinds b) q) p.Gap = some (colsOf p b q) ∧ 0 ≤ colsOf p b q ∧ colsOf p b q ≤ 2000000) ∧
    (F_panel_many (w64 (p.H - w64 (2 * p.Rail))) (sizeH (kindOf p.Kinds b) q) p.Gap = some (rowsOf p b q) ∧ 0 ≤ rowsOf p b q ∧ rowsOf p b q ≤ 2000000) := by
  have b1 := hB.w0; have b2 := hB.w1; have b3 := hB.h0; have b4 := hB.h1; have b5 := hB.r0; have b6 := hB.r1
  have hs := sizeWH hB hk q
  rw [w64_id (x := 2 * p.Rail) (by omega) (by omega), w64_id (x := p.W - 2 * p.Rail) (by omega) (by omega), w64_id (x := p.H - 2 * p.Rail) (by omega) (by omega)]
  obtain ⟨m1, m2, m3, _⟩ := many_ok (room := p.W - 2 * p.Rail) (size := sizeW (kindOf p.Kinds b) q) (gap := p.Gap) (by omega) (by omega) ⟨hB.g0, hB.g1⟩
  obtain ⟨k1, k2, k3, _⟩ := many_ok (room := p.H - 2 * p.Rail) (size := sizeH (kindOf p.Kinds b) q) (gap := p.Gap) (by omega) (by omega) ⟨hB.g0, hB.g1⟩
  exact ⟨⟨m1, m2, m3⟩, ⟨k1, k2, k3⟩⟩
/-- What Grid computes, if not an error: so many slots. -/
theorem grid_ok {N : Nat} {p : TPanel} {b : ByteArray} {q : Int} (h : FuelP N p) : ∃ x e, F_panel_Grid N p b q = some (x, e) ∧ (e = 0 → openErr p = 0 ∧ kindIx p.Kinds b ≠ -1 ∧ (x.Slots.length : Int) = gridN p b q * colsOf p b q) := by
  unfold F_panel_Grid
  rw [checkPanelP_ok h, Option.bind_some]
  by_cases he : openErr p = 0
  · obtain ⟨hB, hsl, hml, hso⟩ := openErr_ok he
    rw [if_neg (by simpa using he), kindAt_ok, Option.bind_some]
    rcases kindIx_lo p.Kinds b with hk | ⟨hk, hi, _, _⟩
    · rw [if_pos (by simp; omega)]; exact ⟨_, _, rfl, fun h => absurd h (by decide)⟩
    have hk1 : kindIx p.Kinds b ≠ -1 := by omega
    rw [if_neg (by simp; omega), within_ok, Option.bind_some]
    cases hq : within q 0 3
    · exact ⟨_, _, rfl, fun h => absurd h (by decide)⟩
    rw [if_neg (by simp), hi, Option.bind_some, sizeOf_ok, Option.bind_some]
    obtain ⟨⟨c1, c2, c3⟩, ⟨r1, r2, r3⟩⟩ := cols_bd hB hk1 q
    simp only [c1, r1, Option.bind_some]
    have fin : ∀ n : Int, n = gridN p b q → 0 ≤ n ∧ n ≤ 2000000 → (colsOf p b q = 0 → n = 0) → ∃ x e, F_panel_Grid_J1 N p b q (colsOf p b q) n = some (x, e) ∧ (e = 0 → openErr p = 0 ∧ kindIx p.Kinds b ≠ -1 ∧ (x.Slots.length : Int) = gridN p b q * colsOf p b q) := fun n hn hb hz => by
      unfold F_panel_Grid_J1
      rcases rows_ok (q := q) h hB hml hk1 ⟨c2, c3⟩ hb (t := 0) (m := 0) (by omega) (by omega) hz (fun _ => rfl) with ⟨_, e⟩ | ⟨_, l', e, e2⟩
      · rw [e]; exact ⟨_, _, rfl, fun h => absurd h (by decide)⟩
      · rw [e]
        refine ⟨_, _, rfl, fun h0 => ⟨he, hk1, ?_⟩⟩
        unfold toldOf at h0 ⊢
        split at h0
        · rename_i h1
          rw [if_pos h1]
          show (l'.length : Int) = _
          rw [e2, ← hn]; simp
        · rename_i h1; exact absurd h0 h1
    by_cases hc : colsOf p b q = 0
    · rw [if_pos (by simpa using hc)]
      exact fin 0 (by unfold gridN; rw [if_pos hc]) (by omega) (fun _ => rfl)
    · rw [if_neg (by simpa using hc)]
      exact fin _ (by unfold gridN; rw [if_neg hc]) ⟨r2, r3⟩ (fun h => absurd h hc)
  · rw [if_pos (by simpa using he)]
    exact ⟨_, _, rfl, fun h => absurd h he⟩
-- rows, some of them turned
/-- How many turned rows fit below n rows. -/
def left (p : TPanel) (b : ByteArray) (n : Int) : Int :=
  if 0 < colsOf p b 1 then many (p.H - 2 * p.Rail - n * (sizeH (kindOf p.Kinds b) 0 + p.Gap)) (sizeW (kindOf p.Kinds b) 0) p.Gap else 0
def val (p : TPanel) (b : ByteArray) (n m : Int) : Int := n * colsOf p b 0 + m * colsOf p b 1
end Go.Proofs.Ytpkicpnbpldkpaa
