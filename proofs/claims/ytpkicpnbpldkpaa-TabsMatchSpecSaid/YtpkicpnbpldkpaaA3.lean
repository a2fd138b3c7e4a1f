/- Tabs, as the program and the reference compute them: the same points, the same error. Plain Lean about the plain functions. -/
import Derived.Test.YtpkicpnbpldkpaaA2
namespace Go.Proofs.Ytpkicpnbpldkpaa
theorem dv_ok {a b : Int} (hb : b ≠ 0) (h1 : -4611686018427387904 ≤ a.tdiv b) (h2 : a.tdiv b ≤ 4611686018427387904) : dv a b = some (a.tdiv b) := by
  unfold dv; rw [if_neg hb, w64_id h1 h2]
/-- How many parts a side of length L is cut into. -/
def parts (L most : Int) : Int := max 2 ((L + most - 1).tdiv most)
/-- How far along the side the k-th tab lies. -/
def along (L n k : Int) : Int := (L * k).tdiv n
theorem parts_bd {L most : Int} (h1 : 1 ≤ L) (h2 : L ≤ 1000000) (h3 : 1 ≤ most) (h4 : most ≤ 1000000) : 2 ≤ parts L most ∧ parts L most ≤ 1000000 ∧ -4611686018427387904 ≤ (L + most - 1).tdiv most ∧ (L + most - 1).tdiv most ≤ 4611686018427387904 := by
  have e : (L + most - 1).tdiv most = (L + most - 1) / most := Int.tdiv_eq_ediv_of_nonneg (by omega)
  have b1 : (L + most - 1) / most ≤ 1000000 := Int.ediv_le_of_le_mul (by omega) (by
    have : 1 * (most - 1) ≤ 999999 * (most - 1) + (most - 1) := by omega
    omega)
  have b2 : 0 ≤ (L + most - 1) / most := Int.ediv_nonneg (by omega) (by omega)
  unfold parts
  rw [e]
  omega
theorem along_bd {L n k : Int} (h1 : 1 ≤ L) (h2 : L ≤ 1000000) (h3 : 0 ≤ k) (h4 : k ≤ n) (h5 : 1 ≤ n) (h6 : n ≤ 1000000) : 0 ≤ along L n k ∧ along L n k ≤ 1000000 ∧ 0 ≤ L * k ∧ L * k ≤ 1000000000000 := by
  have a0 : 0 ≤ L * k := Int.mul_nonneg (by omega) (by omega)
  have a1 : L * k ≤ L * n := Int.mul_le_mul_of_nonneg_left h4 (by omega)
  have a2 : L * n ≤ 1000000 * n := Int.mul_le_mul_of_nonneg_right h2 (by omega)
  have e : along L n k = (L * k) / n := Int.tdiv_eq_ediv_of_nonneg a0
  rw [e]
  refine ⟨Int.ediv_nonneg a0 (by omega), Int.ediv_le_of_le_mul (by omega) (by omega), a0, by omega⟩
theorem along_dv {L n k : Int} (h1 : 1 ≤ L) (h2 : L ≤ 1000000) (h3 : 0 ≤ k) (h4 : k ≤ n) (h5 : 1 ≤ n) (h6 : n ≤ 1000000) : dv (w64 (L * k)) n = some (along L n k) := by
  obtain ⟨b1, b2, b3, b4⟩ := along_bd h1 h2 h3 h4 h5 h6
  rw [w64_id (by omega) (by omega)]
  exact dv_ok (by omega) (by unfold along at *; omega) (by unfold along at *; omega)
/-- The points of one side. -/
def upTo (g : Int → TPoint) : Nat → Int → List TPoint
  | 0, _ => []
  | r + 1, k => g k :: upTo g r (k + 1)
theorem upTo_len (g : Int → TPoint) : ∀ (r : Nat) (k : Int), (upTo g r k).length = r
  | 0, _ => rfl
  | r + 1, k => by simp [upTo, upTo_len g r]
theorem upTo_congr {f g : Int → TPoint} : ∀ {r : Nat} {k : Int}, (∀ j, k ≤ j → j < k + r → f j = g j) → upTo f r k = upTo g r k
  | 0, _, _ => rfl
  | r + 1, k, h => by
    unfold upTo
    rw [h k (by omega) (by omega), upTo_congr (fun j h1 h2 => h j (by omega) (by omega))]
theorem tabs5_ok {K : List TPoint → Option (List TPoint × Int)} {c d : TPoint} {L n ax ay : Int} (hL1 : 1 ≤ L) (hL2 : L ≤ 1000000) (hn1 : 1 ≤ n) (hn2 : n ≤ 1000000)
    (hc : (-1000000000 ≤ c.X ∧ c.X ≤ 1000000000) ∧ (-1000000000 ≤ c.Y ∧ c.Y ≤ 1000000000)) (hd : (-1000000000 ≤ d.X ∧ d.X ≤ 1000000000) ∧ (-1000000000 ≤ d.Y ∧ d.Y ≤ 1000000000))
    (hax : (d.X - c.X).tdiv L = ax) (hay : (d.Y - c.Y).tdiv L = ay) (bx : ax = 0 ∨ ax = 1 ∨ ax = -1) (by_ : ay = 0 ∨ ay = 1 ∨ ay = -1) : ∀ (r m : Nat) (l : List TPoint) (k : Int), 1 ≤ k → k + r = n → r < m → l.length + r ≤ 4000000 →
    F_panel_Tabs_L5 K c d (L, n) m l k = K (l ++ upTo (fun j => ⟨c.X + ax * along L n j, c.Y + ay * along L n j⟩) r k)
  | 0, m + 1, l, k, h1, h2, _, _ => by
    rw [F_panel_Tabs_L5.eq_2, if_neg (by simp; omega)]; simp [upTo]
  | r + 1, m + 1, l, k, h1, h2, h3, h4 => by
    have ih := tabs5_ok (K := K) hL1 hL2 hn1 hn2 hc hd hax hay bx by_ r m (l ++ [⟨c.X + ax * along L n k, c.Y + ay * along L n k⟩]) (k + 1) (by omega) (by omega) (by omega) (by simp; omega)
    obtain ⟨b1, b2, b3, b4⟩ := along_bd (L := L) (n := n) (k := k) hL1 hL2 (by omega) (by omega) hn1 hn2
    have m1 : -1000000 ≤ ax * along L n k ∧ ax * along L n k ≤ 1000000 := by rcases bx with rfl | rfl | rfl <;> omega
    have m2 : -1000000 ≤ ay * along L n k ∧ ay * along L n k ≤ 1000000 := by rcases by_ with rfl | rfl | rfl <;> omega
    rw [F_panel_Tabs_L5.eq_2, if_pos (by simp; omega)]
    dsimp only
    rw [along_dv hL1 hL2 (by omega) (by omega) hn1 hn2, Option.bind_some]
    rw [w64_id (x := d.X - c.X) (by omega) (by omega), w64_id (x := d.Y - c.Y) (by omega) (by omega), dv_ok (by omega) (by omega) (by omega), Option.bind_some, dv_ok (by omega) (by omega) (by omega), Option.bind_some, hax, hay]
    rw [w64_id (x := ax * along L n k) (by omega) (by omega), w64_id (x := ay * along L n k) (by omega) (by omega), w64_id (by omega) (by omega), w64_id (by omega) (by omega), apd_ok (by simp; omega), Option.bind_some, w64_id (x := k + 1) (by omega) (by omega), ih]
    simp [upTo]
def side (r : TRect) (L n : Int) (s : Nat) (j : Int) : TPoint :=
  if s = 0 then ⟨r.X0 + along L n j, r.Y0⟩ else if s = 1 then ⟨r.X1, r.Y0 + along L n j⟩ else if s = 2 then ⟨r.X1 - along L n j, r.Y1⟩ else ⟨r.X0, r.Y1 - along L n j⟩
/-- A cell that tabs can be laid on. -/
structure CB (r : TRect) : Prop where
  x0 : 0 ≤ r.X0
  y0 : 0 ≤ r.Y0
  x : r.X0 < r.X1
  y : r.Y0 < r.Y1
  x1 : r.X1 ≤ 1000000
  y1 : r.Y1 ≤ 1000000
def lenS (r : TRect) (s : Nat) : Int := if s % 2 = 1 then r.Y1 - r.Y0 else r.X1 - r.X0
theorem lenS_bd {r : TRect} (h : CB r) (s : Nat) : 1 ≤ lenS r s ∧ lenS r s ≤ 1000000 := by
  obtain ⟨a, b, c, d, e, f⟩ := h
  unfold lenS
  split <;> omega
theorem tmod2 (s : Nat) : ((Int.tmod (s : Int) 2) == 1) = decide (s % 2 = 1) := by
  rw [Bool.eq_iff_iff]
  simp only [beq_iff_eq, decide_eq_true_eq]
  rw [Int.tmod_eq_emod_of_nonneg (by omega)]
  omega
theorem tabs1_ok {r : TRect} {most : Int} (h : CB r) (h1 : 1 ≤ most) (h2 : most ≤ 1000000) (s : Nat) : F_panel_Tabs_1 (s : Int) r most = some (lenS r s, parts (lenS r s) most) := by
  have hb := lenS_bd h s
  obtain ⟨p1, p2, p3, p4⟩ := parts_bd hb.1 hb.2 h1 h2
  obtain ⟨a, b, c, d, e, f⟩ := h
  unfold F_panel_Tabs_1
  have key : F_panel_Tabs_1_J1 most (lenS r s) = some (lenS r s, parts (lenS r s) most) := by
    unfold F_panel_Tabs_1_J1
    rw [w64_id (x := lenS r s + most) (by omega) (by omega), w64_id (x := lenS r s + most - 1) (by omega) (by omega), dv_ok (by omega) p3 p4]
    rfl
  rw [tmod2, w64_id (x := r.Y1 - r.Y0) (by omega) (by omega), w64_id (x := r.X1 - r.X0) (by omega) (by omega)]
  rw [← key]
  unfold lenS
  by_cases hs : s % 2 = 1 <;> simp [hs]
theorem div_self1 {L : Int} (h : 1 ≤ L) : L.tdiv L = 1 := Int.tdiv_self (by omega)
theorem div_neg1 {L : Int} (h : 1 ≤ L) : (-L).tdiv L = -1 := by rw [Int.neg_tdiv, Int.tdiv_self (by omega)]
/-- The points of the side s. -/
def sidePts (r : TRect) (most : Int) (s : Nat) : List TPoint := upTo (side r (lenS r s) (parts (lenS r s) most) s) (parts (lenS r s) most - 1).toNat 1
theorem sidePts_len (r : TRect) (most : Int) (s : Nat) : (sidePts r most s).length = (parts (lenS r s) most - 1).toNat := upTo_len _ _ _
def corners (r : TRect) : List TPoint := [⟨r.X0, r.Y0⟩, ⟨r.X1, r.Y0⟩, ⟨r.X1, r.Y1⟩, ⟨r.X0, r.Y1⟩]
theorem tabs_side {N : Nat} {r : TRect} {most : Int} (h : CB r) (h1 : 1 ≤ most) (h2 : most ≤ 1000000) (hN : 1000000 < N) {K : List TPoint → Option (List TPoint × Int)} (s : Nat) (hs : s < 4) (l : List TPoint) (hl : l.length ≤ 3000000) :
    ∀ c d, (corners r)[s]? = some c → (corners r)[(s + 1) % 4]? = some d → F_panel_Tabs_L5 K c d (lenS r s, parts (lenS r s) most) N l 1 = K (l ++ sidePts r most s) := by
  intro c d hc hd
  have hb := lenS_bd h s
  obtain ⟨p1, p2, _, _⟩ := parts_bd hb.1 hb.2 h1 h2
  obtain ⟨a1, a2, a3, a4, a5, a6⟩ := h
  have go := fun (ax ay : Int) hax hay bx by_ hcb hdb => tabs5_ok (K := K) (c := c) (d := d) (ax := ax) (ay := ay) hb.1 hb.2 (by omega) p2 hcb hdb hax hay bx by_ (parts (lenS r s) most - 1).toNat N l 1 (by omega) (by omega) (by omega) (by omega)
  unfold sidePts
  have e : s = 0 ∨ s = 1 ∨ s = 2 ∨ s = 3 := by omega
  rcases e with rfl | rfl | rfl | rfl <;> (simp [corners] at hc hd; subst hc; subst hd)
  · rw [go 1 0 (by simp [lenS]; exact div_self1 (by omega)) (by simp) (by omega) (by omega) (by simp; omega) (by simp; omega)]
    congr 2
    exact upTo_congr (fun j _ _ => by simp [side])
  · rw [go 0 1 (by simp) (by simp [lenS]; exact div_self1 (by omega)) (by omega) (by omega) (by simp; omega) (by simp; omega)]
    congr 2
    exact upTo_congr (fun j _ _ => by simp [side])
  · rw [go (-1) 0 (by simp [lenS]; rw [show r.X0 - r.X1 = -(r.X1 - r.X0) by omega]; exact div_neg1 (by omega)) (by simp) (by omega) (by omega) (by simp; omega) (by simp; omega)]
    congr 2
    exact upTo_congr (fun j _ _ => by simp [side]; omega)
  · rw [go 0 (-1) (by simp) (by simp [lenS]; rw [show r.Y0 - r.Y1 = -(r.Y1 - r.Y0) by omega]; exact div_neg1 (by omega)) (by omega) (by omega) (by simp; omega) (by simp; omega)]
    congr 2
    exact upTo_congr (fun j _ _ => by simp [side]; omega)
/-- What Tabs computes for a cell. -/
def tabsOf (r : TRect) (most : Int) : List TPoint × Int :=
  if 2000 < 2 * (parts (lenS r 0) most - 1) + 2 * (parts (lenS r 1) most - 1) then ([], 2) else (sidePts r most 0 ++ sidePts r most 1 ++ sidePts r most 2 ++ sidePts r most 3, 0)
theorem tabsL1_ok {N : Nat} {r : TRect} {most : Int} (h : CB r) (h1 : 1 ≤ most) (h2 : most ≤ 1000000) (hN : 1000000 < N) : F_panel_Tabs_L1 N most r (corners r) 0 0 = some (tabsOf r most) := by
  have e2 : lenS r 2 = lenS r 0 := rfl
  have e3 : lenS r 3 = lenS r 1 := rfl
  have hb0 := lenS_bd h 0
  have hb1 := lenS_bd h 1
  obtain ⟨p1, p2, _, _⟩ := parts_bd hb0.1 hb0.2 h1 h2
  obtain ⟨p3, p4, _, _⟩ := parts_bd hb1.1 hb1.2 h1 h2
  have t0 := tabs1_ok h h1 h2 0
  have t1 := tabs1_ok h h1 h2 1
  have t2 := tabs1_ok h h1 h2 2
  have t3 := tabs1_ok h h1 h2 3
  rw [e2] at t2
  rw [e3] at t3
  simp only [corners, F_panel_Tabs_L1, Nat.zero_add, Nat.reduceAdd, t0, t1, t2, t3, Option.bind_some]
  rw [w64_id (x := parts (lenS r 0) most - 1) (by omega) (by omega), w64_id (x := parts (lenS r 1) most - 1) (by omega) (by omega)]
  rw [w64_id (x := 0 + (parts (lenS r 0) most - 1)) (by omega) (by omega), w64_id (x := 0 + (parts (lenS r 0) most - 1) + (parts (lenS r 1) most - 1)) (by omega) (by omega), w64_id (x := 0 + (parts (lenS r 0) most - 1) + (parts (lenS r 1) most - 1) + (parts (lenS r 0) most - 1)) (by omega) (by omega), w64_id (by omega) (by omega)]
  unfold tabsOf
  by_cases hbig : 2000 < 2 * (parts (lenS r 0) most - 1) + 2 * (parts (lenS r 1) most - 1)
  · rw [if_pos (by simp; omega), if_pos hbig]
  rw [if_neg (by simp; omega), if_neg hbig]
  have q0 : idx (corners r) (Int.tmod (w64 (((0 : Nat) : Int) + 1)) 4) = some ⟨r.X1, r.Y0⟩ := rfl
  have q1 : idx (corners r) (Int.tmod (w64 (((1 : Nat) : Int) + 1)) 4) = some ⟨r.X1, r.Y1⟩ := rfl
  have q2 : idx (corners r) (Int.tmod (w64 (((2 : Nat) : Int) + 1)) 4) = some ⟨r.X0, r.Y1⟩ := rfl
  have q3 : idx (corners r) (Int.tmod (w64 (((3 : Nat) : Int) + 1)) 4) = some ⟨r.X0, r.Y0⟩ := rfl
  simp only [corners] at q0 q1 q2 q3
  have l0 := sidePts_len r most 0
  have l1 := sidePts_len r most 1
  have l2 := sidePts_len r most 2
  rw [e2] at l2
  simp only [F_panel_Tabs_L4, Nat.zero_add, Nat.reduceAdd, t0, t1, t2, t3, q0, q1, q2, q3, Option.bind_some]
  have s2 := fun {K} l hl => tabs_side (N := N) (K := K) h h1 h2 hN 2 (by omega) l hl ⟨r.X1, r.Y1⟩ ⟨r.X0, r.Y1⟩ rfl rfl
  have s3 := fun {K} l hl => tabs_side (N := N) (K := K) h h1 h2 hN 3 (by omega) l hl ⟨r.X0, r.Y1⟩ ⟨r.X0, r.Y0⟩ rfl rfl
  rw [e2] at s2
  rw [e3] at s3
  rw [tabs_side h h1 h2 hN 0 (by omega) [] (by simp) _ _ rfl rfl]
  rw [tabs_side h h1 h2 hN 1 (by omega) _ (by simp; omega) _ _ rfl rfl]
  rw [s2 _ (by simp; omega)]
  rw [s3 _ (by simp; omega)]
  simp
-- the reference
theorem partsR_ok {L most : Int} (h1 : 1 ≤ L) (h2 : L ≤ 1000000) (h3 : 1 ≤ most) (h4 : most ≤ 1000000) : F_etchhouseref9_parts L most = some (parts L most) := by
  obtain ⟨_, _, p3, p4⟩ := parts_bd h1 h2 h3 h4
  unfold F_etchhouseref9_parts
  rw [w64_id (x := L + most) (by omega) (by omega), w64_id (x := L + most - 1) (by omega) (by omega), dv_ok (by omega) p3 p4]
  rfl
theorem tabs6_ok {r : TRect} {K : List TPoint → Int → Option (List TPoint × Int)} {L n : Int} (h : CB r) (hL1 : 1 ≤ L) (hL2 : L ≤ 1000000) (hn1 : 1 ≤ n) (hn2 : n ≤ 1000000) (s : Nat) (hs : s < 4) : ∀ (q m : Nat) (l : List TPoint) (k : Int), 1 ≤ k → k + q = n → q < m → l.length + q ≤ 4000000 →
    F_etchhouseref9_Tabs_L6 r (s : Int) K L n m l k = K (l ++ upTo (side r L n s) q k) (w64 ((s : Int) + 1))
  | 0, m + 1, l, k, h1, h2, _, _ => by
    rw [F_etchhouseref9_Tabs_L6.eq_2, if_neg (by simp; omega)]; simp [upTo]
  | q + 1, m + 1, l, k, h1, h2, h3, h4 => by
    have ih := tabs6_ok (K := K) h hL1 hL2 hn1 hn2 s hs q m (l ++ [side r L n s k]) (k + 1) (by omega) (by omega) (by omega) (by simp; omega)
    obtain ⟨b1, b2, b3, b4⟩ := along_bd (L := L) (n := n) (k := k) hL1 hL2 (by omega) (by omega) hn1 hn2
    obtain ⟨a1, a2, a3, a4, a5, a6⟩ := h
    rw [F_etchhouseref9_Tabs_L6.eq_2, if_pos (by simp; omega), Int.mul_comm k L, along_dv hL1 hL2 (by omega) (by omega) hn1 hn2, Option.bind_some]
    rw [w64_id (x := r.X0 + along L n k) (by omega) (by omega), w64_id (x := r.Y0 + along L n k) (by omega) (by omega), w64_id (x := r.X1 - along L n k) (by omega) (by omega), w64_id (x := r.Y1 - along L n k) (by omega) (by omega), w64_id (x := k + 1) (by omega) (by omega)]
    simp only [apd_ok (show l.length + ([_] : List TPoint).length ≤ 4294967296 by simp; omega), Option.bind_some]
    rw [show l ++ upTo (side r L n s) (q + 1) k = (l ++ [side r L n s k]) ++ upTo (side r L n s) q (k + 1) by simp [upTo], ← ih]
    have e : s = 0 ∨ s = 1 ∨ s = 2 ∨ s = 3 := by omega
    rcases e with rfl | rfl | rfl | rfl <;> simp [side]
theorem tabs5R_ok {N : Nat} {r : TRect} {most : Int} (h : CB r) (h1 : 1 ≤ most) (h2 : most ≤ 1000000) (hN : 1000000 < N) (s : Nat) (hs : s < 4) (m : Nat) (l : List TPoint) (hl : l.length ≤ 3000000) :
    F_etchhouseref9_Tabs_L5 N most r (m + 1) l s = F_etchhouseref9_Tabs_L5 N most r m (l ++ sidePts r most s) ((s + 1 : Nat) : Int) := by
  have hb := lenS_bd h s
  obtain ⟨p1, p2, _, _⟩ := parts_bd hb.1 hb.2 h1 h2
  have key : F_etchhouseref9_Tabs_J7 N most r l (s : Int) (F_etchhouseref9_Tabs_L5 N most r m) (lenS r s) = F_etchhouseref9_Tabs_L5 N most r m (l ++ sidePts r most s) ((s + 1 : Nat) : Int) := by
    unfold F_etchhouseref9_Tabs_J7
    rw [partsR_ok hb.1 hb.2 h1 h2, Option.bind_some, tabs6_ok h hb.1 hb.2 (by omega) p2 s hs (parts (lenS r s) most - 1).toNat N l 1 (by omega) (by omega) (by omega) (by omega), w64_id (by omega) (by omega)]
    rfl
  obtain ⟨a1, a2, a3, a4, a5, a6⟩ := h
  rw [F_etchhouseref9_Tabs_L5.eq_2, if_pos (by simp; omega), tmod2, w64_id (x := r.Y1 - r.Y0) (by omega) (by omega), w64_id (x := r.X1 - r.X0) (by omega) (by omega), ← key]
  unfold lenS
  by_cases hs : s % 2 = 1 <;> simp [hs]
theorem tabsR_ok {N : Nat} {r : TRect} {most : Int} (h : CB r) (h1 : 1 ≤ most) (h2 : most ≤ 1000000) (hN : 1000000 < N) (hbig : 2 * (parts (lenS r 0) most - 1) + 2 * (parts (lenS r 1) most - 1) ≤ 2000) : F_etchhouseref9_Tabs_L5 N most r N [] 0 = some (sidePts r most 0 ++ sidePts r most 1 ++ sidePts r most 2 ++ sidePts r most 3, 0) := by
  obtain ⟨m, rfl⟩ : ∃ m, N = m + 5 := ⟨N - 5, by omega⟩
  have hb0 := lenS_bd h 0
  have hb1 := lenS_bd h 1
  obtain ⟨p1, p2, _, _⟩ := parts_bd hb0.1 hb0.2 h1 h2
  obtain ⟨p3, p4, _, _⟩ := parts_bd hb1.1 hb1.2 h1 h2
  have e2 : lenS r 2 = lenS r 0 := rfl
  have l0 := sidePts_len r most 0
  have l1 := sidePts_len r most 1
  have l2 := sidePts_len r most 2
  rw [e2] at l2
  have s0 := tabs5R_ok h h1 h2 hN 0 (by omega) (m + 4) [] (by simp)
  have s1 := tabs5R_ok h h1 h2 hN 1 (by omega) (m + 3) ([] ++ sidePts r most 0) (by simp; omega)
  have s2 := tabs5R_ok h h1 h2 hN 2 (by omega) (m + 2) ([] ++ sidePts r most 0 ++ sidePts r most 1) (by simp; omega)
  have s3 := tabs5R_ok h h1 h2 hN 3 (by omega) (m + 1) ([] ++ sidePts r most 0 ++ sidePts r most 1 ++ sidePts r most 2) (by simp; omega)
  refine s0.trans (s1.trans (s2.trans (s3.trans ?_)))
  rw [F_etchhouseref9_Tabs_L5.eq_2, if_neg (by simp)]
  simp
-- the whole
theorem equalP_ok (l : List TPoint) : F_slices_Equal_Point l l = some true := by
  unfold F_slices_Equal_Point
  rw [if_neg (by simp)]
  have key : ∀ (suf pre : List TPoint), l = pre ++ suf → F_slices_Equal_Point_L1 l suf pre.length = some true := by
    intro suf
    induction suf with
    | nil => intro pre _; rfl
    | cons x suf ih =>
      intro pre hp
      have := ih (pre ++ [x]) (by rw [hp]; simp)
      rw [F_slices_Equal_Point_L1.eq_2, show idx l (pre.length : Int) = some x by rw [hp]; exact idx_mid _ _ _, Option.bind_some, eqP, decide_eq_true rfl, if_neg (by simp)]
      simpa using this
  exact key l [] rfl
theorem awake_ok {N : Nat} (hN : 3 ≤ N) : F_etchhouselaw9_awake N = some true := by
  obtain ⟨m, rfl⟩ : ∃ m, N = m + 3 := ⟨N - 3, by omega⟩
  rfl
theorem TabsMatch_ok {N : Nat} {p : TPanel} (slot most : Int) (hM : 20000000 ≤ N) (hN : p.Kinds.length < N) (hn : ∀ k ∈ p.Kinds, k.Name.size ≤ 9223372036854775807 ∧ k.Name.size < N) : F_etchhouselaw9_TabsMatchSpec N p slot most = some true := by
  have main : F_panel_Tabs N p slot most = F_etchhouseref9_Tabs N p slot most ∧ ∃ r, F_panel_Tabs N p slot most = some r := by
    unfold F_panel_Tabs F_etchhouseref9_Tabs
    rw [open_ok hn, checkPanel_ok (by omega) hN hn, Option.bind_some, Option.bind_some]
    by_cases he : openErr p = 0
    · obtain ⟨hB, hsl, _, hso⟩ := openErr_ok he
      rw [he]
      simp only [if_true, bne_self_eq_false, Bool.false_eq_true, if_false, within_ok, withinR_ok, Option.bind_some, List.length_map]
      rw [w64_id (by omega) (by omega)]
      cases hw : within slot 0 ((p.Slots.length : Int) - 1)
      · exact ⟨rfl, _, rfl⟩
      cases hw2 : within most 1 1000000
      · exact ⟨rfl, _, rfl⟩
      have w1 := within_iff.1 hw
      have w2 := within_iff.1 hw2
      obtain ⟨s, hi, hmem⟩ := idx_lt (l := p.Slots) (i := slot) (by omega) (by omega)
      have hk := hso s (List.mem_of_getElem? hmem)
      have hcell : idx (p.Slots.map (cellOf p)) slot = some (cellOf p s) := by
        unfold idx
        rw [if_pos w1.1, List.getElem?_map, hmem]; rfl
      obtain ⟨bx, by_, _, d1, d2, d3, d4, d5, d6⟩ := hk.bd hB
      have hcb : CB (cellOf p s) := ⟨d3, d4, d1, d2, d5, d6⟩
      rw [hi, hcell]
      simp only [Bool.not_true, Bool.false_eq_true, if_false, Option.bind_some]
      rw [cellOfR_ok hB hN hk.kind bx by_, Option.bind_some]
      have l0 := lenS_bd hcb 0
      have l1 := lenS_bd hcb 1
      have t1 := tabsL1_ok (N := N) hcb w2.1 w2.2 (by omega)
      unfold corners at t1
      rw [t1]
      rw [w64_id (x := (cellOf p s).X1 - (cellOf p s).X0) (by omega) (by omega), w64_id (x := (cellOf p s).Y1 - (cellOf p s).Y0) (by omega) (by omega)]
      have p0 := partsR_ok l0.1 l0.2 w2.1 w2.2
      have p1 := partsR_ok l1.1 l1.2 w2.1 w2.2
      have b0 := parts_bd l0.1 l0.2 w2.1 w2.2
      have b1 := parts_bd l1.1 l1.2 w2.1 w2.2
      have e0 : lenS (cellOf p s) 0 = (cellOf p s).X1 - (cellOf p s).X0 := rfl
      have e1 : lenS (cellOf p s) 1 = (cellOf p s).Y1 - (cellOf p s).Y0 := rfl
      rw [← e0, ← e1, p0, Option.bind_some, p1, Option.bind_some]
      rw [w64_id (x := parts (lenS (cellOf p s) 0) most - 1) (by omega) (by omega), w64_id (x := parts (lenS (cellOf p s) 1) most - 1) (by omega) (by omega), w64_id (x := 2 * (parts (lenS (cellOf p s) 0) most - 1)) (by omega) (by omega), w64_id (x := 2 * (parts (lenS (cellOf p s) 1) most - 1)) (by omega) (by omega), w64_id (by omega) (by omega)]
      unfold tabsOf
      by_cases hb : 2000 < 2 * (parts (lenS (cellOf p s) 0) most - 1) + 2 * (parts (lenS (cellOf p s) 1) most - 1)
      · rw [if_pos hb, if_pos (by simpa using hb)]; exact ⟨rfl, _, rfl⟩
      · rw [if_neg hb, if_neg (by simpa using hb), tabsR_ok hcb w2.1 w2.2 (by omega) (by omega)]; exact ⟨rfl, _, rfl⟩
    · simp only [if_neg he]
      rw [if_pos (by simpa using he), if_pos (by simpa using he)]
      exact ⟨rfl, _, rfl⟩
  obtain ⟨h1, r, h2⟩ := main
  unfold F_etchhouselaw9_TabsMatchSpec
  rw [← h1, h2, Option.bind_some, Option.bind_some, equalP_ok, awake_ok (by omega)]
  simp
end Go.Proofs.Ytpkicpnbpldkpaa
