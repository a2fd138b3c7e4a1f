/- Gaps of regions: the reference, the law and its fuel. Plain Lean about the plain functions. -/
import Derived.Test.YtcebbfodkadggaaG1
namespace Go.Proofs.Ytcebbfodkadggaa
section
variable {N : Nat} (hN : 10000000000 ≤ N)
include hN
theorem farRegions_ok {a b : List TRect} (ha : a ≠ []) (hb : b ≠ []) (h1 : ∀ r ∈ a, R2 r) (h2 : ∀ r ∈ b, R2 r) (hal : a.length ≤ 2000) (hbl : b.length ≤ 2000) : F_etchhouseref1_farRegions N a b = some (least a b) := by
  have L4 : ∀ (x : TRect) (i : Int) (K : Int → Int → Option Int), R2 x → idx a i = some x → ∀ (suf pre : List TRect) (m : Nat) (v : Int), b = pre ++ suf → suf.length < m → F_etchhouseref1_farRegions_L4 a b i K m v pre.length = K ((suf.map fun q => (x, q)).foldl mn v) (w64 (i + 1)) := by
    intro x i K hx hi suf
    induction suf with
    | nil =>
      intro pre m v e1 e2
      obtain ⟨m, rfl⟩ : ∃ k, m = k + 1 := ⟨m - 1, by omega⟩
      rw [F_etchhouseref1_farRegions_L4.eq_2, if_neg (by rw [e1]; simp)]; rfl
    | cons q suf ih =>
      intro pre m v e1 e2
      obtain ⟨m, rfl⟩ : ∃ k, m = k + 1 := ⟨m - 1, by omega⟩
      have hpl : pre.length ≤ 2000 := by rw [e1] at hbl; simp at hbl; omega
      have hid : idx b (pre.length : Int) = some q := by rw [e1]; exact idx_mid pre suf q
      rw [F_etchhouseref1_farRegions_L4.eq_2, if_pos (by rw [e1]; exact lt_mid pre suf q), hi, Option.bind_some, hid, Option.bind_some, FarR_ok hx (h2 q (by rw [e1]; simp)), Option.bind_some, up_mid pre q (by omega)]
      exact ih (pre ++ [q]) m _ (by rw [e1]; simp) (by simp at e2; omega)
  have L3 : ∀ (suf pre : List TRect) (m : Nat) (v : Int), a = pre ++ suf → suf.length < m → F_etchhouseref1_farRegions_L3 N a b m v pre.length = some ((prs suf b).foldl mn v) := by
    intro suf
    induction suf with
    | nil =>
      intro pre m v e1 e2
      obtain ⟨m, rfl⟩ : ∃ k, m = k + 1 := ⟨m - 1, by omega⟩
      rw [F_etchhouseref1_farRegions_L3.eq_2, if_neg (by rw [e1]; simp)]; rfl
    | cons x suf ih =>
      intro pre m v e1 e2
      obtain ⟨m, rfl⟩ : ∃ k, m = k + 1 := ⟨m - 1, by omega⟩
      have hpl : pre.length ≤ 2000 := by rw [e1] at hal; simp at hal; omega
      have hid : idx a (pre.length : Int) = some x := by rw [e1]; exact idx_mid pre suf x
      have := L4 x pre.length (F_etchhouseref1_farRegions_L3 N a b m) (h1 x (by rw [e1]; simp)) hid b [] N v rfl (by omega)
      rw [F_etchhouseref1_farRegions_L3.eq_2, if_pos (by rw [e1]; exact lt_mid pre suf x), show (0 : Int) = (([] : List TRect).length : Int) from rfl, this, up_mid pre x (by omega), ih (pre ++ [x]) m _ (by rw [e1]; simp) (by simp at e2; omega), prs_cons, List.foldl_append]
  cases a with
  | nil => exact absurd rfl ha
  | cons x a =>
    cases b with
    | nil => exact absurd rfl hb
    | cons y b =>
      unfold F_etchhouseref1_farRegions
      have := L3 (x :: a) [] N (far x y) rfl (by omega)
      rw [show idx (x :: a) 0 = some x from rfl, Option.bind_some, show idx (y :: b) 0 = some y from rfl, Option.bind_some, FarR_ok (h1 x (by simp)) (h2 y (by simp)), Option.bind_some]
      exact this
theorem nearest_ok {a b : List TRect} {n : Int} (hn : 0 ≤ n ∧ n ≤ 6000001) (h1 : ∀ r ∈ a, R2 r) (h2 : ∀ r ∈ b, R2 r) (hal : a.length ≤ 2000) (hbl : b.length ≤ 2000) (hle : ∀ p ∈ prs a b, n ≤ far p.1 p.2) :
    F_etchhouseref1_nearest N a b n = some (⟨((prs a b).foldl (upd n) (0, 0, false)).1, ((prs a b).foldl (upd n) (0, 0, false)).2.1⟩, ((prs a b).foldl (upd n) (0, 0, false)).2.2) := by
  have L4 : ∀ (x : TRect) (i : Int) (K : Int → Int → Bool → Int → Option (TPoint × Bool)), x ∈ a → idx a i = some x → ∀ (suf pre : List TRect) (m : Nat) (s : Int × Int × Bool), b = pre ++ suf → suf.length < m → F_etchhouseref1_nearest_L4 a b n i K m s.1 s.2.1 s.2.2 pre.length = K ((suf.map fun q => (x, q)).foldl (upd n) s).1 ((suf.map fun q => (x, q)).foldl (upd n) s).2.1 ((suf.map fun q => (x, q)).foldl (upd n) s).2.2 (w64 (i + 1)) := by
    intro x i K hx hi suf
    induction suf with
    | nil =>
      intro pre m s e1 e2
      obtain ⟨m, rfl⟩ : ∃ k, m = k + 1 := ⟨m - 1, by omega⟩
      rw [F_etchhouseref1_nearest_L4.eq_2, if_neg (by rw [e1]; simp)]; rfl
    | cons q suf ih =>
      intro pre m s e1 e2
      obtain ⟨m, rfl⟩ : ∃ k, m = k + 1 := ⟨m - 1, by omega⟩
      have hpl : pre.length ≤ 2000 := by rw [e1] at hbl; simp at hbl; omega
      have hid : idx b (pre.length : Int) = some q := by rw [e1]; exact idx_mid pre suf q
      have hq : q ∈ b := by rw [e1]; simp
      have hxr := h1 x hx
      have hqr := h2 q hq
      have hmin := hle (x, q) (mem_prs.2 ⟨hx, hq⟩)
      have hmin : n ≤ far x q := hmin
      have hnear := near_iff hxr hqr hn.1
      have := hxr.x0; have := hxr.x1; have := hxr.y0; have := hxr.y1; have := hqr.x0; have := hqr.x1; have := hqr.y0; have := hqr.y1
      rw [F_etchhouseref1_nearest_L4.eq_2, if_pos (by rw [e1]; exact lt_mid pre suf q)]
      simp only [hi, hid, Option.bind_some]
      rw [w64_id (x := q.X1 + n) (by omega) (by omega), w64_id (x := q.Y1 + n) (by omega) (by omega), w64_id (x := q.X0 - n) (by omega) (by omega), w64_id (x := q.Y0 - n) (by omega) (by omega), w64_id (x := min x.X1 (q.X1 + n) - 1) (by omega) (by omega), w64_id (x := min x.Y1 (q.Y1 + n) - 1) (by omega) (by omega), up_mid pre q (by omega)]
      have ihs := fun s => ih (pre ++ [q]) m s (by rw [e1]; simp) (by simp at e2; omega)
      rw [List.map_cons, List.foldl_cons]
      by_cases hf : far x q ≤ n
      · obtain ⟨k1, k2⟩ := hnear.1 hf
        have hfn : far x q = n := by omega
        rw [if_neg (show ¬ decide (min x.X1 (q.X1 + n) - 1 < max x.X0 (q.X0 - n)) = true by rw [decide_eq_true_eq]; omega), Option.bind_some, if_neg (show ¬ decide (min x.Y1 (q.Y1 + n) - 1 < max x.Y0 (q.Y0 - n)) = true by rw [decide_eq_true_eq]; omega)]
        by_cases hc : ((!s.2.2 || decide (max x.Y0 (q.Y0 - n) < s.2.1)) || ((max x.Y0 (q.Y0 - n) == s.2.1) && decide (max x.X0 (q.X0 - n) < s.1))) = true
        · rw [if_pos hc]
          have e : upd n s (x, q) = (max x.X0 (q.X0 - n), max x.Y0 (q.Y0 - n), true) := by
            unfold upd lessP nearP
            rw [Bool.or_assoc] at hc
            rw [if_pos (by show ((far x q == n) && _) = true; rw [hfn, beq_self_eq_true, Bool.true_and]; exact hc)]
          rw [e]
          exact ihs (max x.X0 (q.X0 - n), max x.Y0 (q.Y0 - n), true)
        · rw [if_neg hc]
          have e : upd n s (x, q) = s := by
            unfold upd lessP nearP
            rw [Bool.or_assoc] at hc
            rw [if_neg (by show ¬ ((far x q == n) && _) = true; rw [hfn, beq_self_eq_true, Bool.true_and]; exact hc)]
          rw [e]
          exact ihs _
      · have e : upd n s (x, q) = s := by
          unfold upd
          rw [if_neg (by show ¬ ((far x q == n) && _) = true; rw [Bool.and_eq_true, not_and]; intro h; exact absurd (by simpa using h) (show ¬ far x q = n by omega))]
        rw [e]
        by_cases k1 : min x.X1 (q.X1 + n) - 1 < max x.X0 (q.X0 - n)
        · rw [if_pos (decide_eq_true k1), Option.bind_some, if_pos rfl]
          exact ihs _
        · have k2 : min x.Y1 (q.Y1 + n) - 1 < max x.Y0 (q.Y0 - n) := by
            rcases Int.lt_or_le (min x.Y1 (q.Y1 + n) - 1) (max x.Y0 (q.Y0 - n)) with h | h
            · exact h
            · exact absurd (hnear.2 ⟨by omega, h⟩) hf
          rw [if_neg (show ¬ decide _ = true by rw [decide_eq_true_eq]; exact k1), Option.bind_some, if_pos (decide_eq_true k2)]
          exact ihs _
  have L3 : ∀ (suf pre : List TRect) (m : Nat) (s : Int × Int × Bool), a = pre ++ suf → suf.length < m → F_etchhouseref1_nearest_L3 N a b n m s.1 s.2.1 s.2.2 pre.length = some (⟨((prs suf b).foldl (upd n) s).1, ((prs suf b).foldl (upd n) s).2.1⟩, ((prs suf b).foldl (upd n) s).2.2) := by
    intro suf
    induction suf with
    | nil =>
      intro pre m s e1 e2
      obtain ⟨m, rfl⟩ : ∃ k, m = k + 1 := ⟨m - 1, by omega⟩
      rw [F_etchhouseref1_nearest_L3.eq_2, if_neg (by rw [e1]; simp)]; rfl
    | cons x suf ih =>
      intro pre m s e1 e2
      obtain ⟨m, rfl⟩ : ∃ k, m = k + 1 := ⟨m - 1, by omega⟩
      have hpl : pre.length ≤ 2000 := by rw [e1] at hal; simp at hal; omega
      have hid : idx a (pre.length : Int) = some x := by rw [e1]; exact idx_mid pre suf x
      have := L4 x pre.length (F_etchhouseref1_nearest_L3 N a b n m) (by rw [e1]; simp) hid b [] N s rfl (by omega)
      rw [F_etchhouseref1_nearest_L3.eq_2, if_pos (by rw [e1]; exact lt_mid pre suf x), show (0 : Int) = (([] : List TRect).length : Int) from rfl, this, up_mid pre x (by omega), ih (pre ++ [x]) m _ (by rw [e1]; simp) (by simp at e2; omega), prs_cons, List.foldl_append]
  exact L3 a [] N (0, 0, false) rfl (by omega)
theorem GapOfR_ok {a b : List TRect} (ha : a ≠ []) (hb : b ≠ []) (h1 : ∀ r ∈ a, ROk r) (h2 : ∀ r ∈ b, ROk r) (hal : a.length ≤ 2000) (hbl : b.length ≤ 2000) : F_etchhouseref1_GapOf N a b = some (gapV a b) := by
  have k1 : ∀ r ∈ a, R2 r := fun r hr => (h1 r hr).r2
  have k2 : ∀ r ∈ b, R2 r := fun r hr => (h2 r hr).r2
  have hn := least_lim ha hb k1 k2
  obtain ⟨r, hr, hf⟩ := from_in ha hb k1 k2
  have hrl := h1 r hr
  have := hrl.x0; have := hrl.x1; have := hrl.y0; have := hrl.y1
  obtain ⟨l1, l2⟩ := least_ok ha hb
  unfold F_etchhouseref1_GapOf
  rw [farRegions_ok hN ha hb k1 k2 hal hbl, Option.bind_some, nearest_ok hN hn k1 k2 hal hbl l1, Option.bind_some]
  show ((F_etchhouseref1_nearest N b [(TRect.mk (fromV a b).1 (fromV a b).2.1 (w64 ((fromV a b).1 + 1)) (w64 ((fromV a b).2.1 + 1)))] (least a b)).bind fun y105 => some (TGap.mk 0 0 (w64 (least a b - 1)) ⟨(fromV a b).1, (fromV a b).2.1⟩ y105.1)) = _
  rw [w64_id (x := (fromV a b).1 + 1) (by omega) (by omega), w64_id (x := (fromV a b).2.1 + 1) (by omega) (by omega), w64_id (x := least a b - 1) (by omega) (by omega)]
  have hu : R2 ⟨(fromV a b).1, (fromV a b).2.1, (fromV a b).1 + 1, (fromV a b).2.1 + 1⟩ := by
    constructor <;> simp only <;> omega
  rw [nearest_ok hN hn k2 (by simpa using hu) hbl (by simp) (fun p hp => ?_), Option.bind_some]
  · rfl
  · obtain ⟨q1, q2⟩ := mem_prs.1 hp
    have q2 : p.2 = ⟨(fromV a b).1, (fromV a b).2.1, (fromV a b).1 + 1, (fromV a b).2.1 + 1⟩ := by simpa using q2
    have hmin := l1 (r, p.1) (mem_prs.2 ⟨hr, q1⟩)
    rw [q2]
    have hx := (k1 r hr).x; have hy := (k1 r hr).y
    have hpx := (k2 _ q1).x; have hpy := (k2 _ q1).y
    simp only at hmin
    unfold far bt at hmin ⊢
    simp only
    omega
end
/-- The gaps behind one region. -/
def gIn (below : Int) (a : List TRect) (i : Int) (K : List TGap → Option (List TGap × Int)) : List (List TRect) → Int → List TGap → Option (List TGap × Int)
  | [], _, out => K out
  | b :: l, k, out => if a = [] ∨ b = [] then gIn below a i K l (k + 1) out else if least a b = 0 then some ([], 12) else if least a b - 1 < below then gIn below a i K l (k + 1) (out ++ [⟨i, k, (gapV a b).Distance, (gapV a b).From, (gapV a b).To⟩]) else gIn below a i K l (k + 1) out
def gOut (below : Int) : List (List TRect) → Int → List TGap → Option (List TGap × Int)
  | [], _, out => some (out, 0)
  | a :: l, i, out => gIn below a i (gOut below l (i + 1)) l (i + 1) out
theorem gIn_congr {below : Int} {a : List TRect} {i : Int} {K K' : List TGap → Option (List TGap × Int)} {B : Nat} (h : ∀ out, out.length ≤ B → K out = K' out) : ∀ (l : List (List TRect)) (k : Int) (out : List TGap), out.length + l.length ≤ B → gIn below a i K l k out = gIn below a i K' l k out
  | [], k, out, hb => h out (by simpa using hb)
  | b :: l, k, out, hb => by
    simp only [List.length_cons] at hb
    unfold gIn
    rw [gIn_congr h l (k + 1) out (by omega), gIn_congr h l (k + 1) _ (by simp; omega)]
section
variable {N : Nat} (hN : 10000000000 ≤ N) {p0 : List (List TRect)} {below : Int} (hl : p0.length ≤ 2000) (hreg : ∀ a ∈ p0, regionErr a = 0)
include hN hl hreg
omit hN in
theorem L6p {K : List TGap → Option (List TGap × Int)} {a : List TRect} (ha : a ∈ p0) {i : Nat} : ∀ (suf pre : List (List TRect)) (m : Nat) (out : List TGap), p0 = pre ++ suf → suf.length < m → out.length + suf.length ≤ 4000000000 →
    F_shape_Gaps_L6 p0 below K a i m out pre.length = gIn below a i K suf pre.length out
  | suf, pre, 0, out, _, h, _ => absurd h (Nat.not_lt_zero _)
  | [], pre, m + 1, out, h1, h2, h3 => by rw [F_shape_Gaps_L6.eq_2, if_neg (by rw [h1]; simp)]; rfl
  | b :: suf, pre, m + 1, out, h1, h2, h3 => by
    have hpl : pre.length ≤ 2000 := by rw [h1] at hl; simp at hl; omega
    have hid : idx p0 (pre.length : Int) = some b := by rw [h1]; exact idx_mid pre suf b
    have hb : b ∈ p0 := by rw [h1]; simp
    obtain ⟨_, _, haok, _⟩ := regionErr_ok (hreg a ha)
    obtain ⟨_, _, hbok, _⟩ := regionErr_ok (hreg b hb)
    simp only [List.length_cons] at h2 h3
    have ih := fun out h => L6p (K := K) ha (i := i) suf (pre ++ [b]) m out (by rw [h1]; simp) (by omega) h
    have up : w64 ((pre.length : Int) + 1) = ((pre ++ [b]).length : Int) := up_mid pre b (by omega)
    have e1 : ((pre ++ [b]).length : Int) = (pre.length : Int) + 1 := by simp
    rw [F_shape_Gaps_L6.eq_2, if_pos (by rw [h1]; exact lt_mid pre suf b), hid, up]
    unfold gIn
    by_cases ha0 : a = []
    · rw [if_pos (by rw [ha0]; rfl), Option.bind_some, if_pos rfl, if_pos (.inl ha0), ih _ (by omega), e1]
    · rw [if_neg (by simp; exact ha0), Option.bind_some, Option.bind_some]
      by_cases hb0 : b = []
      · rw [if_pos (by rw [hb0]; rfl), if_pos (.inr hb0), ih _ (by omega), e1]
      · rw [if_neg (by simp; exact hb0), if_neg (by simp [ha0, hb0]), Option.bind_some, GapOf_ok ha0 hb0 haok hbok, Option.bind_some]
        have hd : (gapV a b).Distance = least a b - 1 := rfl
        have hn := least_lim ha0 hb0 (fun r hr => (haok r hr).r2) (fun r hr => (hbok r hr).r2)
        rw [hd]
        by_cases h0 : least a b = 0
        · rw [if_pos (by rw [h0]; rfl), if_pos h0]
        · rw [if_neg (by simp; omega), if_neg h0]
          by_cases hbel : least a b - 1 < below
          · rw [if_pos (by simpa using hbel), if_pos hbel, apd_ok (by simp; omega), Option.bind_some, ih _ (by simp; omega), e1]
          · rw [if_neg (by simpa using hbel), if_neg hbel, ih _ (by omega), e1]
theorem L5p : ∀ (suf pre : List (List TRect)) (out : List TGap), p0 = pre ++ suf → out.length ≤ 2000 * pre.length → F_shape_Gaps_L5 N p0 below suf pre.length out = gOut below suf pre.length out
  | [], pre, out, _, _ => rfl
  | a :: suf, pre, out, h1, h2 => by
    have hpl : pre.length + 1 + suf.length ≤ 2000 := by rw [h1] at hl; simp at hl; omega
    have e1 : ((pre ++ [a]).length : Int) = (pre.length : Int) + 1 := by simp
    have k1 := L6p hl hreg (below := below) (K := F_shape_Gaps_L5 N p0 below suf (pre.length + 1)) (a := a) (by rw [h1]; simp) (i := pre.length) suf (pre ++ [a]) N out (by rw [h1]; simp) (by omega) (by omega)
    rw [F_shape_Gaps_L5.eq_2, up_mid pre a (by omega), k1, e1]
    show _ = gIn below a pre.length (gOut below suf ((pre.length : Int) + 1)) suf ((pre.length : Int) + 1) out
    refine gIn_congr (B := 2000 * (pre.length + 1)) (fun out' hout => ?_) suf _ out (by omega)
    have := L5p suf (pre ++ [a]) out' (by rw [h1]; simp) (by simp; omega)
    rw [e1] at this
    rw [← this]; simp
theorem L6r {K : List TGap → Int → Option (List TGap × Int)} {a : List TRect} {i : Int} (ha : a ∈ p0) (hi : idx p0 i = some a) : ∀ (suf pre : List (List TRect)) (m : Nat) (out : List TGap), p0 = pre ++ suf → suf.length < m → out.length + suf.length ≤ 4000000000 →
    F_etchhouseref1_Gaps_L6 N p0 below i K m out pre.length = gIn below a i (fun o => K o (w64 (i + 1))) suf pre.length out
  | suf, pre, 0, out, _, h, _ => absurd h (Nat.not_lt_zero _)
  | [], pre, m + 1, out, h1, h2, h3 => by rw [F_etchhouseref1_Gaps_L6.eq_2, if_neg (by rw [h1]; simp)]; rfl
  | b :: suf, pre, m + 1, out, h1, h2, h3 => by
    have hpl : pre.length ≤ 2000 := by rw [h1] at hl; simp at hl; omega
    have hid : idx p0 (pre.length : Int) = some b := by rw [h1]; exact idx_mid pre suf b
    have hb : b ∈ p0 := by rw [h1]; simp
    obtain ⟨_, hal, haok, _⟩ := regionErr_ok (hreg a ha)
    obtain ⟨_, hbl, hbok, _⟩ := regionErr_ok (hreg b hb)
    simp only [List.length_cons] at h2 h3
    have ih := fun out h => L6r (K := K) ha hi suf (pre ++ [b]) m out (by rw [h1]; simp) (by omega) h
    have up : w64 ((pre.length : Int) + 1) = ((pre ++ [b]).length : Int) := up_mid pre b (by omega)
    have e1 : ((pre ++ [b]).length : Int) = (pre.length : Int) + 1 := by simp
    rw [F_etchhouseref1_Gaps_L6.eq_2, if_pos (by rw [h1]; exact lt_mid pre suf b), hid, hi, up, Option.bind_some]
    unfold gIn
    by_cases ha0 : a = []
    · rw [if_pos (by rw [ha0]; rfl), Option.bind_some, if_pos rfl, if_pos (.inl ha0), ih _ (by omega), e1]
    · rw [if_neg (by simp; exact ha0), Option.bind_some, Option.bind_some]
      by_cases hb0 : b = []
      · rw [if_pos (by rw [hb0]; rfl), if_pos (.inr hb0), ih _ (by omega), e1]
      · have k1 : ∀ r ∈ a, R2 r := fun r hr => (haok r hr).r2
        have k2 : ∀ r ∈ b, R2 r := fun r hr => (hbok r hr).r2
        have hn := least_lim ha0 hb0 k1 k2
        rw [if_neg (by simp; exact hb0), if_neg (by simp [ha0, hb0]), Option.bind_some, Option.bind_some, farRegions_ok hN ha0 hb0 k1 k2 hal hbl, Option.bind_some]
        by_cases h0 : least a b = 0
        · rw [if_pos (by rw [h0]; rfl), if_pos h0]
        · rw [if_neg (by simpa using h0), if_neg h0, Option.bind_some, Option.bind_some, farRegions_ok hN ha0 hb0 k1 k2 hal hbl, Option.bind_some, w64_id (x := least a b - 1) (by omega) (by omega)]
          by_cases hbel : least a b - 1 < below
          · rw [if_pos (by simpa using hbel), if_pos hbel, Option.bind_some, Option.bind_some, GapOfR_ok hN ha0 hb0 haok hbok hal hbl, Option.bind_some, apd_ok (by simp; omega), Option.bind_some, ih _ (by simp; omega), e1]
          · rw [if_neg (by simpa using hbel), if_neg hbel, ih _ (by omega), e1]
theorem L5r : ∀ (suf pre : List (List TRect)) (m : Nat) (out : List TGap), p0 = pre ++ suf → suf.length < m → out.length ≤ 2000 * pre.length → F_etchhouseref1_Gaps_L5 N p0 below m out pre.length = gOut below suf pre.length out
  | suf, pre, 0, out, _, h, _ => absurd h (Nat.not_lt_zero _)
  | [], pre, m + 1, out, h1, _, _ => by rw [F_etchhouseref1_Gaps_L5.eq_2, if_neg (by rw [h1]; simp)]; rfl
  | a :: suf, pre, m + 1, out, h1, h0, h2 => by
    have hpl : pre.length + 1 + suf.length ≤ 2000 := by rw [h1] at hl; simp at hl; omega
    have hid : idx p0 (pre.length : Int) = some a := by rw [h1]; exact idx_mid pre suf a
    have e1 : ((pre ++ [a]).length : Int) = (pre.length : Int) + 1 := by simp
    have k1 := L6r hN hl hreg (below := below) (K := F_etchhouseref1_Gaps_L5 N p0 below m) (a := a) (by rw [h1]; simp) hid suf (pre ++ [a]) N out (by rw [h1]; simp) (by omega) (by omega)
    rw [F_etchhouseref1_Gaps_L5.eq_2, if_pos (by rw [h1]; exact lt_mid pre suf a), up_mid pre a (by omega), k1, e1]
    show _ = gIn below a pre.length (gOut below suf ((pre.length : Int) + 1)) suf ((pre.length : Int) + 1) out
    refine gIn_congr (B := 2000 * (pre.length + 1)) (fun out' hout => ?_) suf _ out (by omega)
    have := L5r suf (pre ++ [a]) m out' (by rw [h1]; simp) (by simp at h0; omega) (by simp; omega)
    rw [e1] at this
    rw [up_mid pre a (by omega), e1]
    exact this
end
def manyV : List (List TRect) → Int → Int
  | [], n => n
  | a :: l, n => manyV l (w64 (n + (a.length : Int)))
def regsErr : List (List TRect) → Int
  | [] => 0
  | a :: l => if regionErr a = 0 then regsErr l else regionErr a
theorem regsErr_ok : ∀ {l : List (List TRect)}, regsErr l = 0 → ∀ a ∈ l, regionErr a = 0
  | [], _, a, ha => by simp at ha
  | b :: l, h, a, ha => by
    unfold regsErr at h
    by_cases hb : regionErr b = 0
    · rw [if_pos hb] at h
      rcases List.mem_cons.1 ha with rfl | ha
      · exact hb
      · exact regsErr_ok h a ha
    · rw [if_neg hb] at h; exact absurd h hb
def gapsV (l : List (List TRect)) (below : Int) : Option (List TGap × Int) :=
  if (decide (2000 < (l.length : Int)) || decide (2000 < manyV l 0)) = true then some ([], 2) else if regsErr l = 0 then if within below 0 100000 = true then gOut below l 0 [] else some ([], 1) else some ([], regsErr l)
theorem Gaps_ok {N : Nat} (hN : 10000000000 ≤ N) (l : List (List TRect)) (below : Int) : F_shape_Gaps N l below = gapsV l below := by
  have L1 : ∀ (suf : List (List TRect)) (i : Nat) (n : Int), F_shape_Gaps_L1 N l below suf i n = if (decide (2000 < (l.length : Int)) || decide (2000 < manyV suf n)) = true then some ([], 2) else F_shape_Gaps_L2 N l below l 0 := by
    intro suf
    induction suf with
    | nil => intro i n; rfl
    | cons a suf ih => intro i n; rw [F_shape_Gaps_L1.eq_2, ih]; rfl
  have L2 : l.length ≤ 2000 → ∀ (suf : List (List TRect)) (i : Nat), (regsErr suf = 0 → regsErr l = 0) → F_shape_Gaps_L2 N l below suf i = if regsErr suf = 0 then if within below 0 100000 = true then gOut below l 0 [] else some ([], 1) else some ([], regsErr suf) := by
    intro hl suf
    induction suf with
    | nil =>
      intro i h
      have hreg := regsErr_ok (h rfl)
      have := L5p hN hl hreg (below := below) l [] [] rfl (by simp)
      rw [F_shape_Gaps_L2.eq_1, if_pos (show regsErr [] = 0 from rfl), show F_shape_within below 0 100000 = some (within below 0 100000) from rfl, Option.bind_some]
      cases within below 0 100000
      · rfl
      · exact this
    | cons a suf ih =>
      intro i h
      rw [F_shape_Gaps_L2.eq_2, CheckRegion_ok hN, Option.bind_some]
      unfold regsErr
      by_cases ha : regionErr a = 0
      · rw [if_neg (by simpa using ha), if_pos ha, ih (i + 1) (fun h' => h (by unfold regsErr; rw [if_pos ha]; exact h'))]
      · rw [if_pos (by simpa using ha), if_neg ha, if_neg ha]
  unfold F_shape_Gaps gapsV
  rw [L1]
  by_cases hc : (decide (2000 < (l.length : Int)) || decide (2000 < manyV l 0)) = true
  · rw [if_pos hc, if_pos hc]
  · rw [if_neg hc, if_neg hc]
    rw [Bool.or_eq_true, not_or, decide_eq_true_eq] at hc
    exact L2 (by omega) l 0 (fun h => h)
theorem GapsR_ok {N : Nat} (hN : 10000000000 ≤ N) (l : List (List TRect)) (below : Int) (hlen : l.length ≤ 9223372036854775807) (hNl : l.length < N) : F_etchhouseref1_Gaps N l below = gapsV l below := by
  have L1 : ∀ (suf pre : List (List TRect)) (m : Nat) (n : Int), l = pre ++ suf → suf.length < m → F_etchhouseref1_Gaps_L1 N l below m n pre.length = if (decide (2000 < (l.length : Int)) || decide (2000 < manyV suf n)) = true then some ([], 2) else F_etchhouseref1_Gaps_L2 N l below N 0 := by
    intro suf
    induction suf with
    | nil =>
      intro pre m n h1 h2
      obtain ⟨m, rfl⟩ : ∃ k, m = k + 1 := ⟨m - 1, by omega⟩
      rw [F_etchhouseref1_Gaps_L1.eq_2, if_neg (by rw [h1]; simp)]; rfl
    | cons a suf ih =>
      intro pre m n h1 h2
      obtain ⟨m, rfl⟩ : ∃ k, m = k + 1 := ⟨m - 1, by omega⟩
      have hid : idx l (pre.length : Int) = some a := by rw [h1]; exact idx_mid pre suf a
      have hup : w64 ((pre.length : Int) + 1) = ((pre ++ [a]).length : Int) := by
        rw [w64_eq (by omega) (by rw [h1] at hlen; simp at hlen; omega)]; simp
      rw [F_etchhouseref1_Gaps_L1.eq_2, if_pos (by rw [h1]; exact lt_mid pre suf a), hid, Option.bind_some, hup, ih (pre ++ [a]) m _ (by rw [h1]; simp) (by simp at h2; omega)]; rfl
  have L2 : l.length ≤ 2000 → ∀ (suf pre : List (List TRect)) (m : Nat), l = pre ++ suf → suf.length < m → (regsErr suf = 0 → regsErr l = 0) → F_etchhouseref1_Gaps_L2 N l below m pre.length = if regsErr suf = 0 then if within below 0 100000 = true then gOut below l 0 [] else some ([], 1) else some ([], regsErr suf) := by
    intro hl suf
    induction suf with
    | nil =>
      intro pre m h1 h2 h
      obtain ⟨m, rfl⟩ : ∃ k, m = k + 1 := ⟨m - 1, by omega⟩
      have hreg := regsErr_ok (h rfl)
      have := L5r hN hl hreg (below := below) l [] N [] rfl (by omega) (by simp)
      rw [F_etchhouseref1_Gaps_L2.eq_2, if_neg (by rw [h1]; simp), if_pos (show regsErr [] = 0 from rfl), show F_etchhouseref1_within below 0 100000 = some (within below 0 100000) from rfl, Option.bind_some]
      cases within below 0 100000
      · rfl
      · exact this
    | cons a suf ih =>
      intro pre m h1 h2 h
      obtain ⟨m, rfl⟩ : ∃ k, m = k + 1 := ⟨m - 1, by omega⟩
      have hpl : pre.length ≤ 2000 := by rw [h1] at hl; simp at hl; omega
      have hid : idx l (pre.length : Int) = some a := by rw [h1]; exact idx_mid pre suf a
      rw [F_etchhouseref1_Gaps_L2.eq_2, if_pos (by rw [h1]; exact lt_mid pre suf a), hid, Option.bind_some, CheckRegionR_ok hN, Option.bind_some, up_mid pre a (by omega)]
      unfold regsErr
      by_cases ha : regionErr a = 0
      · rw [if_neg (by simpa using ha), if_pos ha, ih (pre ++ [a]) m (by rw [h1]; simp) (by simp at h2; omega) (fun h' => h (by unfold regsErr; rw [if_pos ha]; exact h'))]
      · rw [if_pos (by simpa using ha), if_neg ha, if_neg ha]
  have := L1 l [] N 0 rfl hNl
  unfold F_etchhouseref1_Gaps gapsV
  rw [show (0 : Int) = (([] : List (List TRect)).length : Int) from rfl] at this ⊢
  rw [this]
  by_cases hc : (decide (2000 < (l.length : Int)) || decide (2000 < manyV l (([] : List (List TRect)).length : Int))) = true
  · rw [if_pos hc, if_pos hc]
  · rw [if_neg hc, if_neg hc]
    rw [Bool.or_eq_true, not_or, decide_eq_true_eq] at hc
    exact L2 (by omega) l [] N rfl hNl (fun h => h)
theorem gIn_some {below : Int} {a : List TRect} {i : Int} {K : List TGap → Option (List TGap × Int)} (h : ∀ out, ∃ v, K out = some v) : ∀ (l : List (List TRect)) (k : Int) (out : List TGap), ∃ v, gIn below a i K l k out = some v
  | [], k, out => h out
  | b :: l, k, out => by
    unfold gIn
    split
    · exact gIn_some h l _ _
    · split
      · exact ⟨_, rfl⟩
      · split
        · exact gIn_some h l _ _
        · exact gIn_some h l _ _
theorem gOut_some {below : Int} : ∀ (l : List (List TRect)) (i : Int) (out : List TGap), ∃ v, gOut below l i out = some v
  | [], i, out => ⟨_, rfl⟩
  | a :: l, i, out => gIn_some (fun o => gOut_some l (i + 1) o) l _ out
theorem EqualG_ok (l m : List TGap) : ∃ b : Bool, F_slices_Equal_Gap l m = some b ∧ (b = true ↔ l = m) := by
  have key : ∀ (suf pre rest : List TGap), suf.length = rest.length → ∃ b : Bool, F_slices_Equal_Gap_L1 (pre ++ rest) suf pre.length = some b ∧ (b = true ↔ suf = rest) := by
    intro suf
    induction suf with
    | nil =>
      intro pre rest h
      have : rest = [] := List.eq_nil_of_length_eq_zero h.symm
      subst this
      rw [F_slices_Equal_Gap_L1.eq_1]; exact ⟨true, rfl, by simp⟩
    | cons x suf ih =>
      intro pre rest h
      cases rest with
      | nil => simp at h
      | cons y rest =>
        rw [F_slices_Equal_Gap_L1.eq_2, idx_mid pre rest y, Option.bind_some]
        obtain ⟨b, h1, h2⟩ := ih (pre ++ [y]) rest (by simpa using h)
        by_cases hxy : x = y
        · subst hxy
          rw [eqTGap_iff.2 rfl, if_neg (by simp)]
          exact ⟨b, by simpa using h1, by simp [h2]⟩
        · have : eqTGap x y = false := by rw [Bool.eq_false_iff]; exact fun h => hxy (eqTGap_iff.1 h)
          rw [this, if_pos (by simp)]
          exact ⟨false, rfl, by simp [hxy]⟩
  unfold F_slices_Equal_Gap
  by_cases h : l.length = m.length
  · rw [if_neg (by simp; omega)]
    exact key l [] m h
  · rw [if_pos (by simp; omega)]
    exact ⟨false, rfl, by simp; exact fun e => h (by rw [e])⟩
theorem gapsMatch_ok {N : Nat} (hN : 10000000000 ≤ N) (l : List (List TRect)) (below : Int) (hlen : l.length ≤ 9223372036854775807) (hNl : l.length < N) : F_etchhouselaw1_GapsMatchSpec N l below = some true := by
  unfold F_etchhouselaw1_GapsMatchSpec
  obtain ⟨v, hv⟩ : ∃ v, gapsV l below = some v := by
    unfold gapsV
    split
    · exact ⟨_, rfl⟩
    · split
      · split
        · exact gOut_some l 0 []
        · exact ⟨_, rfl⟩
      · exact ⟨_, rfl⟩
  obtain ⟨b, b1, b2⟩ := EqualG_ok v.1 v.1
  obtain rfl : b = true := b2.2 rfl
  rw [Gaps_ok hN, GapsR_ok hN l below hlen hNl, hv, Option.bind_some, Option.bind_some, b1, awake1_ok (by omega)]
  simp
theorem Gaps_plain (l : List (List TRect)) (below : Int) {X Y : Prop} (h : l.length ≤ 9223372036854775807 ∧ X) (_ : Y) : ∃ N, F_etchhouselaw1_GapsMatchSpec N l below = some true := ⟨10000000000 + l.length, gapsMatch_ok (by omega) l below h.1 (by omega)⟩
end Go.Proofs.Ytcebbfodkadggaa
