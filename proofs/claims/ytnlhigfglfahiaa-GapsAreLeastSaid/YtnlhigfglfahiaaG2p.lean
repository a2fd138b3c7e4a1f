/- Gaps of regions: the program. Plain Lean about the plain functions. -/
import Derived.Test.YtnlhigfglfahiaaG1p
namespace Go.Proofs.Ytnlhigfglfahiaa
/-- The gaps behind one region. -/
def gIn (below : Int) (a : List TRect) (i : Int) (K : List TGap → Option (List TGap × Int)) : List (List TRect) → Int → List TGap → Option (List TGap × Int)
  | [], _, out => K out
  | b :: l, k, out => if a = [] ∨ b = [] then gIn below a i K l (k + 1) out else if least a b = 0 then some ([], 12) else if least a b - 1 < below then gIn below a i K l (k + 1) (out ++ [⟨i, k, (gapV a b).Distance, (gapV a b).From, (gapV a b).To⟩]) else gIn below a i K l (k + 1) out
def gOut (below : Int) : List (List TRect) → Int → List TGap → Option (List TGap × Int)
  | [], _, out => some (out, 0)
  | a :: l, i, out => gIn below a i (gOut below l (i + 1)) l (i + 1) out
theorem gIn_congr {below : Int} {a : List TRect} {i : Int} {K K' : List TGap → Option (List TGap × Int)} {B : Nat} (h : ∀ out, out.length ≤ B → K out = K' out) : ∀ (l : List (List TRect)) (k : Int) (out : List TGap), out.length + l.length ≤ B → gIn below a i K l k out = gIn below a i K' l k out
  | [], k, out, hb => h out (by simpa using hb)
  | b :: l, k, out, hb => by
    simp only [List.length_cons] at hb
    unfold gIn
    rw [gIn_congr h l (k + 1) out (by omega), gIn_congr h l (k + 1) _ (by simp; omega)]
section
variable {N : Nat} (hN : 10000000000 ≤ N) {p0 : List (List TRect)} {below : Int} (hl : p0.length ≤ 2000) (hreg : ∀ a ∈ p0, regionErr a = 0)
include hN hl hreg
omit hN in
theorem L6p {K : List TGap → Option (List TGap × Int)} {a : List TRect} (ha : a ∈ p0) {i : Nat} : ∀ (suf pre : List (List TRect)) (m : Nat) (out : List TGap), p0 = pre ++ suf → suf.length < m → out.length + suf.length ≤ 4000000000 →
    F_shape_Gaps_L6 p0 below K a i m out pre.length = gIn below a i K suf pre.length out
  | suf, pre, 0, out, _, h, _ => absurd h (Nat.not_lt_zero _)
  | [], pre, m + 1, out, h1, h2, h3 => by rw [F_shape_Gaps_L6.eq_2, if_neg (by rw [h1]; simp)]; rfl
  | b :: suf, pre, m + 1, out, h1, h2, h3 => by
    have hpl : pre.length ≤ 2000 := by rw [h1] at hl; simp at hl; omega
    have hid : idx p0 (pre.length : Int) = some b := by rw [h1]; exact idx_mid pre suf b
    have hb : b ∈ p0 := by rw [h1]; simp
    obtain ⟨_, _, haok, _⟩ := regionErr_ok (hreg a ha)
    obtain ⟨_, _, hbok, _⟩ := regionErr_ok (hreg b hb)
    simp only [List.length_cons] at h2 h3
    have ih := fun out h => L6p (K := K) ha (i := i) suf (pre ++ [b]) m out (by rw [h1]; simp) (by omega) h
    have up : w64 ((pre.length : Int) + 1) = ((pre ++ [b]).length : Int) := up_mid pre b (by omega)
    have e1 : ((pre ++ [b]).length : Int) = (pre.length : Int) + 1 := by simp
    rw [F_shape_Gaps_L6.eq_2, if_pos (by rw [h1]; exact lt_mid pre suf b), hid, up]
    unfold gIn
    by_cases ha0 : a = []
    · rw [if_pos (by rw [ha0]; rfl), Option.bind_some, if_pos rfl, if_pos (.inl ha0), ih _ (by omega), e1]
    · rw [if_neg (by simp; exact ha0), Option.bind_some, Option.bind_some]
      by_cases hb0 : b = []
      · rw [if_pos (by rw [hb0]; rfl), if_pos (.inr hb0), ih _ (by omega), e1]
      · rw [if_neg (by simp; exact hb0), if_neg (by simp [ha0, hb0]), Option.bind_some, GapOf_ok ha0 hb0 haok hbok, Option.bind_some]
        have hd : (gapV a b).Distance = least a b - 1 := rfl
        have hn := least_lim ha0 hb0 (fun r hr => (haok r hr).r2) (fun r hr => (hbok r hr).r2)
        rw [hd]
        by_cases h0 : least a b = 0
        · rw [if_pos (by rw [h0]; rfl), if_pos h0]
        · rw [if_neg (by simp; omega), if_neg h0]
          by_cases hbel : least a b - 1 < below
          · rw [if_pos (by simpa using hbel), if_pos hbel, apd_ok (by simp; omega), Option.bind_some, ih _ (by simp; omega), e1]
          · rw [if_neg (by simpa using hbel), if_neg hbel, ih _ (by omega), e1]
theorem L5p : ∀ (suf pre : List (List TRect)) (out : List TGap), p0 = pre ++ suf → out.length ≤ 2000 * pre.length → F_shape_Gaps_L5 N p0 below suf pre.length out = gOut below suf pre.length out
  | [], pre, out, _, _ => rfl
  | a :: suf, pre, out, h1, h2 => by
    have hpl : pre.length + 1 + suf.length ≤ 2000 := by rw [h1] at hl; simp at hl; omega
    have e1 : ((pre ++ [a]).length : Int) = (pre.length : Int) + 1 := by simp
    have k1 := L6p hl hreg (below := below) (K := F_shape_Gaps_L5 N p0 below suf (pre.length + 1)) (a := a) (by rw [h1]; simp) (i := pre.length) suf (pre ++ [a]) N out (by rw [h1]; simp) (by omega) (by omega)
    rw [F_shape_Gaps_L5.eq_2, up_mid pre a (by omega), k1, e1]
    show _ = gIn below a pre.length (gOut below suf ((pre.length : Int) + 1)) suf ((pre.length : Int) + 1) out
    refine gIn_congr (B := 2000 * (pre.length + 1)) (fun out' hout => ?_) suf _ out (by omega)
    have := L5p suf (pre ++ [a]) out' (by rw [h1]; simp) (by simp; omega)
    rw [e1] at this
    rw [← this]; simp
end
def manyV : List (List TRect) → Int → Int
  | [], n => n
  | a :: l, n => manyV l (w64 (n + (a.length : Int)))
def regsErr : List (List TRect) → Int
  | [] => 0
  | a :: l => if regionErr a = 0 then regsErr l else regionErr a
theorem regsErr_ok : ∀ {l : List (List TRect)}, regsErr l = 0 → ∀ a ∈ l, regionErr a = 0
  | [], _, a, ha => by simp at ha
  | b :: l, h, a, ha => by
    unfold regsErr at h
    by_cases hb : regionErr b = 0
    · rw [if_pos hb] at h
      rcases List.mem_cons.1 ha with rfl | ha
      · exact hb
      · exact regsErr_ok h a ha
    · rw [if_neg hb] at h; exact absurd h hb
def gapsV (l : List (List TRect)) (below : Int) : Option (List TGap × Int) :=
  if (decide (2000 < (l.length : Int)) || decide (2000 < manyV l 0)) = true then some ([], 2) else if regsErr l = 0 then if within below 0 100000 = true then gOut below l 0 [] else some ([], 1) else some ([], regsErr l)
theorem Gaps_ok {N : Nat} (hN : 10000000000 ≤ N) (l : List (List TRect)) (below : Int) : F_shape_Gaps N l below = gapsV l below := by
  have L1 : ∀ (suf : List (List TRect)) (i : Nat) (n : Int), F_shape_Gaps_L1 N l below suf i n = if (decide (2000 < (l.length : Int)) || decide (2000 < manyV suf n)) = true then some ([], 2) else F_shape_Gaps_L2 N l below l 0 := by
    intro suf
    induction suf with
    | nil => intro i n; rfl
    | cons a suf ih => intro i n; rw [F_shape_Gaps_L1.eq_2, ih]; rfl
  have L2 : l.length ≤ 2000 → ∀ (suf : List (List TRect)) (i : Nat), (regsErr suf = 0 → regsErr l = 0) → F_shape_Gaps_L2 N l below suf i = if regsErr suf = 0 then if within below 0 100000 = true then gOut below l 0 [] else some ([], 1) else some ([], regsErr suf) := by
    intro hl suf
    induction suf with
    | nil =>
      intro i h
      have hreg := regsErr_ok (h rfl)
      have := L5p hN hl hreg (below := below) l [] [] rfl (by simp)
      rw [F_shape_Gaps_L2.eq_1, if_pos (show regsErr [] = 0 from rfl), show F_shape_within below 0 100000 = some (within below 0 100000) from rfl, Option.bind_some]
      cases within below 0 100000
      · rfl
      · exact this
    | cons a suf ih =>
      intro i h
      rw [F_shape_Gaps_L2.eq_2, CheckRegion_ok hN, Option.bind_some]
      unfold regsErr
      by_cases ha : regionErr a = 0
      · rw [if_neg (by simpa using ha), if_pos ha, ih (i + 1) (fun h' => h (by unfold regsErr; rw [if_pos ha]; exact h'))]
      · rw [if_pos (by simpa using ha), if_neg ha, if_neg ha]
  unfold F_shape_Gaps gapsV
  rw [L1]
  by_cases hc : (decide (2000 < (l.length : Int)) || decide (2000 < manyV l 0)) = true
  · rw [if_pos hc, if_pos hc]
  · rw [if_neg hc, if_neg hc]
    rw [Bool.or_eq_true, not_or, decide_eq_true_eq] at hc
    exact L2 (by omega) l 0 (fun h => h)
end Go.Proofs.Ytnlhigfglfahiaa
