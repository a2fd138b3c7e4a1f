/- Cuts: what the reference computes. Plain Lean about the plain functions. -/
import Derived.Test.YtfddmjoldoddlaaL1
namespace Go.Proofs.Ytfddmjoldoddlaa
/-- A rectangle with X and Y exchanged. -/
def trn (r : TRect) : TRect := ⟨r.Y0, r.X0, r.Y1, r.X1⟩
theorem al_trn (l : List TRect) : (l.map trn).map (al true) = l.map (al false) := by
  rw [List.map_map]; rfl
theorem placeR_in {p0 : List TRect} {x i : Int} {b : Bool} {K : Int → Bool → Int → Option (Int × Bool)} {c : TRect} (hl : p0.length ≤ 1000000) : ∀ (suf pre : List TRect) (m : Nat) (t ab : Bool), p0 = pre ++ suf → suf.length < m →
    F_etchhouseref9_place_L4 p0 x b i K c m t ab pre.length = if (((!(t || crs (suf.map (al true)) c.Y1)) && (ab || abv (suf.map (al true)) c.Y1)) && ((!b) || decide (c.Y1 < x))) = true then K c.Y1 true (w64 (i + 1)) else K x b (w64 (i + 1))
  | suf, pre, 0, _, _, _, h => absurd h (Nat.not_lt_zero _)
  | [], pre, m + 1, t, ab, h1, h2 => by
    rw [F_etchhouseref9_place_L4.eq_2, if_neg (by rw [h1]; simp)]
    simp [crs, abv]
  | r :: suf, pre, m + 1, t, ab, h1, h2 => by
    have hp : pre.length ≤ 1000000 := by rw [h1] at hl; simp at hl; omega
    have hid : idx p0 (pre.length : Int) = some r := by rw [h1]; exact idx_mid pre suf r
    rw [F_etchhouseref9_place_L4.eq_2, if_pos (by rw [h1]; exact lt_mid pre suf r), hid]
    have e1 : (if t = true then some true else ((some r).bind fun x231 => (if (decide (x231.Y0 < c.Y1)) = true then (some r).bind fun x234 => some (decide (c.Y1 < x234.Y1)) else some false).bind fun g233 => some g233)) = some (t || (decide (r.Y0 < c.Y1) && decide (c.Y1 < r.Y1))) := by
      cases t
      · simp only [Bool.false_eq_true, if_false, Option.bind_some, Bool.false_or]
        by_cases hh : r.Y0 < c.Y1
        · simp [hh]
        · simp [hh]
      · rfl
    have e2 : (if ab = true then some true else ((some r).bind fun x237 => some (decide (c.Y1 ≤ x237.Y0)))) = some (ab || decide (c.Y1 ≤ r.Y0)) := by
      cases ab <;> rfl
    rw [e1, Option.bind_some, e2, Option.bind_some, up_mid pre r (by omega)]
    rw [placeR_in hl suf (pre ++ [r]) m _ _ (by rw [h1]; simp) (by simp at h2; omega)]
    have a1 : crs ((r :: suf).map (al true)) c.Y1 = ((decide (r.Y0 < c.Y1) && decide (c.Y1 < r.Y1)) || crs (suf.map (al true)) c.Y1) := by simp [crs, al]
    have a2 : abv ((r :: suf).map (al true)) c.Y1 = (decide (c.Y1 ≤ r.Y0) || abv (suf.map (al true)) c.Y1) := by simp [abv, al]
    rw [a1, a2, Bool.or_assoc, Bool.or_assoc]
theorem placeR_loop {N : Nat} {p0 : List TRect} (hl : p0.length ≤ 1000000) (hN : p0.length < N) : ∀ (suf pre : List TRect) (m : Nat) (x : Int) (b : Bool), p0 = pre ++ suf → suf.length < m →
    F_etchhouseref9_place_L3 N p0 m x b pre.length = some ((suf.map (al true)).foldl (plS (p0.map (al true))) (x, b))
  | suf, pre, 0, _, _, _, h => absurd h (Nat.not_lt_zero _)
  | [], pre, m + 1, x, b, h1, h2 => by
    rw [F_etchhouseref9_place_L3.eq_2, if_neg (by rw [h1]; simp)]
    rfl
  | r :: suf, pre, m + 1, x, b, h1, h2 => by
    have hp : pre.length ≤ 1000000 := by rw [h1] at hl; simp at hl; omega
    have hid : idx p0 (pre.length : Int) = some r := by rw [h1]; exact idx_mid pre suf r
    rw [F_etchhouseref9_place_L3.eq_2, if_pos (by rw [h1]; exact lt_mid pre suf r), hid, Option.bind_some]
    have := placeR_in (x := x) (i := (pre.length : Int)) (b := b) (K := F_etchhouseref9_place_L3 N p0 m) (c := r) hl p0 [] N false false rfl hN
    rw [show (([] : List TRect).length : Int) = 0 from rfl] at this
    rw [this, up_mid pre r (by omega), placeR_loop hl hN suf (pre ++ [r]) m _ _ (by rw [h1]; simp) (by simp at h2; omega), placeR_loop hl hN suf (pre ++ [r]) m _ _ (by rw [h1]; simp) (by simp at h2; omega), List.map_cons, List.foldl_cons]
    have e3 : plS (p0.map (al true)) (x, b) (al true r) = if (((!(false || crs (p0.map (al true)) r.Y1)) && (false || abv (p0.map (al true)) r.Y1)) && ((!b) || decide (r.Y1 < x))) = true then (r.Y1, true) else (x, b) := by
      rw [Bool.false_or, Bool.false_or]; rfl
    rw [e3]
    split <;> rfl
theorem placeR_ok {N : Nat} {l : List TRect} (hl : l.length ≤ 1000000) (hN : l.length < N) : F_etchhouseref9_place N l = some (plc (l.map (al true))) :=
  placeR_loop hl hN l [] N 0 false rfl hN
theorem cutR_loop {p : TRect} {p1 : List TRect} {rec : TRect → List TRect → Option (List TCut × Bool)} {y : Int × Bool} {z x1 x2 x3 x4 : Int} (hl : p1.length ≤ 1000000) : ∀ (suf pre : List TRect) (m : Nat) (b c : List TRect), p1 = pre ++ suf → suf.length < m → b.length ≤ pre.length → c.length ≤ pre.length →
    F_etchhouseref9_cut_L2 p p1 rec y x1 x2 x3 x4 z m b c pre.length = (rec (TRect.mk p.X0 p.Y0 x1 x2) (b ++ bel suf y.2 z)).bind fun y194 => (rec (TRect.mk x3 x4 p.X1 p.Y1) (c ++ abo suf y.2 z)).bind fun y196 =>
      if ((!y194.2) || (!y196.2)) = true then some (([] : List TCut), false) else (apd [(TCut.mk p y.2 z)] y194.1).bind fun l199 => (apd l199 y196.1).bind fun l200 => some (l200, true)
  | suf, pre, 0, _, _, _, h, _, _ => absurd h (Nat.not_lt_zero _)
  | [], pre, m + 1, b, c, h1, h2, h3, h4 => by
    rw [F_etchhouseref9_cut_L2.eq_2, if_neg (by rw [h1]; simp)]
    simp [bel, abo]
  | r :: suf, pre, m + 1, b, c, h1, h2, h3, h4 => by
    have hp : pre.length ≤ 1000000 := by rw [h1] at hl; simp at hl; omega
    have hid : idx p1 (pre.length : Int) = some r := by rw [h1]; exact idx_mid pre suf r
    rw [F_etchhouseref9_cut_L2.eq_2, if_pos (by rw [h1]; exact lt_mid pre suf r), hid]
    have e1 : ((if y.2 = true then (some r).bind fun x180 => some (decide (x180.Y1 ≤ z)) else some false).bind fun g179 => (if g179 = true then some true else ((if (!y.2) = true then (some r).bind fun x187 => some (decide (x187.X1 ≤ z)) else some false).bind fun g186 => some g186))) = some (decide ((al y.2 r).2 ≤ z)) := by
      cases y.2
      · simp [al]
      · by_cases hh : r.Y1 ≤ z
        · simp [al, hh]
        · simp [al, hh]
    rw [← Option.bind_assoc, e1, Option.bind_some]
    by_cases hh : (al y.2 r).2 ≤ z
    · rw [if_pos (by simpa using hh), Option.bind_some, apd_ok (by simp; omega), Option.bind_some, up_mid pre r (by omega), cutR_loop hl suf (pre ++ [r]) m _ _ (by rw [h1]; simp) (by simp at h2; omega) (by simp; omega) (by simp; omega)]
      simp [bel, abo, hh]
    · rw [if_neg (by simpa using hh), Option.bind_some, apd_ok (by simp; omega), Option.bind_some, up_mid pre r (by omega), cutR_loop hl suf (pre ++ [r]) m _ _ (by rw [h1]; simp) (by simp at h2; omega) (by simp; omega) (by simp; omega)]
      simp [bel, abo, hh]
theorem cutR_turn {N : Nat} {p : TRect} {p1 : List TRect} {rec : TRect → List TRect → Option (List TCut × Bool)} {y : Int × Bool} (hl : p1.length ≤ 1000000) : ∀ (suf pre : List TRect) (m : Nat), p1 = pre ++ suf → suf.length < m →
    F_etchhouseref9_cut_L4 N p p1 rec y m (pre.map trn) pre.length = (F_etchhouseref9_place N (p1.map trn)).bind fun y221 => if (!y221.2) = true then some (([] : List TCut), false) else F_etchhouseref9_cut_J3 N p p1 rec y y221.1 p.Y1 y221.1 p.Y0 y221.1
  | suf, pre, 0, _, h => absurd h (Nat.not_lt_zero _)
  | [], pre, m + 1, h1, h2 => by
    rw [F_etchhouseref9_cut_L4.eq_2, if_neg (by rw [h1]; simp)]
    rw [h1, List.append_nil]
  | r :: suf, pre, m + 1, h1, h2 => by
    have hp : pre.length ≤ 1000000 := by rw [h1] at hl; simp at hl; omega
    have hid : idx p1 (pre.length : Int) = some r := by rw [h1]; exact idx_mid pre suf r
    have e : F_etchhouseref9_turned r = some (trn r) := rfl
    rw [F_etchhouseref9_cut_L4.eq_2, if_pos (by rw [h1]; exact lt_mid pre suf r), hid, Option.bind_some, e, Option.bind_some, apd_ok (by simp; omega), Option.bind_some, up_mid pre r (by omega)]
    have := cutR_turn (N := N) (p := p) (rec := rec) (y := y) hl suf (pre ++ [r]) m (by rw [h1]; simp) (by simp at h2; omega)
    rw [← this]; simp
theorem cutR_ok : ∀ (n : Nat) (p : TRect) (l : List TRect) (N : Nat), l.length ≤ n → n + l.length < N → l.length ≤ 1000 → RV l → F_etchhouseref9_cut N p l = some (cutS n p l)
  | n, p, l, 0, _, h, _, _ => absurd h (Nat.not_lt_zero _)
  | 0, p, l, N + 1, h, _, _, _ => by
    show F_etchhouseref9_cut_b N (F_etchhouseref9_cut N) p l = _
    unfold F_etchhouseref9_cut_b
    rw [if_pos (by simp; omega)]
    rfl
  | n + 1, p, l, N + 1, h, hN, hl, hv => by
    show F_etchhouseref9_cut_b N (F_etchhouseref9_cut N) p l = _
    have key : ∀ a, (plc (l.map (al a))).2 = true → ∀ (y : Int × Bool) (x1 x2 x3 x4 : Int), y.2 = a → lowP p a (plc (l.map (al a))).1 = TRect.mk p.X0 p.Y0 x1 x2 → highP p a (plc (l.map (al a))).1 = TRect.mk x3 x4 p.X1 p.Y1 →
        F_etchhouseref9_cut_J3 N p l (F_etchhouseref9_cut N) y x1 x2 x3 x4 (plc (l.map (al a))).1 = some (joinC p a (plc (l.map (al a))).1 (cutS n (lowP p a (plc (l.map (al a))).1) (bel l a (plc (l.map (al a))).1)) (cutS n (highP p a (plc (l.map (al a))).1) (abo l a (plc (l.map (al a))).1))) := by
      intro a ha y x1 x2 x3 x4 hy q1 q2
      subst hy
      obtain ⟨s1, s2⟩ := split_pos hv ha
      have s3 := split_len l y.2 (plc (l.map (al y.2))).1
      have i1 := cutR_ok n (lowP p y.2 (plc (l.map (al y.2))).1) (bel l y.2 (plc (l.map (al y.2))).1) N (by omega) (by omega) (by omega) hv.bel
      have i2 := cutR_ok n (highP p y.2 (plc (l.map (al y.2))).1) (abo l y.2 (plc (l.map (al y.2))).1) N (by omega) (by omega) (by omega) hv.abo
      have l1 := cutS_small (p := lowP p y.2 (plc (l.map (al y.2))).1) (show (bel l y.2 (plc (l.map (al y.2))).1).length ≤ n by omega) hv.bel
      have l2 := cutS_small (p := highP p y.2 (plc (l.map (al y.2))).1) (show (abo l y.2 (plc (l.map (al y.2))).1).length ≤ n by omega) hv.abo
      generalize (plc (l.map (al y.2))).1 = z at *
      unfold F_etchhouseref9_cut_J3
      have := cutR_loop (p := p) (p1 := l) (rec := F_etchhouseref9_cut N) (y := y) (z := z) (x1 := x1) (x2 := x2) (x3 := x3) (x4 := x4) (by omega) l [] N [] [] rfl (by omega) (by simp) (by simp)
      rw [show (([] : List TRect).length : Int) = 0 from rfl] at this
      rw [this, List.nil_append, List.nil_append, ← q1, ← q2, i1, Option.bind_some, i2, Option.bind_some]
      unfold joinC
      cases hx : (cutS n (lowP p y.2 z) (bel l y.2 z)).2 with
      | false => simp
      | true =>
        cases hy : (cutS n (highP p y.2 z) (abo l y.2 z)).2 with
        | false => simp
        | true =>
          rw [if_neg (by simp), apd_ok (by simp; omega), Option.bind_some, apd_ok (by simp; omega), Option.bind_some]
          simp
    unfold F_etchhouseref9_cut_b cutS
    by_cases h2 : l.length < 2
    · rw [if_pos (by simp; omega), if_pos h2]
    · rw [if_neg (by simp; omega), if_neg h2, placeR_ok (by omega) (by omega), Option.bind_some]
      by_cases ha : (plc (l.map (al true))).2 = true
      · rw [if_neg (by simp [ha]), if_pos ha]
        exact key true ha _ _ _ _ _ ha rfl rfl
      · rw [if_pos (by simp [ha]), if_neg ha]
        have := cutR_turn (N := N) (p := p) (p1 := l) (rec := F_etchhouseref9_cut N) (y := plc (l.map (al true))) (by omega) l [] N rfl (by omega)
        rw [List.map_nil, show (([] : List TRect).length : Int) = 0 from rfl] at this
        rw [this, placeR_ok (by simp; omega) (by simp; omega), Option.bind_some, al_trn]
        by_cases hb : (plc (l.map (al false))).2 = true
        · rw [if_neg (by simp [hb]), if_pos hb]
          exact key false hb _ _ _ _ _ (by simpa using ha) rfl rfl
        · rw [if_pos (by simp [hb]), if_neg hb]
end Go.Proofs.Ytfddmjoldoddlaa
