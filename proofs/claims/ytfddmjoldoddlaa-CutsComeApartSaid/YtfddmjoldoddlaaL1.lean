/- Cuts: what the program computes. Plain Lean about the plain functions. -/
import Derived.Test.YtfddmjoldoddlaaA1
namespace Go.Proofs.Ytfddmjoldoddlaa
/-- The ends of a cell across a direction. -/
def al (a : Bool) (r : TRect) : Int × Int := if a then (r.Y0, r.Y1) else (r.X0, r.X1)
theorem along_ok (r : TRect) (a : Bool) : F_panel_along r a = some (al a r) := by cases a <;> rfl
/-- Some stretch goes across a place. -/
def crs (ps : List (Int × Int)) (z : Int) : Bool := ps.any fun d => decide (d.1 < z) && decide (z < d.2)
/-- Some stretch lies above a place. -/
def abv (ps : List (Int × Int)) (z : Int) : Bool := ps.any fun d => decide (z ≤ d.1)
/-- The first place at which stretches come apart. -/
def plS (ps : List (Int × Int)) (b : Int × Bool) (c : Int × Int) : Int × Bool := if (((!crs ps c.2) && abv ps c.2) && ((!b.2) || decide (c.2 < b.1))) then (c.2, true) else b
def plc (ps : List (Int × Int)) : Int × Bool := ps.foldl (plS ps) (0, false)
theorem idxP (a : Bool) (z : Int) : ∀ (l : List TRect) (i : Nat) (acc : Bool), ∃ k acc', F_slices_IndexFunc_Rect__place_1_L1 a z l i acc = some (k, acc') ∧
    ((crs (l.map (al a)) z = true ∧ 0 ≤ k) ∨ (crs (l.map (al a)) z = false ∧ k = -1 ∧ acc' = (acc || abv (l.map (al a)) z)))
  | [], i, acc => ⟨-1, acc, rfl, .inr ⟨rfl, rfl, by simp [abv]⟩⟩
  | x :: l, i, acc => by
    have e : F_panel_place_1 x a acc z = some ((decide ((al a x).1 < z) && decide (z < (al a x).2)), (acc || decide (z ≤ (al a x).1))) := by
      unfold F_panel_place_1
      rw [along_ok, Option.bind_some]
    rw [F_slices_IndexFunc_Rect__place_1_L1.eq_2, e, Option.bind_some]
    cases hc : (decide ((al a x).1 < z) && decide (z < (al a x).2)) with
    | true =>
      rw [if_pos rfl]
      exact ⟨_, _, rfl, .inl ⟨by simp only [List.map_cons, crs, List.any_cons, hc, Bool.true_or], Int.natCast_nonneg _⟩⟩
    | false =>
      rw [if_neg (by simp)]
      obtain ⟨k, acc', h1, h2⟩ := idxP a z l (i + 1) (acc || decide (z ≤ (al a x).1))
      refine ⟨k, acc', h1, ?_⟩
      simp only [crs, abv] at h2
      simp only [List.map_cons, crs, abv, List.any_cons, hc, Bool.false_or]
      rcases h2 with h2 | ⟨h2, h3, h4⟩
      · exact .inl h2
      · exact .inr ⟨h2, h3, by rw [h4, Bool.or_assoc]⟩
theorem place_loop (p0 : List TRect) (a : Bool) : ∀ (suf : List TRect) (i : Nat) (x : Int) (b : Bool), F_panel_place_L1 p0 a suf i x b = some ((suf.map (al a)).foldl (plS (p0.map (al a))) (x, b))
  | [], i, x, b => rfl
  | c :: suf, i, x, b => by
    obtain ⟨k, acc', h1, h2⟩ := idxP a (al a c).2 p0 0 false
    have e : F_slices_ContainsFunc_Rect__place_1 p0 a false (al a c).2 = some (decide (0 ≤ k), acc') := by
      unfold F_slices_ContainsFunc_Rect__place_1 F_slices_IndexFunc_Rect__place_1
      rw [h1, Option.bind_some]
    rw [F_panel_place_L1.eq_2, along_ok, Option.bind_some, e, Option.bind_some, place_loop p0 a suf, place_loop p0 a suf, List.map_cons, List.foldl_cons]
    have e2 : (((!decide (0 ≤ k)) && acc')) = ((!crs (p0.map (al a)) (al a c).2) && abv (p0.map (al a)) (al a c).2) := by
      rcases h2 with ⟨g1, g2⟩ | ⟨g1, g2, g3⟩
      · simp [g1, g2]
      · subst g2; simp [g1, g3]
    have e3 : plS (p0.map (al a)) (x, b) (al a c) = if (((!decide (0 ≤ k)) && acc') && ((!b) || decide ((al a c).2 < x))) = true then ((al a c).2, true) else (x, b) := by
      rw [e2]; rfl
    rw [e3]
    split <;> rfl
theorem place_ok (l : List TRect) (a : Bool) : F_panel_place l a = some (plc (l.map (al a))) := by
  unfold F_panel_place plc
  exact place_loop l a l 0 0 false
theorem plc_spec {ps : List (Int × Int)} (h : (plc ps).2 = true) : crs ps (plc ps).1 = false ∧ abv ps (plc ps).1 = true ∧ ∃ c ∈ ps, c.2 = (plc ps).1 := by
  have key : ∀ (l : List (Int × Int)) (b : Int × Bool), (∀ c ∈ l, c ∈ ps) → (b.2 = true → crs ps b.1 = false ∧ abv ps b.1 = true ∧ ∃ c ∈ ps, c.2 = b.1) → (l.foldl (plS ps) b).2 = true → crs ps (l.foldl (plS ps) b).1 = false ∧ abv ps (l.foldl (plS ps) b).1 = true ∧ ∃ c ∈ ps, c.2 = (l.foldl (plS ps) b).1 := by
    intro l
    induction l with
    | nil => intro b _ h2 h3; exact h2 h3
    | cons c l ih =>
      intro b h1 h2
      refine ih _ (fun c' hc' => h1 c' (List.mem_cons_of_mem _ hc')) ?_
      intro hb
      unfold plS at hb ⊢
      split at hb
      · rename_i hh
        rw [if_pos hh]
        simp only [Bool.and_eq_true, Bool.not_eq_true'] at hh
        exact ⟨hh.1.1, hh.1.2, c, h1 c List.mem_cons_self, rfl⟩
      · rename_i hh
        rw [if_neg hh]
        exact h2 hb
  exact key ps (0, false) (fun _ h => h) (fun h => by cases h) h
def bel (l : List TRect) (a : Bool) (z : Int) : List TRect := l.filter fun c => decide ((al a c).2 ≤ z)
def abo (l : List TRect) (a : Bool) (z : Int) : List TRect := l.filter fun c => !decide ((al a c).2 ≤ z)
def lowP (p : TRect) (a : Bool) (z : Int) : TRect := if a then ⟨p.X0, p.Y0, p.X1, z⟩ else ⟨p.X0, p.Y0, z, p.Y1⟩
def highP (p : TRect) (a : Bool) (z : Int) : TRect := if a then ⟨p.X0, z, p.X1, p.Y1⟩ else ⟨z, p.Y0, p.X1, p.Y1⟩
def joinC (p : TRect) (a : Bool) (z : Int) (x y : List TCut × Bool) : List TCut × Bool := if (x.2 && y.2) = true then (TCut.mk p a z :: (x.1 ++ y.1), true) else ([], false)
/-- How a part with cells is cut. -/
def cutS : Nat → TRect → List TRect → List TCut × Bool
  | 0, _, _ => ([], true)
  | n + 1, p, l =>
    if l.length < 2 then ([], true)
    else if (plc (l.map (al true))).2 = true then joinC p true (plc (l.map (al true))).1 (cutS n (lowP p true (plc (l.map (al true))).1) (bel l true (plc (l.map (al true))).1)) (cutS n (highP p true (plc (l.map (al true))).1) (abo l true (plc (l.map (al true))).1))
    else if (plc (l.map (al false))).2 = true then joinC p false (plc (l.map (al false))).1 (cutS n (lowP p false (plc (l.map (al false))).1) (bel l false (plc (l.map (al false))).1)) (cutS n (highP p false (plc (l.map (al false))).1) (abo l false (plc (l.map (al false))).1))
    else ([], false)
/-- Cells that have a size. -/
def RV (l : List TRect) : Prop := ∀ r ∈ l, r.X0 < r.X1 ∧ r.Y0 < r.Y1
theorem RV.bel {l : List TRect} {a : Bool} {z : Int} (h : RV l) : RV (bel l a z) := fun r hr => h r (List.mem_filter.1 hr).1
theorem RV.abo {l : List TRect} {a : Bool} {z : Int} (h : RV l) : RV (abo l a z) := fun r hr => h r (List.mem_filter.1 hr).1
theorem split_len (l : List TRect) (a : Bool) (z : Int) : (bel l a z).length + (abo l a z).length = l.length := by
  unfold bel abo
  induction l with
  | nil => rfl
  | cons c l ih =>
    by_cases h : (al a c).2 ≤ z
    · simp [h]; omega
    · simp [h]; omega
theorem split_pos {l : List TRect} {a : Bool} (hv : RV l) (h : (plc (l.map (al a))).2 = true) : 0 < (bel l a (plc (l.map (al a))).1).length ∧ 0 < (abo l a (plc (l.map (al a))).1).length := by
  obtain ⟨_, h2, c, hc, h3⟩ := plc_spec h
  obtain ⟨r, hr, rfl⟩ := List.mem_map.1 hc
  refine ⟨List.length_pos_of_mem (a := r) (List.mem_filter.2 ⟨hr, by simp [h3]⟩), ?_⟩
  unfold abv at h2
  obtain ⟨d, hd, h4⟩ := List.any_eq_true.1 h2
  obtain ⟨s, hs, rfl⟩ := List.mem_map.1 hd
  refine List.length_pos_of_mem (a := s) (List.mem_filter.2 ⟨hs, ?_⟩)
  have h4 := of_decide_eq_true h4
  have := hv s hs
  have h5 : (al a s).1 < (al a s).2 := by cases a; exact this.1; exact this.2
  simp only [Bool.not_eq_true', decide_eq_false_iff_not]
  omega
/-- Cuts are one fewer than the cells. -/
theorem cutS_len : ∀ (n : Nat) (p : TRect) (l : List TRect), l.length ≤ n → RV l → ((cutS n p l).2 = true ∧ (cutS n p l).1.length = l.length - 1) ∨ cutS n p l = ([], false)
  | 0, p, l, h, _ => .inl ⟨rfl, by show 0 = _; omega⟩
  | n + 1, p, l, h, hv => by
    have key : ∀ a, (plc (l.map (al a))).2 = true → ((joinC p a (plc (l.map (al a))).1 (cutS n (lowP p a (plc (l.map (al a))).1) (bel l a (plc (l.map (al a))).1)) (cutS n (highP p a (plc (l.map (al a))).1) (abo l a (plc (l.map (al a))).1))).2 = true ∧
        (joinC p a (plc (l.map (al a))).1 (cutS n (lowP p a (plc (l.map (al a))).1) (bel l a (plc (l.map (al a))).1)) (cutS n (highP p a (plc (l.map (al a))).1) (abo l a (plc (l.map (al a))).1))).1.length = l.length - 1) ∨
        joinC p a (plc (l.map (al a))).1 (cutS n (lowP p a (plc (l.map (al a))).1) (bel l a (plc (l.map (al a))).1)) (cutS n (highP p a (plc (l.map (al a))).1) (abo l a (plc (l.map (al a))).1)) = ([], false) := by
      intro a ha
      obtain ⟨s1, s2⟩ := split_pos hv ha
      have s3 := split_len l a (plc (l.map (al a))).1
      have i1 := cutS_len n (lowP p a (plc (l.map (al a))).1) (bel l a (plc (l.map (al a))).1) (by omega) hv.bel
      have i2 := cutS_len n (highP p a (plc (l.map (al a))).1) (abo l a (plc (l.map (al a))).1) (by omega) hv.abo
      unfold joinC
      rcases i1 with ⟨a1, a2⟩ | a1
      · rcases i2 with ⟨b1, b2⟩ | b1
        · refine .inl ?_
          rw [a1, b1]
          simp only [Bool.and_self, ↓reduceIte]
          exact ⟨trivial, by simp [a2, b2]; omega⟩
        · right; rw [b1]; simp
      · right; rw [a1]; simp
    unfold cutS
    split
    · exact .inl ⟨rfl, by show 0 = _; omega⟩
    · split
      · exact key true (by assumption)
      · split
        · exact key false (by assumption)
        · exact .inr rfl
theorem cutS_small {n : Nat} {p : TRect} {l : List TRect} (h : l.length ≤ n) (hv : RV l) : (cutS n p l).1.length ≤ l.length := by
  rcases cutS_len n p l h hv with ⟨_, h1⟩ | h1
  · omega
  · rw [h1]; exact Nat.zero_le _
theorem concat_ok {x : TCut} {a b : List TCut} (ha : a.length ≤ 1000000) (hb : b.length ≤ 1000000) : F_slices_Concat_Cut [[x], a, b] = some (x :: (a ++ b)) := by
  have e : ([x] : List TCut).length = 1 := rfl
  have g1 : (([x] : List TCut).length : Int) = 1 := rfl
  have w1 : w64 (0 + 1) = 1 := w64_id (by omega) (by omega)
  have w2 : w64 (1 + (a.length : Int)) = 1 + a.length := w64_id (by omega) (by omega)
  have w3 : w64 (1 + (a.length : Int) + (b.length : Int)) = 1 + a.length + b.length := w64_id (by omega) (by omega)
  unfold F_slices_Concat_Cut
  rw [F_slices_Concat_Cut_L1.eq_2, g1, w1, if_neg (by simp), F_slices_Concat_Cut_L1.eq_2, w2, if_neg (by simp; omega), F_slices_Concat_Cut_L1.eq_2, w3, if_neg (by simp; omega), F_slices_Concat_Cut_L1.eq_1]
  have g2 : (grN (1 + (a.length : Int) + (b.length : Int)) : Option (List TCut)) = some [] := if_pos ⟨by omega, by omega⟩
  rw [g2, Option.bind_some, F_slices_Concat_Cut_L2.eq_2, apd_ok (by simp), Option.bind_some, F_slices_Concat_Cut_L2.eq_2, apd_ok (by simp; omega), Option.bind_some, F_slices_Concat_Cut_L2.eq_2, apd_ok (by simp; omega), Option.bind_some, F_slices_Concat_Cut_L2.eq_1]
  simp
theorem cuts_loop {p : TRect} {rec : TRect → List TRect → Option (List TCut × Bool)} {a : Bool} {z x1 x2 x3 x4 : Int} : ∀ (suf : List TRect) (i : Nat) (b c : List TRect), b.length + suf.length ≤ 1000000 → c.length + suf.length ≤ 1000000 →
    F_panel_cuts_L1 p rec a z x1 x2 x3 x4 suf i b c = F_panel_cuts_L1 p rec a z x1 x2 x3 x4 [] 0 (b ++ bel suf a z) (c ++ abo suf a z)
  | [], i, b, c, _, _ => by simp [bel, abo, F_panel_cuts_L1]
  | r :: suf, i, b, c, h1, h2 => by
    simp only [List.length_cons] at h1 h2
    rw [F_panel_cuts_L1.eq_2, along_ok, Option.bind_some]
    by_cases hh : (al a r).2 ≤ z
    · rw [if_pos (by simpa using hh), apd_ok (by simp; omega), Option.bind_some, cuts_loop suf (i + 1) (b ++ [r]) c (by simp; omega) (by omega)]
      simp [bel, abo, hh]
    · rw [if_neg (by simpa using hh), apd_ok (by simp; omega), Option.bind_some, cuts_loop suf (i + 1) b (c ++ [r]) (by omega) (by simp; omega)]
      simp [bel, abo, hh]
theorem cuts_ok : ∀ (n : Nat) (p : TRect) (l : List TRect) (N : Nat), l.length ≤ n → n < N → l.length ≤ 1000 → RV l → F_panel_cuts N p l = some (cutS n p l)
  | n, p, l, 0, _, h, _, _ => absurd h (Nat.not_lt_zero _)
  | 0, p, l, N + 1, h, _, _, _ => by
    show F_panel_cuts_b N (F_panel_cuts N) p l = _
    unfold F_panel_cuts_b
    rw [if_pos (by simp; omega)]
    rfl
  | n + 1, p, l, N + 1, h, hN, hl, hv => by
    show F_panel_cuts_b N (F_panel_cuts N) p l = _
    have key : ∀ a, (plc (l.map (al a))).2 = true → F_panel_cuts_J3 p l (F_panel_cuts N) a (plc (l.map (al a))).1 = some (joinC p a (plc (l.map (al a))).1 (cutS n (lowP p a (plc (l.map (al a))).1) (bel l a (plc (l.map (al a))).1)) (cutS n (highP p a (plc (l.map (al a))).1) (abo l a (plc (l.map (al a))).1))) := by
      intro a ha
      obtain ⟨s1, s2⟩ := split_pos hv ha
      have s3 := split_len l a (plc (l.map (al a))).1
      have i1 := cuts_ok n (lowP p a (plc (l.map (al a))).1) (bel l a (plc (l.map (al a))).1) N (by omega) (by omega) (by omega) hv.bel
      have i2 := cuts_ok n (highP p a (plc (l.map (al a))).1) (abo l a (plc (l.map (al a))).1) N (by omega) (by omega) (by omega) hv.abo
      have l1 := cutS_small (p := lowP p a (plc (l.map (al a))).1) (show (bel l a (plc (l.map (al a))).1).length ≤ n by omega) hv.bel
      have l2 := cutS_small (p := highP p a (plc (l.map (al a))).1) (show (abo l a (plc (l.map (al a))).1).length ≤ n by omega) hv.abo
      generalize (plc (l.map (al a))).1 = z at *
      have e : F_panel_cuts_J3 p l (F_panel_cuts N) a z = (F_panel_cuts N (lowP p a z) (bel l a z)).bind fun y141 => if (!y141.2) = true then some (([] : List TCut), false) else (F_panel_cuts N (highP p a z) (abo l a z)).bind fun y143 => if (!y143.2) = true then some (([] : List TCut), false) else (F_slices_Concat_Cut ([[(TCut.mk p a z)], y141.1, y143.1])).bind fun y153 => some (y153, true) := by
        unfold F_panel_cuts_J3 F_panel_cuts_J2
        cases a
        · rw [if_neg (by simp), cuts_loop _ _ _ _ (by simp; omega) (by simp; omega), F_panel_cuts_L1.eq_1]; rfl
        · rw [if_pos rfl, cuts_loop _ _ _ _ (by simp; omega) (by simp; omega), F_panel_cuts_L1.eq_1]; rfl
      rw [e, i1, Option.bind_some]
      unfold joinC
      cases hx : (cutS n (lowP p a z) (bel l a z)).2 with
      | false => simp
      | true =>
        rw [if_neg (by simp), i2, Option.bind_some]
        cases hy : (cutS n (highP p a z) (abo l a z)).2 with
        | false => simp
        | true =>
          rw [if_neg (by simp), concat_ok (by omega) (by omega), Option.bind_some]
          simp
    unfold F_panel_cuts_b cutS
    by_cases h2 : l.length < 2
    · rw [if_pos (by simp; omega), if_pos h2]
    · rw [if_neg (by simp; omega), if_neg h2, place_ok, Option.bind_some]
      by_cases ha : (plc (l.map (al true))).2 = true
      · rw [if_neg (by simp [ha]), if_pos ha]
        exact key true ha
      · rw [if_pos (by simp [ha]), if_neg ha, place_ok, Option.bind_some]
        by_cases hb : (plc (l.map (al false))).2 = true
        · rw [if_neg (by simp [hb]), if_pos hb]
          exact key false hb
        · rw [if_pos (by simp [hb]), if_neg hb]
end Go.Proofs.Ytfddmjoldoddlaa
