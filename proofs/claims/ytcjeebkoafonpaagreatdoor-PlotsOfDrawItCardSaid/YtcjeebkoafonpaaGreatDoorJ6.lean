/- Closed rows of points: what they go around, by heights. Plain Lean. Conditions: none beyond each theorem's own. Two sets of bands, merged: the program's Merge. Plain Lean about the plain functions. Sets of squares: what grows, what shrinks; how many rectangles they can have. Plain Lean. Sets that are spread. Plain Lean about the plain functions. Regions: the least rectangle around squares. Plain Lean about the plain functions. Sets that fit. Plain Lean about the plain functions. Sets that are drawn: spread, added, taken away. Plain Lean about the plain functions. Conditions: none beyond each theorem's own. What a closed row goes around, as the program finds it. Plain Lean about the plain functions. Conditions: none beyond each theorem's own. Rows of corners and the borders they tell. Plain Lean about the plain functions. Conditions: none beyond each theorem's own. Images combined: what one drawing does. Plain Lean about the plain functions. Conditions: none beyond each theorem's own. The plot of a region, drawn. Plain Lean about the plain functions. Conditions: none beyond each theorem's own. Plots: a plot is the same as itself. Plain. Conditions: none beyond each theorem's own. The plot of a region has no error and no step without use. Plain Lean about the plain functions. Conditions: none beyond each theorem's own. -/
import Derived.Test.YtcjeebkoafonpaaGreatDoorJ4
import Derived.Test.YtcjeebkoafonpaaGreatDoorJ5
namespace Go.Proofs.YtcjeebkoafonpaaGreatDoor
/-! Numbers, two equal ones struck. -/
def stk (xs : List Int) (x : Int) : List Int := if xs.getLast? = some x then xs.dropLast else xs ++ [x]
def canc (l : List Int) : List Int := l.foldl stk []
def cle (x : Int) (l : List Int) : Nat := (l.filter fun z => decide (z ≤ x)).length
theorem cle_append (x : Int) (l m : List Int) : cle x (l ++ m) = cle x l + cle x m := by unfold cle; rw [List.filter_append, List.length_append]
theorem cle_one (x z : Int) : cle x [z] = if z ≤ x then 1 else 0 := by
  unfold cle
  by_cases h : z ≤ x <;> simp [h]
structure StkOk (xs done : List Int) : Prop where
  inc : xs.Pairwise fun a b => a < b
  par : ∀ x, cle x xs % 2 = cle x done % 2
  len : xs.length % 2 = done.length % 2
  sub : ∀ x ∈ xs, x ∈ done
theorem stk_ok {xs done : List Int} {x : Int} (h : StkOk xs done) (hx : ∀ z ∈ done, z ≤ x) : StkOk (stk xs x) (done ++ [x]) := by
  obtain ⟨h1, h2, h3, h4⟩ := h
  unfold stk
  by_cases hl : xs.getLast? = some x
  · rw [if_pos hl]
    obtain ⟨ys, rfl⟩ := List.getLast?_eq_some_iff.1 hl
    rw [List.dropLast_concat]
    rw [List.pairwise_append] at h1
    refine ⟨h1.1, fun z => ?_, ?_, fun z hz => List.mem_append_left _ (h4 z (List.mem_append_left _ hz))⟩
    · have := h2 z
      rw [cle_append] at this
      rw [cle_append]; omega
    · rw [List.length_append] at h3 ⊢
      simp only [List.length_singleton] at h3 ⊢
      omega
  · rw [if_neg hl]
    refine ⟨?_, fun z => ?_, ?_, fun z hz => ?_⟩
    · rw [List.pairwise_append]
      refine ⟨h1, by simp, fun a ha b hb => ?_⟩
      simp at hb; subst hb
      have hle := hx a (h4 a ha)
      rcases Int.lt_or_eq_of_le hle with h | h
      · exact h
      · subst h
        exfalso
        apply hl
        rcases List.eq_nil_or_concat xs with e | ⟨ys, y, e⟩
        · subst e; cases ha
        · rw [List.concat_eq_append] at e
          subst e
          have hy := hx y (h4 y (by simp))
          rw [List.pairwise_append] at h1
          rcases List.mem_append.1 ha with ha | ha
          · have := h1.2.2 a ha y (by simp)
            omega
          · simp at ha; subst ha; simp
    · have := h2 z
      rw [cle_append, cle_append]; omega
    · rw [List.length_append, List.length_append]
      simp only [List.length_singleton]; omega
    · rcases List.mem_append.1 hz with hz | hz
      · exact List.mem_append_left _ (h4 z hz)
      · exact List.mem_append_right _ hz
theorem canc_go : ∀ (suf done xs : List Int), StkOk xs done → (∀ z ∈ done, ∀ y ∈ suf, z ≤ y) → suf.Pairwise (fun a b => a ≤ b) → StkOk (suf.foldl stk xs) (done ++ suf)
  | [], done, xs, h, _, _ => by simpa using h
  | x :: l, done, xs, h, hd, hs => by
    obtain ⟨s1, s2⟩ := List.pairwise_cons.1 hs
    have := canc_go l (done ++ [x]) (stk xs x) (stk_ok h fun z hz => hd z hz x List.mem_cons_self) (fun z hz y hy => by
      rcases List.mem_append.1 hz with hz | hz
      · exact hd z hz y (List.mem_cons_of_mem _ hy)
      · simp at hz; subst hz; exact s1 y hy) s2
    rw [List.foldl_cons]
    simpa using this
theorem canc_ok {l : List Int} (hs : l.Pairwise fun a b => a ≤ b) : StkOk (canc l) l := by
  have := canc_go l [] [] ⟨.nil, fun _ => rfl, rfl, fun _ h => (by cases h)⟩ (fun _ h => by cases h) hs
  unfold canc
  simpa using this
/-! In pairs. -/
def prs : List Int → List (Int × Int)
  | a :: b :: l => (a, b) :: prs l
  | _ => []
theorem prs_ok : ∀ {xs : List Int} {lo : Int}, xs.Pairwise (fun a b => a < b) → xs.length % 2 = 0 → (∀ x ∈ xs, lo < x) → flatS (prs xs) = xs ∧ Can lo (prs xs) ∧ ∀ x, InS x (prs xs) ↔ cle x xs % 2 = 1
  | [], lo, _, _, _ => ⟨rfl, trivial, fun x => ⟨fun h => absurd h InS_nil, fun h => by simp [cle] at h⟩⟩
  | [a], lo, _, h, _ => by simp at h
  | a :: b :: l, lo, hp, hl, hlo => by
    obtain ⟨p1, p2⟩ := List.pairwise_cons.1 hp
    obtain ⟨p3, p4⟩ := List.pairwise_cons.1 p2
    have hab := p1 b List.mem_cons_self
    obtain ⟨i1, i2, i3⟩ := prs_ok (xs := l) (lo := b) p4 (by simp at hl; omega) p3
    refine ⟨by rw [prs, flatS_cons, i1], ⟨hlo a List.mem_cons_self, hab, i2⟩, fun x => ?_⟩
    rw [prs, InS_cons, i3]
    have e : cle x (a :: b :: l) = (if a ≤ x then 1 else 0) + ((if b ≤ x then 1 else 0) + cle x l) := by
      rw [show a :: b :: l = [a] ++ ([b] ++ l) from rfl, cle_append, cle_append, cle_one, cle_one]
    rw [e]
    have h0 : x < b → cle x l = 0 := fun h => by
      unfold cle
      rw [List.length_eq_zero_iff, List.filter_eq_nil_iff]
      intro z hz
      have := p3 z hz
      simp; omega
    by_cases ha : a ≤ x <;> by_cases hb : b ≤ x <;> simp only [ha, hb, if_true, if_false, true_and, false_and, and_false, false_or, true_or, iff_true] <;> first | omega | (have := h0 (by omega); omega)
/-! The sides of a closed row. -/
def nxt (p0 : TPoint) : List TPoint → List (TPoint × TPoint)
  | [] => []
  | [x] => [(x, p0)]
  | x :: y :: r => (x, y) :: nxt p0 (y :: r)
def sidesP : List TPoint → List (TPoint × TPoint)
  | [] => []
  | x :: r => nxt x (x :: r)
/-- Sides along the axes. -/
def axS (l : List (TPoint × TPoint)) : Prop := ∀ s ∈ l, (s.1.X = s.2.X) ≠ (s.1.Y = s.2.Y)
def crossN (y : Int) (l : List (TPoint × TPoint)) : List (TPoint × TPoint) := l.filter fun s => decide (s.1.X = s.2.X) && (decide (min s.1.Y s.2.Y ≤ y) && decide (y < max s.1.Y s.2.Y))
theorem cross_iff {y : Int} {s : TPoint × TPoint} (h : s.1.X ≠ s.2.X → s.1.Y = s.2.Y) : (decide (s.1.X = s.2.X) && (decide (min s.1.Y s.2.Y ≤ y) && decide (y < max s.1.Y s.2.Y))) = (decide (s.1.Y ≤ y) != decide (s.2.Y ≤ y)) := by
  by_cases hx : s.1.X = s.2.X
  · rw [decide_eq_true hx, Bool.true_and, Bool.eq_iff_iff]
    simp only [Bool.and_eq_true, decide_eq_true_eq, bne_iff_ne, ne_eq, decide_eq_decide]
    omega
  · have hy := h hx
    rw [decide_eq_false hx, Bool.false_and, hy]; simp
theorem nxt_par (y : Int) (p0 : TPoint) : ∀ (r : List TPoint) (x : TPoint), axS (nxt p0 (x :: r)) → (crossN y (nxt p0 (x :: r))).length % 2 = (if (decide (x.Y ≤ y) != decide (p0.Y ≤ y)) then 1 else 0)
  | [], x, h => by
    have hs := h (x, p0) (by simp [nxt])
    have := cross_iff (y := y) (s := (x, p0)) (fun hx => by
      by_cases hy : x.Y = p0.Y
      · exact hy
      · exact absurd (propext ⟨fun h => absurd h hx, fun h => absurd h hy⟩) hs)
    unfold crossN
    rw [nxt, List.filter_cons, List.filter_nil, this]
    split <;> rfl
  | z :: r, x, h => by
    have hs := h (x, z) (by simp [nxt])
    have hc := cross_iff (y := y) (s := (x, z)) (fun hx => by
      by_cases hy : x.Y = z.Y
      · exact hy
      · exact absurd (propext ⟨fun h => absurd h hx, fun h => absurd h hy⟩) hs)
    have ih := nxt_par y p0 r z (fun s hs => h s (by rw [nxt]; exact List.mem_cons_of_mem _ hs))
    unfold crossN at ih ⊢
    rw [nxt, List.filter_cons, hc]
    simp only at hc ⊢
    cases h1 : decide (x.Y ≤ y) <;> cases h2 : decide (z.Y ≤ y) <;> cases h3 : decide (p0.Y ≤ y) <;> rw [h2, h3] at ih <;> simp at ih ⊢ <;> omega
/-- An even number of sides crosses a height. -/
theorem cross_even (y : Int) {l : List TPoint} (h : axS (sidesP l)) : (crossN y (sidesP l)).length % 2 = 0 := by
  cases l with
  | nil => rfl
  | cons x r =>
    have := nxt_par y x r x h
    rw [sidesP, this]; simp
/-! What the sides cross, by heights. -/
def xsAt (up : List TRect) (y : Int) : List Int := (up.filter fun s => decide (s.Y0 ≤ y) && decide (y < s.Y1)).map (·.X0)
def fA (up : List TRect) (y : Int) : List (Int × Int) := prs (canc (xsAt up y))
theorem low_all : ∀ (l : List Int), ∃ lo, ∀ x ∈ l, lo < x
  | [] => ⟨0, fun _ h => by cases h⟩
  | a :: l => by
    obtain ⟨lo, h⟩ := low_all l
    refine ⟨min lo (a - 1), fun x hx => ?_⟩
    rcases List.mem_cons.1 hx with rfl | hx
    · omega
    · have := h x hx; omega
theorem fA_ok {up : List TRect} (hs : up.Pairwise fun a b => a.X0 ≤ b.X0) (hev : ∀ y, (xsAt up y).length % 2 = 0) (y : Int) : flatS (fA up y) = canc (xsAt up y) ∧ (∃ lo, Can lo (fA up y)) ∧ (∀ x, InS x (fA up y) ↔ cle x (xsAt up y) % 2 = 1) ∧ ∀ z ∈ canc (xsAt up y), z ∈ xsAt up y := by
  have hp : (xsAt up y).Pairwise fun a b => a ≤ b := by
    unfold xsAt
    rw [List.pairwise_map]
    exact hs.filter _
  have hc := canc_ok hp
  obtain ⟨lo, hlo⟩ := low_all (canc (xsAt up y))
  obtain ⟨a1, a2, a3⟩ := prs_ok (lo := lo) hc.inc (by rw [hc.len, hev]) hlo
  exact ⟨a1, ⟨lo, a2⟩, fun x => by unfold fA; rw [a3, hc.par], hc.sub⟩
theorem xsAt_const {up : List TRect} {ys : List Int} (hm : ∀ s ∈ up, s.Y0 ∈ ys ∧ s.Y1 ∈ ys) {a y : Int} (hay : a ≤ y) (h : ∀ z ∈ ys, z ≤ a ∨ y < z) : xsAt up y = xsAt up a := by
  unfold xsAt
  congr 1
  apply List.filter_congr
  intro s hs
  obtain ⟨h1, h2⟩ := hm s hs
  have k1 := h _ h1
  have k2 := h _ h2
  rw [Bool.eq_iff_iff]
  simp only [Bool.and_eq_true, decide_eq_true_eq]
  omega
theorem fA_bands {up : List TRect} {ys : List Int} (hy : ys.Pairwise fun x y => x < y) (hs : up.Pairwise fun a b => a.X0 ≤ b.X0) (hev : ∀ y, (xsAt up y).length % 2 = 0) (hm : ∀ s ∈ up, s.Y0 ∈ ys ∧ s.Y1 ∈ ys) : BOk (bandsF (fA up) ys []) ∧ ∀ x y, InB x y (bandsF (fA up) ys []) ↔ cle x (xsAt up y) % 2 = 1 := by
  have hnil : ∀ y, (∀ s ∈ up, ¬ (s.Y0 ≤ y ∧ y < s.Y1)) → fA up y = [] := fun y h => by
    have : xsAt up y = [] := by
      unfold xsAt
      rw [List.map_eq_nil_iff, List.filter_eq_nil_iff]
      intro s hs
      have := h s hs
      simpa using this
    unfold fA; rw [this]; rfl
  obtain ⟨b1, b2⟩ := bandsF_row (f := fA up) hy (fun y => (fA_ok hs hev y).2.1) (fun a y hay h => by unfold fA; rw [xsAt_const hm hay h])
    (fun y h => hnil y fun s hs hh => by have := h _ (hm s hs).1; omega) (fun y h => hnil y fun s hs hh => by have := h _ (hm s hs).2; omega)
  refine ⟨b1, fun x y => ?_⟩
  unfold InB
  rw [b2, (fA_ok hs hev y).2.2.1]
end Go.Proofs.YtcjeebkoafonpaaGreatDoor
namespace Go.Proofs.YtcjeebkoafonpaaGreatDoor
/-- Bands that end behind a height. -/
def dropB (y : Int) : List Bd → List Bd
  | [] => []
  | b :: l => if b.2.1 ≤ y then dropB y l else b :: l
theorem dropB_sub (y : Int) : ∀ l : List Bd, ∀ b ∈ dropB y l, b ∈ l
  | [], b, h => h
  | c :: l, b, h => by
    unfold dropB at h
    split at h
    · exact List.mem_cons_of_mem _ (dropB_sub y l b h)
    · exact h
theorem dropB_len (y : Int) : ∀ l : List Bd, (dropB y l).length ≤ l.length
  | [] => by simp [dropB]
  | c :: l => by
    unfold dropB
    split
    · have := dropB_len y l; simp; omega
    · simp
theorem dropB_can (y : Int) : ∀ {l : List Bd} {lo : Int}, CanB lo l → ∃ lo, CanB lo (dropB y l)
  | [], lo, h => ⟨lo, h⟩
  | c :: l, lo, h => by
    unfold dropB
    split
    · exact dropB_can y h.2.2.2.2
    · exact ⟨lo, h⟩
theorem dropB_row {y z : Int} (hz : y ≤ z) : ∀ l : List Bd, rowAt (dropB y l) z = rowAt l z
  | [] => rfl
  | c :: l => by
    unfold dropB
    split
    · rw [dropB_row hz l]
      show _ = if c.1 ≤ z ∧ z < c.2.1 then c.2.2 else rowAt l z
      rw [if_neg (by omega)]
    · rfl
theorem dropB_head {y : Int} : ∀ {l : List Bd} {b : Bd}, (dropB y l).head? = some b → y < b.2.1
  | [], b, h => by simp [dropB] at h
  | c :: l, b, h => by
    unfold dropB at h
    split at h
    · exact dropB_head h
    · simp at h; subst h; omega
/-- What bands have at a height before which none of them ends; and where this changes next. -/
def rowH : List Bd → Int → List (Int × Int)
  | [], _ => []
  | b :: _, y => if y < b.1 then [] else b.2.2
def nextH (e : Int) : List Bd → Int → Int
  | [], _ => e
  | b :: _, y => if y < b.1 then min e b.1 else min e b.2.1
theorem at_ok (l : List Bd) (y e : Int) : F_shape_Set__at (l.map toP) y e = some (flatS (rowH l y), nextH e l y) := by
  unfold F_shape_Set__at
  cases l with
  | nil => rfl
  | cons b l =>
    rw [if_neg (by simp; omega), List.map_cons, show idx (toP b :: l.map toP) 0 = some (toP b) from rfl, Option.bind_some]
    simp only [rowH, nextH]
    by_cases h : y < b.1
    · rw [if_pos (decide_eq_true (show y < (toP b).Y0 from h)), if_pos h, if_pos h, Option.bind_some]; rfl
    · rw [if_neg (show ¬ decide (y < (toP b).Y0) = true from by rw [decide_eq_true_eq]; exact h), if_neg h, if_neg h, Option.bind_some, Option.bind_some]; rfl
theorem rowH_ok {l : List Bd} {lo y e : Int} (h : CanB lo l) (hh : ∀ b, l.head? = some b → y < b.2.1) (hy : y < e) : y < nextH e l y ∧ nextH e l y ≤ e ∧ (∀ z, y ≤ z → z < nextH e l y → rowAt l z = rowH l y) ∧ (nextH e l y = e ∨ ∃ b ∈ l, nextH e l y = b.1 ∨ nextH e l y = b.2.1) := by
  cases l with
  | nil => exact ⟨hy, Int.le_refl _, fun _ _ _ => rfl, .inl rfl⟩
  | cons b l =>
    have hb := hh b rfl
    simp only [rowH, nextH]
    by_cases h1 : y < b.1
    · rw [if_pos h1, if_pos h1]
      refine ⟨by omega, by omega, fun z k1 k2 => ?_, ?_⟩
      · show (if b.1 ≤ z ∧ z < b.2.1 then b.2.2 else rowAt l z) = []
        rw [if_neg (by omega)]
        exact rowAt_lo h.2.2.2.2 (by have := h.2.1; omega)
      · by_cases k : e ≤ b.1
        · exact .inl (by omega)
        · exact .inr ⟨b, by simp, .inl (by omega)⟩
    · rw [if_neg h1, if_neg h1]
      refine ⟨by omega, by omega, fun z k1 k2 => ?_, ?_⟩
      · show (if b.1 ≤ z ∧ z < b.2.1 then b.2.2 else rowAt l z) = b.2.2
        rw [if_pos (by omega)]
      · by_cases k : e ≤ b.2.1
        · exact .inl (by omega)
        · exact .inr ⟨b, by simp, .inr (by omega)⟩
section
variable {N : Nat} {f : Bool → Bool → Option Bool} {e : Int} {out : List TBand} {y : Int} {K : List TBand → List TBand → List TBand → Int → Option (List TBand)}
/-- What the merge does at a height. -/
def bodyM (N : Nat) (f : Bool → Bool → Option Bool) (e : Int) (out : List TBand) (y : Int) (K : List TBand → List TBand → List TBand → Int → Option (List TBand)) (a b : List Bd) : Option (List TBand) :=
  (F_shape_line N (flatS (rowH a y)) (flatS (rowH b y)) f).bind fun y344 =>
  (F_shape_Set__push out (TBand.mk y (min (nextH e a y) (nextH e b y)) y344)).bind fun y348 =>
  K (a.map toP) (b.map toP) y348 (min (nextH e a y) (nextH e b y))
theorem L11_ok (a : List Bd) : ∀ (b : List Bd) (m : Nat), b.length < m → F_shape_Merge_L11 N f e out y K (a.map toP) m (b.map toP) = bodyM N f e out y K a (dropB y b)
  | b, 0, h => absurd h (Nat.not_lt_zero _)
  | [], m + 1, h => by
    rw [F_shape_Merge_L11.eq_2, if_neg (by simp), Option.bind_some, if_neg (by simp), at_ok, Option.bind_some, at_ok, Option.bind_some]; rfl
  | c :: b, m + 1, h => by
    simp only [List.length_cons] at h
    rw [F_shape_Merge_L11.eq_2, if_pos (by simp), List.map_cons, show idx (toP c :: b.map toP) 0 = some (toP c) from rfl, Option.bind_some, Option.bind_some]
    unfold dropB
    by_cases hc : c.2.1 ≤ y
    · rw [if_pos (decide_eq_true (show (toP c).Y1 ≤ y from hc)), if_pos hc, cut_tail, Option.bind_some]
      exact L11_ok a b m (by omega)
    · rw [if_neg (show ¬ decide ((toP c).Y1 ≤ y) = true from by rw [decide_eq_true_eq]; exact hc), if_neg hc, ← List.map_cons, at_ok, Option.bind_some, at_ok, Option.bind_some]; rfl
theorem L10_ok {b : List Bd} (hb : b.length < N) : ∀ (a : List Bd) (m : Nat), a.length < m → F_shape_Merge_L10 N f e (b.map toP) out y K m (a.map toP) = bodyM N f e out y K (dropB y a) (dropB y b)
  | a, 0, h => absurd h (Nat.not_lt_zero _)
  | [], m + 1, h => by
    rw [F_shape_Merge_L10.eq_2, if_neg (by simp), Option.bind_some, if_neg (by simp)]
    exact L11_ok [] b N hb
  | c :: a, m + 1, h => by
    simp only [List.length_cons] at h
    rw [F_shape_Merge_L10.eq_2, if_pos (by simp), List.map_cons, show idx (toP c :: a.map toP) 0 = some (toP c) from rfl, Option.bind_some, Option.bind_some]
    have hd : dropB y (c :: a) = if c.2.1 ≤ y then dropB y a else c :: a := rfl
    rw [hd]
    by_cases hc : c.2.1 ≤ y
    · rw [if_pos (decide_eq_true (show (toP c).Y1 ≤ y from hc)), if_pos hc, cut_tail, Option.bind_some]
      exact L10_ok hb a m (by omega)
    · rw [if_neg (show ¬ decide ((toP c).Y1 ≤ y) = true from by rw [decide_eq_true_eq]; exact hc), if_neg hc, ← List.map_cons]
      exact L11_ok (c :: a) b N hb
end
/-- Heights behind one. -/
def aft (ev : List Int) (y : Int) : Nat := (ev.filter fun z => decide (y < z)).length
theorem aft_lt {y z : Int} (hyz : y < z) : ∀ {ev : List Int}, z ∈ ev → aft ev z < aft ev y := by
  have mono : ∀ ev : List Int, aft ev z ≤ aft ev y := by
    intro ev
    induction ev with
    | nil => simp [aft]
    | cons a ev ih =>
      unfold aft at *
      rw [List.filter_cons, List.filter_cons]
      by_cases h1 : z < a
      · rw [if_pos (by simpa using h1), if_pos (by simp; omega)]; simp; exact ih
      · rw [if_neg (by simpa using h1)]
        split
        · simp; omega
        · exact ih
  intro ev
  induction ev with
  | nil => intro h; simp at h
  | cons a ev ih =>
    intro h
    have hm := mono ev
    unfold aft at *
    rw [List.filter_cons, List.filter_cons]
    rcases List.mem_cons.1 h with rfl | h
    · rw [if_neg (by simp), if_pos (by simpa using hyz)]
      simp; omega
    · have := ih h
      by_cases h1 : z < a
      · rw [if_pos (by simpa using h1), if_pos (by simp; omega)]; simp; exact this
      · rw [if_neg (by simpa using h1)]
        split
        · simp; omega
        · exact this
theorem aft_len (ev : List Int) (y : Int) : aft ev y ≤ ev.length := List.length_filter_le _ _
/-- A square is kept, by whether it is in the one and in the other one. -/
def Kept (k : Bool → Bool → Bool) (A B : List Bd) (x y : Int) : Prop := ∃ p q, (p = true ↔ InB x y A) ∧ (q = true ↔ InB x y B) ∧ k p q = true
theorem merge_go {k : Bool → Bool → Bool} {f : Bool → Bool → Option Bool} (hf : ∀ a b, f a b = some (k a b)) (hk : k false false = false) {N : Nat} (hN : 10000000000 ≤ N) {A B : List Bd} {R1 R2 : Nat} (hrA : ∀ b ∈ A, (∃ lo, Can lo b.2.2) ∧ b.2.2.length ≤ R1) (hrB : ∀ b ∈ B, (∃ lo, Can lo b.2.2) ∧ b.2.2.length ≤ R2) (hR : R1 + R2 ≤ 500000000) (hAl : A.length ≤ 500000000) (hBl : B.length ≤ 500000000) {ev : List Int} {e lo : Int} (hev : e ∈ ev) (hevA : ∀ b ∈ A, b.1 ∈ ev ∧ b.2.1 ∈ ev) (hevB : ∀ b ∈ B, b.1 ∈ ev ∧ b.2.1 ∈ ev) :
    ∀ (m : Nat) (a b out : List Bd) (y : Int), (∃ lo, CanB lo a) → (∃ lo, CanB lo b) → (∀ c ∈ a, c ∈ A) → (∀ c ∈ b, c ∈ B) → a.length ≤ A.length → b.length ≤ B.length → (∀ z, y ≤ z → rowAt a z = rowAt A z) → (∀ z, y ≤ z → rowAt b z = rowAt B z) → CanB lo out → lo ≤ y → (∀ c ∈ out, c.2.1 ≤ y ∧ (∃ lo, Can lo c.2.2) ∧ c.2.2.length ≤ R1 + R2) → (∀ x z, InB x z out ↔ z < y ∧ Kept k A B x z) → aft ev y < m → out.length + aft ev y ≤ 900000000 → (∀ x z, e ≤ z → ¬ Kept k A B x z) →
    ∃ C, F_shape_Merge_L9 N f e m (a.map toP) (b.map toP) (out.map toP) y = some (C.map toP) ∧ BOk C ∧ (∀ x z, InB x z C ↔ Kept k A B x z) ∧ C.length ≤ out.length + aft ev y ∧ ∀ c ∈ C, c.2.2.length ≤ R1 + R2
  | 0, _, _, _, _, _, _, _, _, _, _, _, _, _, _, _, _, h, _, _ => absurd h (Nat.not_lt_zero _)
  | m + 1, a, b, out, y, ⟨la, ca⟩, ⟨lb, cb⟩, sa, sb, hal, hbl, ra, rb, co, hlo, ho, hin, hm, hl, hend => by
    by_cases hye : y < e
    · rw [F_shape_Merge_L9.eq_2, if_pos (by simpa using hye), L10_ok (by omega) a N (by omega)]
      obtain ⟨la', ca'⟩ := dropB_can y ca
      obtain ⟨lb', cb'⟩ := dropB_can y cb
      have sa' : ∀ c ∈ dropB y a, c ∈ A := fun c hc => sa c (dropB_sub y a c hc)
      have sb' : ∀ c ∈ dropB y b, c ∈ B := fun c hc => sb c (dropB_sub y b c hc)
      obtain ⟨na, na2, wa, va⟩ := rowH_ok (e := e) ca' (fun c hc => dropB_head hc) hye
      obtain ⟨nb, nb2, wb, vb⟩ := rowH_ok (e := e) cb' (fun c hc => dropB_head hc) hye
      have rowcan : ∀ {l : List Bd} {L : List Bd} {R : Nat}, (∀ b ∈ L, (∃ lo, Can lo b.2.2) ∧ b.2.2.length ≤ R) → (∀ c ∈ l, c ∈ L) → (∃ lo, Can lo (rowH l y)) ∧ (rowH l y).length ≤ R := fun {l L R} h1 h2 => by
        cases l with
        | nil => exact ⟨⟨0, trivial⟩, Nat.zero_le _⟩
        | cons c l =>
          simp only [rowH]
          split
          · exact ⟨⟨0, trivial⟩, Nat.zero_le _⟩
          · exact h1 c (h2 c (by simp))
      obtain ⟨ra1, ra2⟩ := rowcan hrA sa'
      obtain ⟨rb1, rb2⟩ := rowcan hrB sb'
      obtain ⟨C0, k1, k2, k3, k4⟩ := line_ok hf hk (N := N) ra1 rb1 (by omega) (by omega)
      unfold bodyM
      rw [k1, Option.bind_some]
      generalize hn : min (nextH e (dropB y a) y) (nextH e (dropB y b) y) = n
      have hyn : y < n := by omega
      have hne : n ≤ e := by omega
      have hnev : n ∈ ev := by
        have key : ∀ {l L : List Bd}, (∀ c ∈ l, c ∈ L) → (∀ b ∈ L, b.1 ∈ ev ∧ b.2.1 ∈ ev) → (nextH e l y = e ∨ ∃ b ∈ l, nextH e l y = b.1 ∨ nextH e l y = b.2.1) → nextH e l y ∈ ev := fun h1 h2 h3 => by
          rcases h3 with h | ⟨c, hc, h | h⟩
          · rw [h]; exact hev
          · rw [h]; exact (h2 c (h1 c hc)).1
          · rw [h]; exact (h2 c (h1 c hc)).2
        have e1 := key sa' hevA va
        have e2 := key sb' hevB vb
        rcases Int.le_total (nextH e (dropB y a) y) (nextH e (dropB y b) y) with h | h
        · rw [← hn, Int.min_eq_left h]; exact e1
        · rw [← hn, Int.min_eq_right h]; exact e2
      have haft := aft_lt hyn hnev
      have hp : F_shape_Set__push (out.map toP) (TBand.mk y n (flatS C0)) = some ((pushB out (y, n, C0)).map toP) := push_ok (l := out) (b := (y, n, C0)) (by omega) hyn
      rw [hp, Option.bind_some]
      obtain ⟨p1, p2, p3⟩ := co.push (b := (y, n, C0)) (fun c hc => (ho c hc).1) hlo hyn
      have hpl := pushB_len out (y, n, C0)
      have hkept : ∀ x z, y ≤ z → z < n → (InS x C0 ↔ Kept k A B x z) := fun x z z1 z2 => by
        rw [k4 x, ← wa z z1 (by omega), ← wb z z1 (by omega), dropB_row z1, dropB_row z1, ra z z1, rb z z1]
        exact Iff.rfl
      obtain ⟨C, i1, i2, i3, i4, i5⟩ := merge_go hf hk hN hrA hrB hR hAl hBl hev hevA hevB m (dropB y a) (dropB y b) (pushB out (y, n, C0)) n ⟨la', ca'⟩ ⟨lb', cb'⟩ sa' sb' (Nat.le_trans (dropB_len y a) hal) (Nat.le_trans (dropB_len y b) hbl) (fun z hz => by rw [dropB_row (by omega), ra z (by omega)]) (fun z hz => by rw [dropB_row (by omega), rb z (by omega)]) p1 (by omega) (fun c hc => by
        obtain ⟨q1, q2 | ⟨d, q2, q3⟩⟩ := p2 c hc
        · exact ⟨q1, by rw [q2]; exact k2, by rw [q2]; show C0.length ≤ _; omega⟩
        · exact ⟨q1, by rw [q3]; exact (ho d q2).2.1, by rw [q3]; exact (ho d q2).2.2⟩) (fun x z => by
        have h1 : InB x z (pushB out (y, n, C0)) ↔ InS x (if y ≤ z ∧ z < n then C0 else rowAt out z) := by
          unfold InB
          rw [p3 z]
        rw [h1]
        by_cases hz : y ≤ z ∧ z < n
        · rw [if_pos hz, hkept x z hz.1 hz.2]
          exact ⟨fun h => ⟨hz.2, h⟩, fun h => h.2⟩
        · rw [if_neg hz]
          refine (hin x z).trans ⟨fun h => ⟨by omega, h.2⟩, fun h => ⟨by omega, h.2⟩⟩) (by omega) (by omega) hend
      exact ⟨C, i1, i2, i3, by omega, i5⟩
    · rw [F_shape_Merge_L9.eq_2, if_neg (by simpa using hye)]
      refine ⟨out, rfl, ⟨⟨lo, co⟩, fun c hc => (ho c hc).2.1⟩, fun x z => ?_, by omega, fun c hc => (ho c hc).2.2⟩
      rw [hin]
      exact ⟨fun h => h.2, fun h => ⟨by
        rcases Int.lt_or_le z y with hz | hz
        · exact hz
        · exact absurd h (hend x z (by omega)), h⟩⟩
/-- The merge of two sets. -/
theorem Merge_ok {k : Bool → Bool → Bool} {f : Bool → Bool → Option Bool} (hf : ∀ a b, f a b = some (k a b)) (hk : k false false = false) {N : Nat} (hN : 10000000000 ≤ N) {A B : List Bd} {R1 R2 : Nat} (hA : BOk A) (hB : BOk B) (hrA : ∀ b ∈ A, b.2.2.length ≤ R1) (hrB : ∀ b ∈ B, b.2.2.length ≤ R2) (hR : R1 + R2 ≤ 500000000) (hl : A.length + B.length ≤ 200000000) :
    ∃ C, F_shape_Merge N (A.map toP) (B.map toP) f = some (C.map toP) ∧ BOk C ∧ (∀ x z, InB x z C ↔ Kept k A B x z) ∧ C.length ≤ 2 * A.length + 2 * B.length + 1 ∧ ∀ c ∈ C, c.2.2.length ≤ R1 + R2 := by
  have hnot : ∀ {A B : List Bd} {x z : Int}, ¬ InB x z A → ¬ InB x z B → ¬ Kept k A B x z := fun h1 h2 ⟨p, q, hp, hq, h⟩ => by
    have e1 : p = false := by rw [Bool.eq_false_iff]; exact fun h => h1 (hp.1 h)
    have e2 : q = false := by rw [Bool.eq_false_iff]; exact fun h => h2 (hq.1 h)
    rw [e1, e2, hk] at h; cases h
  have inlo : ∀ {l : List Bd} {lo x z : Int}, CanB lo l → InB x z l → lo ≤ z := fun {l lo x z} h hx => by
    rcases Int.lt_or_le z lo with hz | hz
    · unfold InB at hx
      rw [rowAt_lo h hz] at hx
      exact absurd hx InS_nil
    · exact hz
  have inhi : ∀ {l : List Bd} {b : Bd} {lo x z : Int}, CanB lo (l ++ [b]) → InB x z (l ++ [b]) → z < b.2.1 := by
    intro l
    induction l with
    | nil =>
      intro b lo x z h hx
      unfold InB at hx
      by_cases hz : b.1 ≤ z ∧ z < b.2.1
      · exact hz.2
      · have : rowAt ([] ++ [b]) z = [] := by show (if b.1 ≤ z ∧ z < b.2.1 then b.2.2 else []) = []; rw [if_neg hz]
        rw [this] at hx; exact absurd hx InS_nil
    | cons c l ih =>
      intro b lo x z h hx
      have hcan : CanB c.2.1 (l ++ [b]) := h.2.2.2.2
      by_cases hz : c.1 ≤ z ∧ z < c.2.1
      · have := hcan.mem b (by simp)
        omega
      · refine ih hcan (x := x) ?_
        unfold InB at hx ⊢
        have : rowAt (c :: l ++ [b]) z = rowAt (l ++ [b]) z := by show (if c.1 ≤ z ∧ z < c.2.1 then c.2.2 else rowAt (l ++ [b]) z) = _; rw [if_neg hz]
        rw [← this]; exact hx
  obtain ⟨la, ca⟩ := hA.can
  obtain ⟨lb, cb⟩ := hB.can
  have go : ∀ (y e : Int), (∀ x z, InB x z A → y ≤ z ∧ z < e) → (∀ x z, InB x z B → y ≤ z ∧ z < e) → ∃ C, F_shape_Merge_L9 N f e N (A.map toP) (B.map toP) ([] : List TBand) y = some (C.map toP) ∧ BOk C ∧ (∀ x z, InB x z C ↔ Kept k A B x z) ∧ C.length ≤ 2 * A.length + 2 * B.length + 1 ∧ ∀ c ∈ C, c.2.2.length ≤ R1 + R2 := fun y e h1 h2 => by
    have hlen : (e :: (A.flatMap (fun b => [b.1, b.2.1]) ++ B.flatMap fun b => [b.1, b.2.1])).length = 2 * A.length + 2 * B.length + 1 := by
      have : ∀ l : List Bd, (l.flatMap fun b => [b.1, b.2.1]).length = 2 * l.length := by
        intro l
        induction l with
        | nil => rfl
        | cons b l ih => rw [List.flatMap_cons, List.length_append, ih]; simp; omega
      rw [List.length_cons, List.length_append, this, this]
    have haf := aft_len (e :: (A.flatMap (fun b => [b.1, b.2.1]) ++ B.flatMap fun b => [b.1, b.2.1])) y
    rw [hlen] at haf
    have hmem : ∀ l : List Bd, ∀ b ∈ l, b.1 ∈ l.flatMap (fun b => [b.1, b.2.1]) ∧ b.2.1 ∈ l.flatMap (fun b => [b.1, b.2.1]) := fun l b hb => ⟨List.mem_flatMap.2 ⟨b, hb, by simp⟩, List.mem_flatMap.2 ⟨b, hb, by simp⟩⟩
    obtain ⟨C, c1, c2, c3, c4, c5⟩ := merge_go hf hk hN (A := A) (B := B) (R1 := R1) (R2 := R2) (fun b hb => ⟨hA.row b hb, hrA b hb⟩) (fun b hb => ⟨hB.row b hb, hrB b hb⟩) hR (by omega) (by omega) (ev := e :: (A.flatMap (fun b => [b.1, b.2.1]) ++ B.flatMap fun b => [b.1, b.2.1])) (e := e) (lo := y) (by simp) (fun b hb => ⟨List.mem_cons_of_mem _ (List.mem_append_left _ (hmem A b hb).1), List.mem_cons_of_mem _ (List.mem_append_left _ (hmem A b hb).2)⟩) (fun b hb => ⟨List.mem_cons_of_mem _ (List.mem_append_right _ (hmem B b hb).1), List.mem_cons_of_mem _ (List.mem_append_right _ (hmem B b hb).2)⟩)
      N A B [] y hA.can hB.can (fun _ h => h) (fun _ h => h) (Nat.le_refl _) (Nat.le_refl _) (fun _ _ => rfl) (fun _ _ => rfl) trivial (Int.le_refl _) (by simp) (fun x z => by
        constructor
        · intro h; unfold InB at h; exact absurd h InS_nil
        · rintro ⟨hz, h⟩
          exact absurd h (hnot (fun h => by have := h1 x z h; omega) (fun h => by have := h2 x z h; omega))) (by omega) (by simp; omega) (fun x z hz => hnot (fun h => by have := h1 x z h; omega) (fun h => by have := h2 x z h; omega))
    exact ⟨C, c1, c2, c3, by simp at c4; omega, c5⟩
  have two : ∀ {l : List Bd}, l ≠ [] → BOk l → l.length ≤ 200000000 → ∃ b c, idx (l.map toP) 0 = some (toP b) ∧ idx (l.map toP) (w64 (((l.map toP).length : Int) - 1)) = some (toP c) ∧ ∀ x z, InB x z l → b.1 ≤ z ∧ z < c.2.1 := fun {l} hne hok hlen => by
    obtain ⟨lo, hc⟩ := hok.can
    have h1 : ∃ b, idx (l.map toP) 0 = some (toP b) ∧ ∀ x z, InB x z l → b.1 ≤ z := by
      cases l with
      | nil => exact absurd rfl hne
      | cons b l => exact ⟨b, rfl, fun x z h => inlo (l := b :: l) (lo := b.1) (show CanB b.1 (b :: l) from ⟨Int.le_refl _, hc.2⟩) h⟩
    have h2 : ∃ c, idx (l.map toP) (w64 (((l.map toP).length : Int) - 1)) = some (toP c) ∧ ∀ x z, InB x z l → z < c.2.1 := by
      rcases List.eq_nil_or_concat l with h | ⟨j, c, h⟩
      · exact absurd h hne
      · rw [List.concat_eq_append] at h
        subst h
        refine ⟨c, ?_, fun x z h => inhi hc h⟩
        have e1 : w64 ((((j ++ [c]).map toP).length : Int) - 1) = ((j.map toP).length : Int) := by
          rw [w64_id (by first | (simp; done) | (simp; omega)) (by simp at hlen ⊢; omega)]; simp
        rw [e1, List.map_append]
        exact idx_mid _ [] _
    obtain ⟨b, b1, b2⟩ := h1
    obtain ⟨c, c1, c2⟩ := h2
    exact ⟨b, c, b1, c1, fun x z h => ⟨b2 x z h, c2 x z h⟩⟩
  unfold F_shape_Merge
  have hz : w64 (((A.map toP).length : Int) + ((B.map toP).length : Int)) = (A.length : Int) + (B.length : Int) := by rw [w64_id (by simp; omega) (by simp; omega)]; simp
  rw [hz]
  by_cases h0 : A.length + B.length = 0
  · have eA : A = [] := List.eq_nil_of_length_eq_zero (by omega)
    have eB : B = [] := List.eq_nil_of_length_eq_zero (by omega)
    subst eA eB
    rw [if_pos (by simp)]
    exact ⟨[], rfl, ⟨⟨0, trivial⟩, by simp⟩, fun x z => ⟨fun h => absurd h InS_nil, fun h => absurd h (hnot InS_nil InS_nil)⟩, by simp, by simp⟩
  · rw [if_neg (by simp; omega)]
    obtain ⟨m, hm⟩ : ∃ k, N = k + 3 := ⟨N - 3, by omega⟩
    have hfu : F_shape_Merge_L3 N (A.map toP) (B.map toP) f N 0 0 [A.map toP, B.map toP] 0 = F_shape_Merge_L3 N (A.map toP) (B.map toP) f (m + 3) 0 0 [A.map toP, B.map toP] 0 := congrArg (fun z => F_shape_Merge_L3 N (A.map toP) (B.map toP) f z 0 0 [A.map toP, B.map toP] 0) hm
    rw [hfu, F_shape_Merge_L3.eq_2, if_pos (by decide), show idx [A.map toP, B.map toP] 0 = some (A.map toP) from rfl, Option.bind_some, show w64 (0 + 1) = 1 from rfl]
    by_cases hA0 : A = []
    · have hB0 : B ≠ [] := fun h => h0 (by rw [hA0, h]; rfl)
      obtain ⟨b, c, b1, b2, b3⟩ := two hB0 hB (by omega)
      rw [if_neg (by rw [hA0]; simp), F_shape_Merge_L3.eq_2, if_pos (by decide), show idx [A.map toP, B.map toP] 1 = some (B.map toP) from rfl, Option.bind_some, if_pos (by have := List.length_pos_iff.2 hB0; simp; omega), if_pos (by rw [hA0]; rfl), b1, Option.bind_some, b2, Option.bind_some]
      unfold F_shape_Merge_J4
      rw [b1, Option.bind_some, b2, Option.bind_some, show w64 (1 + 1) = 2 from rfl, F_shape_Merge_L3.eq_2, if_neg (by decide)]
      exact go _ _ (fun x z h => by rw [hA0] at h; exact absurd h InS_nil) (fun x z h => by have := b3 x z h; show min b.1 b.1 ≤ z ∧ z < max c.2.1 c.2.1; omega)
    · obtain ⟨b, c, b1, b2, b3⟩ := two hA0 hA (by omega)
      rw [if_pos (by have := List.length_pos_iff.2 hA0; simp; omega), if_pos (by rfl), b1, Option.bind_some, b2, Option.bind_some]
      unfold F_shape_Merge_J4
      rw [b1, Option.bind_some, b2, Option.bind_some, show w64 (0 + 1) = 1 from rfl, F_shape_Merge_L3.eq_2, if_pos (by decide), show idx [A.map toP, B.map toP] 1 = some (B.map toP) from rfl, Option.bind_some]
      by_cases hB0 : B = []
      · rw [if_neg (by rw [hB0]; simp), show w64 (1 + 1) = 2 from rfl, F_shape_Merge_L3.eq_2, if_neg (by decide)]
        exact go _ _ (fun x z h => by have := b3 x z h; show min b.1 b.1 ≤ z ∧ z < max c.2.1 c.2.1; omega) (fun x z h => by rw [hB0] at h; exact absurd h InS_nil)
      · obtain ⟨d, g, d1, d2, d3⟩ := two hB0 hB (by omega)
        have hAl := List.length_pos_iff.2 hA0
        rw [if_pos (by have := List.length_pos_iff.2 hB0; simp; omega), if_neg (by simp; exact hA0)]
        unfold F_shape_Merge_J4
        rw [d1, Option.bind_some, d2, Option.bind_some, show w64 (1 + 1) = 2 from rfl, F_shape_Merge_L3.eq_2, if_neg (by decide)]
        exact go _ _ (fun x z h => by have := b3 x z h; show min (min b.1 b.1) d.1 ≤ z ∧ z < max (max c.2.1 c.2.1) g.2.1; omega) (fun x z h => by have := d3 x z h; show min (min b.1 b.1) d.1 ≤ z ∧ z < max (max c.2.1 c.2.1) g.2.1; omega)
end Go.Proofs.YtcjeebkoafonpaaGreatDoor
namespace Go.Proofs.YtcjeebkoafonpaaGreatDoor
/-- Squares so near to a set; squares so deep in it. -/
def Nr (n : Int) (S : Int → Int → Prop) (x y : Int) : Prop := ∃ u v, S u v ∧ (x - n ≤ u ∧ u ≤ x + n) ∧ (y - n ≤ v ∧ v ≤ y + n)
def Deep (n : Int) (S : Int → Int → Prop) (x y : Int) : Prop := ∀ u v, (x - n ≤ u ∧ u ≤ x + n) → (y - n ≤ v ∧ v ≤ y + n) → S u v
def widen (n : Int) (r : TRect) : TRect := ⟨r.X0 - n, r.Y0 - n, r.X1 + n, r.Y1 + n⟩
theorem widen_ne {n : Int} (hn : 0 ≤ n) {l : List TRect} (h : ∀ r ∈ l, r.X0 < r.X1 ∧ r.Y0 < r.Y1) : ∀ r ∈ l.map (widen n), r.X0 < r.X1 ∧ r.Y0 < r.Y1 := fun r hr => by
  obtain ⟨q, hq, rfl⟩ := List.mem_map.1 hr
  have := h q hq
  show q.X0 - n < q.X1 + n ∧ q.Y0 - n < q.Y1 + n
  omega
theorem InR_widen {n : Int} (hn : 0 ≤ n) {l : List TRect} (h : ∀ r ∈ l, r.X0 < r.X1 ∧ r.Y0 < r.Y1) (x y : Int) : InR x y (l.map (widen n)) ↔ Nr n (fun u v => InR u v l) x y := by
  unfold InR Nr
  constructor
  · rintro ⟨r, hr, hx, hy⟩
    obtain ⟨q, hq, rfl⟩ := List.mem_map.1 hr
    have := h q hq
    have hx : q.X0 - n ≤ x ∧ x < q.X1 + n := hx
    have hy : q.Y0 - n ≤ y ∧ y < q.Y1 + n := hy
    refine ⟨max q.X0 (min x (q.X1 - 1)), max q.Y0 (min y (q.Y1 - 1)), ⟨q, hq, ⟨by omega, by omega⟩, by omega, by omega⟩, ⟨by omega, by omega⟩, by omega, by omega⟩
  · rintro ⟨u, v, ⟨q, hq, hu, hv⟩, h1, h2⟩
    refine ⟨widen n q, List.mem_map.2 ⟨q, hq, rfl⟩, ?_, ?_⟩
    · show q.X0 - n ≤ x ∧ x < q.X1 + n; omega
    · show q.Y0 - n ≤ y ∧ y < q.Y1 + n; omega
/-- What is not near to what lies around is deep. -/
theorem core_pts {n : Int} (hn : 0 ≤ n) {S B : Int → Int → Prop} (hB : ∀ x y, S x y → ∀ u v, (x - n ≤ u ∧ u ≤ x + n) → (y - n ≤ v ∧ v ≤ y + n) → B u v) (x y : Int) : (S x y ∧ ¬ Nr n (fun u v => B u v ∧ ¬ S u v) x y) ↔ (S x y ∧ Deep n S x y) := by
  constructor
  · rintro ⟨h1, h2⟩
    refine ⟨h1, fun u v hu hv => Classical.byContradiction fun hs => h2 ⟨u, v, ⟨hB x y h1 u v hu hv, hs⟩, hu, hv⟩⟩
  · rintro ⟨h1, h2⟩
    exact ⟨h1, fun ⟨u, v, ⟨_, hs⟩, hu, hv⟩ => hs (h2 u v hu hv)⟩
theorem deep_in {n : Int} (hn : 0 ≤ n) {S : Int → Int → Prop} {x y : Int} (h : Deep n S x y) : S x y := h x y (by omega) (by omega)
theorem Nr_congr {n : Int} {S T : Int → Int → Prop} (h : ∀ x y, S x y ↔ T x y) (x y : Int) : Nr n S x y ↔ Nr n T x y := by
  unfold Nr
  constructor
  · rintro ⟨u, v, h1, h2⟩; exact ⟨u, v, (h u v).1 h1, h2⟩
  · rintro ⟨u, v, h1, h2⟩; exact ⟨u, v, (h u v).2 h1, h2⟩
theorem Nr_add {n m : Int} (hn : 0 ≤ n) (hm : 0 ≤ m) {S : Int → Int → Prop} (x y : Int) : Nr m (Nr n S) x y ↔ Nr (n + m) S x y := by
  unfold Nr
  constructor
  · rintro ⟨u, v, ⟨a, b, h1, h2, h3⟩, h4, h5⟩
    exact ⟨a, b, h1, by omega, by omega⟩
  · rintro ⟨a, b, h1, h2, h3⟩
    refine ⟨max (x - m) (min (x + m) a), max (y - m) (min (y + m) b), ⟨a, b, h1, by omega, by omega⟩, by omega, by omega⟩
/-- Ascending numbers of a list are no more than it has. -/
theorem strict_aft {ys : List Int} : ∀ {l : List Int} {a : Int}, l.Pairwise (fun x y => x < y) → (∀ z ∈ l, z ∈ ys ∧ a < z) → l.length ≤ aft ys a
  | [], _, _, _ => Nat.zero_le _
  | b :: l, a, h, hm => by
    have hb := hm b (by simp)
    have h2 := List.pairwise_cons.1 h
    have i := strict_aft (ys := ys) (a := b) h2.2 fun z hz => ⟨(hm z (by simp [hz])).1, h2.1 z hz⟩
    have := aft_lt hb.2 hb.1
    rw [List.length_cons]
    omega
theorem strict_len {ys l : List Int} (h : l.Pairwise fun x y => x < y) (hm : ∀ z ∈ l, z ∈ ys) : l.length ≤ ys.length := by
  obtain ⟨a, ha⟩ := lo_ex l
  exact Nat.le_trans (strict_aft (a := a) h fun z hz => ⟨hm z hz, ha z hz⟩) (aft_len _ _)
/-- Where a set begins and ends along X; where it changes along Y. -/
def XL (xs : List Int) (P : Int → Int → Prop) : Prop := ∀ x y, P x y → ¬ P (x - 1) y → x ∈ xs
def XR (xs : List Int) (P : Int → Int → Prop) : Prop := ∀ x y, ¬ P x y → P (x - 1) y → x ∈ xs
def YY (ys : List Int) (P : Int → Int → Prop) : Prop := ∀ x y, ¬ (P x y ↔ P x (y - 1)) → y ∈ ys
theorem Can.starts : ∀ {l : List (Int × Int)} {lo : Int}, Can lo l → (l.map (·.1)).Pairwise (fun x y => x < y) ∧ ∀ p ∈ l, InS p.1 l ∧ ¬ InS (p.1 - 1) l
  | [], _, _ => ⟨List.Pairwise.nil, by simp⟩
  | q :: l, lo, h => by
    obtain ⟨h1, h2, h3⟩ := h
    obtain ⟨i1, i2⟩ := h3.starts
    refine ⟨List.pairwise_cons.2 ⟨fun z hz => ?_, i1⟩, fun p hp => ?_⟩
    · obtain ⟨p, hp, rfl⟩ := List.mem_map.1 hz
      have := h3.mem p hp
      show q.1 < p.1; omega
    · rcases List.mem_cons.1 hp with rfl | hp
      · refine ⟨InS_cons.2 (.inl ⟨Int.le_refl _, h2⟩), fun h => ?_⟩
        rcases InS_cons.1 h with h | h
        · omega
        · have := h3.lt h; omega
      · obtain ⟨k1, k2⟩ := i2 p hp
        refine ⟨InS_cons.2 (.inr k1), fun h => ?_⟩
        rcases InS_cons.1 h with h | h
        · have := h3.mem p hp; omega
        · exact k2 h
theorem CanB.starts : ∀ {l : List Bd} {lo : Int}, CanB lo l → (l.map (·.1)).Pairwise (fun x y => x < y) ∧ ∀ b ∈ l, rowAt l (b.1 - 1) ≠ b.2.2
  | [], _, _ => ⟨List.Pairwise.nil, by simp⟩
  | c :: l, lo, h => by
    obtain ⟨h1, h2, h3, h4, h5⟩ := h
    obtain ⟨i1, i2⟩ := h5.starts
    refine ⟨List.pairwise_cons.2 ⟨fun z hz => ?_, i1⟩, fun b hb => ?_⟩
    · obtain ⟨p, hp, rfl⟩ := List.mem_map.1 hz
      have := h5.mem p hp
      show c.1 < p.1; omega
    · rcases List.mem_cons.1 hb with rfl | hb
      · have e : rowAt (b :: l) (b.1 - 1) = [] := by
          show (if b.1 ≤ b.1 - 1 ∧ b.1 - 1 < b.2.1 then b.2.2 else rowAt l (b.1 - 1)) = []
          rw [if_neg (by omega)]
          exact rowAt_lo h5 (by omega)
        rw [e]
        exact fun h => h3 h.symm
      · have hbm := h5.mem b hb
        show (if c.1 ≤ b.1 - 1 ∧ b.1 - 1 < c.2.1 then c.2.2 else rowAt l (b.1 - 1)) ≠ b.2.2
        split
        · cases l with
          | nil => simp at hb
          | cons d l =>
            have hd : b = d := by
              rcases List.mem_cons.1 hb with h | h
              · exact h
              · have := h5.2.2.2.2.mem b h; have := h5.1; have := h5.2.1; omega
            subst hd
            exact fun h => h4 b rfl (by omega) h.symm
        · exact i2 b hb
/-- How many rectangles a set has at most. -/
theorem tot_edges {C : List Bd} (h : BOk C) {xs ys : List Int} (hx : XL xs fun x y => InB x y C) (hy : YY ys fun x y => InB x y C) : C.length ≤ ys.length ∧ (∀ b ∈ C, b.2.2.length ≤ xs.length) ∧ (rectsB C).length ≤ xs.length * ys.length := by
  obtain ⟨lo, hc⟩ := h.can
  obtain ⟨s1, s2⟩ := hc.starts
  have k1 : C.length ≤ ys.length := by
    have := strict_len (ys := ys) s1 fun z hz => by
      obtain ⟨b, hb, rfl⟩ := List.mem_map.1 hz
      refine Classical.byContradiction fun hn => ?_
      have hall : ∀ x, InB x b.1 C ↔ InB x (b.1 - 1) C := fun x => Classical.byContradiction fun hne => hn (hy x b.1 hne)
      refine s2 b hb ?_
      have hbm := hc.mem b hb
      rw [← rowAt_of hc hb (Int.le_refl _) hbm.2.1]
      exact can_eq (h.at _) (h.at _) fun x => (hall x).symm
    simpa using this
  have k2 : ∀ b ∈ C, b.2.2.length ≤ xs.length := fun b hb => by
    obtain ⟨lo', hr⟩ := h.row b hb
    obtain ⟨r1, r2⟩ := hr.starts
    have hbm := hc.mem b hb
    have := strict_len (ys := xs) r1 fun z hz => by
      obtain ⟨p, hp, rfl⟩ := List.mem_map.1 hz
      obtain ⟨a1, a2⟩ := r2 p hp
      have e := rowAt_of hc hb (Int.le_refl _) hbm.2.1
      refine hx p.1 b.1 ?_ ?_
      · show InS p.1 (rowAt C b.1); rw [e]; exact a1
      · show ¬ InS (p.1 - 1) (rowAt C b.1); rw [e]; exact a2
    simpa using this
  exact ⟨k1, k2, Nat.le_trans (rectsB_len k2) (Nat.mul_le_mul_left _ k1)⟩
theorem edges_R (l : List TRect) : XL (l.map (·.X0)) (fun x y => InR x y l) ∧ XR (l.map (·.X1)) (fun x y => InR x y l) ∧ YY (ysOfR l) (fun x y => InR x y l) := by
  refine ⟨fun x y ⟨r, hr, h1, h2⟩ hn => ?_, fun x y hn ⟨r, hr, h1, h2⟩ => ?_, fun x y hn => ?_⟩
  · refine List.mem_map.2 ⟨r, hr, ?_⟩
    have : ¬ r.X0 ≤ x - 1 := fun h => hn ⟨r, hr, ⟨h, by omega⟩, h2⟩
    show r.X0 = x; omega
  · refine List.mem_map.2 ⟨r, hr, ?_⟩
    have : ¬ x < r.X1 := fun h => hn ⟨r, hr, ⟨by omega, h⟩, h2⟩
    show r.X1 = x; omega
  · refine Classical.byContradiction fun hm => hn ?_
    have hne : ∀ r ∈ l, r.Y0 ≠ y ∧ r.Y1 ≠ y := fun r hr => ⟨fun e => hm (mem_ysOfR.2 ⟨r, hr, .inl e.symm⟩), fun e => hm (mem_ysOfR.2 ⟨r, hr, .inr e.symm⟩)⟩
    unfold InR
    constructor
    · rintro ⟨r, hr, h1, h2⟩; have := hne r hr; exact ⟨r, hr, h1, by omega, by omega⟩
    · rintro ⟨r, hr, h1, h2⟩; have := hne r hr; exact ⟨r, hr, h1, by omega, by omega⟩
theorem edges_less {P Q : Int → Int → Prop} {xl xr yp xl' xr' yq : List Int} (a1 : XL xl P) (a2 : XR xr P) (a3 : YY yp P) (b1 : XL xl' Q) (b2 : XR xr' Q) (b3 : YY yq Q) : XL (xl ++ xr') (fun x y => P x y ∧ ¬ Q x y) ∧ XR (xr ++ xl') (fun x y => P x y ∧ ¬ Q x y) ∧ YY (yp ++ yq) (fun x y => P x y ∧ ¬ Q x y) := by
  refine ⟨fun x y ⟨h1, h2⟩ hn => ?_, fun x y hn ⟨h1, h2⟩ => ?_, fun x y hn => ?_⟩
  · by_cases hp : P (x - 1) y
    · have hq : Q (x - 1) y := Classical.byContradiction fun hq => hn ⟨hp, hq⟩
      exact List.mem_append_right _ (b2 x y h2 hq)
    · exact List.mem_append_left _ (a1 x y h1 hp)
  · by_cases hp : P x y
    · have hq : Q x y := Classical.byContradiction fun hq => hn ⟨hp, hq⟩
      exact List.mem_append_right _ (b1 x y hq h2)
    · exact List.mem_append_left _ (a2 x y hp h1)
  · by_cases hp : P x y ↔ P x (y - 1)
    · by_cases hq : Q x y ↔ Q x (y - 1)
      · exact absurd (show (P x y ∧ ¬ Q x y) ↔ (P x (y - 1) ∧ ¬ Q x (y - 1)) by rw [hp, hq]) hn
      · exact List.mem_append_right _ (b3 x y hq)
    · exact List.mem_append_left _ (a3 x y hp)
theorem edges_near {n : Int} {P : Int → Int → Prop} {xl xr ys : List Int} (a1 : XL xl P) (a2 : XR xr P) (a3 : YY ys P) : XL (xl.map (· - n)) (Nr n P) ∧ XR (xr.map (· + n)) (Nr n P) ∧ YY (ys.map (· - n) ++ ys.map (· + n)) (Nr n P) := by
  refine ⟨fun x y ⟨u, v, h1, h2, h3⟩ hn => ?_, fun x y hn ⟨u, v, h1, h2, h3⟩ => ?_, fun x y hn => ?_⟩
  · have h4 : ¬ u ≤ x - 1 + n := fun h => hn ⟨u, v, h1, by omega, h3⟩
    have h5 : ¬ P (u - 1) v := fun h => hn ⟨u - 1, v, h, by omega, h3⟩
    exact List.mem_map.2 ⟨u, a1 u v h1 h5, by omega⟩
  · have h4 : ¬ x - n ≤ u := fun h => hn ⟨u, v, h1, by omega, h3⟩
    have h5 : ¬ P (u + 1) v := fun h => hn ⟨u + 1, v, h, by omega, h3⟩
    exact List.mem_map.2 ⟨u + 1, a2 (u + 1) v h5 (by rw [Int.add_sub_cancel]; exact h1), by omega⟩
  · by_cases hp : Nr n P x y
    · have hq : ¬ Nr n P x (y - 1) := fun hq => hn ⟨fun _ => hq, fun _ => hp⟩
      obtain ⟨u, v, h1, h2, h3⟩ := hp
      have h4 : ¬ v ≤ y - 1 + n := fun h => hq ⟨u, v, h1, h2, by omega, by omega⟩
      have h5 : ¬ P u (v - 1) := fun h => hq ⟨u, v - 1, h, h2, by omega, by omega⟩
      exact List.mem_append_left _ (List.mem_map.2 ⟨v, a3 u v (fun h => h5 (h.1 h1)), by omega⟩)
    · have hq : Nr n P x (y - 1) := Classical.byContradiction fun hq => hn ⟨fun h => absurd h hp, fun h => absurd h hq⟩
      obtain ⟨u, v, h1, h2, h3⟩ := hq
      have h4 : ¬ y - n ≤ v := fun h => hp ⟨u, v, h1, h2, by omega, by omega⟩
      have h5 : ¬ P u (v + 1) := fun h => hp ⟨u, v + 1, h, h2, by omega, by omega⟩
      exact List.mem_append_right _ (List.mem_map.2 ⟨v + 1, a3 u (v + 1) (fun h => h5 (h.2 (by rw [Int.add_sub_cancel]; exact h1))), by omega⟩)
end Go.Proofs.YtcjeebkoafonpaaGreatDoor
namespace Go.Proofs.YtcjeebkoafonpaaGreatDoor
theorem bands_le {C : List Bd} (h : ∀ b ∈ C, b.2.2 ≠ []) : C.length ≤ (rectsB C).length := by
  induction C with
  | nil => simp
  | cons b l ih =>
    rw [rectsB_cons, List.length_append, rectsOf_len, List.length_cons]
    have := ih fun c hc => h c (by simp [hc])
    have := List.length_pos_iff.2 (h b (by simp))
    omega
theorem BOk.le {C : List Bd} (h : BOk C) : C.length ≤ (rectsB C).length := by
  obtain ⟨lo, hc⟩ := h.can
  exact bands_le fun b hb => (hc.mem b hb).2.2
/-- Rectangles of squares within limits. -/
theorem rectsB_lim {C : List Bd} (h : BOk C) {m : Int} (hx : ∀ x y, InB x y C → (-m ≤ x ∧ x < m) ∧ (-m ≤ y ∧ y < m)) : ∀ r ∈ rectsB C, (-m ≤ r.X0 ∧ r.X0 < r.X1 ∧ r.X1 ≤ m) ∧ (-m ≤ r.Y0 ∧ r.Y0 < r.Y1 ∧ r.Y1 ≤ m) := fun r hr => by
  have hne := rectsB_ne h r hr
  have h1 := hx r.X0 r.Y0 ((InR_rectsB h _ _).1 ⟨r, hr, ⟨Int.le_refl _, hne.1⟩, ⟨Int.le_refl _, hne.2⟩⟩)
  have h2 := hx (r.X1 - 1) (r.Y1 - 1) ((InR_rectsB h _ _).1 ⟨r, hr, ⟨by omega, by omega⟩, ⟨by omega, by omega⟩⟩)
  omega
theorem widen_r9 {n : Int} (hn : 0 ≤ n ∧ n ≤ 100000) {l : List TRect} (h : ∀ r ∈ l, (-1900000000 ≤ r.X0 ∧ r.X0 < r.X1 ∧ r.X1 ≤ 1900000000) ∧ (-1900000000 ≤ r.Y0 ∧ r.Y0 < r.Y1 ∧ r.Y1 ≤ 1900000000)) : ∀ r ∈ l.map (widen n), R9 r := fun r hr => by
  obtain ⟨q, hq, rfl⟩ := List.mem_map.1 hr
  have := h q hq
  constructor <;> simp only [widen] <;> omega
theorem lim_of_ok {l : List TRect} (h : ∀ r ∈ l, ROk r) : ∀ r ∈ l, (-1900000000 ≤ r.X0 ∧ r.X0 < r.X1 ∧ r.X1 ≤ 1900000000) ∧ (-1900000000 ≤ r.Y0 ∧ r.Y0 < r.Y1 ∧ r.Y1 ≤ 1900000000) := fun r hr => by
  have k := h r hr
  have := k.x0; have := k.x1; have := k.y0; have := k.y1; have h1 := k.x; have h2 := k.y
  omega
section
variable {N : Nat} (hN : 10000000000 ≤ N) {n : Int} (hn : 0 ≤ n ∧ n ≤ 100000)
include hN hn
end
end Go.Proofs.YtcjeebkoafonpaaGreatDoor
namespace Go.Proofs.YtcjeebkoafonpaaGreatDoor
/-- The least rectangle around squares. -/
structure IsBnd (S : Int → Int → Prop) (r : TRect) : Prop where
  all : ∀ x y, S x y → (r.X0 ≤ x ∧ x < r.X1) ∧ (r.Y0 ≤ y ∧ y < r.Y1)
  x0 : ∃ y, S r.X0 y
  x1 : ∃ y, S (r.X1 - 1) y
  y0 : ∃ x, S x r.Y0
  y1 : ∃ x, S x (r.Y1 - 1)
theorem IsBnd.uniq {S T : Int → Int → Prop} {r q : TRect} (h1 : IsBnd S r) (h2 : IsBnd T q) (h : ∀ x y, S x y ↔ T x y) : r = q := by
  obtain ⟨a, ha⟩ := h1.x0
  obtain ⟨b, hb⟩ := h1.x1
  obtain ⟨c, hc⟩ := h1.y0
  obtain ⟨d, hd⟩ := h1.y1
  obtain ⟨a', ha'⟩ := h2.x0
  obtain ⟨b', hb'⟩ := h2.x1
  obtain ⟨c', hc'⟩ := h2.y0
  obtain ⟨d', hd'⟩ := h2.y1
  have e1 := h2.all _ _ ((h _ _).1 ha)
  have e2 := h2.all _ _ ((h _ _).1 hb)
  have e3 := h2.all _ _ ((h _ _).1 hc)
  have e4 := h2.all _ _ ((h _ _).1 hd)
  have f1 := h1.all _ _ ((h _ _).2 ha')
  have f2 := h1.all _ _ ((h _ _).2 hb')
  have f3 := h1.all _ _ ((h _ _).2 hc')
  have f4 := h1.all _ _ ((h _ _).2 hd')
  obtain ⟨x0, y0, x1, y1⟩ := r
  obtain ⟨x0', y0', x1', y1'⟩ := q
  simp only at *
  congr 1 <;> omega
theorem CanB.init : ∀ {l : List Bd} {b : Bd} {lo : Int}, CanB lo (l ++ [b]) → ∀ c ∈ l, c.2.1 ≤ b.1
  | [], _, _, _, c, hc => by simp at hc
  | d :: l, b, lo, h, c, hc => by
    have h' : CanB d.2.1 (l ++ [b]) := h.2.2.2.2
    rcases List.mem_cons.1 hc with rfl | hc
    · exact (h'.mem b (by simp)).1
    · exact h'.init c hc
theorem flatS_head {p : Int × Int} {l : List (Int × Int)} : idx (flatS (p :: l)) 0 = some p.1 ∧ idx (flatS (p :: l)) 1 = some p.2 := ⟨rfl, rfl⟩
theorem flatS_last {l : List (Int × Int)} {q : Int × Int} (hl : l.length ≤ 1000000000) : idx (flatS (l ++ [q])) (w64 (((flatS (l ++ [q])).length : Int) - 1)) = some q.2 := by
  have e : flatS (l ++ [q]) = (flatS l ++ [q.1]) ++ q.2 :: [] := by rw [flatS_append]; simp [flatS]
  have e2 : w64 (((flatS (l ++ [q])).length : Int) - 1) = ((flatS l ++ [q.1]).length : Int) := by
    rw [w64_id (by rw [flatS_len]; simp; omega) (by rw [flatS_len]; simp; omega), flatS_len]; simp [flatS_len]; omega
  rw [e2, e]
  exact idx_mid _ [] _
theorem Around_ok {l : List Bd} (h : BOk l) (hne : l ≠ []) (hl : l.length ≤ 1000000000) (hr : ∀ b ∈ l, b.2.2.length ≤ 1000000000) : ∃ r, F_shape_Set__Around (l.map toP) = some r ∧ IsBnd (fun x y => InB x y l) r := by
  obtain ⟨lo, hc⟩ := h.can
  -- the loop: the least and the greatest X of all bands
  have loop : ∀ (f g : TBand) (suf : List Bd) (i : Nat) (u v : Int), (∀ b ∈ suf, b ∈ l) → ∃ u' v', F_shape_Set__Around_L1 f g (suf.map toP) i u v = some ⟨u', f.Y0, v', g.Y1⟩ ∧ u' ≤ u ∧ v ≤ v' ∧ (u' = u ∨ ∃ b ∈ suf, ∃ p ∈ b.2.2, u' = p.1) ∧ (v' = v ∨ ∃ b ∈ suf, ∃ p ∈ b.2.2, v' = p.2) ∧ ∀ b ∈ suf, ∀ p ∈ b.2.2, u' ≤ p.1 ∧ p.2 ≤ v' := by
    intro f g suf
    induction suf with
    | nil => intro i u v _; exact ⟨u, v, rfl, Int.le_refl _, Int.le_refl _, .inl rfl, .inl rfl, by simp⟩
    | cons b suf ih =>
      intro i u v hb
      have hbl := hb b (by simp)
      have hbne := (hc.mem b hbl).2.2
      obtain ⟨lo', hcan⟩ := h.row b hbl
      have hlen := hr b hbl
      obtain ⟨p, t, hp⟩ : ∃ p t, b.2.2 = p :: t := by cases hx : b.2.2 with | nil => exact absurd hx hbne | cons p t => exact ⟨p, t, rfl⟩
      obtain ⟨j, q, hq⟩ : ∃ j q, b.2.2 = j ++ [q] := by
        rcases List.eq_nil_or_concat b.2.2 with hx | ⟨j, q, hx⟩
        · exact absurd hx hbne
        · exact ⟨j, q, by simpa using hx⟩
      have e1 : idx (toP b).Xs 0 = some p.1 := by show idx (flatS b.2.2) 0 = _; rw [hp]; rfl
      have e2 : idx (toP b).Xs (w64 (((toP b).Xs.length : Int) - 1)) = some q.2 := by
        show idx (flatS b.2.2) (w64 (((flatS b.2.2).length : Int) - 1)) = _
        rw [hq]
        exact flatS_last (by rw [hq] at hlen; simp at hlen; omega)
      obtain ⟨u', v', i1, i2, i3, i4, i5, i6⟩ := ih (i + 1) (min u p.1) (max v q.2) (fun c hc => hb c (by simp [hc]))
      have hfirst : ∀ r ∈ b.2.2, p.1 ≤ r.1 := fun r hr => by
        rw [hp] at hr hcan
        rcases List.mem_cons.1 hr with rfl | hr
        · exact Int.le_refl _
        · have := hcan.2.2.mem r hr; have := hcan.2.1; omega
      have hlast : ∀ r ∈ b.2.2, r.2 ≤ q.2 := fun r hr => by
        rw [hq] at hr hcan
        obtain ⟨_, c2, c3, c4⟩ := hcan.init
        rcases List.mem_append.1 hr with hr | hr
        · have := c2 r hr; omega
        · simp at hr; subst hr; exact Int.le_refl _
      refine ⟨u', v', ?_, Int.le_trans i2 (Int.min_le_left _ _), Int.le_trans (Int.le_max_left _ _) i3, ?_, ?_, fun c hcm r hrm => ?_⟩
      · rw [List.map_cons, F_shape_Set__Around_L1.eq_2, e1, Option.bind_some, e2, Option.bind_some]; exact i1
      · rcases i4 with k | ⟨c, hc1, r, hr1, k⟩
        · by_cases hu : u ≤ p.1
          · exact .inl (k.trans (Int.min_eq_left hu))
          · exact .inr ⟨b, by simp, p, by rw [hp]; simp, k.trans (Int.min_eq_right (by omega))⟩
        · exact .inr ⟨c, by simp [hc1], r, hr1, k⟩
      · rcases i5 with k | ⟨c, hc1, r, hr1, k⟩
        · by_cases hv : q.2 ≤ v
          · exact .inl (k.trans (Int.max_eq_left hv))
          · exact .inr ⟨b, by simp, q, by rw [hq]; simp, k.trans (Int.max_eq_right (by omega))⟩
        · exact .inr ⟨c, by simp [hc1], r, hr1, k⟩
      · rcases List.mem_cons.1 hcm with rfl | hcm
        · exact ⟨Int.le_trans i2 (Int.le_trans (Int.min_le_right _ _) (hfirst r hrm)), Int.le_trans (hlast r hrm) (Int.le_trans (Int.le_max_right _ _) i3)⟩
        · exact i6 c hcm r hrm
  obtain ⟨b, t, hbt⟩ : ∃ b t, l = b :: t := by cases l with | nil => exact absurd rfl hne | cons b t => exact ⟨b, t, rfl⟩
  obtain ⟨j, c, hjc⟩ : ∃ j c, l = j ++ [c] := by
    rcases List.eq_nil_or_concat l with hx | ⟨j, q, hx⟩
    · exact absurd hx hne
    · exact ⟨j, q, by simpa using hx⟩
  have hbl : b ∈ l := by rw [hbt]; simp
  have hcl : c ∈ l := by rw [hjc]; simp
  have hbm := hc.mem b hbl
  have hcm := hc.mem c hcl
  obtain ⟨p, s, hp⟩ : ∃ p s, b.2.2 = p :: s := by cases hx : b.2.2 with | nil => exact absurd hx hbm.2.2 | cons p t => exact ⟨p, t, rfl⟩
  obtain ⟨p2, s2, hp2⟩ : ∃ p s, c.2.2 = p :: s := by cases hx : c.2.2 with | nil => exact absurd hx hcm.2.2 | cons p t => exact ⟨p, t, rfl⟩
  have e0 : idx (l.map toP) 0 = some (toP b) := by rw [hbt]; rfl
  have e1 : idx (toP b).Xs 0 = some p.1 := by show idx (flatS b.2.2) 0 = _; rw [hp]; rfl
  have e2 : idx (toP b).Xs 1 = some p.2 := by show idx (flatS b.2.2) 1 = _; rw [hp]; rfl
  have e3 : idx (l.map toP) (w64 (((l.map toP).length : Int) - 1)) = some (toP c) := by
    have : w64 (((l.map toP).length : Int) - 1) = ((j.map toP).length : Int) := by
      rw [w64_id (by simp; omega) (by simp; omega), hjc]; simp
    rw [this, hjc, List.map_append]
    exact idx_mid _ [] _
  obtain ⟨u, v, k1, k2, k3, k4, k5, k6⟩ := loop (toP b) (toP c) l 0 p.1 p.2 (fun _ h => h)
  have inb : ∀ d ∈ l, ∀ r ∈ d.2.2, InB r.1 d.1 l ∧ InB (r.2 - 1) d.1 l ∧ InB r.1 (d.2.1 - 1) l := fun d hd r hr => by
    have hdm := hc.mem d hd
    obtain ⟨_, hcan⟩ := h.row d hd
    have hrm := hcan.mem r hr
    unfold InB
    rw [rowAt_of hc hd (Int.le_refl _) hdm.2.1, rowAt_of hc hd (y := d.2.1 - 1) (by omega) (by omega)]
    exact ⟨⟨r, hr, Int.le_refl _, hrm.2⟩, ⟨r, hr, by omega, by omega⟩, ⟨r, hr, Int.le_refl _, hrm.2⟩⟩
  refine ⟨⟨u, b.1, v, c.2.1⟩, ?_, fun x y hxy => ?_, ?_, ?_, ?_, ?_⟩
  · unfold F_shape_Set__Around
    rw [e0, Option.bind_some, e1, Option.bind_some, Option.bind_some, Option.bind_some, e2, Option.bind_some, e3, Option.bind_some]
    exact k1
  · have hxy : InB x y l := hxy
    unfold InB at hxy
    rcases rowAt_mem (l := l) (y := y) with h1 | ⟨d, hd, h1, h2, h3⟩
    · rw [h1] at hxy; exact absurd hxy InS_nil
    · rw [h3] at hxy
      obtain ⟨r, hr, hx⟩ := hxy
      have := k6 d hd r hr
      have hlo : b.1 ≤ d.1 := by
        have hc' := hc
        rw [hbt] at hd hc'
        rcases List.mem_cons.1 hd with rfl | hd
        · exact Int.le_refl _
        · have := hc'.2.2.2.2.mem d hd; have := hc'.2.1; omega
      have hhi : d.2.1 ≤ c.2.1 := by
        have hc' := hc
        rw [hjc] at hd hc'
        rcases List.mem_append.1 hd with hd | hd
        · have := hc'.init d hd; omega
        · simp at hd; subst hd; exact Int.le_refl _
      show (u ≤ x ∧ x < v) ∧ (b.1 ≤ y ∧ y < c.2.1)
      omega
  · rcases k4 with k | ⟨d, hd, r, hr, k⟩
    · rw [k]; exact ⟨b.1, (inb b hbl p (by rw [hp]; simp)).1⟩
    · rw [k]; exact ⟨d.1, (inb d hd r hr).1⟩
  · rcases k5 with k | ⟨d, hd, r, hr, k⟩
    · show ∃ y, InB (v - 1) y l
      rw [k]; exact ⟨b.1, (inb b hbl p (by rw [hp]; simp)).2.1⟩
    · show ∃ y, InB (v - 1) y l
      rw [k]; exact ⟨d.1, (inb d hd r hr).2.1⟩
  · exact ⟨p.1, (inb b hbl p (by rw [hp]; simp)).1⟩
  · exact ⟨p2.1, (inb c hcl p2 (by rw [hp2]; simp)).2.2⟩
end Go.Proofs.YtcjeebkoafonpaaGreatDoor
namespace Go.Proofs.YtcjeebkoafonpaaGreatDoor
/-- A rectangle within the limits. -/
def lim (r : TRect) : Bool := ((within r.X0 (-1000000) 1000000 && within r.Y0 (-1000000) 1000000) && within r.X1 (-1000000) 1000000) && within r.Y1 (-1000000) 1000000
theorem lim_iff {r : TRect} : lim r = true ↔ ((((-1000000 ≤ r.X0 ∧ r.X0 ≤ 1000000) ∧ (-1000000 ≤ r.Y0 ∧ r.Y0 ≤ 1000000)) ∧ (-1000000 ≤ r.X1 ∧ r.X1 ≤ 1000000)) ∧ (-1000000 ≤ r.Y1 ∧ r.Y1 ≤ 1000000)) := by
  unfold lim
  rw [Bool.and_eq_true, Bool.and_eq_true, Bool.and_eq_true, within_iff, within_iff, within_iff, within_iff]
/-- A set fits just if all rectangles that make it do. -/
theorem Fits_ok {L : List TRect} (hL : L.length ≤ 100000000) (hne : ∀ r ∈ L, r.X0 < r.X1 ∧ r.Y0 < r.Y1) : F_shape_Set__Fits ((setB L).map toP) = some (L.all lim) := by
  unfold F_shape_Set__Fits
  obtain ⟨c1, c2⟩ := setB_ok hne
  obtain ⟨s1, s2⟩ := setB_len L
  by_cases h : setB L = []
  · have hnil : L = [] := by
      cases L with
      | nil => rfl
      | cons a l =>
        have ha := hne a (by simp)
        have := (c2 a.X0 a.Y0).2 ⟨a, by simp, ⟨by omega, by omega⟩, by omega, by omega⟩
        rw [h] at this
        exact absurd this InS_nil
    subst hnil
    rw [h]; rfl
  · have hlen := List.length_pos_iff.2 h
    obtain ⟨b, b1, b2⟩ := Around_ok c1 h (by omega) (fun c hc => by have := s2 c hc; omega)
    rw [if_neg (by simp; exact h), b1, Option.bind_some, isRect_ok, Option.bind_some, Option.bind_some]
    congr 1
    show lim b = L.all lim
    rw [Bool.eq_iff_iff, List.all_eq_true]
    constructor
    · intro hb r hr
      have hr' := hne r hr
      have k1 := b2.all _ _ ((c2 r.X0 r.Y0).2 ⟨r, hr, ⟨by omega, by omega⟩, by omega, by omega⟩)
      have k2 := b2.all _ _ ((c2 (r.X1 - 1) (r.Y1 - 1)).2 ⟨r, hr, ⟨by omega, by omega⟩, by omega, by omega⟩)
      rw [lim_iff] at hb ⊢
      omega
    · intro hall
      obtain ⟨y, hx0⟩ := b2.x0
      obtain ⟨y', hx1⟩ := b2.x1
      obtain ⟨x, hy0⟩ := b2.y0
      obtain ⟨x', hy1⟩ := b2.y1
      obtain ⟨r1, m1, e1⟩ := (c2 _ _).1 hx0
      obtain ⟨r2, m2, e2⟩ := (c2 _ _).1 hx1
      obtain ⟨r3, m3, e3⟩ := (c2 _ _).1 hy0
      obtain ⟨r4, m4, e4⟩ := (c2 _ _).1 hy1
      have l1 := lim_iff.1 (hall r1 m1)
      have l2 := lim_iff.1 (hall r2 m2)
      have l3 := lim_iff.1 (hall r3 m3)
      have l4 := lim_iff.1 (hall r4 m4)
      rw [lim_iff]
      omega
end Go.Proofs.YtcjeebkoafonpaaGreatDoor
namespace Go.Proofs.YtcjeebkoafonpaaGreatDoor
def swR (x0 x1 y0 y1 : Int) (r : TRect) : TRect := ⟨r.X0 + x0, r.Y0 + y0, r.X1 + x1, r.Y1 + y1⟩
def Ne (l : List TRect) : Prop := ∀ r ∈ l, r.X0 < r.X1 ∧ r.Y0 < r.Y1
theorem sw_ne {x0 x1 y0 y1 : Int} (hx : x0 ≤ x1) (hy : y0 ≤ y1) {l : List TRect} (h : Ne l) : Ne (l.map (swR x0 x1 y0 y1)) := fun r hr => by
  obtain ⟨q, hq, rfl⟩ := List.mem_map.1 hr
  have := h q hq
  simp only [swR]; omega
theorem InR_sw {x0 x1 y0 y1 : Int} (hx : x0 ≤ x1) (hy : y0 ≤ y1) {l : List TRect} (h : Ne l) (x y : Int) : InR x y (l.map (swR x0 x1 y0 y1)) ↔ ∃ u v, InR u v l ∧ (x - x1 ≤ u ∧ u ≤ x - x0) ∧ (y - y1 ≤ v ∧ v ≤ y - y0) := by
  constructor
  · rintro ⟨r, hr, h1, h2⟩
    obtain ⟨q, hq, rfl⟩ := List.mem_map.1 hr
    have := h q hq
    simp only [swR] at h1 h2
    exact ⟨max q.X0 (x - x1), max q.Y0 (y - y1), ⟨q, hq, by omega, by omega⟩, by omega, by omega⟩
  · rintro ⟨u, v, ⟨q, hq, h1, h2⟩, h3, h4⟩
    refine ⟨swR x0 x1 y0 y1 q, List.mem_map.2 ⟨q, hq, rfl⟩, ?_, ?_⟩ <;> simp only [swR] <;> omega
/-- What is spread of a set is what is spread of the rectangles that make it. -/
theorem sw_set {x0 x1 y0 y1 : Int} (hx : x0 ≤ x1) (hy : y0 ≤ y1) {l : List TRect} (h : Ne l) : setB ((rectsB (setB l)).map (swR x0 x1 y0 y1)) = setB (l.map (swR x0 x1 y0 y1)) := by
  obtain ⟨b1, b2⟩ := setB_ok h
  have hr : Ne (rectsB (setB l)) := rectsB_ne b1
  refine setB_congr (sw_ne hx hy hr) (sw_ne hx hy h) fun x y => ?_
  rw [InR_sw hx hy hr, InR_sw hx hy h]
  refine exists_congr fun u => exists_congr fun v => and_congr_left fun _ => ?_
  rw [InR_rectsB b1, b2]
section
variable {N : Nat} (hN : 10000000000 ≤ N)
include hN
/-- What is drawn is added, or taken away. -/
theorem orS_ok {I S : List Bd} (hI : BOk I) (hS : BOk S) (h1 : ∀ b ∈ I, b.2.2.length ≤ 10000) (h2 : ∀ b ∈ S, b.2.2.length ≤ 10000) (h3 : I.length ≤ 100000) (h4 : S.length ≤ 100000) : ∃ C, F_shape_Set__Or N (I.map toP) (S.map toP) = some (C.map toP) ∧ BOk C ∧ (∀ x y, InB x y C ↔ InB x y I ∨ InB x y S) ∧ (rectsB C).length ≤ 1000000000000 := by
  obtain ⟨C, c1, c2, c3, c4, c5⟩ := Merge_ok (k := fun p q => p || q) (f := fun z0 z1 => F_shape_Set__Or_1 z0 z1) (fun _ _ => rfl) rfl hN (R1 := 10000) (R2 := 10000) hI hS h1 h2 (by omega) (by omega)
  have ht := rectsB_len (R := 20000) (l := C) fun c hc => by have := c5 c hc; omega
  refine ⟨C, by unfold F_shape_Set__Or; rw [c1]; rfl, c2, fun x y => ?_, by omega⟩
  rw [c3]
  constructor
  · rintro ⟨p, q, hp, hq, h⟩
    rcases Bool.or_eq_true_iff.1 h with h | h
    · exact .inl (hp.1 h)
    · exact .inr (hq.1 h)
  · intro h
    classical
    refine ⟨decide (InB x y I), decide (InB x y S), by simp, by simp, ?_⟩
    simpa using h
theorem lessS_ok {I S : List Bd} (hI : BOk I) (hS : BOk S) (h1 : ∀ b ∈ I, b.2.2.length ≤ 10000) (h2 : ∀ b ∈ S, b.2.2.length ≤ 10000) (h3 : I.length ≤ 100000) (h4 : S.length ≤ 100000) : ∃ C, F_shape_Set__Less N (I.map toP) (S.map toP) = some (C.map toP) ∧ BOk C ∧ (∀ x y, InB x y C ↔ InB x y I ∧ ¬ InB x y S) ∧ (rectsB C).length ≤ 1000000000000 := by
  obtain ⟨C, c1, c2, c3, c4, c5⟩ := Merge_ok (k := fun p q => p && !q) (f := fun z0 z1 => F_shape_Set__Less_1 z0 z1) (fun _ _ => rfl) rfl hN (R1 := 10000) (R2 := 10000) hI hS h1 h2 (by omega) (by omega)
  have ht := rectsB_len (R := 20000) (l := C) fun c hc => by have := c5 c hc; omega
  refine ⟨C, by unfold F_shape_Set__Less; rw [c1]; rfl, c2, fun x y => ?_, by omega⟩
  rw [c3]
  constructor
  · rintro ⟨p, q, hp, hq, h⟩
    simp only [Bool.and_eq_true, Bool.not_eq_true'] at h
    exact ⟨hp.1 h.1, fun hh => by rw [hq.2 hh] at h; cases h.2⟩
  · intro h
    classical
    refine ⟨decide (InB x y I), decide (InB x y S), by simp, by simp, ?_⟩
    simp [h.1, h.2]
end
end Go.Proofs.YtcjeebkoafonpaaGreatDoor
namespace Go.Proofs.YtcjeebkoafonpaaGreatDoor
theorem stk_len (xs : List Int) (x : Int) : (stk xs x).length ≤ xs.length + 1 := by
  unfold stk
  split
  · rw [List.length_dropLast]; omega
  · simp
theorem canc_len_go : ∀ (l xs : List Int), (l.foldl stk xs).length ≤ xs.length + l.length
  | [], xs => by simp
  | x :: l, xs => by
    have h1 := stk_len xs x
    have h2 := canc_len_go l (stk xs x)
    rw [List.foldl_cons, List.length_cons]; omega
theorem canc_len (l : List Int) : (canc l).length ≤ l.length := by
  have := canc_len_go l []
  unfold canc
  simpa using this
/-- The numbers of one height. -/
theorem xs_loop {ys : List Int} {out : List TBand} {k : Nat} {K : List TBand → Int → Option (List TBand)} {a b : Int} (ha : idx ys (k : Int) = some a) (hb : idx ys (w64 ((k : Int) + 1)) = some b) : ∀ (suf : List TRect) (i : Nat) (xs : List Int), xs.length + suf.length ≤ 1000000 →
    F_shape_Around_L7 ys out (k : Int) K suf i xs = (F_shape_Set__push out ⟨a, b, (xsAt suf a).foldl stk xs⟩).bind fun y => K y (w64 ((k : Int) + 1))
  | [], i, xs, _ => by
    rw [F_shape_Around_L7, ha, Option.bind_some, hb, Option.bind_some]; rfl
  | s :: l, i, xs, h => by
    simp at h
    rw [F_shape_Around_L7, ha, Option.bind_some]
    by_cases hc : s.Y0 ≤ a ∧ a < s.Y1
    · have e1 : xsAt (s :: l) a = s.X0 :: xsAt l a := by
        unfold xsAt
        rw [List.filter_cons, if_pos (by simpa using hc)]; rfl
      rw [if_neg (by simp <;> omega), Option.bind_some, Option.bind_some, if_neg (by simp <;> omega), e1, List.foldl_cons]
      rcases List.eq_nil_or_concat xs with hx | ⟨zs, z, hx⟩
      · subst hx
        rw [if_neg (by simp), Option.bind_some, if_neg (by simp), apd_ok (by simp), Option.bind_some, xs_loop ha hb l (i + 1) _ (by simp <;> omega)]
        rfl
      · rw [List.concat_eq_append] at hx
        subst hx
        simp at h
        have hz : idx (zs ++ [z]) (w64 (((zs ++ [z]).length : Int) - 1)) = some z := by
          rw [w64_id (by simp <;> omega) (by simp <;> omega), show ((zs ++ [z]).length : Int) - 1 = (zs.length : Int) by simp]
          exact idx_mid zs [] z
        rw [if_pos (by simp), hz, Option.bind_some, Option.bind_some]
        by_cases he : z = s.X0
        · have hp : pre (zs ++ [z]) (w64 (((zs ++ [z]).length : Int) - 1)) = some zs := by
            rw [w64_id (by simp <;> omega) (by simp <;> omega), show ((zs ++ [z]).length : Int) - 1 = (zs.length : Int) by simp]
            unfold pre
            rw [if_pos ⟨by omega, by simp <;> omega⟩]
            simp
          rw [if_pos (by simpa using he), hp, Option.bind_some, xs_loop ha hb l (i + 1) _ (by omega)]
          unfold stk
          rw [if_pos (by simp [he]), List.dropLast_concat]
        · rw [if_neg (by simpa using he), apd_ok (by simp <;> omega), Option.bind_some, xs_loop ha hb l (i + 1) _ (by simp <;> omega)]
          have : stk (zs ++ [z]) s.X0 = zs ++ [z] ++ [s.X0] := by unfold stk; rw [if_neg (by simp [he])]
          rw [this]
    · have e1 : xsAt (s :: l) a = xsAt l a := by
        unfold xsAt
        rw [List.filter_cons, if_neg (by simpa using hc)]
      rw [e1]
      by_cases h0 : a < s.Y0
      · rw [if_pos (decide_eq_true h0), Option.bind_some, if_pos rfl, xs_loop ha hb l (i + 1) _ (by omega)]
      · rw [if_neg (by simpa using h0), Option.bind_some, Option.bind_some, if_pos (by simp <;> omega), xs_loop ha hb l (i + 1) _ (by omega)]
/-- All heights. -/
theorem bands_loop {ys : List Int} {up : List TRect} (hy : ys.Pairwise fun x y => x < y) (hs : up.Pairwise fun a b => a.X0 ≤ b.X0) (hev : ∀ y, (xsAt up y).length % 2 = 0) (hl : ys.length ≤ 100000) (hu : up.length ≤ 100000) : ∀ (suf pre : List Int) (m : Nat) (out : List Bd), ys = pre ++ suf → suf.length < m → out.length + suf.length ≤ 1000000 →
    F_shape_Around_L6 ys up m (out.map toP) (pre.length : Int) = some ((bandsF (fA up) suf out).map toP)
  | [], pre, m, out, he, hm, _ => by
    obtain ⟨m, rfl⟩ : ∃ k, m = k + 1 := ⟨m - 1, by omega⟩
    have hlen : ys.length = pre.length := by rw [he]; simp
    rw [F_shape_Around_L6, if_neg (by rw [w64_id (by omega) (by omega)]; simp; omega)]
    rfl
  | [a], pre, m, out, he, hm, _ => by
    obtain ⟨m, rfl⟩ : ∃ k, m = k + 1 := ⟨m - 1, by omega⟩
    have hlen : ys.length = pre.length + 1 := by rw [he]; simp
    rw [F_shape_Around_L6, if_neg (by rw [w64_id (by omega) (by omega)]; simp; omega)]
    rfl
  | a :: b :: l, pre, m, out, he, hm, ho => by
    obtain ⟨m, rfl⟩ : ∃ k, m = k + 1 := ⟨m - 1, by simp at hm; omega⟩
    simp at hm ho
    have hlen : ys.length = pre.length + (l.length + 2) := by rw [he]; simp
    have hab : a < b := by
      rw [he] at hy
      have := (List.pairwise_append.1 hy).2.1
      exact (List.pairwise_cons.1 this).1 b List.mem_cons_self
    have hia : idx ys (pre.length : Int) = some a := by rw [he]; exact idx_mid _ _ _
    have hib : idx ys (w64 ((pre.length : Int) + 1)) = some b := by
      rw [up_mid2 pre a (by omega), he, show pre ++ a :: b :: l = (pre ++ [a]) ++ b :: l by simp]; exact idx_mid _ _ _
    rw [F_shape_Around_L6, if_pos (by rw [w64_id (by omega) (by omega)]; simp; omega), xs_loop hia hib up 0 [] (by simp; omega)]
    have hpu := push_ok (l := out) (b := (a, b, fA up a)) (by omega) hab
    have e : toP (a, b, fA up a) = ⟨a, b, (xsAt up a).foldl stk []⟩ := by
      show (⟨a, b, flatS (fA up a)⟩ : TBand) = _
      rw [(fA_ok hs hev a).1]; rfl
    rw [e] at hpu
    rw [hpu, Option.bind_some, up_mid2 pre a (by omega)]
    have hpl := pushB_len out (a, b, fA up a)
    have := bands_loop hy hs hev hl hu (b :: l) (pre ++ [a]) m (pushB out (a, b, fA up a)) (by rw [he]; simp) (by simp; omega) (by simp; omega)
    rw [this]; rfl
/-! The sides. -/
def vertP (s : TPoint × TPoint) : Option TRect := if s.1.X = s.2.X then some ⟨s.1.X, min s.1.Y s.2.Y, 0, max s.1.Y s.2.Y⟩ else none
theorem nxt_cons (p0 x : TPoint) (r : List TPoint) : nxt p0 (x :: r) = (x, (r ++ [p0]).headD p0) :: nxt p0 r := by
  cases r with
  | nil => rfl
  | cons y r => rfl
theorem next_head {pre r : List TPoint} {x p0 : TPoint} (h0 : (pre ++ x :: r).head? = some p0) : (pre ++ x :: r).getD ((pre.length + 1) % (pre ++ x :: r).length) ⟨0, 0⟩ = (r ++ [p0]).headD p0 := by
  cases r with
  | nil =>
    have : (pre.length + 1) % (pre ++ [x]).length = 0 := by simp
    rw [this]
    cases pre with
    | nil => simp at h0 ⊢; exact h0
    | cons z pre => simp at h0 ⊢; exact h0
  | cons y r =>
    have : (pre.length + 1) % (pre ++ x :: y :: r).length = pre.length + 1 := Nat.mod_eq_of_lt (by simp)
    rw [this]
    simp [List.getD]
theorem sides_loop {l : List TPoint} {p0 : TPoint} (h0 : l.head? = some p0) (hl : l.length ≤ 100000) {K : List Int → List TRect → Option (List TBand)} : ∀ (suf pre : List TPoint) (ys : List Int) (up : List TRect), l = pre ++ suf → ys.length ≤ pre.length → up.length ≤ pre.length →
    F_shape_Around_L8 K l suf pre.length ys up = K (ys ++ suf.map (·.Y)) (up ++ (nxt p0 suf).filterMap vertP)
  | [], pre, ys, up, he, hy, hu => by rw [F_shape_Around_L8]; simp [nxt]
  | x :: r, pre, ys, up, he, hy, hu => by
    have hlen : l.length = pre.length + (r.length + 1) := by rw [he]; simp
    have hnx : l.getD ((pre.length + 1) % l.length) ⟨0, 0⟩ = (r ++ [p0]).headD p0 := by
      have := next_head (pre := pre) (r := r) (x := x) (p0 := p0) (by rw [← he]; exact h0)
      rw [he]; exact this
    rw [F_shape_Around_L8, next_ok2 (by omega) (by omega), hnx, apd_ok (by simp; omega), Option.bind_some, nxt_cons]
    by_cases hx : x.X = ((r ++ [p0]).headD p0).X
    · have hv : vertP (x, (r ++ [p0]).headD p0) = some ⟨x.X, min x.Y ((r ++ [p0]).headD p0).Y, 0, max x.Y ((r ++ [p0]).headD p0).Y⟩ := if_pos hx
      rw [if_pos (by simpa using hx), apd_ok (by simp; omega), Option.bind_some, List.filterMap_cons_some hv]
      have := sides_loop h0 hl (K := K) r (pre ++ [x]) (ys ++ [x.Y]) (up ++ [⟨x.X, min x.Y ((r ++ [p0]).headD p0).Y, 0, max x.Y ((r ++ [p0]).headD p0).Y⟩]) (by rw [he]; simp) (by simp; omega) (by simp; omega)
      rw [show (pre ++ [x]).length = pre.length + 1 by simp] at this
      rw [this]; simp
    · have hv : vertP (x, (r ++ [p0]).headD p0) = none := if_neg hx
      rw [if_neg (by simpa using hx), List.filterMap_cons_none hv]
      have := sides_loop h0 hl (K := K) r (pre ++ [x]) (ys ++ [x.Y]) up (by rw [he]; simp) (by simp; omega) (by simp; omega)
      rw [show (pre ++ [x]).length = pre.length + 1 by simp] at this
      rw [this]; simp
theorem vert_cross (y : Int) : ∀ (S : List (TPoint × TPoint)), ((S.filterMap vertP).filter fun s => decide (s.Y0 ≤ y) && decide (y < s.Y1)).map (·.X0) = (crossN y S).map (·.1.X)
  | [] => rfl
  | s :: S => by
    have ih := vert_cross y S
    unfold crossN at ih ⊢
    by_cases hx : s.1.X = s.2.X
    · have hv : vertP s = some ⟨s.1.X, min s.1.Y s.2.Y, 0, max s.1.Y s.2.Y⟩ := if_pos hx
      rw [List.filterMap_cons_some hv, List.filter_cons, List.filter_cons, decide_eq_true hx, Bool.true_and]
      by_cases hc : (decide (min s.1.Y s.2.Y ≤ y) && decide (y < max s.1.Y s.2.Y)) = true
      · rw [if_pos hc, if_pos hc, List.map_cons, List.map_cons, ih]
      · rw [if_neg hc, if_neg hc, ih]
    · have hv : vertP s = none := if_neg hx
      rw [List.filterMap_cons_none hv, List.filter_cons, decide_eq_false hx, Bool.false_and, if_neg (by simp), ih]
theorem nxt_len (p0 : TPoint) : ∀ (l : List TPoint), (nxt p0 l).length = l.length
  | [] => rfl
  | x :: r => by rw [nxt_cons, List.length_cons, List.length_cons, nxt_len p0 r]
theorem nxt_mem {p0 : TPoint} : ∀ {l : List TPoint} {s : TPoint × TPoint}, s ∈ nxt p0 l → s.1 ∈ l ∧ (s.2 ∈ l ∨ s.2 = p0)
  | [], s, h => by cases h
  | x :: r, s, h => by
    rw [nxt_cons] at h
    rcases List.mem_cons.1 h with rfl | h
    · refine ⟨List.mem_cons_self, ?_⟩
      cases r with
      | nil => exact .inr rfl
      | cons y r => exact .inl (by simp)
    · obtain ⟨h1, h2⟩ := nxt_mem h
      exact ⟨List.mem_cons_of_mem _ h1, h2.imp (List.mem_cons_of_mem _) id⟩
/-- Whether a square lies within a closed row: an odd number of its sides lies to the left. -/
def inRow (l : List TPoint) (x y : Int) : Prop := cle x ((crossN y (sidesP l)).map (·.1.X)) % 2 = 1
theorem bandsF_len {f : Int → List (Int × Int)} {R : Nat} (hf : ∀ y, (f y).length ≤ R) : ∀ (ys : List Int) (out : List Bd), (∀ c ∈ out, c.2.2.length ≤ R) → (bandsF f ys out).length ≤ out.length + ys.length ∧ ∀ c ∈ bandsF f ys out, c.2.2.length ≤ R
  | [], out, h => ⟨by simp [bandsF], h⟩
  | [a], out, h => ⟨by simp [bandsF], h⟩
  | a :: b :: ys, out, h => by
    have h1 := pushB_len out (a, b, f a)
    obtain ⟨h2, h3⟩ := bandsF_len hf (b :: ys) (pushB out (a, b, f a)) (pushB_row h (hf a))
    rw [bandsF]
    exact ⟨by simp at h2 ⊢; omega, h3⟩
theorem Around_row {N : Nat} (hN : 10000000000 ≤ N) {l : List TPoint} (hne : l ≠ []) (hl : l.length ≤ 2000) (hb : ∀ p ∈ l, -1000000000 ≤ p.X ∧ p.X ≤ 1000000000) (hax : axS (sidesP l)) :
    ∃ A, F_shape_Around N [l] = some (A.map toP) ∧ BOk A ∧ A.length ≤ 2000 ∧ (∀ b ∈ A, b.2.2.length ≤ 2000) ∧ ∀ x y, InB x y A ↔ inRow l x y := by
  obtain ⟨p0, r0, rfl⟩ : ∃ p0 r, l = p0 :: r := by
    cases l with
    | nil => exact absurd rfl hne
    | cons p r => exact ⟨p, r, rfl⟩
  obtain ⟨V, hV⟩ : ∃ V, V = (sidesP (p0 :: r0)).filterMap vertP := ⟨_, rfl⟩
  have hVm : ∀ v ∈ V, (v.X0 ∈ (p0 :: r0).map (·.X)) ∧ v.Y0 ∈ (p0 :: r0).map (·.Y) ∧ v.Y1 ∈ (p0 :: r0).map (·.Y) := fun v hv => by
    rw [hV] at hv
    obtain ⟨s, hs, hsv⟩ := List.mem_filterMap.1 hv
    obtain ⟨s1, s2⟩ := nxt_mem (show s ∈ nxt p0 (p0 :: r0) from hs)
    have s2' : s.2 ∈ p0 :: r0 := s2.elim id fun e => e ▸ List.mem_cons_self
    unfold vertP at hsv
    split at hsv
    · cases Option.some.inj hsv
      refine ⟨List.mem_map.2 ⟨s.1, s1, rfl⟩, ?_, ?_⟩
      · show min s.1.Y s.2.Y ∈ _
        rcases (show min s.1.Y s.2.Y = s.1.Y ∨ min s.1.Y s.2.Y = s.2.Y by omega) with e | e <;> rw [e]
        · exact List.mem_map.2 ⟨s.1, s1, rfl⟩
        · exact List.mem_map.2 ⟨s.2, s2', rfl⟩
      · show max s.1.Y s.2.Y ∈ _
        rcases (show max s.1.Y s.2.Y = s.2.Y ∨ max s.1.Y s.2.Y = s.1.Y by omega) with e | e <;> rw [e]
        · exact List.mem_map.2 ⟨s.2, s2', rfl⟩
        · exact List.mem_map.2 ⟨s.1, s1, rfl⟩
    · cases hsv
  have hVl : V.length ≤ 2000 := by
    rw [hV]
    refine Nat.le_trans (List.length_filterMap_le _ _) ?_
    have := nxt_len p0 (p0 :: r0)
    show (nxt p0 (p0 :: r0)).length ≤ 2000
    omega
  have hVx : ∀ v ∈ V, -1000000000 ≤ v.X0 ∧ v.X0 ≤ 1000000000 := fun v hv => by
    obtain ⟨p, hp, e⟩ := List.mem_map.1 (hVm v hv).1
    have := hb p hp
    omega
  obtain ⟨U, u1, u2, u3⟩ := sort_key (c := fun z0 z1 => F_shape_Around_1 z0 z1) (k := fun r => r.X0) (l := V) (by omega) (fun x hx y hy => by
    have a := hVx x hx; have b := hVx y hy
    unfold F_shape_Around_1
    rw [w64_id (by omega) (by omega)])
  have hxs : ∀ y, (xsAt U y).Perm ((crossN y (sidesP (p0 :: r0))).map (·.1.X)) := fun y => by
    rw [← vert_cross, ← hV]
    exact (u2.filter _).map _
  have hev : ∀ y, (xsAt U y).length % 2 = 0 := fun y => by
    rw [(hxs y).length_eq, List.length_map]; exact cross_even y hax
  have hcle : ∀ x y, cle x (xsAt U y) = cle x ((crossN y (sidesP (p0 :: r0))).map (·.1.X)) := fun x y => ((hxs y).filter _).length_eq
  obtain ⟨ys, hys⟩ : ∃ ys, ys = srtd ((p0 :: r0).map (·.Y)) := ⟨_, rfl⟩
  have hysl : ys.length ≤ 2000 := by rw [hys]; exact Nat.le_trans (srtd_len _) (by simpa using hl)
  obtain ⟨b1, b2⟩ := fA_bands (up := U) (ys := ys) (by rw [hys]; exact srtd_strict _) u3 hev (fun s hs => by
    have := hVm s (u2.subset hs)
    rw [hys, srtd_mem, srtd_mem]; exact this.2)
  have hUl : U.length ≤ 2000 := by rw [u2.length_eq]; exact hVl
  have hrow : ∀ y, (fA U y).length ≤ 2000 := fun y => by
    have h1 := flatS_len (fA U y)
    rw [(fA_ok u3 hev y).1] at h1
    have h2 := canc_len (xsAt U y)
    have h3 : (xsAt U y).length ≤ U.length := by unfold xsAt; rw [List.length_map]; exact List.length_filter_le _ _
    omega
  obtain ⟨c1, c2⟩ := bandsF_len hrow ys [] (fun c hc => by cases hc)
  refine ⟨bandsF (fA U) ys [], ?_, b1, by simp at c1; omega, c2, fun x y => by rw [b2, hcle]; rfl⟩
  unfold F_shape_Around
  rw [F_shape_Around_L3]
  have hsl := sides_loop (l := p0 :: r0) (p0 := p0) rfl (by omega) (K := F_shape_Around_L3 N [] (0 + 1)) (p0 :: r0) [] [] [] rfl (by simp) (by simp)
  rw [show ([] : List TPoint).length = 0 from rfl] at hsl
  rw [hsl, List.nil_append, List.nil_append, F_shape_Around_L3]
  have hso := srtd_ok (l := (p0 :: r0).map (·.Y)) (by rw [List.length_map]; omega)
  rw [srtI_ok (by rw [List.length_map]; omega), Option.bind_some] at hso ⊢
  rw [hso, Option.bind_some, show (nxt p0 (p0 :: r0)).filterMap vertP = V from hV.symm, u1, Option.bind_some, ← hys]
  exact bands_loop (by rw [hys]; exact srtd_strict _) u3 hev (by omega) (by omega) ys [] N [] rfl (by omega) (by simp; omega)
end Go.Proofs.YtcjeebkoafonpaaGreatDoor
namespace Go.Proofs.YtcjeebkoafonpaaGreatDoor
open PX
theorem nxt_nxp (z : Int × Int) : ∀ l : List (Int × Int), nxt (toPt z) (l.map toPt) = (nxp z l).map fun s => (toPt s.1, toPt s.2)
  | [] => rfl
  | x :: r => by
    have e : nxp z (x :: r) = (x, r.headD z) :: nxp z r := rfl
    rw [List.map_cons, nxt_cons, nxt_nxp z r, e, List.map_cons]
    congr 1
    cases r <;> rfl
theorem sidesP_nxp {l : List (Int × Int)} : sidesP (l.map toPt) = (nxp (l.headD (0, 0)) l).map fun s => (toPt s.1, toPt s.2) := by
  cases l with
  | nil => rfl
  | cons x r => exact nxt_nxp x (x :: r)
theorem crossN_crx (y : Int) (l : List (Int × Int)) : (crossN y (sidesP (l.map toPt))).map (·.1.X) = crx y l := by
  rw [sidesP_nxp]
  unfold crossN crx
  rw [List.filter_map, List.map_map]
  rfl
theorem rowL_ax {l : List TPoint} {p0 : TPoint} (h0 : l.head? = some p0) : ∀ (suf pre : List TPoint), l = pre ++ suf → rowL l suf pre.length = true → axS (nxt p0 suf)
  | [], _, _, _ => fun s hs => by cases hs
  | x :: r, pre, he, h => by
    have hnx : l.getD ((pre.length + 1) % l.length) ⟨0, 0⟩ = (r ++ [p0]).headD p0 := by
      have := next_head (pre := pre) (r := r) (x := x) (p0 := p0) (by rw [← he]; exact h0)
      rw [he]; exact this
    rw [rowL, hnx] at h
    split at h
    · cases h
    rename_i hne
    have ih := rowL_ax h0 r (pre ++ [x]) (by rw [he]; simp) (by rw [List.length_append]; exact h)
    rw [nxt_cons]
    intro s hs
    rcases List.mem_cons.1 hs with rfl | hs
    · intro hc
      refine hne ?_
      simp only at hc
      rw [beq_iff_eq, Bool.eq_iff_iff, beq_iff_eq, beq_iff_eq]
      rw [hc]
    · exact ih s hs
theorem rowL_axS {l : List TPoint} (h : rowL l l 0 = true) : axS (sidesP l) := by
  cases l with
  | nil => intro s hs; cases hs
  | cons p r => exact rowL_ax (p0 := p) rfl (p :: r) [] rfl h
theorem sidesP_mem {l : List TPoint} {s : TPoint × TPoint} (h : s ∈ sidesP l) : s.1 ∈ l ∧ s.2 ∈ l := by
  cases l with
  | nil => cases h
  | cons p r =>
    obtain ⟨h1, h2⟩ := nxt_mem (show s ∈ nxt p (p :: r) from h)
    exact ⟨h1, h2.elim id fun e => e ▸ List.mem_cons_self⟩
/-- A row, moved. -/
theorem cle_zero {x : Int} {l : List Int} (h : ∀ z ∈ l, x < z) : cle x l = 0 := by
  unfold cle
  rw [List.length_eq_zero_iff, List.filter_eq_nil_iff]
  intro z hz
  have := h z hz
  simp; omega
theorem cle_all {x : Int} {l : List Int} (h : ∀ z ∈ l, z ≤ x) : cle x l = l.length := by
  unfold cle
  rw [List.filter_eq_self.2]
  intro z hz
  simpa using h z hz
/-- What lies in a row lies in its box. -/
theorem inRow_lim {l : List TPoint} (hax : axS (sidesP l)) (hp : ∀ q ∈ l, (-1000000 ≤ q.X ∧ q.X ≤ 1000000) ∧ (-1000000 ≤ q.Y ∧ q.Y ≤ 1000000)) {x y : Int} (h : inRow l x y) : (-1000000 ≤ x ∧ x < 1000000) ∧ (-1000000 ≤ y ∧ y < 1000000) := by
  unfold inRow at h
  have hm : ∀ z ∈ (crossN y (sidesP l)).map (·.1.X), (-1000000 ≤ z ∧ z ≤ 1000000) ∧ (-1000000 ≤ y ∧ y < 1000000) := by
    intro z hz
    obtain ⟨s, hs, rfl⟩ := List.mem_map.1 hz
    unfold crossN at hs
    obtain ⟨h1, h2⟩ := List.mem_filter.1 hs
    obtain ⟨m1, m2⟩ := sidesP_mem h1
    have p1 := hp _ m1
    have p2 := hp _ m2
    simp only [Bool.and_eq_true, decide_eq_true_eq] at h2
    omega
  have hlo : -1000000 ≤ x := by
    apply Classical.byContradiction
    intro hx
    rw [cle_zero fun z hz => by have := hm z hz; omega] at h
    omega
  have hhi : x < 1000000 := by
    apply Classical.byContradiction
    intro hx
    rw [cle_all fun z hz => by have := hm z hz; omega, List.length_map, cross_even y hax] at h
    omega
  refine ⟨⟨hlo, hhi⟩, ?_⟩
  cases hc : (crossN y (sidesP l)).map (·.1.X) with
  | nil =>
    rw [hc] at h
    have e : cle x [] = 0 := rfl
    rw [e] at h
    omega
  | cons z t => exact (hm z (by rw [hc]; exact List.mem_cons_self)).2
theorem mul_lim {a b : Int} (ha : -1000000 ≤ a ∧ a ≤ 1000000) (hb : -1000000 ≤ b ∧ b ≤ 1000000) : -1000000000000 ≤ a * b ∧ a * b ≤ 1000000000000 := by
  have h : (a * b).natAbs ≤ 1000000 * 1000000 := by
    rw [Int.natAbs_mul]
    exact Nat.mul_le_mul (by omega) (by omega)
  omega
/-- What is counted of the corners is what they tell. -/
theorem arW_sum {l : List (Int × Int)} {z : Int × Int} (h0 : l.head? = some z) (hl : l.length ≤ 2000) (hp : ∀ q ∈ l, (-1000000 ≤ q.1 ∧ q.1 ≤ 1000000) ∧ (-1000000 ≤ q.2 ∧ q.2 ≤ 1000000)) : ∀ (suf pre : List (Int × Int)) (x : Int), l = pre ++ suf →
    (-(2000000000000 * (pre.length : Int)) ≤ x ∧ x ≤ 2000000000000 * (pre.length : Int)) →
    arW (l.map toPt) (suf.map toPt) pre.length x = x + ((nxp z suf).map crs1).sum ∧ (-(2000000000000 * (l.length : Int)) ≤ x + ((nxp z suf).map crs1).sum ∧ x + ((nxp z suf).map crs1).sum ≤ 2000000000000 * (l.length : Int))
  | [], pre, x, he, hx => by
    have : l.length = pre.length := by rw [he]; simp
    show x = x + 0 ∧ (_ ≤ x + 0 ∧ x + 0 ≤ _)
    omega
  | q :: r, pre, x, he, hx => by
    have hlen : l.length = pre.length + r.length + 1 := by rw [he]; simp; omega
    have hnx : (l.map toPt).getD ((pre.length + 1) % (l.map toPt).length) ⟨0, 0⟩ = toPt (r.headD z) := by
      rw [List.length_map]
      cases r with
      | nil =>
        rw [hlen, List.length_nil, Nat.add_zero, Nat.mod_self]
        cases l with
        | nil => cases h0
        | cons y t => cases h0; rfl
      | cons y t =>
        rw [Nat.mod_eq_of_lt (by rw [hlen]; simp), List.getD_eq_getElem?_getD, List.getElem?_map, he, List.getElem?_append_right (by omega)]
        simp
    have hq := hp q (by rw [he]; simp)
    have hn : (-1000000 ≤ (r.headD z).1 ∧ (r.headD z).1 ≤ 1000000) ∧ (-1000000 ≤ (r.headD z).2 ∧ (r.headD z).2 ≤ 1000000) := by
      cases r with
      | nil =>
        apply hp
        cases l with
        | nil => cases h0
        | cons y t => cases h0; exact List.mem_cons_self
      | cons y t => exact hp y (by rw [he]; simp)
    have m1 := mul_lim hq.1 hn.2
    have m2 := mul_lim hn.1 hq.2
    rw [List.map_cons, arW, hnx]
    show arW (l.map toPt) (r.map toPt) (pre.length + 1) (w64 (x + w64 (w64 (q.1 * (r.headD z).2) - w64 ((r.headD z).1 * q.2)))) = x + (crs1 (q, r.headD z) + ((nxp z r).map crs1).sum) ∧ (_ ≤ x + (crs1 (q, r.headD z) + ((nxp z r).map crs1).sum) ∧ x + (crs1 (q, r.headD z) + ((nxp z r).map crs1).sum) ≤ _)
    have ec : crs1 (q, r.headD z) = q.1 * (r.headD z).2 - (r.headD z).1 * q.2 := rfl
    rw [ec]
    generalize q.1 * (r.headD z).2 = A at m1
    generalize (r.headD z).1 * q.2 = B at m2
    rw [w64_id (x := A) (by omega) (by omega), w64_id (x := B) (by omega) (by omega), w64_id (x := A - B) (by omega) (by omega), w64_id (x := x + (A - B)) (by omega) (by omega)]
    have ih := arW_sum h0 hl hp r (pre ++ [q]) (x + (A - B)) (by rw [he]; simp) (by rw [List.length_append, List.length_singleton]; omega)
    rw [List.length_append, List.length_singleton] at ih
    rw [ih.1]
    omega
theorem arW_shoe {l : List (Int × Int)} (hl : l.length ≤ 2000) (hp : ∀ q ∈ l, (-1000000 ≤ q.1 ∧ q.1 ≤ 1000000) ∧ (-1000000 ≤ q.2 ∧ q.2 ≤ 1000000)) : arW (l.map toPt) (l.map toPt) 0 0 = shoe l ∧ (-4000000000000000 ≤ shoe l ∧ shoe l ≤ 4000000000000000) := by
  cases l with
  | nil => exact ⟨rfl, by decide, by decide⟩
  | cons z t =>
    have h := arW_sum (l := z :: t) (z := z) rfl hl hp (z :: t) [] 0 rfl (by simp)
    have e : shoe (z :: t) = ((nxp z (z :: t)).map crs1).sum := rfl
    rw [← e, Int.zero_add] at h
    refine ⟨h.1, ?_⟩
    omega
def ptOf (q : TPoint) : Int × Int := (q.X, q.Y)
theorem pts_back (o : List (List TPoint)) : (o.map (List.map ptOf)).map (List.map toPt) = o := by
  rw [List.map_map]
  conv => rhs; rw [← List.map_id o]
  apply List.map_congr_left
  intro l _
  show (l.map ptOf).map toPt = l
  rw [List.map_map]
  conv => rhs; rw [← List.map_id l]
  apply List.map_congr_left
  intro q _
  rfl
theorem pts_there (ls : List (List (Int × Int))) : (ls.map (List.map toPt)).map (List.map ptOf) = ls := by
  rw [List.map_map]
  conv => rhs; rw [← List.map_id ls]
  apply List.map_congr_left
  intro l _
  show (l.map toPt).map ptOf = l
  rw [List.map_map]
  conv => rhs; rw [← List.map_id l]
  apply List.map_congr_left
  intro q _
  rfl
/-- What is known of a row and its border. -/
structure RowW (l : List TPoint) (W : List Ed) : Prop where
  good : GoodRow l
  few : l.length ≤ 2000
  inn : ∀ x y, inRow l x y ↔ wd W x y ≠ 0
  kind : kindR l = if ar W < 0 then 2 else 1
  size : KP l = -(2 * max (ar W) (-(ar W)))
/-- The rows of a region by their areas are borders that, painted, give the region. -/
theorem rows_paint {I : Sq} {ls : List (List (Int × Int))} (ho : Outs I ls) (hf : ∃ B, Fin_ I B) (hI : Lims I) {o : List (List TPoint)} (hB : ByArea (ls.map (List.map toPt)) o) (hl : o.flatten.length ≤ 2000) :
    ∃ os : List (List TPoint × List Ed), os.map (·.1) = o ∧ (∀ p ∈ os, RowW p.1 p.2) ∧ ∀ x y, ((os.map (·.2)).foldl pstep fun _ _ => False) x y ↔ I x y = true := by
  have hg := rows_good ho hf hI
  obtain ⟨B, hfB⟩ := hf
  have hfin : ∀ y, ∃ lo, ∀ x, x ≤ lo → I x y = false := fun y => ⟨-1000001, fun x hx => by
    cases h : I x y with
    | false => rfl
    | true => have := (hI x y h).1; omega⟩
  obtain ⟨wf, w1, w2⟩ := outs_painted hfB ho hfin
  have hperm : (o.map (List.map ptOf)).Perm ls := by
    have := hB.len.map (List.map ptOf)
    rwa [pts_there] at this
  have hback := pts_back o
  have hlen : ∀ m ∈ o.map (List.map ptOf), m.length ≤ 2000 := by
    intro m hm
    obtain ⟨l, hl2, rfl⟩ := List.mem_map.1 hm
    have := mem_flat hl2
    rw [List.length_map]; omega
  have facts : ∀ m ∈ o.map (List.map ptOf), RowW (m.map toPt) (wf m) := by
    intro m hm
    have hml := hperm.mem_iff.1 hm
    have hgm := hg (m.map toPt) (List.mem_map.2 ⟨m, hml, rfl⟩)
    obtain ⟨f1, f2⟩ := w1 m hml
    have hs := arW_shoe (hlen m hm) (fun q hq => hgm.2.1 (toPt q) (List.mem_map.2 ⟨q, hq, rfl⟩))
    rw [f2] at hs
    refine ⟨hgm, by rw [List.length_map]; exact hlen m hm, fun x y => ?_, ?_, ?_⟩
    · rw [← f1 x y]
      unfold inRow
      rw [crossN_crx]
      exact Iff.rfl
    · unfold kindR
      rw [hs.1]
      by_cases c : ar (wf m) < 0
      · rw [if_pos (by omega), if_pos c]
      · rw [if_neg (by omega), if_neg c]
    · unfold KP ST.KR rowOf
      simp only
      rw [hs.1, w64_id (by omega) (by omega)]
      omega
  refine ⟨(o.map (List.map ptOf)).map fun m => (m.map toPt, wf m), ?_, ?_, ?_⟩
  · rw [List.map_map]
    exact hback
  · intro p hp
    obtain ⟨m, hm, rfl⟩ := List.mem_map.1 hp
    exact facts m hm
  · rw [List.map_map]
    refine w2 (o.map (List.map ptOf)) hperm ?_
    have hpw := hB.1
    rw [← hback, List.pairwise_map] at hpw
    refine List.Pairwise.imp_of_mem ?_ hpw
    intro a b ha hb hab
    rw [(facts a ha).size, (facts b hb).size] at hab
    omega
end Go.Proofs.YtcjeebkoafonpaaGreatDoor
namespace Go.Proofs.YtcjeebkoafonpaaGreatDoor
/-- Places. -/
def ptB (q : TPoint) : Bool := (decide (-1000000 ≤ q.X) && decide (q.X ≤ 1000000)) && (decide (-1000000 ≤ q.Y) && decide (q.Y ≤ 1000000))
theorem ptB_iff {q : TPoint} : ptB q = true ↔ (-1000000 ≤ q.X ∧ q.X ≤ 1000000) ∧ (-1000000 ≤ q.Y ∧ q.Y ≤ 1000000) := by unfold ptB; simp
theorem IsPt_ok (q : TPoint) : F_shape_IsPoint q = some (ptB q) := by
  unfold F_shape_IsPoint F_shape_IsAt F_shape_within ptB
  cases (decide (-1000000 ≤ q.X) && decide (q.X ≤ 1000000)) <;> rfl
/-! Sets combined: by their squares. -/
def CmbP (c : Bool) (I S : List Bd) (x y : Int) : Prop := if c then InB x y I ∧ ¬ InB x y S else InB x y I ∨ InB x y S
open Classical in
noncomputable def cmb (c : Bool) (I S : List Bd) : List Bd := if h : ∃ C, BOk C ∧ ∀ x y, InB x y C ↔ CmbP c I S x y then h.choose else []
theorem cmb_eq {c : Bool} {I S C : List Bd} (h1 : BOk C) (h2 : ∀ x y, InB x y C ↔ CmbP c I S x y) : cmb c I S = C := by
  have h : ∃ C, BOk C ∧ ∀ x y, InB x y C ↔ CmbP c I S x y := ⟨C, h1, h2⟩
  unfold cmb
  rw [dif_pos h]
  exact h.choose_spec.1.uniq h1 fun x y => by rw [h.choose_spec.2, h2]
open Classical in
noncomputable def arB (l : List TPoint) : List Bd := if h : ∃ A, BOk A ∧ ∀ x y, InB x y A ↔ inRow l x y then h.choose else []
theorem arB_eq {l : List TPoint} {A : List Bd} (h1 : BOk A) (h2 : ∀ x y, InB x y A ↔ inRow l x y) : arB l = A := by
  have h : ∃ A, BOk A ∧ ∀ x y, InB x y A ↔ inRow l x y := ⟨A, h1, h2⟩
  unfold arB
  rw [dif_pos h]
  exact h.choose_spec.1.uniq h1 fun x y => by rw [h.choose_spec.2, h2]
/-- An image that is right. -/
structure ImgOk (I : List Bd) : Prop where
  ok : BOk I
  few : (rectsB I).length ≤ 2000
  lim : (rectsB I).all lim = true
/-- Something that can be drawn. -/
structure DrwOk (S : List Bd) : Prop where
  ok : BOk S
  few : S.length ≤ 100000
  row : ∀ b ∈ S, b.2.2.length ≤ 10000
  tot : (rectsB S).length ≤ 100000000
theorem ImgOk.drw {I : List Bd} (h : ImgOk I) : DrwOk I := by
  have h1 := h.ok.le
  have h2 := h.few
  exact ⟨h.ok, by omega, fun b hb => by have := rectsB_row hb; omega, by omega⟩
noncomputable def drw (c : Bool) (I S : List Bd) : Int × List Bd := if (rectsB S).all lim then (if 2000 < (rectsB (cmb c I S)).length then (2, cmb c I S) else (0, cmb c I S)) else (1, I)
theorem lim_pts {I : List Bd} (h : BOk I) : (rectsB I).all lim = true ↔ ∀ x y, InB x y I → (-1000000 ≤ x ∧ x < 1000000) ∧ (-1000000 ≤ y ∧ y < 1000000) := by
  rw [List.all_eq_true]
  constructor
  · intro hl x y hx
    obtain ⟨r, hr, h1, h2⟩ := (InR_rectsB h x y).2 hx
    have := lim_iff.1 (hl r hr)
    omega
  · intro hp r hr
    have := rectsB_lim h (m := 1000000) hp r hr
    rw [lim_iff]; omega
theorem cmb_ok {c : Bool} {I S : List Bd} (hI : DrwOk I) (hS : DrwOk S) {N : Nat} (hN : 10000000000 ≤ N) : (if c then F_shape_Set__Less N (I.map toP) (S.map toP) else F_shape_Set__Or N (I.map toP) (S.map toP)) = some ((cmb c I S).map toP) ∧ BOk (cmb c I S) ∧ (∀ x y, InB x y (cmb c I S) ↔ CmbP c I S x y) ∧ (rectsB (cmb c I S)).length ≤ 1000000000000 := by
  cases c
  · obtain ⟨C, c1, c2, c3, c4⟩ := orS_ok hN hI.ok hS.ok hI.row hS.row hI.few hS.few
    have := cmb_eq (c := false) c2 c3
    rw [this]
    exact ⟨c1, c2, c3, c4⟩
  · obtain ⟨C, c1, c2, c3, c4⟩ := lessS_ok hN hI.ok hS.ok hI.row hS.row hI.few hS.few
    have := cmb_eq (c := true) c2 c3
    rw [this]
    exact ⟨c1, c2, c3, c4⟩
theorem drw_img {c : Bool} {I S : List Bd} (hI : ImgOk I) (hS : DrwOk S) (h : (drw c I S).1 = 0) : ImgOk (drw c I S).2 := by
  obtain ⟨_, c2, c3, _⟩ := cmb_ok (c := c) hI.drw hS (Nat.le_refl _)
  unfold drw at h ⊢
  by_cases hl : (rectsB S).all lim = true
  · rw [if_pos hl] at h ⊢
    by_cases hm : 2000 < (rectsB (cmb c I S)).length
    · rw [if_pos hm] at h; cases h
    · rw [if_neg hm]
      refine ⟨c2, Nat.le_of_not_lt hm, (lim_pts c2).2 fun x y hx => ?_⟩
      have h1 := (lim_pts hI.ok).1 hI.lim x y
      have h2 := (lim_pts hS.ok).1 hl x y
      rw [c3] at hx
      unfold CmbP at hx
      cases c
      · rcases hx with hx | hx
        · exact h1 hx
        · exact h2 hx
      · exact h1 hx.1
  · rw [if_neg hl] at h; cases h
theorem draw_ok {N : Nat} (hN : 10000000000 ≤ N) {m : TMachine} {I S : List Bd} (hI : ImgOk I) (hm : m.image = I.map toP) (hS : DrwOk S) : F_plot_machine__draw N m (S.map toP) = some ((drw m.clear I S).1, (drw m.clear I S).2.map toP) := by
  obtain ⟨c1, c2, c3, c4⟩ := cmb_ok (c := m.clear) hI.drw hS hN
  have hf := Fits_ok (L := rectsB S) hS.tot (rectsB_ne hS.ok)
  rw [setB_rectsB hS.ok] at hf
  unfold F_plot_machine__draw drw
  rw [hf, Option.bind_some]
  by_cases hl : (rectsB S).all lim = true
  · rw [hl, if_neg (by simp), if_pos rfl]
    have hj : ∀ C : List Bd, (rectsB C).length ≤ 1000000000000 → F_plot_machine__draw_J1 (C.map toP) = some ((if 2000 < (rectsB C).length then ((2 : Int), C) else (0, C)).1, (if 2000 < (rectsB C).length then ((2 : Int), C) else (0, C)).2.map toP) := fun C hC => by
      unfold F_plot_machine__draw_J1
      rw [Many_ok (by omega), Option.bind_some]
      by_cases hm : 2000 < (rectsB C).length
      · rw [if_pos (by simp; omega), if_pos hm]
      · rw [if_neg (by simp; omega), if_neg hm]
    rw [hm]
    cases hc : m.clear
    · rw [hc] at c1 c4
      simp only [Bool.false_eq_true, if_false] at c1 ⊢
      rw [c1, Option.bind_some, hj _ c4]
    · rw [hc] at c1 c4
      simp only [if_true] at c1 ⊢
      rw [c1, Option.bind_some, hj _ c4]
  · have hl' : (rectsB S).all lim = false := by simpa using hl
    rw [hl', if_pos (by rfl), if_neg (by simp), hm]
end Go.Proofs.YtcjeebkoafonpaaGreatDoor
namespace Go.Proofs.YtcjeebkoafonpaaGreatDoor
open PX
theorem moved1 {m : TMachine} (hu : m.p.Unit = 1) {q : TPoint} (hq : (-1000000 ≤ q.X ∧ q.X ≤ 1000000) ∧ (-1000000 ≤ q.Y ∧ q.Y ≤ 1000000)) : F_plot_machine__moved m q ⟨0, 0⟩ = some q := by
  unfold F_plot_machine__moved
  rw [hu, Int.mul_one, Int.mul_one, w64_id (x := q.X) (by omega) (by omega), w64_id (x := q.Y) (by omega) (by omega), Int.add_zero, Int.add_zero, w64_id (by omega) (by omega), w64_id (by omega) (by omega)]
theorem area_any {l : List TPoint} : F_slices_ContainsFunc_Point l (fun z0 => F_plot_machine__area_1 z0) = some (l.any fun q => !ptB q) := by
  have key : ∀ (l : List TPoint) (i : Nat), F_slices_IndexFunc_Point_L1 (fun z0 => F_plot_machine__area_1 z0) l i = some (ixOf (fun q => !ptB q) l (i : Int)) := by
    intro l
    induction l with
    | nil => intro i; rfl
    | cons x r ih =>
      intro i
      rw [F_slices_IndexFunc_Point_L1, ixOf, ih]
      have e : F_plot_machine__area_1 x = some (!ptB x) := by
        unfold F_plot_machine__area_1
        rw [IsPt_ok]; rfl
      rw [e, Option.bind_some]
      split <;> rfl
  unfold F_slices_ContainsFunc_Point F_slices_IndexFunc_Point
  rw [key, Option.bind_some]
  exact congrArg some (ixOf_any _ l 0 (by omega))
theorem area_go {N : Nat} {m : TMachine} (hu : m.p.Unit = 1) : ∀ (suf : List TPoint) (i : Nat) (out : List TPoint), out.length + suf.length ≤ 1000000 → (∀ q ∈ suf, (-1000000 ≤ q.X ∧ q.X ≤ 1000000) ∧ (-1000000 ≤ q.Y ∧ q.Y ≤ 1000000)) → F_plot_machine__area_L1 N m ⟨0, 0⟩ suf i out = F_plot_machine__area_L1 N m ⟨0, 0⟩ [] 0 (out ++ suf)
  | [], i, out, _, _ => by rw [List.append_nil]; rfl
  | x :: r, i, out, h, hq => by
    simp at h
    rw [F_plot_machine__area_L1.eq_2, moved1 hu (hq x List.mem_cons_self), Option.bind_some, apd_ok (by simp; omega), Option.bind_some, area_go hu r (i + 1) _ (by simp; omega) (fun q h => hq q (List.mem_cons_of_mem _ h))]
    simp
/-- A row is drawn. -/
theorem area_ok2 {N : Nat} (hN : 10000000000 ≤ N) {m : TMachine} (hu : m.p.Unit = 1) {I : List Bd} (hI : ImgOk I) (hm : m.image = I.map toP) {l : List TPoint} {W : List Ed} (hr : RowW l W) (hc : m.clear = decide (ar W < 0)) {f : Int → Int → Prop} (hf : ∀ x y, InB x y I ↔ f x y) :
    ∃ e J, F_plot_machine__area N m l ⟨0, 0⟩ = some (e, J.map toP) ∧ (e = 0 ∨ e = 2) ∧ (e = 0 → ImgOk J ∧ ∀ x y, InB x y J ↔ pstep f W x y) := by
  have hax := rowL_axS hr.good.2.2
  obtain ⟨A, a1, a2, a3, a4, a5⟩ := Around_row hN (l := l) (by
    intro h
    have := hr.good.1
    rw [h] at this; simp at this) hr.few (fun q hq => by have := hr.good.2.1 q hq; omega) hax
  have htot := rectsB_len a4
  have hD : DrwOk A := ⟨a2, by omega, fun b hb => by have := a4 b hb; omega, Nat.le_trans htot (by have := Nat.mul_le_mul_left 2000 a3; omega)⟩
  have hlim : (rectsB A).all lim = true := (lim_pts a2).2 fun x y h => inRow_lim hax hr.good.2.1 ((a5 x y).1 h)
  have hany : (l.any fun q => !ptB q) = false := by
    rw [List.any_eq_false]
    intro q hq
    rw [ptB_iff.2 (hr.good.2.1 q hq)]; decide
  unfold F_plot_machine__area
  rw [area_go hu l 0 [] (by have := hr.few; simp; omega) hr.good.2.1, List.nil_append]
  rw [F_plot_machine__area_L1, a1, Option.bind_some, Many_ok (by have := hD.tot; omega), Option.bind_some]
  by_cases hmany : 2000 < (rectsB A).length
  · rw [if_pos (by simp; omega)]
    exact ⟨2, I, by rw [hm], .inr rfl, fun h => by cases h⟩
  · rw [if_neg (by simp; omega), area_any, Option.bind_some, hany, if_neg (by decide), draw_ok hN hI hm hD, Option.bind_some]
    have hd : drw m.clear I A = if 2000 < (rectsB (cmb m.clear I A)).length then (2, cmb m.clear I A) else (0, cmb m.clear I A) := by unfold drw; rw [if_pos hlim]
    refine ⟨(drw m.clear I A).1, (drw m.clear I A).2, rfl, ?_, fun h => ⟨drw_img hI hD h, fun x y => ?_⟩⟩
    · rw [hd]; split
      · exact .inr rfl
      · exact .inl rfl
    · obtain ⟨_, _, c3, _⟩ := cmb_ok (c := m.clear) hI.drw hD hN
      have e2 : (drw m.clear I A).2 = cmb m.clear I A := by rw [hd]; split <;> rfl
      rw [e2, c3]
      unfold CmbP pstep
      rw [hc, hf, a5, hr.inn]
      by_cases c : ar W < 0
      · rw [if_pos (by simp [c]), if_pos c, Classical.not_not]
      · rw [if_neg (by simp [c]), if_neg c]
theorem stepK_ok {rec : TMachine → List TPlotStep → TPoint → Option (Int × Bool × List TBand)} {N : Nat} {m : TMachine} (hu : m.p.Unit = 1) {k : Int} (hk : k = 1 ∨ k = 2) : F_plot_machine__step rec N m (stepK k) ⟨0, 0⟩ = some (0, k == 2, m.image) := by
  unfold F_plot_machine__step
  rw [show (stepK k).At = ⟨0, 0⟩ from rfl, moved1 hu ⟨by decide, by decide⟩, Option.bind_some]
  rcases hk with rfl | rfl
  · rw [if_pos (by show ((1 : Int) == 1) = true; decide)]; rfl
  · rw [if_neg (by show ¬ ((2 : Int) == 1) = true; decide)]; rfl
theorem stepA_ok {rec : TMachine → List TPlotStep → TPoint → Option (Int × Bool × List TBand)} {N : Nat} {m : TMachine} (hu : m.p.Unit = 1) {l : List TPoint} : F_plot_machine__step rec N m (stepA l) ⟨0, 0⟩ = (F_plot_machine__area N m l ⟨0, 0⟩).bind fun y => some (y.1, m.clear, y.2) := by
  unfold F_plot_machine__step
  rw [show (stepA l).At = ⟨0, 0⟩ from rfl, moved1 hu ⟨by decide, by decide⟩, Option.bind_some, if_neg (by show ¬ ((7 : Int) == 1) = true; decide)]
  unfold F_plot_machine__step_J3
  rw [if_neg (by show ¬ ((7 : Int) == 2) = true; decide), if_neg (by show ¬ ((7 : Int) == 3) = true; decide), if_neg (by show ¬ ((7 : Int) == 4) = true; decide), if_neg (by show ¬ ((7 : Int) == 5) = true; decide), if_neg (by show ¬ ((7 : Int) == 6) = true; decide), if_pos (by show ((7 : Int) == 7) = true; decide)]
  rfl
theorem run_paint {N : Nat} (hN : 10000000000 ≤ N) {m : TMachine} (hu : m.p.Unit = 1) {rec : TMachine → List TPlotStep → TPoint → Option (Int × Bool × List TBand)} : ∀ (os : List (List TPoint × List Ed)) (i : Nat) (I : List Bd) (d : Int) (f : Int → Int → Prop), d = 1 ∨ d = 2 → ImgOk I → (∀ x y, InB x y I ↔ f x y) → (∀ p ∈ os, RowW p.1 p.2) →
    ∃ e c J, F_plot_machine__run_L1 N m ⟨0, 0⟩ rec (ofSteps (os.map (·.1)) d) i (I.map toP) (d == 2) = some (e, c, J.map toP) ∧ (e = 0 ∨ e = 2) ∧ (e = 0 → ImgOk J ∧ ∀ x y, InB x y J ↔ ((os.map (·.2)).foldl pstep f) x y)
  | [], i, I, d, f, _, hI, hf, _ => ⟨0, d == 2, I, rfl, .inl rfl, fun _ => ⟨hI, hf⟩⟩
  | p :: t, i, I, d, f, hd, hI, hf, hr => by
    have hp := hr p List.mem_cons_self
    have hk : kindR p.1 = 1 ∨ kindR p.1 = 2 := by unfold kindR; split <;> simp
    have rest : ∀ j : Nat, ∃ e c J, F_plot_machine__run_L1 N m ⟨0, 0⟩ rec (stepA p.1 :: ofSteps (t.map (·.1)) (kindR p.1)) j (I.map toP) (kindR p.1 == 2) = some (e, c, J.map toP) ∧ (e = 0 ∨ e = 2) ∧ (e = 0 → ImgOk J ∧ ∀ x y, InB x y J ↔ (((p :: t).map (·.2)).foldl pstep f) x y) := by
      intro j
      rw [F_plot_machine__run_L1.eq_2, stepA_ok (by exact hu)]
      obtain ⟨e, J, e1, e2, e3⟩ := area_ok2 hN (m := TMachine.mk m.p m.tools (I.map toP) (kindR p.1 == 2) m.tool m.place m.placed m.off m.on) hu hI rfl hp (by
        show (kindR p.1 == 2) = _
        rw [hp.kind]
        by_cases c : ar p.2 < 0
        · rw [if_pos c]; simp [c]
        · rw [if_neg c]; simp [c]) hf
      rw [e1, Option.bind_some, Option.bind_some]
      by_cases he : e = 0
      · obtain ⟨j1, j2⟩ := e3 he
        rw [if_neg (by simpa using he)]
        obtain ⟨e', c', J', g1, g2, g3⟩ := run_paint hN hu (rec := rec) t (j + 1) J (kindR p.1) (pstep f p.2) hk j1 j2 (fun q hq => hr q (List.mem_cons_of_mem _ hq))
        exact ⟨e', c', J', g1, g2, g3⟩
      · rw [if_pos (by simpa using he)]
        exact ⟨e, kindR p.1 == 2, J, rfl, e2, fun h => absurd h he⟩
    rw [List.map_cons, ofSteps]
    by_cases c : kindR p.1 = d
    · rw [if_pos c]
      have := rest i
      rw [c] at this
      exact this
    · rw [if_neg c, F_plot_machine__run_L1.eq_2, stepK_ok (by exact hu) hk, Option.bind_some, if_neg (by simp)]
      exact rest (i + 1)
theorem img_nil : ImgOk [] := ⟨⟨⟨0, trivial⟩, fun b hb => by cases hb⟩, by simp [rectsB], by simp [rectsB]⟩
theorem img_small {I : List Bd} (h : ImgOk I) : Small I := by
  have h1 := h.drw
  have h2 := h.few
  exact ⟨by have := h1.few; omega, fun b hb => by have := h1.row b hb; omega, by omega⟩
/-- The image of the plot of a region is the region, or it is too large on the way. -/
theorem Image_of {N : Nat} (hN : 20000000000 ≤ N) {r : List TRect} (hr : regionErr r = 0) {ls : List (List (Int × Int))} {o : List (List TPoint)} (ho : Outs (inRb r) ls) (hf : ∃ B, Fin_ (inRb r) B) (hB : ByArea (ls.map (List.map toPt)) o) (hl : o.flatten.length ≤ 2000) (hC : F_plot_CheckPlot N (ofPlot o) = some 0) :
    F_plot_Image N (ofPlot o) = some (r, 0) ∨ F_plot_Image N (ofPlot o) = some ([], 2) := by
  obtain ⟨_, _, r3, r4⟩ := regionErr_ok hr
  obtain ⟨os, o1, o2, o3⟩ := rows_paint ho hf (region_lims r3) hB hl
  obtain ⟨M, rfl⟩ : ∃ n, N = n + 1 := ⟨N - 1, by omega⟩
  have hnew : F_plot_newMachine (ofPlot o) = some ⟨ofPlot o, [], [], false, -1, ⟨0, 0⟩, false, 0, 0⟩ := rfl
  obtain ⟨e, c, J, e1, e2, e3⟩ := run_paint (N := M) (by omega) (m := ⟨ofPlot o, [], [], false, -1, ⟨0, 0⟩, false, 0, 0⟩) rfl (rec := F_plot_machine__run M) os 0 [] 1 (fun _ _ => False) (.inl rfl) img_nil (fun x y => ⟨fun h => by simp [InB, rowAt, InS] at h, fun h => h.elim⟩) o2
  rw [o1] at e1
  have hrun : F_plot_machine__run (M + 1) ⟨ofPlot o, [], [], false, -1, ⟨0, 0⟩, false, 0, 0⟩ (ofPlot o).Steps ⟨0, 0⟩ = some (e, c, J.map toP) := e1
  unfold F_plot_Image F_plot_ImageOf F_plot_drawn
  rw [hC, Option.bind_some, if_neg (by decide), hnew, Option.bind_some, hrun, Option.bind_some, Option.bind_some]
  have hz := Rects_ok (N := M + 1) (by omega) (l := []) ⟨by simp, by simp, by simp [rectsB]⟩
  rw [List.map_nil] at hz
  rcases e2 with rfl | rfl
  · left
    obtain ⟨j1, j2⟩ := e3 rfl
    rw [if_neg (by simp), Option.bind_some]
    show (F_shape_Set__Rects (M + 1) (J.map toP)).bind _ = _
    rw [Rects_ok (by omega) (img_small j1), Option.bind_some]
    have hb := setB_ok (l := r) (fun q hq => (ROk.ne r3) q hq)
    have hJ : J = setB r := j1.ok.uniq hb.1 fun x y => by
      rw [j2, o3, inRb_iff, hb.2]
    rw [hJ, r4]
  · right
    rw [if_pos (by simp), Option.bind_some, hz]
    rfl
end Go.Proofs.YtcjeebkoafonpaaGreatDoor
namespace Go.Proofs.YtcjeebkoafonpaaGreatDoor
theorem samePts_loop : ∀ (suf pre : List TPoint) (m : Nat), suf.length < m → (pre ++ suf).length ≤ 9223372036854775807 → F_etchhouseref3_samePoints_L1 (pre ++ suf) (pre ++ suf) m (pre.length : Int) = some true
  | [], pre, m, hm, hl => by
    obtain ⟨m, rfl⟩ : ∃ k, m = k + 1 := ⟨m - 1, by omega⟩
    rw [F_etchhouseref3_samePoints_L1, lt_end, if_neg (by simp)]
  | q :: l, pre, m, hm, hl => by
    obtain ⟨m, rfl⟩ : ∃ k, m = k + 1 := ⟨m - 1, by simp at hm; omega⟩
    simp at hm hl
    rw [F_etchhouseref3_samePoints_L1, lt_mid, if_pos rfl, idx_mid, Option.bind_some, Option.bind_some, show eqTPoint q q = true from eqTPoint_iff.2 rfl, if_neg (by simp), up_mid2 _ q (by omega), snoc_mid, samePts_loop l (pre ++ [q]) m (by omega) (by simp; omega)]
theorem samePts_ok {N : Nat} {l : List TPoint} (hN : l.length < N) (hl : l.length ≤ 9223372036854775807) : F_etchhouseref3_samePoints N l l = some true := by
  unfold F_etchhouseref3_samePoints
  rw [if_neg (by simp)]
  exact samePts_loop l [] N hN hl
theorem sameSts_loop {N : Nat} {rec : List TPlotStep → List TPlotStep → Option Bool} : ∀ (suf pre : List TPlotStep) (m : Nat), suf.length < m → (pre ++ suf).length ≤ 9223372036854775807 → (∀ x ∈ suf, x.Points.length < N ∧ x.Points.length ≤ 9223372036854775807 ∧ rec x.Steps x.Steps = some true) → F_etchhouseref3_sameSteps_L1 N (pre ++ suf) (pre ++ suf) rec m (pre.length : Int) = some true
  | [], pre, m, hm, hl, h => by
    obtain ⟨m, rfl⟩ : ∃ k, m = k + 1 := ⟨m - 1, by omega⟩
    rw [F_etchhouseref3_sameSteps_L1, lt_end, if_neg (by simp)]
  | x :: l, pre, m, hm, hl, h => by
    obtain ⟨m, rfl⟩ : ∃ k, m = k + 1 := ⟨m - 1, by simp at hm; omega⟩
    simp at hm hl
    obtain ⟨h1, h2, h3⟩ := h x List.mem_cons_self
    rw [F_etchhouseref3_sameSteps_L1, lt_mid, if_pos rfl, idx_mid, Option.bind_some, Option.bind_some]
    simp only [bne_self_eq_false, sEq_iff.2 rfl, eqTPoint_iff.2 rfl, Bool.not_true, Bool.or_self, Bool.false_eq_true, if_false, samePts_ok h1 h2, h3, Option.bind_some]
    rw [up_mid2 _ x (by omega), snoc_mid, sameSts_loop l (pre ++ [x]) m (by omega) (by simp; omega) (fun y hy => h y (List.mem_cons_of_mem _ hy))]
theorem sameSts_ok : ∀ (k : Nat) (l : List TPlotStep) (N : Nat), szSteps l ≤ k → k + 5 ≤ N → l.length ≤ 9223372036854775807 → lenL l → F_etchhouseref3_sameSteps N l l = some true
  | k, l, N, hk, hN, hl, hA => by
    obtain ⟨N, rfl⟩ : ∃ n, N = n + 1 := ⟨N - 1, by omega⟩
    have hlen := szSteps_len l
    show F_etchhouseref3_sameSteps_b N _ l l = _
    unfold F_etchhouseref3_sameSteps_b
    rw [if_neg (by simp)]
    exact sameSts_loop l [] N (by omega) (by simpa using hl) (fun s hs => by
      have h1 := szSteps_mem hs
      have h2 := szStep_eq s
      have h3 := (lenS_eq s).1 (lenL_mem hA hs)
      cases k with
      | zero => omega
      | succ k => exact ⟨by omega, h3.2.2.1.1, sameSts_ok k s.Steps N (by omega) (by omega) h3.2.2.2.2.1 h3.2.2.2.2.2⟩)
end Go.Proofs.YtcjeebkoafonpaaGreatDoor
namespace Go.Proofs.YtcjeebkoafonpaaGreatDoor
/-! Its check. -/
theorem checkA {o : List (List TPoint)} {l : List TPoint} (hg : GoodRow l) (hl : l.length ≤ 2000) (d : Int) : F_plot_checkStep (ofPlot o) (stepA l) d = some 0 := by
  have hu : 1 ≤ (ofPlot o).Unit ∧ (ofPlot o).Unit ≤ 1000 := ⟨by show (1 : Int) ≤ 1; decide, by show (1 : Int) ≤ 1000; decide⟩
  have h1 : F_plot_within (stepA l).Kind 1 8 = some true := rfl
  have h2 : F_plot_fieldsOf (stepA l).Kind = some ⟨false, false, true, false⟩ := rfl
  have h3 : F_plot_isPoint (stepA l).At (ofPlot o).Unit = some true := by rw [isPoint_ok hu]; rfl
  have h4 : (l.any fun q => !fitPt q (ofPlot o).Unit) = false := by
    rw [List.any_eq_false]
    intro q hq h
    have := hg.2.1 q hq
    have e : (ofPlot o).Unit = 1 := rfl
    rw [e] at h
    unfold fitPt fitP at h
    simp only [Bool.not_eq_true', Bool.and_eq_false_iff, decide_eq_false_iff_not] at h
    omega
  have h5 : F_slices_ContainsFunc_Point (stepA l).Points (fun z0 => F_plot_checkStep_1 z0 (ofPlot o)) = some false := by
    show F_slices_ContainsFunc_Point l _ = _
    rw [contains_ok hu, h4]
  have h6 : F_shape_IsRow (stepA l).Points = some true := by
    show F_shape_IsRow l = _
    rw [IsRow_ok (by omega), if_neg (by have := hg.1; omega), hg.2.2]
  have hn : (sEq (stepA l).Name ByteArray.empty) = true := sEq_refl _
  have ha : eqTPoint (stepA l).At (TPoint.mk 0 0) = true := eqTPoint_iff.2 rfl
  have hp : decide (2000 < ((stepA l).Points.length : Int)) = false := by
    show decide (2000 < (l.length : Int)) = false
    rw [decide_eq_false_iff_not]; omega
  have hs : (((stepA l).NX != 0 || (stepA l).NY != 0) || decide (0 < ((stepA l).Steps.length : Int))) = false := rfl
  unfold F_plot_checkStep
  rw [h1, Option.bind_some, if_neg (by decide), h2, Option.bind_some]
  simp only [F_plot_checkStep_J1, hn, ha, h3, h5, h6, hp, hs, Option.bind_some, Bool.not_true, Bool.not_false, Bool.and_false, Bool.false_and, Bool.true_and, Bool.false_eq_true, if_false, if_true]
theorem checkK {o : List (List TPoint)} {k : Int} (hk : k = 1 ∨ k = 2) (d : Int) : F_plot_checkStep (ofPlot o) (stepK k) d = some 0 := by
  have hu : 1 ≤ (ofPlot o).Unit ∧ (ofPlot o).Unit ≤ 1000 := ⟨by show (1 : Int) ≤ 1; decide, by show (1 : Int) ≤ 1000; decide⟩
  have h1 : F_plot_within (stepK k).Kind 1 8 = some true := by rcases hk with rfl | rfl <;> rfl
  have h2 : F_plot_fieldsOf (stepK k).Kind = some ⟨false, false, false, false⟩ := by rcases hk with rfl | rfl <;> rfl
  have h3 : F_plot_isPoint (stepK k).At (ofPlot o).Unit = some true := by rw [isPoint_ok hu]; rfl
  have h5 : F_slices_ContainsFunc_Point (stepK k).Points (fun z0 => F_plot_checkStep_1 z0 (ofPlot o)) = some false := by
    show F_slices_ContainsFunc_Point [] _ = _
    rw [contains_ok hu]; rfl
  have hn : (sEq (stepK k).Name ByteArray.empty) = true := sEq_refl _
  have ha : eqTPoint (stepK k).At (TPoint.mk 0 0) = true := eqTPoint_iff.2 rfl
  have hp : decide (2000 < ((stepK k).Points.length : Int)) = false := rfl
  have hq : decide (0 < ((stepK k).Points.length : Int)) = false := rfl
  have hs : (((stepK k).NX != 0 || (stepK k).NY != 0) || decide (0 < ((stepK k).Steps.length : Int))) = false := rfl
  unfold F_plot_checkStep
  rw [h1, Option.bind_some, if_neg (by decide), h2, Option.bind_some]
  simp only [F_plot_checkStep_J1, hn, ha, h3, h5, hp, hq, hs, Option.bind_some, Bool.not_true, Bool.not_false, Bool.and_false, Bool.false_and, Bool.true_and, Bool.false_eq_true, if_false, if_true]
theorem countP : ∀ (l : List TPlotStep) (i n : Nat), (∀ x ∈ l, x.Steps = []) → n + l.length ≤ 1000 → F_plot_count_L3 l i (n : Int) = some ((n + l.length : Nat) : Int)
  | [], _, _, _, _ => rfl
  | x :: t, i, n, h, hl => by
    simp only [List.length_cons] at hl
    rw [F_plot_count_L3, h x List.mem_cons_self, if_neg (by decide)]
    unfold F_plot_count_J4
    rw [w64_id (by omega) (by omega), if_neg (by rw [decide_eq_true_eq]; omega), show (n : Int) + 1 = ((n + 1 : Nat) : Int) by omega, countP t (i + 1) (n + 1) (fun y hy => h y (List.mem_cons_of_mem _ hy)) (by omega), List.length_cons]
    congr 2; omega
theorem checkP {N : Nat} {p : TPlot} {d : Int} : ∀ (l : List TPlotStep) (i : Nat), (∀ x ∈ l, x.Steps = [] ∧ F_plot_checkStep p x d = some 0) → F_plot_checkSteps_L1 p d (F_plot_checkSteps (N + 1)) l i = some 0
  | [], _, _ => rfl
  | x :: t, i, h => by
    obtain ⟨h1, h2⟩ := h x List.mem_cons_self
    have hz : ∀ e, F_plot_checkSteps (N + 1) p [] e = some 0 := fun e => rfl
    rw [F_plot_checkSteps_L1, h2, Option.bind_some, if_neg (by decide), h1, hz, Option.bind_some, if_neg (by decide)]
    exact checkP t (i + 1) (fun y hy => h y (List.mem_cons_of_mem _ hy))
theorem CheckP_of {N : Nat} {o : List (List TPoint)} (hN : 20000000000 ≤ N) (hg : ∀ l ∈ o, GoodRow l) (hf : o.flatten.length ≤ 2000) : F_plot_CheckPlot N (ofPlot o) = some 0 := by
  have h4 := four_le (fun l hl => (hg l hl).1)
  have h2 := ofSteps_len o 1
  have hs : (ofPlot o).Steps.length ≤ 1000 := by show (ofSteps o 1).length ≤ _; omega
  obtain ⟨M, rfl⟩ : ∃ n, N = n + 2 := ⟨N - 2, by omega⟩
  have hw : F_plot_within (ofPlot o).Unit 1 1000 = some true := rfl
  have hc : F_plot_count (M + 2) (ofPlot o).Steps = some ((0 + (ofPlot o).Steps.length : Nat) : Int) :=
    countP (ofPlot o).Steps 0 0 (fun x hx => (of_steps (o := o) hx).1) (by omega)
  have hk : F_plot_checkSteps (M + 2) (ofPlot o) (ofPlot o).Steps 0 = some 0 :=
    checkP (N := M) (ofPlot o).Steps 0 (fun x hx => ⟨(of_steps (o := o) hx).1, by
      rcases ofSteps_mem hx with ⟨l, hl, rfl⟩ | rfl | rfl
      · exact checkA (hg l hl) (by have := mem_flat hl; omega) 0
      · exact checkK (.inl rfl) 0
      · exact checkK (.inr rfl) 0⟩)
  unfold F_plot_CheckPlot
  rw [hw, Option.bind_some, if_neg (by decide), if_neg (by show ¬ decide (200 < ((0 : Nat) : Int)) = true; decide)]
  show F_plot_CheckPlot_L1 (M + 2) (ofPlot o) [] 0 = _
  rw [F_plot_CheckPlot_L1, hc, Option.bind_some, if_neg (by rw [decide_eq_true_eq]; omega), hk]
  rfl
/-! Its steps are copied. -/
theorem c1_ok (q : TPoint) : F_plot_changed_1__Short_1 q = some q := rfl
theorem sets_mid {α : Type} (pre suf : List α) (x y : α) : sets (pre ++ x :: suf) (pre.length : Int) y = some (pre ++ y :: suf) := by
  unfold sets
  rw [if_pos ⟨by omega, by simp⟩, Int.toNat_natCast, List.set_append_right _ _ (Nat.le_refl _)]
  simp
theorem cpts_loop {y : TPoint} : ∀ (suf pre : List TPoint), F_plot_changed_3__changed_1__Short_1_L1 y suf pre.length (pre ++ suf) = some (y.X, y.Y, pre ++ suf)
  | [], pre => by rw [F_plot_changed_3__changed_1__Short_1_L1]
  | q :: l, pre => by
    rw [F_plot_changed_3__changed_1__Short_1_L1, idx_mid, Option.bind_some, c1_ok, Option.bind_some, Option.bind_some, sets_mid, Option.bind_some]
    have := cpts_loop (y := y) l (pre ++ [q])
    rw [show (pre ++ [q]).length = pre.length + 1 by simp, ← snoc_mid] at this
    exact this
theorem c3_ok (x : TPlotStep) : F_plot_changed_3__changed_1__Short_1 x = some (x.At.X, x.At.Y, x.Points) := by
  unfold F_plot_changed_3__changed_1__Short_1
  rw [c1_ok, Option.bind_some]
  exact cpts_loop x.Points []
theorem set_mid {α : Type} (pre suf : List α) (x y : α) : (pre ++ x :: suf).set ((pre.length : Int).toNat) y = pre ++ y :: suf := by simp
theorem apdC {α : Type} {l : List α} (h : l.length ≤ 4294967296) : apd ([] : List α) l = some l := by
  rw [apd_ok (by simpa using h)]; simp
theorem cown_loop {rec : List TPlotStep → Option (List TPlotStep)} {l0 : List TPlotStep} : ∀ (suf pre : List TPlotStep) (m : Nat), (pre ++ suf).length = l0.length → l0.length ≤ 4000 →
    (∀ x ∈ suf, x.Points.length ≤ 2000 ∧ rec x.Steps = some x.Steps) → suf.length < m →
    F_plot_own__changed_3__changed_1__Short_1_L1 rec l0 m (pre ++ suf) (pre.length : Int) = some (pre ++ suf)
  | [], pre, m, hl, h2, h, hm => by
    obtain ⟨m, rfl⟩ : ∃ k, m = k + 1 := ⟨m - 1, by omega⟩
    simp at hl
    rw [F_plot_own__changed_3__changed_1__Short_1_L1, if_neg (by simp; omega)]
  | x :: l, pre, m, hl, h2, h, hm => by
    obtain ⟨m, rfl⟩ : ∃ k, m = k + 1 := ⟨m - 1, by simp at hm; omega⟩
    simp at hm
    have hl' := hl
    simp at hl'
    obtain ⟨hx1, hx2⟩ := h x List.mem_cons_self
    have hcl : F_slices_Clone_Point x.Points = some x.Points := by
      unfold F_slices_Clone_Point
      rw [apdC (by omega)]; rfl
    have hx : (⟨x.Kind, x.Name, x.At, x.Points, x.NX, x.NY, x.Steps⟩ : TPlotStep) = x := by cases x; rfl
    rw [F_plot_own__changed_3__changed_1__Short_1_L1, if_pos (by simp; omega), idx_mid, Option.bind_some, hcl, Option.bind_some, Option.bind_some, Option.bind_some, hx2, Option.bind_some, Option.bind_some, Option.bind_some, c3_ok, Option.bind_some, set_mid]
    have ih := cown_loop (rec := rec) l (pre ++ [x]) m (by simpa using hl) h2 (fun y hy => h y (List.mem_cons_of_mem _ hy)) (by omega)
    rw [← snoc_mid, ← up_mid2 _ x (by omega)] at ih
    rw [show (TPlotStep.mk x.Kind x.Name (TPoint.mk x.At.X x.At.Y) x.Points x.NX x.NY x.Steps) = x from hx]
    exact ih
theorem own_ok {N : Nat} {l : List TPlotStep} (hN : 5000 ≤ N) (hl : l.length ≤ 4000) (h : ∀ x ∈ l, x.Points.length ≤ 2000 ∧ x.Steps = []) : F_plot_own__changed_3__changed_1__Short_1 N l = some l := by
  obtain ⟨N, rfl⟩ : ∃ n, N = n + 3 := ⟨N - 3, by omega⟩
  have hcl : F_slices_Clone_PlotStep l = some l := by
    unfold F_slices_Clone_PlotStep
    rw [apdC (by omega)]; rfl
  show F_plot_own__changed_3__changed_1__Short_1_b (N + 2) _ l = _
  unfold F_plot_own__changed_3__changed_1__Short_1_b
  rw [hcl, Option.bind_some]
  refine cown_loop l [] (N + 2) rfl (by omega) (fun x hx => ⟨(h x hx).1, ?_⟩) (by omega)
  rw [(h x hx).2]; rfl
/-! No step is struck. -/
def W1 (l suf : List TPlotStep) (i : Nat) (k : TKnown) : Option Int := F_plot_without_L1 l suf i k.dark k.tool k.place.X k.place.Y k.placed k.last.Kind k.last.Name k.last.At.X k.last.At.Y k.last.Points k.last.NX k.last.NY k.last.Steps
theorem W1_step {l pre suf : List TPlotStep} {x : TPlotStep} {k k' : TKnown} (he : l = pre ++ x :: suf) (hl : l.length ≤ 1000000) (h1 : F_plot_needless x k suf = some false) (h2 : F_plot_known__behind k x = some k') : W1 l (x :: suf) pre.length k = W1 l suf (pre.length + 1) k' := by
  have hlen : l.length = pre.length + (suf.length + 1) := by rw [he]; simp
  have c3 : cut l (w64 ((pre.length : Int) + 1)) (l.length : Int) = some suf := by
    rw [w64_id (by omega) (by omega)]
    unfold cut
    rw [if_pos ⟨by omega, by omega, by omega⟩, Int.toNat_natCast, List.take_length, show ((pre.length : Int) + 1).toNat = pre.length + 1 by omega, he, show pre ++ x :: suf = (pre ++ [x]) ++ suf by simp, show pre.length + 1 = (pre ++ [x]).length by simp, List.drop_left]
  obtain ⟨a, b, c, d, e1, e2, e3, e4, e5, e6, e7⟩ := k
  unfold W1
  rw [F_plot_without_L1, c3, Option.bind_some]
  have e : (TPlotStep.mk e1 e2 (TPoint.mk e3.X e3.Y) e4 e5 e6 e7) = ⟨e1, e2, e3, e4, e5, e6, e7⟩ := rfl
  have e' : (TPoint.mk c.X c.Y) = c := rfl
  show ((F_plot_needless x ⟨a, b, c, d, ⟨e1, e2, e3, e4, e5, e6, e7⟩⟩ suf).bind _) = _
  rw [h1, Option.bind_some, if_neg (by decide)]
  show ((F_plot_known__behind ⟨a, b, c, d, ⟨e1, e2, e3, e4, e5, e6, e7⟩⟩ x).bind _) = _
  rw [h2, Option.bind_some]
theorem needA (l : List TPoint) (k : TKnown) (r : List TPlotStep) : F_plot_needless (stepA l) k r = some false := rfl
theorem behA (l : List TPoint) (k : TKnown) : ∃ k', F_plot_known__behind k (stepA l) = some k' ∧ k'.dark = k.dark := ⟨_, rfl, rfl⟩
theorem needK {c : Int} (hc : c = 1 ∨ c = 2) (l : List TPoint) (k : TKnown) (h : c ≠ k.dark) (r : List TPlotStep) : F_plot_needless (stepK c) k (stepA l :: r) = some false := by
  have hn : F_plot_next (stepA l :: r) [1, 2, 5, 6, 7, 8] = some 7 := rfl
  have hd : F_plot_draws 7 = some true := rfl
  have e : (c == k.dark) = false := by simpa using h
  have hj : F_plot_needless_J1 (stepK c) k (stepA l :: r) true = some false := by
    unfold F_plot_needless_J1
    rw [if_pos rfl, hn, Option.bind_some]
    show ((if (c == k.dark) = true then _ else _ : Option Bool).bind _) = _
    rw [e, if_neg (by decide), hd]
    rfl
  rcases hc with rfl | rfl <;> exact hj
theorem behK {c : Int} (hc : c = 1 ∨ c = 2) (k : TKnown) : ∃ k', F_plot_known__behind k (stepK c) = some k' ∧ k'.dark = c := by
  rcases hc with rfl | rfl <;> exact ⟨_, rfl, rfl⟩
theorem without_of {l : List TPlotStep} (hl : l.length ≤ 1000000) : ∀ (o : List (List TPoint)) (pre : List TPlotStep) (d : Int) (k : TKnown), l = pre ++ ofSteps o d → k.dark = d → W1 l (ofSteps o d) pre.length k = some (-1)
  | [], _, _, _, _, _ => rfl
  | m :: t, pre, d, k, he, hk => by
    have hc : kindR m = 1 ∨ kindR m = 2 := by unfold kindR; split <;> simp
    have rest : ∀ (pre : List TPlotStep) (k : TKnown), l = pre ++ stepA m :: ofSteps t (kindR m) → k.dark = kindR m → W1 l (stepA m :: ofSteps t (kindR m)) pre.length k = some (-1) := by
      intro pre k he hk
      obtain ⟨k', b1, b2⟩ := behA m k
      rw [W1_step he hl (needA m k _) b1]
      have := without_of hl t (pre ++ [stepA m]) (kindR m) k' (by rw [he]; simp) (b2.trans hk)
      rw [List.length_append, List.length_singleton] at this
      exact this
    rw [ofSteps] at he ⊢
    by_cases c : kindR m = d
    · rw [if_pos c] at he ⊢
      rw [← c] at he hk ⊢
      exact rest pre k he hk
    · rw [if_neg c] at he ⊢
      obtain ⟨k', b1, b2⟩ := behK hc k
      rw [W1_step he hl (needK hc m k (by rw [hk]; exact c) _) b1]
      have := rest (pre ++ [stepK (kindR m)]) k' (by rw [he]; simp) b2
      rw [List.length_append, List.length_singleton] at this
      exact this
theorem Short_of {N : Nat} {o : List (List TPoint)} (hN : 20000000000 ≤ N) (hg : ∀ l ∈ o, GoodRow l) (hf : o.flatten.length ≤ 2000) : F_plot_Short N (ofPlot o) = some (ofPlot o, 0) := by
  have h4 := four_le (fun l hl => (hg l hl).1)
  have h2 := ofSteps_len o 1
  have hs : (ofPlot o).Steps.length ≤ 1000 := by show (ofSteps o 1).length ≤ _; omega
  have hown : F_plot_own__changed_3__changed_1__Short_1 N (ofPlot o).Steps = some (ofPlot o).Steps := own_ok (by omega) (by omega) fun x hx => by
    obtain ⟨h1, _, _, _, _, h7⟩ := of_steps (o := o) hx
    refine ⟨?_, h1⟩
    rcases h7 with h7 | h7
    · rw [h7]; simp
    · have := mem_flat h7; omega
  obtain ⟨M, rfl⟩ : ∃ n, N = n + 1 := ⟨N - 1, by omega⟩
  have htl : F_plot_ownTools__changed_2__Short_1 (M + 1) (ofPlot o).Tools = some [] := rfl
  have hw : F_plot_without (ofPlot o).Steps = some (-1) := without_of (l := ofSteps o 1) (by show (ofPlot o).Steps.length ≤ _; omega) o [] 1 ⟨1, ⟨#[]⟩, ⟨0, 0⟩, false, ⟨0, ⟨#[]⟩, ⟨0, 0⟩, [], 0, 0, []⟩⟩ rfl rfl
  unfold F_plot_Short
  rw [CheckP_of hN hg hf, Option.bind_some, if_neg (by decide)]
  unfold F_plot_changed__Short_1
  rw [htl, Option.bind_some, hown, Option.bind_some, Option.bind_some]
  show F_plot_Short_L1 (ofPlot o) (M + 1) = _
  rw [F_plot_Short_L1, hw, Option.bind_some, if_pos (by decide)]
/-! The law. -/
theorem itoaS7 : itoaS 7 = some ⟨#[55]⟩ := by
  unfold itoaS
  rw [if_pos (by decide)]
  have : Lib.decDigits (7 : Int).toNat = [55] := by
    unfold Lib.decDigits
    rw [dif_pos (by decide)]
    rfl
  rw [this]
theorem awakeS_ok {N : Nat} (hN : 10 ≤ N) : F_etchhouselaw3_awake N = some true := by
  obtain ⟨N, rfl⟩ : ∃ n, N = n + 1 := ⟨N - 1, by omega⟩
  have h1 : F_plot_CheckPlot (N + 1) ⟨7, [], []⟩ = some 0 := rfl
  have h2 : F_plot_Text (N + 1) ⟨7, [], []⟩ = some (⟨#[117, 110, 105, 116, 32, 55, 10]⟩, 0) := by
    unfold F_plot_Text
    rw [h1, Option.bind_some, if_neg (by decide)]
    show (itoaS 7).bind _ = _
    rw [itoaS7]
    rfl
  unfold F_etchhouselaw3_awake
  rw [h2, Option.bind_some]
  simp [sEq_refl]
theorem same_of {N : Nat} {p : TPlot} (hN : szSteps p.Steps + 10 ≤ N) (ht : p.Tools = []) (hL : lenL p.Steps) (hl : p.Steps.length ≤ 100000) : F_etchhouseref3_SamePlot N p p = some true := by
  obtain ⟨M, rfl⟩ : ∃ n, N = n + 1 := ⟨N - 1, by omega⟩
  unfold F_etchhouseref3_SamePlot
  rw [if_neg (by simp), sameSts_ok _ p.Steps (M + 1) (Nat.le_refl _) (by omega) (by omega) hL]
  simp only [Option.bind_some, Bool.not_true, Bool.false_eq_true, if_false]
  rw [F_etchhouseref3_SamePlot_L1, ht, if_neg (by decide)]
theorem equal_refl (l : List TRect) : F_slices_Equal_Rect l l = some true := by
  obtain ⟨b, b1, b2⟩ := EqualR_ok l l
  rw [b1, b2.2 rfl]
theorem DrawIt_val {N : Nat} (hN : 20000000000 ≤ N) (r : List TRect) : F_etchhouselaw3_PlotsOfDrawIt N r = some true := by
  obtain ⟨y, y1, y2, y3⟩ := OfP_ok hN r
  have haw := awakeS_ok (N := N) (by omega)
  unfold F_etchhouselaw3_PlotsOfDrawIt
  by_cases h : y.2 = 0
  · obtain ⟨hr, ls, o, l1, l2, l3, o1, o2, o3, o4⟩ := y3 h
    rw [l3] at o1
    have hC := CheckP_of hN o2 o3
    have h4 := four_le (fun l hl => (o2 l hl).1)
    have h5 := ofSteps_len o 1
    have h6 := ofSteps_sz o 1
    rw [o4, Option.bind_some, if_neg (by simp)]
    rcases Image_of hN hr l1 l2 o1 o3 hC with hi | hi
    · rw [hi, Option.bind_some, if_neg (by simp), Short_of hN o2 o3, Option.bind_some]
      simp only
      rw [equal_refl, Option.bind_some, same_of (p := ofPlot o) (by show szSteps (ofSteps o 1) + 10 ≤ N; omega) rfl (of_lenL o2 o3) (by show (ofSteps o 1).length ≤ _; omega), haw]
      rfl
    · rw [hi, Option.bind_some, if_pos (by decide), haw]
      rfl
  · rw [y2 h, Option.bind_some, if_pos (by simpa using h), haw]
    rfl
theorem PlotsDraw_plain (l : List TRect) {X : Prop} (_ : X) : ∃ N, F_etchhouselaw3_PlotsOfDrawIt N l = some true := ⟨20000000000, DrawIt_val (Nat.le_refl _) l⟩
end Go.Proofs.YtcjeebkoafonpaaGreatDoor
