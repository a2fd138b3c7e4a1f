/- Sets of rectangles: the bands that cover the same. Plain Lean; the program's helpers compute it. Sets of rectangles: the program's bands are the ones. Plain Lean about the plain functions. Regions: what the program tells of sets. Plain Lean about the plain functions. Regions: what is checked; program and reference agree. Plain Lean about the plain functions. Sets of rectangles by bands: their one form, by points. Plain Lean. Sets of squares: bands in their one form, told by their points. Plain Lean. Two lists of stretches, merged: the program's line. Plain Lean about the plain functions. Bands: the sides of their set. Plain Lean about the plain functions. Conditions: none beyond each theorem's own. The sides of bands are the border of their set. Plain Lean. Conditions: none beyond each theorem's own. Outlines of regions: the program's are the borders. Plain Lean about the plain functions. Conditions: none beyond each theorem's own. The plot of a region is a right plot. Plain Lean about the plain functions. Conditions: none beyond each theorem's own. How often a border goes round a square. Plain Lean. Conditions: none beyond each theorem's own. Along a border, nothing else changes how often any border goes round. Plain Lean. Conditions: none beyond each theorem's own. Borders lie apart, or one within another one. Plain Lean. Conditions: none beyond each theorem's own. Two borders lie apart, or one lies within the other one. Plain Lean. Conditions: none beyond each theorem's own. The innermost border round a square tells whether it is in the set. Plain Lean. Conditions: none beyond each theorem's own. Outlines as borders; how many squares a border goes round. Plain Lean. Conditions: none beyond each theorem's own. The area of a border is the number of squares it goes round, with its sign; a border within another one has the lesser area. Plain Lean. Conditions: none beyond each theorem's own. What the corners of a border tell of its area. Plain Lean. Conditions: none beyond each theorem's own. Borders painted by their areas, the greatest first, give the set. Plain Lean. Conditions: none beyond each theorem's own. All outlines of a set, painted from the greatest one down, give the set. Plain Lean. Conditions: none beyond each theorem's own. -/
import Derived.Test.YtcjeebkoafonpaaGreatDoorXF
import Derived.Test.YtcjeebkoafonpaaGreatDoorJ4
namespace Go.Proofs.YtcjeebkoafonpaaGreatDoor
/-- A band: from, to, stretches. -/
abbrev Bd := Int × Int × List (Int × Int)
def xsR (r : TRect) : Int × Int := (r.X0, r.X1)
/-- The stretches of rectangles at a height. -/
def rowS (l : List TRect) (y : Int) : List (Int × Int) := covS ((l.filter fun r => decide (r.Y0 ≤ y) && decide (y < r.Y1)).map xsR)
/-- One band more behind all others. -/
def pushB (l : List Bd) (b : Bd) : List Bd :=
  if b.2.2 = [] then l else
  match l.getLast? with
  | none => l ++ [b]
  | some c => if c.2.1 = b.1 ∧ c.2.2 = b.2.2 then l.dropLast ++ [(c.1, b.2.1, c.2.2)] else l ++ [b]
theorem pushB_empty {l : List Bd} {b : Bd} (h : b.2.2 = []) : pushB l b = l := if_pos h
theorem pushB_nil {b : Bd} (h : b.2.2 ≠ []) : pushB [] b = [b] := by unfold pushB; rw [if_neg h]; rfl
theorem pushB_snoc {l : List Bd} {c b : Bd} (h : b.2.2 ≠ []) : pushB (l ++ [c]) b = if c.2.1 = b.1 ∧ c.2.2 = b.2.2 then l ++ [(c.1, b.2.1, c.2.2)] else l ++ [c] ++ [b] := by
  unfold pushB
  rw [if_neg h]
  simp
/-- The bands of rectangles over consecutive heights. -/
def bandsGo (l : List TRect) : List Int → List Bd → List Bd
  | a :: b :: ys, out => bandsGo l (b :: ys) (pushB out (a, b, rowS l a))
  | _, out => out
def ysOfR (l : List TRect) : List Int := l.flatMap fun r => [r.Y0, r.Y1]
def setB (l : List TRect) : List Bd := bandsGo l (srtd (ysOfR l)) []
def rectsOf (b : Bd) : List TRect := b.2.2.map fun s => ⟨s.1, b.1, s.2, b.2.1⟩
def rectsB (l : List Bd) : List TRect := l.flatMap rectsOf
def toP (b : Bd) : TBand := ⟨b.1, b.2.1, flatS b.2.2⟩
/-- A rectangle with something in it, within the limits. -/
structure ROk (r : TRect) : Prop where
  x0 : -1000000 ≤ r.X0 ∧ r.X0 ≤ 1000000
  y0 : -1000000 ≤ r.Y0 ∧ r.Y0 ≤ 1000000
  x1 : -1000000 ≤ r.X1 ∧ r.X1 ≤ 1000000
  y1 : -1000000 ≤ r.Y1 ∧ r.Y1 ≤ 1000000
  x : r.X0 < r.X1
  y : r.Y0 < r.Y1
/-- A rectangle with something in it, within wide limits. -/
structure R9 (r : TRect) : Prop where
  x0 : -2000000000 ≤ r.X0 ∧ r.X0 ≤ 2000000000
  y0 : -2000000000 ≤ r.Y0 ∧ r.Y0 ≤ 2000000000
  x1 : -2000000000 ≤ r.X1 ∧ r.X1 ≤ 2000000000
  y1 : -2000000000 ≤ r.Y1 ∧ r.Y1 ≤ 2000000000
  x : r.X0 < r.X1
  y : r.Y0 < r.Y1
theorem ROk.r9 {r : TRect} (h : ROk r) : R9 r := by
  have := h.x0; have := h.x1; have := h.y0; have := h.y1
  exact ⟨by omega, by omega, by omega, by omega, h.x, h.y⟩
theorem EqualI_ok (l m : List Int) : F_slices_Equal_int l m = some (decide (l = m)) := by
  have key : ∀ (suf pre rest : List Int), suf.length = rest.length → F_slices_Equal_int_L1 (pre ++ rest) suf pre.length = some (decide (suf = rest)) := by
    intro suf
    induction suf with
    | nil =>
      intro pre rest h
      have : rest = [] := List.eq_nil_of_length_eq_zero h.symm
      subst this
      rw [F_slices_Equal_int_L1.eq_1]; rfl
    | cons x suf ih =>
      intro pre rest h
      cases rest with
      | nil => simp at h
      | cons y rest =>
        rw [F_slices_Equal_int_L1.eq_2, idx_mid pre rest y, Option.bind_some]
        have := ih (pre ++ [y]) rest (by simpa using h)
        by_cases hxy : x = y
        · subst hxy
          rw [if_neg (by simp)]
          simpa using this
        · rw [if_pos (by simpa using hxy)]
          simp [hxy]
  unfold F_slices_Equal_int
  by_cases h : l.length = m.length
  · rw [if_neg (by simp; omega)]
    exact key l [] m h
  · rw [if_pos (by simp; omega)]
    have : l ≠ m := fun e => h (by rw [e])
    simp [this]
theorem eqR_dec {a b : TRect} : eqTRect a b = true ↔ a = b := eqTRect_iff
theorem EqualR_ok (l m : List TRect) : ∃ b : Bool, F_slices_Equal_Rect l m = some b ∧ (b = true ↔ l = m) := by
  have key : ∀ (suf pre rest : List TRect), suf.length = rest.length → ∃ b : Bool, F_slices_Equal_Rect_L1 (pre ++ rest) suf pre.length = some b ∧ (b = true ↔ suf = rest) := by
    intro suf
    induction suf with
    | nil =>
      intro pre rest h
      have : rest = [] := List.eq_nil_of_length_eq_zero h.symm
      subst this
      rw [F_slices_Equal_Rect_L1.eq_1]; exact ⟨true, rfl, by simp⟩
    | cons x suf ih =>
      intro pre rest h
      cases rest with
      | nil => simp at h
      | cons y rest =>
        rw [F_slices_Equal_Rect_L1.eq_2, idx_mid pre rest y, Option.bind_some]
        obtain ⟨b, h1, h2⟩ := ih (pre ++ [y]) rest (by simpa using h)
        by_cases hxy : x = y
        · subst hxy
          rw [eqTRect_iff.2 rfl, if_neg (by simp)]
          exact ⟨b, by simpa using h1, by simp [h2]⟩
        · have : eqTRect x y = false := by rw [Bool.eq_false_iff]; exact fun h => hxy (eqTRect_iff.1 h)
          rw [this, if_pos (by simp)]
          exact ⟨false, rfl, by simp [hxy]⟩
  unfold F_slices_Equal_Rect
  by_cases h : l.length = m.length
  · rw [if_neg (by simp; omega)]
    exact key l [] m h
  · rw [if_pos (by simp; omega)]
    exact ⟨false, rfl, by simp; exact fun e => h (by rw [e])⟩
/-- slices.SortFunc by a number of each element. -/
theorem sort_key {c : TRect → TRect → Option Int} {k : TRect → Int} {l : List TRect} (hl : l.length ≤ 1000000000) (hc : ∀ x ∈ l, ∀ y ∈ l, c x y = some (k x - k y)) : ∃ m, srtF l c = some m ∧ m.Perm l ∧ m.Pairwise fun x y => k x ≤ k y := by
  have hlt : ∀ x ∈ l, ∀ y ∈ l, ltC c x y = decide (k x < k y) := fun x hx y hy => by
    unfold ltC
    rw [hc x hx y hy, Option.getD_some]
    exact decide_eq_decide.2 (by omega)
  have hs : SortOk c l := ⟨by omega, fun x hx y hy => ⟨_, hc x hx y hy⟩, fun x hx => by rw [hlt x hx x hx]; simp, fun x hx y hy z hz h1 h2 => by
    rw [hlt x hx y hy] at h1; rw [hlt y hy z hz] at h2; rw [hlt x hx z hz]; simp at *; omega, fun x hx y hy z hz h1 h2 => by
    rw [hlt x hx y hy] at h1; rw [hlt y hy z hz] at h2; rw [hlt x hx z hz]; simp at *; omega⟩
  obtain ⟨m, hm⟩ := srtF_ok hs
  obtain ⟨_, hp, hw⟩ := srtF_some hm
  refine ⟨m, hm, hp, hw.imp_of_mem fun {x y} hx hy h => ?_⟩
  rw [hlt y (hp.subset hy) x (hp.subset hx)] at h
  simp at h
  exact h
theorem stretches_loop (y : List TRect) : ∀ (suf : List TRect) (i : Nat) (l : List (Int × Int)), l.length + suf.length ≤ 1000000000 → F_shape_stretches_L1 y suf i (flatS l) = some (flatS ((suf.map xsR).foldl ext1 l), y)
  | [], i, l, _ => by rw [F_shape_stretches_L1.eq_1]; rfl
  | r :: suf, i, l, h => by
    simp only [List.length_cons] at h
    have hsplit : l = [] ∨ ∃ j q, l = j ++ [q] := by
      rcases List.eq_nil_or_concat l with h | ⟨j, q, h⟩
      · exact .inl h
      · exact .inr ⟨j, q, by simpa using h⟩
    rw [F_shape_stretches_L1.eq_2, List.map_cons, List.foldl_cons]
    rcases hsplit with rfl | ⟨j, q, rfl⟩
    · rw [if_neg (by simp [flatS_nil, w64_id]), Option.bind_some, if_neg (by simp), show apd (flatS []) [r.X0, r.X1] = some (flatS [xsR r]) from rfl, Option.bind_some, ext1_nil]
      exact stretches_loop y suf (i + 1) [xsR r] (by simp; omega)
    · have hfl : flatS (j ++ [q]) = (flatS j ++ [q.1]) ++ q.2 :: [] := by rw [flatS_append]; simp [flatS]
      have hlen : (flatS (j ++ [q])).length = 2 * j.length + 2 := by rw [flatS_len]; simp; omega
      simp only [List.length_append, List.length_singleton] at h
      have hw : w64 (((flatS (j ++ [q])).length : Int) - 1) = ((flatS j ++ [q.1]).length : Int) := by
        rw [w64_id (by omega) (by omega), hlen]; simp [flatS_len]; omega
      have hid : idx (flatS (j ++ [q])) ((flatS j ++ [q.1]).length : Int) = some q.2 := by rw [hfl]; exact idx_mid _ [] q.2
      rw [hw, if_pos (decide_eq_true (by omega)), hid, Option.bind_some, Option.bind_some, ext1_snoc]
      by_cases hle : r.X0 ≤ q.2
      · rw [if_pos (by simpa using hle), if_pos (show (xsR r).1 ≤ q.2 from hle), Option.bind_some]
        have hset : sets (flatS (j ++ [q])) ((flatS j ++ [q.1]).length : Int) (max q.2 r.X1) = some (flatS (j ++ [(q.1, max q.2 (xsR r).2)])) := by
          unfold sets
          rw [if_pos ⟨by omega, by rw [hlen]; simp [flatS_len]⟩, hfl, flatS_append]
          simp [flatS, xsR]
        rw [Option.bind_some, hset, Option.bind_some]
        exact stretches_loop y suf (i + 1) _ (by simp; omega)
      · rw [if_neg (by simpa using hle), if_neg (show ¬ (xsR r).1 ≤ q.2 from hle), apd_ok (by rw [hlen]; simp; omega), Option.bind_some]
        have : flatS (j ++ [q]) ++ [r.X0, r.X1] = flatS (j ++ [q] ++ [xsR r]) := by rw [flatS_append (j ++ [q])]; rfl
        rw [this]
        exact stretches_loop y suf (i + 1) _ (by simp; omega)
theorem stretches_ok {l : List TRect} (hl : l.length ≤ 400000000) (h : ∀ r ∈ l, R9 r) : ∃ m, m.Perm l ∧ F_shape_stretches l = some (flatS (covS (l.map xsR)), m) := by
  obtain ⟨m, h1, h2, h3⟩ := sort_key (c := fun z0 z1 => F_shape_stretches_1 z0 z1) (k := fun r => r.X0) (l := l) (by omega) (fun x hx y hy => by
    have a := (h x hx).x0; have b := (h y hy).x0
    unfold F_shape_stretches_1
    rw [w64_id (by omega) (by omega)])
  refine ⟨m, h2, ?_⟩
  unfold F_shape_stretches
  rw [h1, Option.bind_some]
  have := stretches_loop m m 0 [] (by have := h2.length_eq; simp; omega)
  rw [flatS_nil] at this
  rw [this, ext_cov (lo := -2000000001) (h2.map xsR) (by rw [List.pairwise_map]; exact h3) (fun p hp => by
    obtain ⟨r, hr, rfl⟩ := List.mem_map.1 hp
    have a := h r hr
    exact ⟨by have := a.x0; show -2000000001 < r.X0; omega, a.x⟩)]
theorem IndexR_ok {g : TRect → Bool} {f : TRect → Option Bool} : ∀ (l : List TRect) (i : Nat), (∀ x ∈ l, f x = some (g x)) → F_slices_IndexFunc_Rect_L1 f l i = some (ixOf g l i)
  | [], i, _ => rfl
  | x :: l, i, h => by
    rw [F_slices_IndexFunc_Rect_L1.eq_2, h x (by simp), Option.bind_some, IndexR_ok l (i + 1) (fun y hy => h y (by simp [hy])), ixOf, show ((i + 1 : Nat) : Int) = (i : Int) + 1 by omega]
    cases g x <;> rfl
theorem delete_loop {g : TRect → Bool} {f : TRect → Option Bool} : ∀ (rest k u : List TRect) (n : Nat), (∀ x ∈ rest, f x = some (g x)) → u ≠ [] → rest.length < n → (k ++ u ++ rest).length ≤ 1000000000 →
    F_slices_DeleteFunc_Rect_L1 f n (k ++ u ++ rest) k.length (k ++ u).length = some (k ++ rest.filter fun x => !g x)
  | [], k, u, n + 1, _, hu, _, hl => by
    have hc : cut (k ++ u ++ []) (k.length : Int) ((k ++ u ++ []).length : Int) = some u := by
      unfold cut
      rw [if_pos ⟨by omega, by simp; omega, by omega⟩, List.append_nil, Int.toNat_natCast, Int.toNat_natCast, List.take_length, List.drop_left]
    rw [F_slices_DeleteFunc_Rect_L1.eq_2, if_neg (by simp), hc, Option.bind_some]
    unfold clr pre
    rw [if_pos ⟨by omega, by simp; omega⟩]
    simp
  | x :: rest, k, u, n + 1, h, hu, hn, hl => by
    obtain ⟨u0, u', rfl⟩ : ∃ u0 u', u = u0 :: u' := by cases u with | nil => exact absurd rfl hu | cons a b => exact ⟨a, b, rfl⟩
    have hid : idx (k ++ (u0 :: u') ++ x :: rest) ((k ++ (u0 :: u')).length : Int) = some x := idx_mid _ rest x
    simp only [List.length_append, List.length_cons] at hl hn
    rw [F_slices_DeleteFunc_Rect_L1.eq_2, if_pos (by simp; omega), hid, Option.bind_some, h x (by simp), Option.bind_some, up_mid (k ++ (u0 :: u')) x (by simp; omega)]
    cases hg : g x
    · have hid2 : idx (k ++ (u0 :: u') ++ x :: rest) (k.length : Int) = some u0 := by
        rw [List.append_assoc]; exact idx_mid k (u' ++ x :: rest) u0
      have hset : sets (k ++ (u0 :: u') ++ x :: rest) (k.length : Int) x = some ((k ++ [x]) ++ (u' ++ [x]) ++ rest) := by
        unfold sets
        rw [if_pos ⟨by omega, by simp⟩]
        simp
      rw [if_pos (by simp), hid2, Option.bind_some, hset, Option.bind_some, up_mid k x (by omega)]
      have := delete_loop rest (k ++ [x]) (u' ++ [x]) n (fun y hy => h y (by simp [hy])) (by simp) (by omega) (by simp; omega)
      have e : ((k ++ (u0 :: u') ++ [x]).length : Int) = ((k ++ [x] ++ (u' ++ [x])).length : Int) := by rw [List.length_append, List.length_append, List.length_append, List.length_append, List.length_append]; simp; omega
      rw [e, this, List.filter_cons, hg]
      simp
    · rw [if_neg (by simp)]
      have := delete_loop rest k (u0 :: u' ++ [x]) n (fun y hy => h y (by simp [hy])) (by simp) (by omega) (by simp; omega)
      have e : k ++ (u0 :: u') ++ x :: rest = k ++ (u0 :: u' ++ [x]) ++ rest := by simp
      have e2 : ((k ++ (u0 :: u') ++ [x]).length : Int) = ((k ++ (u0 :: u' ++ [x])).length : Int) := by simp
      rw [e, e2, this, List.filter_cons, hg]
      simp
theorem ixOf_split {α : Type} (g : α → Bool) : ∀ (l : List α) (i : Int), 0 ≤ i → (ixOf g l i = -1 ∧ ∀ x ∈ l, g x = false) ∨ ∃ a x b, l = a ++ x :: b ∧ (∀ y ∈ a, g y = false) ∧ g x = true ∧ ixOf g l i = i + a.length
  | [], i, _ => .inl ⟨rfl, by simp⟩
  | x :: l, i, hi => by
    unfold ixOf
    cases hg : g x
    · simp only [Bool.false_eq_true, if_false]
      rcases ixOf_split g l (i + 1) (by omega) with ⟨h1, h2⟩ | ⟨a, z, b, h1, h2, h3, h4⟩
      · exact .inl ⟨h1, fun y hy => by rcases List.mem_cons.1 hy with rfl | hy; exact hg; exact h2 y hy⟩
      · refine .inr ⟨x :: a, z, b, by rw [h1]; rfl, fun y hy => ?_, h3, by rw [h4]; simp; omega⟩
        rcases List.mem_cons.1 hy with rfl | hy
        · exact hg
        · exact h2 y hy
    · rw [if_pos rfl]
      exact .inr ⟨[], x, l, rfl, by simp, hg, by simp⟩
theorem Delete_ok {N : Nat} {g : TRect → Bool} {f : TRect → Option Bool} {l : List TRect} (hN : 1000000000 < N) (hl : l.length ≤ 1000000000) (h : ∀ x ∈ l, f x = some (g x)) : F_slices_DeleteFunc_Rect N l f = some (l.filter fun x => !g x) := by
  unfold F_slices_DeleteFunc_Rect F_slices_IndexFunc_Rect
  rw [IndexR_ok l 0 h, Option.bind_some, show ((0 : Nat) : Int) = 0 from rfl]
  rcases ixOf_split g l 0 (by omega) with ⟨h1, h2⟩ | ⟨a, x, b, h1, h2, h3, h4⟩
  · rw [h1, if_pos (by simp)]
    congr 1
    exact (List.filter_eq_self.2 fun y hy => by simp [h2 y hy]).symm
  · rw [h4, if_neg (by first | (simp; done) | (simp; omega))]
    subst h1
    simp only [List.length_append, List.length_cons] at hl
    have := delete_loop b a [x] N (fun y hy => h y (by simp [hy])) (by simp) (by omega) (by simp; omega)
    have e : a ++ [x] ++ b = a ++ x :: b := by simp
    rw [e] at this
    rw [Int.zero_add, w64_id (by omega) (by omega), show ((a.length : Int) + 1) = ((a ++ [x]).length : Int) by simp, this, List.filter_append, List.filter_cons, h3]
    have ha : a.filter (fun x => !g x) = a := List.filter_eq_self.2 fun y hy => by simp [h2 y hy]
    simp [ha]
theorem push_ok {l : List Bd} {b : Bd} (hl : l.length ≤ 1000000000) (hb : b.1 < b.2.1) : F_shape_Set__push (l.map toP) (toP b) = some ((pushB l b).map toP) := by
  unfold F_shape_Set__push
  have hfl : ((toP b).Xs.length : Int) = 2 * (b.2.2.length : Int) := by show ((flatS b.2.2).length : Int) = _; rw [flatS_len]; omega
  by_cases he : b.2.2 = []
  · rw [if_pos (by rw [hfl, he]; simp), pushB_empty he]
  · have hpos : 0 < b.2.2.length := List.length_pos_iff.2 he
    rw [if_neg (by
      rw [hfl]
      show ¬ ((2 * (b.2.2.length : Int) == 0) || decide (b.2.1 ≤ b.1)) = true
      rw [Bool.or_eq_true, not_or]
      exact ⟨by simp; exact he, by simp; exact hb⟩)]
    have hsplit : l = [] ∨ ∃ j q, l = j ++ [q] := by
      rcases List.eq_nil_or_concat l with h | ⟨j, q, h⟩
      · exact .inl h
      · exact .inr ⟨j, q, by simpa using h⟩
    rcases hsplit with rfl | ⟨j, c, rfl⟩
    · rw [pushB_nil he, if_neg (by simp [w64_id]), Option.bind_some, if_neg (by simp), Option.bind_some, if_neg (by simp)]
      rfl
    · simp only [List.length_append, List.length_singleton] at hl
      have hm : (j ++ [c]).map toP = j.map toP ++ toP c :: [] := by simp
      have hw : w64 ((((j ++ [c]).map toP).length : Int) - 1) = ((j.map toP).length : Int) := by
        rw [w64_id (by first | (simp; done) | (simp; omega)) (by first | (simp; done) | (simp; omega))]; simp
      have hid : idx ((j ++ [c]).map toP) ((j.map toP).length : Int) = some (toP c) := by rw [hm]; exact idx_mid _ [] _
      rw [pushB_snoc he, hw, if_pos (by simp), hid, Option.bind_some, Option.bind_some, Option.bind_some, EqualI_ok]
      have hxs : ((toP c).Xs = (toP b).Xs) ↔ c.2.2 = b.2.2 := ⟨fun h => flatS_inj h, fun h => by show flatS c.2.2 = flatS b.2.2; rw [h]⟩
      by_cases h1 : c.2.1 = b.1
      · have e1 : ((toP c).Y1 == (toP b).Y0) = true := by simpa [toP] using h1
        rw [e1, if_pos rfl, Option.bind_some, Option.bind_some]
        by_cases h2 : c.2.2 = b.2.2
        · rw [decide_eq_true (hxs.2 h2), if_pos rfl, if_pos ⟨h1, h2⟩]
          have hset : sets ((j ++ [c]).map toP) ((j.map toP).length : Int) (TBand.mk (toP c).Y0 (toP b).Y1 (toP c).Xs) = some ((j ++ [(c.1, b.2.1, c.2.2)]).map toP) := by
            unfold sets
            rw [if_pos ⟨by omega, by simp⟩, hm]
            simp [toP]
          rw [Option.bind_some, hset]; rfl
        · rw [decide_eq_false (fun h => h2 (hxs.1 h)), if_neg (by simp), if_neg (fun h => h2 h.2), apd_ok (by simp; omega), Option.bind_some]
          simp
      · have e1 : ((toP c).Y1 == (toP b).Y0) = false := by simpa [toP] using h1
        rw [e1, if_neg (by simp), Option.bind_some, if_neg (by simp), if_neg (fun h => h1 h.1), apd_ok (by simp; omega), Option.bind_some]
        simp
end Go.Proofs.YtcjeebkoafonpaaGreatDoor
namespace Go.Proofs.YtcjeebkoafonpaaGreatDoor
/-- Strictly ascending lists with the same members are one list. -/
theorem strict_uniq : ∀ {l m : List Int}, l.Pairwise (fun x y => x < y) → m.Pairwise (fun x y => x < y) → (∀ x, x ∈ l ↔ x ∈ m) → l = m
  | [], [], _, _, _ => rfl
  | [], y :: m, _, _, h => by have := (h y).2 (by simp); simp at this
  | x :: l, [], _, _, h => by have := (h x).1 (by simp); simp at this
  | x :: l, y :: m, h1, h2, h => by
    rw [List.pairwise_cons] at h1 h2
    have hxy : x = y := by
      have a := (h x).1 (by simp)
      have b := (h y).2 (by simp)
      rcases List.mem_cons.1 a with a | a
      · exact a
      · rcases List.mem_cons.1 b with b | b
        · exact b.symm
        · have := h1.1 y b; have := h2.1 x a; omega
    subst hxy
    rw [strict_uniq h1.2 h2.2 fun z => by
      have hz := h z
      simp only [List.mem_cons] at hz
      constructor
      · intro hm
        have hne : z ≠ x := by have := h1.1 z hm; omega
        rcases hz.1 (.inr hm) with e | e
        · exact absurd e hne
        · exact e
      · intro hm
        have hne : z ≠ x := by have := h2.1 z hm; omega
        rcases hz.2 (.inr hm) with e | e
        · exact absurd e hne
        · exact e]
theorem srtd_perm {l m : List Int} (h : ∀ x, x ∈ l ↔ x ∈ m) : srtd l = srtd m := strict_uniq (srtd_strict l) (srtd_strict m) fun x => by rw [srtd_mem, srtd_mem, h]
theorem mem_ysOfR {l : List TRect} {y : Int} : y ∈ ysOfR l ↔ ∃ r ∈ l, y = r.Y0 ∨ y = r.Y1 := by
  unfold ysOfR
  simp [List.mem_flatMap]
theorem ysOfR_len : ∀ l : List TRect, (ysOfR l).length = 2 * l.length
  | [] => rfl
  | r :: l => by
    show ([r.Y0, r.Y1] ++ ysOfR l).length = _
    rw [List.length_append, ysOfR_len l]; simp; omega
theorem srtd_len (l : List Int) : (srtd l).length ≤ l.length := by
  unfold srtd
  exact Nat.le_trans (cpI_len _) (by rw [List.length_mergeSort]; exact Nat.le_refl _)
theorem pushB_len (l : List Bd) (b : Bd) : (pushB l b).length ≤ l.length + 1 := by
  by_cases he : b.2.2 = []
  · rw [pushB_empty he]; omega
  · rcases List.eq_nil_or_concat l with rfl | ⟨j, c, h⟩
    · rw [pushB_nil he]; simp
    · rw [List.concat_eq_append] at h
      subst h
      rw [pushB_snoc he]
      split <;> simp
section
variable {N : Nat} {l M : List TRect} {ys : List Int} (hN : 10000000000 ≤ N) (hMl : M.length ≤ 100000000) (hok : ∀ r ∈ M, R9 r) (hyl : ys.length ≤ 200000000)
include hN hMl hok hyl
omit hN hyl in
theorem set_in {k a b : Int} {bands : List Bd} (hbl : bands.length ≤ 250000000) (hk0 : 0 ≤ k ∧ k ≤ 250000000) (ha : idx ys k = some a) (hb : idx ys (k + 1) = some b) (hab : a < b) {K : Int → List TBand → List TRect → Int → Option (List TBand)} : ∀ (suf pre now : List TRect) (m : Nat), M = pre ++ suf → suf.length < m → (∀ r ∈ now, R9 r) → now.length + suf.length ≤ 150000000 →
    ∃ t suf' now', suf = t ++ suf' ∧ (∀ r ∈ t, r.Y0 ≤ a) ∧ (∀ r, suf'.head? = some r → a < r.Y0) ∧ now'.Perm (now ++ t) ∧
      F_shape_SetOf_L5 M ys k (bands.map toP) K m now pre.length = K (k + 1) ((pushB bands (a, b, covS ((now ++ t).map xsR))).map toP) now' (pre ++ t).length
  | suf, pre, now, 0, _, h, _, _ => absurd h (Nat.not_lt_zero _)
  | [], pre, now, m + 1, h1, _, h3, h4 => by
    obtain ⟨now', p1, p2⟩ := stretches_ok (l := now) (by simp at h4; omega) h3
    refine ⟨[], [], now', rfl, by simp, by simp, by simpa using p1, ?_⟩
    have hpush := push_ok (l := bands) (b := (a, b, covS (now.map xsR))) (by omega) hab
    rw [F_shape_SetOf_L5.eq_2, if_neg (by rw [h1]; simp), Option.bind_some, if_neg (by simp), ha, Option.bind_some, w64_id (by omega) (by omega), hb, Option.bind_some, p2, Option.bind_some]
    show (F_shape_Set__push (bands.map toP) (toP (a, b, covS (now.map xsR)))).bind _ = _
    rw [hpush, Option.bind_some]
    simp
  | r :: suf, pre, now, m + 1, h1, h2, h3, h4 => by
    have hrM : r ∈ M := by rw [h1]; simp
    have hpl : pre.length ≤ 100000000 := by rw [h1] at hMl; simp at hMl; omega
    have hid : idx M (pre.length : Int) = some r := by rw [h1]; exact idx_mid pre suf r
    simp only [List.length_cons] at h2 h4
    by_cases hle : r.Y0 ≤ a
    · obtain ⟨t, suf', now', e1, e2, e3, e4, e5⟩ := set_in hbl hk0 ha hb hab (K := K) suf (pre ++ [r]) (now ++ [r]) m (by rw [h1]; simp) (by omega) (fun x hx => by
        rcases List.mem_append.1 hx with hx | hx
        · exact h3 x hx
        · simp at hx; subst hx; exact hok _ hrM) (by simp; omega)
      refine ⟨r :: t, suf', now', by rw [e1]; rfl, fun x hx => ?_, e3, by simpa using e4, ?_⟩
      · rcases List.mem_cons.1 hx with rfl | hx
        · exact hle
        · exact e2 x hx
      · rw [F_shape_SetOf_L5.eq_2, if_pos (by rw [h1]; exact lt_mid pre suf r), hid, Option.bind_some, ha, Option.bind_some, Option.bind_some, if_pos (by simpa using hle), Option.bind_some, apd_ok (by simp; omega), Option.bind_some, up_mid pre r (by omega), e5]
        simp
    · obtain ⟨now', p1, p2⟩ := stretches_ok (l := now) (by omega) h3
      refine ⟨[], r :: suf, now', rfl, by simp, fun x hx => by simp at hx; subst hx; omega, by simpa using p1, ?_⟩
      have hpush := push_ok (l := bands) (b := (a, b, covS (now.map xsR))) (by omega) hab
      rw [F_shape_SetOf_L5.eq_2, if_pos (by rw [h1]; exact lt_mid pre suf r), hid, Option.bind_some, ha, Option.bind_some, Option.bind_some, if_neg (by simpa using hle), Option.bind_some, w64_id (by omega) (by omega), hb, Option.bind_some, p2, Option.bind_some]
      show (F_shape_Set__push (bands.map toP) (toP (a, b, covS (now.map xsR)))).bind _ = _
      rw [hpush, Option.bind_some]
      simp
theorem set_out (hMs : M.Pairwise fun x y => x.Y0 ≤ y.Y0) (hys : ys.Pairwise fun x y => x < y) (hmem : ∀ r ∈ M, r.Y0 ∈ ys) (hl : ∀ r, r ∈ l ↔ r ∈ M) : ∀ (hsuf hpre : List Int) (m : Nat) (bands : List Bd) (pre suf now : List TRect) (v : Int), ys = hpre ++ hsuf → M = pre ++ suf → hsuf.length < m → bands.length ≤ hpre.length →
    (∀ r ∈ pre, r.Y0 ≤ v) → (∀ r ∈ suf, v < r.Y0) → now.Perm (pre.filter fun r => decide (v < r.Y1)) → (∀ h ∈ hsuf, v < h) → (∀ h ∈ hpre, h ≤ v) →
    F_shape_SetOf_L4 N M ys m hpre.length (bands.map toP) now pre.length = some ((bandsGo l hsuf bands).map toP)
  | [], hpre, m + 1, bands, pre, suf, now, v, e1, e2, _, _, _, _, _, _, _ => by
    have hpl : hpre.length ≤ 200000000 := by rw [e1] at hyl; simpa using hyl
    rw [F_shape_SetOf_L4.eq_2, if_neg (by rw [w64_id (by omega) (by omega), e1]; simp; omega)]
    rfl
  | [a], hpre, m + 1, bands, pre, suf, now, v, e1, e2, _, _, _, _, _, _, _ => by
    have hpl : hpre.length ≤ 200000000 := by rw [e1] at hyl; simp at hyl; omega
    rw [F_shape_SetOf_L4.eq_2, if_neg (by rw [w64_id (by omega) (by omega), e1]; simp)]
    rfl
  | a :: b :: hsuf, hpre, m + 1, bands, pre, suf, now, v, e1, e2, hm, hbl, i1, i2, i3, i4, i5 => by
    have hpl : hpre.length + 2 ≤ 200000000 := by rw [e1] at hyl; simp at hyl; omega
    have hva : v < a := i4 a (by simp)
    have hs2 : (a :: b :: hsuf).Pairwise fun x y => x < y := by rw [e1] at hys; exact (List.pairwise_append.1 hys).2.1
    have hab : a < b := (List.pairwise_cons.1 hs2).1 b (by simp)
    have ha : idx ys (hpre.length : Int) = some a := by rw [e1]; exact idx_mid hpre _ a
    have hb : idx ys ((hpre.length : Int) + 1) = some b := by
      rw [e1, show hpre ++ a :: b :: hsuf = (hpre ++ [a]) ++ b :: hsuf by simp, show ((hpre.length : Int) + 1) = ((hpre ++ [a]).length : Int) by simp]
      exact idx_mid (hpre ++ [a]) _ b
    have hnl : now.length ≤ pre.length := by rw [i3.length_eq]; exact List.length_filter_le _ _
    have hMl2 : pre.length + suf.length ≤ 100000000 := by rw [e2] at hMl; simpa using hMl
    have hnok : ∀ r ∈ now, R9 r := fun r hr => hok r (by rw [e2]; exact List.mem_append_left _ (List.mem_filter.1 (i3.subset hr)).1)
    have hdel := Delete_ok (N := N) (g := fun r => decide (r.Y1 ≤ a)) (f := fun z0 => F_shape_SetOf_2 z0 ys hpre.length) (l := now) (by omega) (by omega) (fun r _ => by unfold F_shape_SetOf_2; rw [ha]; rfl)
    obtain ⟨t, suf', now', s1, s2, s3, s4, s5⟩ := set_in hMl hok (bands := bands) (by omega) (k := (hpre.length : Int)) ⟨by omega, by omega⟩ ha hb hab (K := F_shape_SetOf_L4 N M ys m) suf pre (now.filter fun x => !decide (x.Y1 ≤ a)) N e2 (by omega) (fun r hr => hnok r (List.mem_filter.1 hr).1) (by
      have := List.length_filter_le (fun x : TRect => !decide (x.Y1 ≤ a)) now
      omega)
    have hsM : suf.Pairwise fun x y => x.Y0 ≤ y.Y0 := by rw [e2] at hMs; exact (List.pairwise_append.1 hMs).2.1
    have hsuf' : ∀ r ∈ suf', a < r.Y0 := fun r hr => by
      cases suf' with
      | nil => simp at hr
      | cons c cs =>
        have hc := s3 c rfl
        rcases List.mem_cons.1 hr with rfl | hr
        · exact hc
        · rw [s1] at hsM
          have := (List.pairwise_cons.1 (List.pairwise_append.1 hsM).2.1).1 r hr
          omega
    have ht : ∀ r ∈ t, r.Y0 = a ∧ a < r.Y1 := fun r hr => by
      have hrs : r ∈ suf := by rw [s1]; exact List.mem_append_left _ hr
      have hrM : r ∈ M := by rw [e2]; exact List.mem_append_right _ hrs
      have h1 := s2 r hr
      have h2 := i2 r hrs
      have h3 := hmem r hrM
      have hin : r.Y0 ∈ a :: b :: hsuf := by
        rw [e1] at h3
        rcases List.mem_append.1 h3 with h | h
        · have := i5 _ h; omega
        · exact h
      have hle : a ≤ r.Y0 := by
        rcases List.mem_cons.1 hin with h | h
        · omega
        · have := (List.pairwise_cons.1 hs2).1 _ h; omega
      have := (hok r hrM).y
      omega
    have hperm : (now.filter (fun x => !decide (x.Y1 ≤ a)) ++ t).Perm ((pre ++ t).filter fun r => decide (a < r.Y1)) := by
      rw [List.filter_append]
      have p1 : (now.filter fun x => !decide (x.Y1 ≤ a)).Perm (pre.filter fun r => decide (a < r.Y1)) := by
        refine (i3.filter _).trans ?_
        rw [List.filter_filter]
        refine List.Perm.of_eq (List.filter_congr fun r _ => ?_)
        rw [Bool.eq_iff_iff]
        simp
        omega
      have p2 : t.filter (fun r => decide (a < r.Y1)) = t := List.filter_eq_self.2 fun r hr => by simpa using (ht r hr).2
      rw [p2]
      exact p1.append_right t
    have hcov : covS ((now.filter (fun x => !decide (x.Y1 ≤ a)) ++ t).map xsR) = rowS l a := by
      have hin : ∀ r, r ∈ (now.filter (fun x => !decide (x.Y1 ≤ a)) ++ t) ↔ r ∈ l.filter fun r => decide (r.Y0 ≤ a) && decide (a < r.Y1) := fun r => by
        rw [hperm.mem_iff, List.mem_filter, List.mem_filter, hl, e2, s1]
        simp only [List.mem_append, Bool.and_eq_true, decide_eq_true_eq]
        constructor
        · rintro ⟨h | h, h2⟩
          · exact ⟨.inl h, by have := i1 r h; omega, h2⟩
          · exact ⟨.inr (.inl h), by have := (ht r h).1; omega, h2⟩
        · rintro ⟨h | h | h, h1, h2⟩
          · exact ⟨.inl h, h2⟩
          · exact ⟨.inr h, h2⟩
          · have := hsuf' r h; omega
      have hlim : ∀ r, r ∈ M → -2000000001 < (xsR r).1 ∧ (xsR r).1 < (xsR r).2 := fun r hr => by
        have := hok r hr
        exact ⟨by have := this.x0; show -2000000001 < r.X0; omega, this.x⟩
      have hMr : ∀ r, r ∈ (now.filter (fun x => !decide (x.Y1 ≤ a)) ++ t) → r ∈ M := fun r hr => (hl r).1 (List.mem_filter.1 ((hin r).1 hr)).1
      unfold rowS
      refine covS_congr (lo := -2000000001) (fun p hp => ?_) (fun p hp => ?_) fun x => ?_
      · obtain ⟨r, hr, rfl⟩ := List.mem_map.1 hp; exact hlim r (hMr r hr)
      · obtain ⟨r, hr, rfl⟩ := List.mem_map.1 hp; exact hlim r ((hl r).1 (List.mem_filter.1 hr).1)
      · unfold InS
        constructor
        · rintro ⟨p, hp, h⟩
          obtain ⟨r, hr, rfl⟩ := List.mem_map.1 hp
          exact ⟨_, List.mem_map.2 ⟨r, (hin r).1 hr, rfl⟩, h⟩
        · rintro ⟨p, hp, h⟩
          obtain ⟨r, hr, rfl⟩ := List.mem_map.1 hp
          exact ⟨_, List.mem_map.2 ⟨r, (hin r).2 hr, rfl⟩, h⟩
    rw [F_shape_SetOf_L4.eq_2, if_pos (by rw [w64_id (by omega) (by omega), e1]; simp; omega), hdel, Option.bind_some, s5, hcov]
    have hpb := pushB_len bands (a, b, rowS l a)
    have ih := set_out hMs hys hmem hl (b :: hsuf) (hpre ++ [a]) m (pushB bands (a, b, rowS l a)) (pre ++ t) suf' now' a (by rw [e1]; simp) (by rw [e2, s1]; simp) (by simp at hm ⊢; omega) (by simp; omega) (fun r hr => by
      rcases List.mem_append.1 hr with hr | hr
      · have := i1 r hr; omega
      · have := (ht r hr).1; omega) hsuf' (s4.trans hperm) (fun h hh => (List.pairwise_cons.1 hs2).1 h hh) (fun h hh => by
      rcases List.mem_append.1 hh with hh | hh
      · have := i5 h hh; omega
      · simp at hh; omega)
    rw [show ((hpre.length : Int) + 1) = ((hpre ++ [a]).length : Int) by simp, ih]
    rfl
end
theorem ysOfR_cons (r : TRect) (l : List TRect) : ysOfR (r :: l) = [r.Y0, r.Y1] ++ ysOfR l := rfl
theorem SetOf_ok {N : Nat} {l : List TRect} (hN : 10000000000 ≤ N) (hl : l.length ≤ 100000000) (hok : ∀ r ∈ l, R9 r) : F_shape_SetOf N l = some ((setB l).map toP) := by
  obtain ⟨M, m1, m2, m3⟩ := sort_key (c := fun z0 z1 => F_shape_SetOf_1 z0 z1) (k := fun r => r.Y0) (l := l) (by omega) (fun x hx y hy => by
    have a := (hok x hx).y0; have b := (hok y hy).y0
    unfold F_shape_SetOf_1
    rw [w64_id (by omega) (by omega)])
  have hMl : M.length ≤ 100000000 := by rw [m2.length_eq]; exact hl
  have hMok : ∀ r ∈ M, R9 r := fun r hr => hok r (m2.subset hr)
  have hy : srtd (ysOfR M) = srtd (ysOfR l) := srtd_perm fun y => by
    rw [mem_ysOfR, mem_ysOfR]
    exact ⟨fun ⟨r, hr, h⟩ => ⟨r, m2.subset hr, h⟩, fun ⟨r, hr, h⟩ => ⟨r, m2.symm.subset hr, h⟩⟩
  have hyl : (srtd (ysOfR l)).length ≤ 200000000 := Nat.le_trans (srtd_len _) (by rw [ysOfR_len]; omega)
  have L1 : ∀ (suf : List TRect) (i : Nat) (out : List Int), out.length + 2 * suf.length ≤ 250000000 → F_shape_SetOf_L1 N M suf i out = (F_shape_SetOf_L4 N M (srtd (out ++ ysOfR suf)) N 0 [] [] 0) := by
    intro suf
    induction suf with
    | nil =>
      intro i out ho
      rw [F_shape_SetOf_L1.eq_1]
      have := srtd_ok (l := out) (by simp at ho; omega)
      rw [srtI_ok (by simp at ho; omega), Option.bind_some]
      rw [srtI_ok (by simp at ho; omega), Option.bind_some] at this
      rw [this, Option.bind_some]
      show _ = F_shape_SetOf_L4 N M (srtd (out ++ [])) N 0 [] [] 0
      rw [List.append_nil]
    | cons r suf ih =>
      intro i out ho
      simp only [List.length_cons] at ho
      rw [F_shape_SetOf_L1.eq_2, apd_ok (by simp; omega), Option.bind_some, ih (i + 1) _ (by simp; omega), ysOfR_cons, List.append_assoc]
  unfold F_shape_SetOf F_slices_Clone_Rect
  rw [apd_ok (by simp; omega), Option.bind_some, Option.bind_some, List.nil_append, m1, Option.bind_some, L1 M 0 [] (by simp; omega), List.nil_append, hy]
  have := set_out (l := l) hN hMl hMok hyl m3 (srtd_strict _) (fun r hr => (srtd_mem _ _).2 (mem_ysOfR.2 ⟨r, m2.subset hr, .inl rfl⟩)) (fun r => ⟨fun h => m2.symm.subset h, fun h => m2.subset h⟩) (srtd (ysOfR l)) [] N [] [] M [] (-3000000000) rfl rfl (by omega) (by simp) (by simp) (fun r hr => by have := (hMok r hr).y0; omega) (by simp) (fun h hh => by
    obtain ⟨r, hr, e⟩ := mem_ysOfR.1 ((srtd_mem _ _).1 hh)
    have a := hok r hr
    have := a.y0; have := a.y1
    rcases e with rfl | rfl <;> omega) (by simp)
  exact this
theorem rowS_len (l : List TRect) (y : Int) : (rowS l y).length ≤ l.length := by
  unfold rowS covS
  have := covS_len ((l.filter fun r => decide (r.Y0 ≤ y) && decide (y < r.Y1)).map xsR) []
  have h2 := List.length_filter_le (fun r : TRect => decide (r.Y0 ≤ y) && decide (y < r.Y1)) l
  simp at this
  omega
end Go.Proofs.YtcjeebkoafonpaaGreatDoor
namespace Go.Proofs.YtcjeebkoafonpaaGreatDoor
/-- Bands that are not too many. -/
structure Small (l : List Bd) : Prop where
  len : l.length ≤ 200000000
  row : ∀ b ∈ l, b.2.2.length ≤ 100000000
  tot : (rectsB l).length ≤ 4000000000
theorem rectsB_cons (b : Bd) (l : List Bd) : rectsB (b :: l) = rectsOf b ++ rectsB l := rfl
theorem rectsOf_len (b : Bd) : (rectsOf b).length = b.2.2.length := by unfold rectsOf; simp
theorem rectsB_len {l : List Bd} {R : Nat} (h : ∀ b ∈ l, b.2.2.length ≤ R) : (rectsB l).length ≤ R * l.length := by
  induction l with
  | nil => simp [rectsB]
  | cons b l ih =>
    rw [rectsB_cons, List.length_append, rectsOf_len]
    have := ih (fun c hc => h c (by simp [hc])); have := h b (by simp)
    rw [List.length_cons, Nat.mul_succ]
    omega
theorem rectsB_append (l m : List Bd) : rectsB (l ++ m) = rectsB l ++ rectsB m := by unfold rectsB; rw [List.flatMap_append]
theorem rectsB_row {l : List Bd} {b : Bd} (h : b ∈ l) : b.2.2.length ≤ (rectsB l).length := by
  obtain ⟨s, t, rfl⟩ := List.append_of_mem h
  rw [rectsB_append, rectsB_cons, List.length_append, List.length_append, rectsOf_len]
  omega
theorem pushB_row {l : List Bd} {b : Bd} {R : Nat} (h : ∀ c ∈ l, c.2.2.length ≤ R) (hb : b.2.2.length ≤ R) : ∀ c ∈ pushB l b, c.2.2.length ≤ R := by
  by_cases he : b.2.2 = []
  · rw [pushB_empty he]; exact h
  · rcases List.eq_nil_or_concat l with rfl | ⟨j, c, hc⟩
    · rw [pushB_nil he]
      intro c hc
      simp at hc
      subst hc
      exact hb
    · rw [List.concat_eq_append] at hc
      subst hc
      rw [pushB_snoc he]
      intro d hd
      split at hd
      · rcases List.mem_append.1 hd with hd | hd
        · exact h d (by simp [hd])
        · simp at hd; subst hd; exact h c (by simp)
      · rcases List.mem_append.1 hd with hd | hd
        · exact h d hd
        · simp at hd; subst hd; exact hb
theorem bandsGo_small {l : List TRect} {R : Nat} (hl : l.length ≤ R) : ∀ (ys : List Int) (out : List Bd), (∀ c ∈ out, c.2.2.length ≤ R) → (bandsGo l ys out).length ≤ out.length + ys.length ∧ ∀ c ∈ bandsGo l ys out, c.2.2.length ≤ R
  | [], out, h => ⟨by simp [bandsGo], h⟩
  | [a], out, h => ⟨by simp [bandsGo], h⟩
  | a :: b :: ys, out, h => by
    have hr := rowS_len l a
    have hp := pushB_len out (a, b, rowS l a)
    obtain ⟨i1, i2⟩ := bandsGo_small hl (b :: ys) (pushB out (a, b, rowS l a)) (pushB_row h (by show (rowS l a).length ≤ R; omega))
    simp only [List.length_cons] at i1 ⊢
    exact ⟨by show (bandsGo l (b :: ys) (pushB out (a, b, rowS l a))).length ≤ _; omega, i2⟩
theorem setB_len (l : List TRect) : (setB l).length ≤ 2 * l.length ∧ ∀ b ∈ setB l, b.2.2.length ≤ l.length := by
  obtain ⟨h1, h2⟩ := bandsGo_small (Nat.le_refl l.length) (srtd (ysOfR l)) [] (by simp)
  have := srtd_len (ysOfR l)
  rw [ysOfR_len] at this
  exact ⟨by show (bandsGo l (srtd (ysOfR l)) []).length ≤ _; simp at h1; omega, h2⟩
theorem setB_small' {l : List TRect} (hl : l.length ≤ 100000000) (ht : (rectsB (setB l)).length ≤ 4000000000) : Small (setB l) := by
  obtain ⟨h1, h2⟩ := setB_len l
  exact ⟨by omega, fun b hb => by have := h2 b hb; omega, ht⟩
theorem setB_small {l : List TRect} (hl : l.length ≤ 20000) : Small (setB l) := by
  obtain ⟨h1, h2⟩ := setB_len l
  refine setB_small' (by omega) ?_
  have := rectsB_len (R := 20000) (l := setB l) fun b hb => by have := h2 b hb; omega
  omega
section
variable {N : Nat} (hN : 10000000000 ≤ N)
include hN
omit hN in
theorem Rects_in {b : Bd} {K : List TRect → Option (List TRect)} (hb : b.2.2.length ≤ 100000000) : ∀ (suf pre : List (Int × Int)) (m : Nat) (out : List TRect), b.2.2 = pre ++ suf → suf.length < m → out.length + suf.length ≤ 4294967296 →
    F_shape_Set__Rects_L4 K (toP b) m out ((2 * pre.length : Nat) : Int) = K (out ++ suf.map fun s => ⟨s.1, b.1, s.2, b.2.1⟩)
  | [], pre, m + 1, out, h1, _, _ => by
    rw [F_shape_Set__Rects_L4.eq_2, if_neg (by show ¬ decide (((2 * pre.length : Nat) : Int) < ((flatS b.2.2).length : Int)) = true; rw [h1, flatS_len]; simp)]
    simp
  | s :: suf, pre, m + 1, out, h1, h2, h3 => by
    have hpl : pre.length ≤ 100000000 := by rw [h1] at hb; simp at hb; omega
    have hfl : flatS b.2.2 = flatS pre ++ s.1 :: s.2 :: flatS suf := by rw [h1, flatS_append]; rfl
    have hid : idx (flatS b.2.2) ((2 * pre.length : Nat) : Int) = some s.1 := by rw [hfl, ← flatS_len]; exact idx_mid _ _ _
    have hid2 : idx (flatS b.2.2) (((2 * pre.length : Nat) : Int) + 1) = some s.2 := by
      rw [hfl, show flatS pre ++ s.1 :: s.2 :: flatS suf = (flatS pre ++ [s.1]) ++ s.2 :: flatS suf by simp, show (((2 * pre.length : Nat) : Int) + 1) = ((flatS pre ++ [s.1]).length : Int) by simp [flatS_len]]
      exact idx_mid _ _ _
    simp only [List.length_cons] at h2 h3
    rw [F_shape_Set__Rects_L4.eq_2, if_pos (by show decide (((2 * pre.length : Nat) : Int) < ((flatS b.2.2).length : Int)) = true; rw [hfl]; simp [flatS_len]; omega), w64_id (x := ((2 * pre.length : Nat) : Int) + 1) (by omega) (by omega), w64_id (x := ((2 * pre.length : Nat) : Int) + 2) (by omega) (by omega)]
    show ((idx (flatS b.2.2) _).bind fun x172 => (idx (flatS b.2.2) _).bind fun x173 => _) = _
    rw [hid, Option.bind_some, hid2, Option.bind_some, apd_ok (by simp; omega), Option.bind_some]
    have := Rects_in (K := K) hb suf (pre ++ [s]) m (out ++ [⟨s.1, b.1, s.2, b.2.1⟩]) (by rw [h1]; simp) (by omega) (by simp; omega)
    rw [show ((2 * (pre ++ [s]).length : Nat) : Int) = ((2 * pre.length : Nat) : Int) + 2 by simp; omega] at this
    show F_shape_Set__Rects_L4 K (toP b) m (out ++ [⟨s.1, b.1, s.2, b.2.1⟩]) _ = _
    rw [this]
    simp
theorem Rects_ok {l : List Bd} (h : Small l) : F_shape_Set__Rects N (l.map toP) = some (rectsB l) := by
  have key : ∀ (suf : List Bd) (i : Nat) (out : List TRect), (∀ b ∈ suf, b.2.2.length ≤ 100000000) → out.length + (rectsB suf).length ≤ 4294967296 → F_shape_Set__Rects_L3 N (suf.map toP) i out = some (out ++ rectsB suf) := by
    intro suf
    induction suf with
    | nil => intro i out _ _; rw [List.map_nil, F_shape_Set__Rects_L3.eq_1]; simp [rectsB]
    | cons b suf ih =>
      intro i out hb ho
      have hb0 := hb b (by simp)
      rw [rectsB_cons, List.length_append, rectsOf_len] at ho
      rw [List.map_cons, F_shape_Set__Rects_L3.eq_2]
      have := Rects_in (K := F_shape_Set__Rects_L3 N (suf.map toP) (i + 1)) hb0 b.2.2 [] N out rfl (by omega) (by omega)
      rw [show ((2 * ([] : List (Int × Int)).length : Nat) : Int) = 0 from rfl] at this
      rw [this, ih (i + 1) _ (fun c hc => hb c (by simp [hc])) (by simp; omega), rectsB_cons, List.append_assoc]
      rfl
  have := key l 0 [] h.row (by have := h.tot; simp; omega)
  rw [List.nil_append] at this
  exact this
omit hN in
theorem Many_ok {l : List Bd} (h : (rectsB l).length ≤ 1000000000000000000) : F_shape_Set__Many (l.map toP) = some ((rectsB l).length : Int) := by
  have key : ∀ (suf : List Bd) (i : Nat) (c : Int), 0 ≤ c → c + (rectsB suf).length ≤ 1000000000000000000 → F_shape_Set__Many_L1 (suf.map toP) i c = some (c + ((rectsB suf).length : Int)) := by
    intro suf
    induction suf with
    | nil => intro i c _ _; rw [List.map_nil, F_shape_Set__Many_L1.eq_1]; simp [rectsB]
    | cons b suf ih =>
      intro i c h0 ho
      rw [rectsB_cons, List.length_append, rectsOf_len] at ho
      have e : Int.tdiv ((toP b).Xs.length : Int) 2 = (b.2.2.length : Int) := by
        show Int.tdiv ((flatS b.2.2).length : Int) 2 = _
        rw [flatS_len, Int.tdiv_eq_ediv_of_nonneg (by omega)]; omega
      rw [List.map_cons, F_shape_Set__Many_L1.eq_2, e, w64_id (x := (b.2.2.length : Int)) (by omega) (by omega), w64_id (by omega) (by omega), ih (i + 1) _ (by omega) (by omega), rectsB_cons, List.length_append, rectsOf_len]
      congr 1
      omega
  have := key l 0 0 (by omega) (by omega)
  rw [Int.zero_add] at this
  exact this
/-- What is told of bands: their rectangles, if they are not too many. -/
def toldV (l : List Bd) : List TRect × Int := if 2000 < (rectsB l).length then ([], 2) else (rectsB l, 0)
end
end Go.Proofs.YtcjeebkoafonpaaGreatDoor
namespace Go.Proofs.YtcjeebkoafonpaaGreatDoor
instance : DecidableEq TRect := fun _ _ => decidable_of_iff _ eqTRect_iff
/-- The error of a rectangle. -/
def rErr (r : TRect) : Int :=
  if (((within r.X0 (-1000000) 1000000 && within r.Y0 (-1000000) 1000000) && within r.X1 (-1000000) 1000000) && within r.Y1 (-1000000) 1000000) = false then 1
  else if (decide (r.X1 ≤ r.X0) || decide (r.Y1 ≤ r.Y0)) = true then 13 else 0
def rsErr : List TRect → Int
  | [] => 0
  | r :: l => if rErr r = 0 then rsErr l else rErr r
def rectsErr (l : List TRect) : Int := if 2000 < l.length then 2 else rsErr l
theorem rErr_ok {r : TRect} (h : rErr r = 0) : ROk r := by
  unfold rErr at h
  split at h
  · omega
  · rename_i h1
    split at h
    · omega
    · rename_i h2
      rw [Bool.not_eq_false, Bool.and_eq_true, Bool.and_eq_true, Bool.and_eq_true, within_iff, within_iff, within_iff, within_iff] at h1
      rw [Bool.or_eq_true, not_or, decide_eq_true_eq, decide_eq_true_eq] at h2
      exact ⟨h1.1.1.1, h1.1.1.2, h1.1.2, h1.2, by omega, by omega⟩
theorem rErr_of {r : TRect} (h : ROk r) : rErr r = 0 := by
  unfold rErr
  have a := h.x0; have b := h.y0; have c := h.x1; have d := h.y1; have e := h.x; have f := h.y
  rw [if_neg (by rw [Bool.not_eq_false, Bool.and_eq_true, Bool.and_eq_true, Bool.and_eq_true, within_iff, within_iff, within_iff, within_iff]; exact ⟨⟨⟨a, b⟩, c⟩, d⟩), if_neg (by rw [Bool.or_eq_true, not_or, decide_eq_true_eq, decide_eq_true_eq]; omega)]
theorem rsErr_ok : ∀ {l : List TRect}, rsErr l = 0 → ∀ r ∈ l, ROk r
  | [], _, r, hr => by simp at hr
  | a :: l, h, r, hr => by
    unfold rsErr at h
    split at h
    · rename_i h1
      rcases List.mem_cons.1 hr with rfl | hr
      · exact rErr_ok h1
      · exact rsErr_ok h r hr
    · rename_i h1; exact absurd h h1
theorem rsErr_of : ∀ {l : List TRect}, (∀ r ∈ l, ROk r) → rsErr l = 0
  | [], _ => rfl
  | a :: l, h => by
    unfold rsErr
    rw [if_pos (rErr_of (h a (by simp)))]
    exact rsErr_of fun r hr => h r (by simp [hr])
theorem rectsErr_ok {l : List TRect} (h : rectsErr l = 0) : l.length ≤ 2000 ∧ ∀ r ∈ l, ROk r := by
  unfold rectsErr at h
  split at h
  · omega
  · exact ⟨by omega, rsErr_ok h⟩
theorem isRect_ok (r : TRect) : F_shape_isRect r = some (((within r.X0 (-1000000) 1000000 && within r.Y0 (-1000000) 1000000) && within r.X1 (-1000000) 1000000) && within r.Y1 (-1000000) 1000000) := by
  unfold F_shape_isRect F_shape_IsAt F_shape_within within
  simp only [Option.bind_some]
  cases decide (-1000000 ≤ r.X0) && decide (r.X0 ≤ 1000000) <;> cases decide (-1000000 ≤ r.Y0) && decide (r.Y0 ≤ 1000000) <;> cases decide (-1000000 ≤ r.X1) && decide (r.X1 ≤ 1000000) <;> rfl
theorem CheckRects_ok (l : List TRect) : F_shape_CheckRects l = some (rectsErr l) := by
  have key : ∀ (l : List TRect) (i : Nat), F_shape_CheckRects_L1 l i = some (rsErr l) := by
    intro l
    induction l with
    | nil => intro i; rw [F_shape_CheckRects_L1.eq_1]; rfl
    | cons r l ih =>
      intro i
      rw [F_shape_CheckRects_L1.eq_2, isRect_ok, Option.bind_some, ih]
      show _ = some (if rErr r = 0 then rsErr l else rErr r)
      generalize rsErr l = z
      unfold rErr
      cases (((within r.X0 (-1000000) 1000000 && within r.Y0 (-1000000) 1000000) && within r.X1 (-1000000) 1000000) && within r.Y1 (-1000000) 1000000)
      · simp
      · cases (decide (r.X1 ≤ r.X0) || decide (r.Y1 ≤ r.Y0)) <;> simp
  unfold F_shape_CheckRects rectsErr
  by_cases h : 2000 < l.length
  · rw [if_pos (by simp; omega), if_pos h]
  · rw [if_neg (by simp; omega), if_neg h, key]
/-- Two rectangles in order. -/
def ltR (a b : TRect) : Bool := decide (a.Y0 < b.Y0) || (decide (a.Y0 = b.Y0) && decide (a.X0 < b.X0))
def ordR : List TRect → Bool
  | a :: b :: l => ltR a b && ordR (b :: l)
  | _ => true
def regionErr (l : List TRect) : Int := if rectsErr l = 0 then if ordR l = true then if rectsB (setB l) = l then 0 else 3 else 8 else rectsErr l
theorem CheckRegion_ok {N : Nat} (hN : 10000000000 ≤ N) (l : List TRect) : F_shape_CheckRegion N l = some (regionErr l) := by
  unfold F_shape_CheckRegion regionErr
  rw [CheckRects_ok, Option.bind_some]
  by_cases he : rectsErr l = 0
  · obtain ⟨hl, hok⟩ := rectsErr_ok he
    rw [if_neg (by simpa using he), if_pos he]
    have hend : (F_shape_SetOf N l).bind (fun y123 => (F_shape_Set__Rects N y123).bind fun y125 => (F_slices_Equal_Rect y125 l).bind fun y127 => if (!y127) then some 3 else some 0) = some (if rectsB (setB l) = l then (0 : Int) else 3) := by
      rw [SetOf_ok hN (by omega) (fun r hr => (hok r hr).r9), Option.bind_some, Rects_ok hN (setB_small (by omega)), Option.bind_some]
      obtain ⟨b, h1, h2⟩ := EqualR_ok (rectsB (setB l)) l
      rw [h1, Option.bind_some]
      cases b
      · rw [if_pos (by simp), if_neg (fun h => by have := h2.2 h; cases this)]
      · rw [if_neg (by simp), if_pos (h2.1 rfl)]
    have key : ∀ (suf pre : List TRect) (a : TRect) (m : Nat), l = pre ++ a :: suf → suf.length < m → F_shape_CheckRegion_L1 N l m ((pre.length : Int) + 1) = some (if ordR (a :: suf) = true then if rectsB (setB l) = l then 0 else 3 else 8) := by
      intro suf
      induction suf with
      | nil =>
        intro pre a m h1 h2
        obtain ⟨m, rfl⟩ : ∃ k, m = k + 1 := ⟨m - 1, by omega⟩
        rw [F_shape_CheckRegion_L1.eq_2, if_neg (by rw [h1]; simp), hend]
        rfl
      | cons b suf ih =>
        intro pre a m h1 h2
        obtain ⟨m, rfl⟩ : ∃ k, m = k + 1 := ⟨m - 1, by omega⟩
        have hpl : pre.length ≤ 2000 := by rw [h1] at hl; simp at hl; omega
        have ha : idx l (pre.length : Int) = some a := by rw [h1]; exact idx_mid pre _ a
        have hb : idx l ((pre.length : Int) + 1) = some b := by
          rw [h1, show pre ++ a :: b :: suf = (pre ++ [a]) ++ b :: suf by simp, show ((pre.length : Int) + 1) = ((pre ++ [a]).length : Int) by simp]
          exact idx_mid (pre ++ [a]) _ b
        rw [F_shape_CheckRegion_L1.eq_2, if_pos (by rw [h1]; simp; omega), w64_id (x := (pre.length : Int) + 1 - 1) (by omega) (by omega), show ((pre.length : Int) + 1 - 1) = (pre.length : Int) by omega, ha, Option.bind_some, hb, Option.bind_some, w64_id (by omega) (by omega)]
        have hlt : ((decide (b.Y0 < a.Y0)) || ((b.Y0 == a.Y0) && (decide (b.X0 ≤ a.X0)))) = !ltR a b := by
          unfold ltR
          rw [Bool.eq_iff_iff]
          simp
          omega
        rw [hlt]
        have hor : ordR (a :: b :: suf) = (ltR a b && ordR (b :: suf)) := rfl
        rw [hor]
        cases ltR a b
        · simp
        · have := ih (pre ++ [a]) b m (by rw [h1]; simp) (by simp at h2; omega)
          rw [show (((pre ++ [a]).length : Int) + 1) = (pre.length : Int) + 1 + 1 by simp] at this
          rw [this]
          simp
    cases l with
    | nil =>
      obtain ⟨m, hm⟩ : ∃ k, N = k + 1 := ⟨N - 1, by omega⟩
      have hf : F_shape_CheckRegion_L1 N ([] : List TRect) N 1 = F_shape_CheckRegion_L1 N ([] : List TRect) (m + 1) 1 := congrArg (fun z => F_shape_CheckRegion_L1 N ([] : List TRect) z 1) hm
      rw [hf, F_shape_CheckRegion_L1.eq_2, if_neg (by simp), hend]
      rfl
    | cons a suf =>
      exact key suf [] a N rfl (by simp at hl; omega)
  · rw [if_pos (by simpa using he), if_neg he]
/-- The region of rectangles. -/
def regionV (l : List TRect) : List TRect × Int := if rectsErr l = 0 then toldV (setB l) else ([], rectsErr l)
end Go.Proofs.YtcjeebkoafonpaaGreatDoor
namespace Go.Proofs.YtcjeebkoafonpaaGreatDoor
/-- The stretches of bands at a height. -/
def rowAt : List Bd → Int → List (Int × Int)
  | [], _ => []
  | b :: l, y => if b.1 ≤ y ∧ y < b.2.1 then b.2.2 else rowAt l y
/-- Bands in order, none empty, neighbours that touch differ. -/
def CanB : Int → List Bd → Prop
  | _, [] => True
  | lo, b :: l => lo ≤ b.1 ∧ b.1 < b.2.1 ∧ b.2.2 ≠ [] ∧ (∀ d, l.head? = some d → d.1 = b.2.1 → d.2.2 ≠ b.2.2) ∧ CanB b.2.1 l
theorem rowAt_lo : ∀ {l : List Bd} {lo y : Int}, CanB lo l → y < lo → rowAt l y = []
  | [], _, _, _, _ => rfl
  | b :: l, lo, y, h, hy => by
    unfold rowAt
    rw [if_neg (by have := h.1; omega)]
    exact rowAt_lo h.2.2.2.2 (by have := h.1; have := h.2.1; omega)
theorem CanB.uniq : ∀ {l m : List Bd} {lo lo' : Int}, CanB lo l → CanB lo' m → (∀ y, rowAt l y = rowAt m y) → l = m
  | [], [], _, _, _, _, _ => rfl
  | [], b :: m, _, _, _, h2, h => by
    have := h b.1
    unfold rowAt at this
    rw [if_pos ⟨Int.le_refl _, h2.2.1⟩] at this
    exact absurd this.symm h2.2.2.1
  | b :: l, [], _, _, h1, _, h => by
    have := h b.1
    unfold rowAt at this
    rw [if_pos ⟨Int.le_refl _, h1.2.1⟩] at this
    exact absurd this h1.2.2.1
  | b :: l, d :: m, lo, lo', h1, h2, h => by
    obtain ⟨a1, a2, a3, a4, a5⟩ := h1
    obtain ⟨b1, b2, b3, b4, b5⟩ := h2
    have fst : ∀ {l : List Bd} {b : Bd} {y : Int}, b.1 ≤ y → y < b.2.1 → rowAt (b :: l) y = b.2.2 := fun h1 h2 => by unfold rowAt; rw [if_pos ⟨h1, h2⟩]
    have low : ∀ {l : List Bd} {b : Bd} {y : Int}, CanB b.2.1 l → b.1 < b.2.1 → y < b.1 → rowAt (b :: l) y = [] := fun h1 h2 h3 => by
      unfold rowAt
      rw [if_neg (by omega)]
      exact rowAt_lo h1 (by omega)
    have e1 : b.1 = d.1 := by
      have hb := h b.1
      have hd := h d.1
      rw [fst (Int.le_refl _) a2] at hb
      rw [fst (l := m) (b := d) (Int.le_refl _) b2] at hd
      rcases Int.lt_trichotomy b.1 d.1 with hlt | heq | hgt
      · rw [low b5 b2 hlt] at hb; exact absurd hb a3
      · exact heq
      · rw [low a5 a2 hgt] at hd; exact absurd hd.symm b3
    have e2 : b.2.2 = d.2.2 := by
      have hb := h b.1
      rw [fst (Int.le_refl _) a2, e1, fst (Int.le_refl _) b2] at hb
      exact hb
    have past : ∀ {l : List Bd} {b : Bd}, CanB b.2.1 l → (∀ d, l.head? = some d → d.1 = b.2.1 → d.2.2 ≠ b.2.2) → b.2.2 ≠ [] → rowAt (b :: l) b.2.1 ≠ b.2.2 := fun {l b} h1 h2 h3 => by
      unfold rowAt
      rw [if_neg (by omega)]
      cases l with
      | nil => exact fun h => h3 h.symm
      | cons e l =>
        unfold rowAt
        by_cases he : e.1 = b.2.1
        · rw [if_pos ⟨by omega, by have := h1.2.1; omega⟩]
          exact h2 e rfl he
        · have hlt : b.2.1 < e.1 := by have := h1.1; omega
          rw [if_neg (by omega), rowAt_lo h1.2.2.2.2 (by have := h1.2.1; omega)]
          exact fun h => h3 h.symm
    have e3 : b.2.1 = d.2.1 := by
      rcases Int.lt_trichotomy b.2.1 d.2.1 with hlt | heq | hgt
      · have := h b.2.1
        rw [fst (l := m) (b := d) (by omega) hlt, ← e2] at this
        exact absurd this (past a5 a4 a3)
      · exact heq
      · have := h d.2.1
        rw [fst (l := l) (b := b) (by omega) hgt, e2] at this
        exact absurd this.symm (past b5 b4 b3)
    have hbd : b = d := by
      obtain ⟨x, y, z⟩ := b
      obtain ⟨x', y', z'⟩ := d
      simp only at e1 e2 e3
      rw [e1, e2, e3]
    subst hbd
    rw [CanB.uniq a5 b5 fun y => by
      by_cases hy : y < b.2.1
      · rw [rowAt_lo a5 hy, rowAt_lo b5 hy]
      · have := h y
        unfold rowAt at this
        rw [if_neg (by omega), if_neg (by omega)] at this
        exact this]
end Go.Proofs.YtcjeebkoafonpaaGreatDoor
namespace Go.Proofs.YtcjeebkoafonpaaGreatDoor
/-- A square lies in bands. -/
def InB (x y : Int) (l : List Bd) : Prop := InS x (rowAt l y)
/-- A square lies in a rectangle of many. -/
def InR (x y : Int) (l : List TRect) : Prop := ∃ r ∈ l, (r.X0 ≤ x ∧ x < r.X1) ∧ (r.Y0 ≤ y ∧ y < r.Y1)
/-- Bands in their one form. -/
structure BOk (l : List Bd) : Prop where
  can : ∃ lo, CanB lo l
  row : ∀ b ∈ l, ∃ lo, Can lo b.2.2
theorem rowAt_mem : ∀ {l : List Bd} {y : Int}, rowAt l y = [] ∨ ∃ b ∈ l, b.1 ≤ y ∧ y < b.2.1 ∧ rowAt l y = b.2.2
  | [], _ => .inl rfl
  | b :: l, y => by
    unfold rowAt
    by_cases h : b.1 ≤ y ∧ y < b.2.1
    · rw [if_pos h]; exact .inr ⟨b, by simp, h.1, h.2, rfl⟩
    · rw [if_neg h]
      rcases rowAt_mem (l := l) (y := y) with h1 | ⟨c, h1, h2⟩
      · exact .inl h1
      · exact .inr ⟨c, by simp [h1], h2⟩
theorem BOk.at {l : List Bd} (h : BOk l) (y : Int) : ∃ lo, Can lo (rowAt l y) := by
  rcases rowAt_mem (l := l) (y := y) with h1 | ⟨b, h1, _, _, h2⟩
  · rw [h1]; exact ⟨0, trivial⟩
  · rw [h2]; exact h.row b h1
theorem CanB.mem : ∀ {l : List Bd} {lo : Int}, CanB lo l → ∀ b ∈ l, lo ≤ b.1 ∧ b.1 < b.2.1 ∧ b.2.2 ≠ []
  | [], _, _, b, hb => by simp at hb
  | c :: l, lo, h, b, hb => by
    rcases List.mem_cons.1 hb with rfl | hb
    · exact ⟨h.1, h.2.1, h.2.2.1⟩
    · have hm := h.2.2.2.2.mem b hb
      have := h.1; have := h.2.1
      exact ⟨by omega, hm.2.1, hm.2.2⟩
theorem rowAt_of : ∀ {l : List Bd} {lo y : Int} {b : Bd}, CanB lo l → b ∈ l → b.1 ≤ y → y < b.2.1 → rowAt l y = b.2.2
  | [], _, _, _, _, hb, _, _ => by simp at hb
  | c :: l, lo, y, b, h, hb, h1, h2 => by
    unfold rowAt
    rcases List.mem_cons.1 hb with rfl | hb
    · rw [if_pos ⟨h1, h2⟩]
    · have := h.2.2.2.2.mem b hb
      rw [if_neg (by omega)]
      exact rowAt_of h.2.2.2.2 hb h1 h2
/-- The form is one: bands with the same squares are the same. -/
theorem BOk.uniq {l m : List Bd} (h1 : BOk l) (h2 : BOk m) (h : ∀ x y, InB x y l ↔ InB x y m) : l = m := by
  obtain ⟨lo, c1⟩ := h1.can
  obtain ⟨lo', c2⟩ := h2.can
  refine c1.uniq c2 fun y => ?_
  obtain ⟨a, ha⟩ := h1.at y
  obtain ⟨b, hb⟩ := h2.at y
  exact ha.uniq hb fun x => h x y
theorem low_ex : ∀ (l : List (Int × Int)), ∃ lo, ∀ p ∈ l, lo < p.1
  | [] => ⟨0, by simp⟩
  | q :: l => by
    obtain ⟨lo, h⟩ := low_ex l
    refine ⟨min lo (q.1 - 1), fun p hp => ?_⟩
    rcases List.mem_cons.1 hp with rfl | hp
    · omega
    · have := h p hp; omega
theorem cov_ok {l : List (Int × Int)} (h : ∀ p ∈ l, p.1 < p.2) : (∃ lo, Can lo (covS l)) ∧ ∀ x, InS x (covS l) ↔ InS x l := by
  obtain ⟨lo, hlo⟩ := low_ex l
  obtain ⟨h1, h2⟩ := covS_ok (lo := lo) (l := l) fun p hp => ⟨hlo p hp, h p hp⟩
  exact ⟨⟨lo, h1⟩, h2⟩
theorem rowS_ok {l : List TRect} (h : ∀ r ∈ l, r.X0 < r.X1) (y : Int) : (∃ lo, Can lo (rowS l y)) ∧ ∀ x, InS x (rowS l y) ↔ InR x y l := by
  obtain ⟨h1, h2⟩ := cov_ok (l := (l.filter fun r => decide (r.Y0 ≤ y) && decide (y < r.Y1)).map xsR) fun p hp => by
    obtain ⟨r, hr, rfl⟩ := List.mem_map.1 hp
    exact h r (List.mem_filter.1 hr).1
  refine ⟨h1, fun x => (h2 x).trans ?_⟩
  unfold InS InR
  constructor
  · rintro ⟨p, hp, hx⟩
    obtain ⟨r, hr, rfl⟩ := List.mem_map.1 hp
    obtain ⟨hr, hy⟩ := List.mem_filter.1 hr
    simp at hy
    exact ⟨r, hr, hx, hy⟩
  · rintro ⟨r, hr, hx, hy⟩
    exact ⟨xsR r, List.mem_map.2 ⟨r, List.mem_filter.2 ⟨hr, by simp [hy]⟩, rfl⟩, hx⟩
theorem can_eq {l m : List (Int × Int)} (h1 : ∃ lo, Can lo l) (h2 : ∃ lo, Can lo m) (h : ∀ x, InS x l ↔ InS x m) : l = m := by
  obtain ⟨_, h1⟩ := h1
  obtain ⟨_, h2⟩ := h2
  exact h1.uniq h2 h
theorem can_nil {l : List (Int × Int)} (h1 : ∃ lo, Can lo l) (h : ∀ x, ¬ InS x l) : l = [] := can_eq h1 ⟨0, trivial⟩ fun x => ⟨fun hx => absurd hx (h x), fun hx => absurd hx InS_nil⟩
theorem pushB_cons {c : Bd} {l : List Bd} {b : Bd} (h : l ≠ []) : pushB (c :: l) b = c :: pushB l b := by
  by_cases he : b.2.2 = []
  · rw [pushB_empty he, pushB_empty he]
  · rcases List.eq_nil_or_concat l with rfl | ⟨j, d, hc⟩
    · exact absurd rfl h
    · rw [List.concat_eq_append] at hc
      subst hc
      rw [← List.cons_append, pushB_snoc he, pushB_snoc he]
      split <;> rfl
theorem pushB_head {c : Bd} {l : List Bd} {b : Bd} : ∃ e m, pushB (c :: l) b = e :: m ∧ e.1 = c.1 ∧ e.2.2 = c.2.2 := by
  by_cases hl : l = []
  · subst hl
    by_cases he : b.2.2 = []
    · rw [pushB_empty he]; exact ⟨c, [], rfl, rfl, rfl⟩
    · have := pushB_snoc (l := []) (c := c) he
      rw [List.nil_append] at this
      rw [this]
      split
      · exact ⟨_, _, rfl, rfl, rfl⟩
      · exact ⟨_, _, rfl, rfl, rfl⟩
  · rw [pushB_cons hl]; exact ⟨_, _, rfl, rfl, rfl⟩
/-- One band more behind all others. -/
theorem CanB.push : ∀ {l : List Bd} {lo : Int} {b : Bd}, CanB lo l → (∀ c ∈ l, c.2.1 ≤ b.1) → lo ≤ b.1 → b.1 < b.2.1 →
    CanB lo (pushB l b) ∧ (∀ c ∈ pushB l b, c.2.1 ≤ b.2.1 ∧ (c.2.2 = b.2.2 ∨ ∃ d ∈ l, c.2.2 = d.2.2)) ∧ ∀ y, rowAt (pushB l b) y = if b.1 ≤ y ∧ y < b.2.1 then b.2.2 else rowAt l y
  | [], lo, b, h, h1, h2, h3 => by
    by_cases he : b.2.2 = []
    · rw [pushB_empty he]
      exact ⟨h, by simp, fun y => by unfold rowAt; split <;> simp [he]⟩
    · rw [pushB_nil he]
      exact ⟨⟨h2, h3, he, by simp, trivial⟩, by simp, fun y => by unfold rowAt; rfl⟩
  | [c], lo, b, h, h1, h2, h3 => by
    have hc := h1 c (by simp)
    have h4 := h.2.1
    by_cases he : b.2.2 = []
    · rw [pushB_empty he]
      refine ⟨h, fun d hd => ⟨by have := h1 d hd; omega, .inr ⟨d, hd, rfl⟩⟩, fun y => ?_⟩
      by_cases hy : b.1 ≤ y ∧ y < b.2.1
      · rw [if_pos hy, he]; unfold rowAt; rw [if_neg (by omega)]; rfl
      · rw [if_neg hy]
    · have hp := pushB_snoc (l := []) (c := c) he
      rw [List.nil_append] at hp
      rw [hp]
      by_cases hj : c.2.1 = b.1 ∧ c.2.2 = b.2.2
      · rw [if_pos hj]
        refine ⟨⟨h.1, by show c.1 < b.2.1; omega, h.2.2.1, by simp, trivial⟩, fun d hd => ?_, fun y => ?_⟩
        · simp at hd; subst hd; exact ⟨Int.le_refl _, .inr ⟨c, by simp, rfl⟩⟩
        · show (if c.1 ≤ y ∧ y < b.2.1 then c.2.2 else []) = if b.1 ≤ y ∧ y < b.2.1 then b.2.2 else if c.1 ≤ y ∧ y < c.2.1 then c.2.2 else []
          rw [hj.2]
          by_cases ha : b.1 ≤ y ∧ y < b.2.1
          · rw [if_pos ha, if_pos (by omega)]
          · rw [if_neg ha]
            by_cases hb : c.1 ≤ y ∧ y < c.2.1
            · rw [if_pos hb, if_pos (by omega)]
            · rw [if_neg hb, if_neg (by omega)]
      · rw [if_neg hj]
        refine ⟨⟨h.1, h.2.1, h.2.2.1, fun d hd e => ?_, ⟨hc, h3, he, by simp, trivial⟩⟩, fun d hd => ?_, fun y => ?_⟩
        · simp at hd; subst hd
          exact fun h' => hj ⟨e.symm, h'.symm⟩
        · simp at hd
          rcases hd with rfl | rfl
          · exact ⟨by omega, .inr ⟨d, by simp, rfl⟩⟩
          · exact ⟨Int.le_refl _, .inl rfl⟩
        · show (if c.1 ≤ y ∧ y < c.2.1 then c.2.2 else if b.1 ≤ y ∧ y < b.2.1 then b.2.2 else []) = if b.1 ≤ y ∧ y < b.2.1 then b.2.2 else if c.1 ≤ y ∧ y < c.2.1 then c.2.2 else []
          by_cases ha : b.1 ≤ y ∧ y < b.2.1
          · rw [if_pos ha, if_neg (by omega), if_pos ha]
          · rw [if_neg ha, if_neg ha]
  | c :: d :: l, lo, b, h, h1, h2, h3 => by
    obtain ⟨i1, i2, i3⟩ := CanB.push (l := d :: l) (lo := c.2.1) (b := b) h.2.2.2.2 (fun e he => h1 e (by simp [List.mem_cons.1 he])) (h1 c (by simp)) h3
    rw [pushB_cons (by simp)]
    have hc := h1 c (by simp)
    have h4 := h.2.1
    refine ⟨⟨h.1, h.2.1, h.2.2.1, fun e he e1 => ?_, i1⟩, fun e he => ?_, fun y => ?_⟩
    · obtain ⟨f, m, p1, p2, p3⟩ := pushB_head (c := d) (l := l) (b := b)
      rw [p1] at he
      simp at he
      subst he
      rw [p3]
      exact h.2.2.2.1 d rfl (by omega)
    · rcases List.mem_cons.1 he with rfl | he
      · exact ⟨by omega, .inr ⟨e, by simp, rfl⟩⟩
      · obtain ⟨j1, j2 | ⟨f, j2, j3⟩⟩ := i2 e he
        · exact ⟨j1, .inl j2⟩
        · exact ⟨j1, .inr ⟨f, by simp [List.mem_cons.1 j2], j3⟩⟩
    · show (if c.1 ≤ y ∧ y < c.2.1 then c.2.2 else rowAt (pushB (d :: l) b) y) = if b.1 ≤ y ∧ y < b.2.1 then b.2.2 else if c.1 ≤ y ∧ y < c.2.1 then c.2.2 else rowAt (d :: l) y
      rw [i3 y]
      by_cases ha : b.1 ≤ y ∧ y < b.2.1
      · rw [if_pos ha, if_pos ha, if_neg (by omega)]
      · rw [if_neg ha, if_neg ha]
/-- Bands over heights, one behind the other. -/
def bandsF (f : Int → List (Int × Int)) : List Int → List Bd → List Bd
  | a :: b :: ys, out => bandsF f (b :: ys) (pushB out (a, b, f a))
  | _, out => out
theorem bandsGo_F (l : List TRect) : ∀ (ys : List Int) (out : List Bd), bandsGo l ys out = bandsF (rowS l) ys out
  | [], _ => rfl
  | [_], _ => rfl
  | a :: b :: ys, out => bandsGo_F l (b :: ys) (pushB out (a, b, rowS l a))
/-- The same all over, between one height and the next one. -/
def ConstOn (f : Int → List (Int × Int)) : List Int → Prop
  | a :: b :: ys => (∀ y, a ≤ y → y < b → f y = f a) ∧ ConstOn f (b :: ys)
  | _ => True
theorem constOn {f : Int → List (Int × Int)} {zs : List Int} (hc : ∀ a y, a ≤ y → (∀ z ∈ zs, z ≤ a ∨ y < z) → f y = f a) : ∀ {ys pre : List Int}, zs = pre ++ ys → zs.Pairwise (fun x y => x < y) → ConstOn f ys
  | [], _, _, _ => trivial
  | [_], _, _, _ => trivial
  | a :: b :: ys, pre, e, h => by
    refine ⟨fun y h1 h2 => hc a y h1 fun z hz => ?_, constOn hc (ys := b :: ys) (pre := pre ++ [a]) (by rw [e]; simp) h⟩
    rw [e] at hz h
    obtain ⟨_, k1, k2⟩ := List.pairwise_append.1 h
    rcases List.mem_append.1 hz with hz | hz
    · have := k2 z hz a (by simp); exact .inl (by omega)
    · rcases List.mem_cons.1 hz with rfl | hz
      · exact .inl (Int.le_refl _)
      · rcases List.mem_cons.1 hz with rfl | hz
        · exact .inr h2
        · have := (List.pairwise_cons.1 (List.pairwise_cons.1 k1).2).1 z hz; exact .inr (by omega)
theorem bands_ok {f : Int → List (Int × Int)} {lo : Int} (hf : ∀ y, ∃ lo, Can lo (f y)) : ∀ (ys : List Int) (out : List Bd), ys.Pairwise (fun x y => x < y) → ConstOn f ys → CanB lo out → (∀ b ∈ out, ∃ lo, Can lo b.2.2) → (∀ a, ys.head? = some a → lo ≤ a ∧ (∀ c ∈ out, c.2.1 ≤ a)) →
    CanB lo (bandsF f ys out) ∧ (∀ b ∈ bandsF f ys out, ∃ lo, Can lo b.2.2) ∧ ∀ y, rowAt (bandsF f ys out) y = if (∃ a ∈ ys, a ≤ y) ∧ (∃ z ∈ ys, y < z) then f y else rowAt out y
  | [], out, _, _, h1, h2, _ => ⟨h1, h2, fun y => by rw [if_neg (by simp)]; rfl⟩
  | [a], out, _, _, h1, h2, _ => ⟨h1, h2, fun y => by rw [if_neg (by rintro ⟨⟨c, hc, h1⟩, z, hz, h2⟩; simp at hc hz; omega)]; rfl⟩
  | a :: b :: ys, out, hs, hc, h1, h2, h3 => by
    have hab : a < b := (List.pairwise_cons.1 hs).1 b (by simp)
    have hs2 := (List.pairwise_cons.1 hs).2
    obtain ⟨h5, h6⟩ := h3 a rfl
    obtain ⟨p1, p2, p3⟩ := h1.push (b := (a, b, f a)) h6 h5 hab
    obtain ⟨i1, i2, i3⟩ := bands_ok hf (b :: ys) (pushB out (a, b, f a)) hs2 hc.2 p1 (fun c hc => by
      rcases (p2 c hc).2 with e | ⟨d, hd, e⟩
      · rw [e]; exact hf a
      · rw [e]; exact h2 d hd) (fun z hz => by
      simp at hz; subst hz
      exact ⟨by omega, fun c hc => (p2 c hc).1⟩)
    refine ⟨i1, i2, fun y => ?_⟩
    show rowAt (bandsF f (b :: ys) (pushB out (a, b, f a))) y = _
    rw [i3 y, p3 y]
    show (if (∃ c ∈ b :: ys, c ≤ y) ∧ (∃ z ∈ b :: ys, y < z) then f y else if a ≤ y ∧ y < b then f a else rowAt out y) = _
    by_cases ya : y < a
    · rw [if_neg (fun h => by
        obtain ⟨⟨c, hc, hcy⟩, _⟩ := h
        rcases List.mem_cons.1 hc with rfl | hc
        · omega
        · have := (List.pairwise_cons.1 hs2).1 c hc; omega), if_neg (by omega), if_neg (fun h => by
        obtain ⟨⟨c, hc, hcy⟩, _⟩ := h
        rcases List.mem_cons.1 hc with rfl | hc
        · omega
        · have := (List.pairwise_cons.1 hs).1 c hc; omega)]
    · by_cases yb : y < b
      · rw [if_neg (fun h => by
          obtain ⟨⟨c, hc, hcy⟩, _⟩ := h
          rcases List.mem_cons.1 hc with rfl | hc
          · omega
          · have := (List.pairwise_cons.1 hs2).1 c hc; omega), if_pos (by omega), if_pos ⟨⟨a, by simp, by omega⟩, ⟨b, by simp, yb⟩⟩]
        exact (hc.1 y (by omega) yb).symm
      · by_cases hz : ∃ z ∈ b :: ys, y < z
        · obtain ⟨z, hz, hyz⟩ := hz
          rw [if_pos ⟨⟨b, by simp, by omega⟩, z, hz, hyz⟩, if_pos ⟨⟨a, by simp, by omega⟩, z, List.mem_cons_of_mem _ hz, hyz⟩]
        · rw [if_neg (fun h => hz h.2), if_neg (by omega), if_neg (fun h => by
            obtain ⟨_, z, hm, hyz⟩ := h
            rcases List.mem_cons.1 hm with rfl | hm
            · omega
            · exact hz ⟨z, hm, hyz⟩)]
/-- Bands over all heights at which something changes. -/
theorem bandsF_row {f : Int → List (Int × Int)} {ys : List Int} (hs : ys.Pairwise fun x y => x < y) (hf : ∀ y, ∃ lo, Can lo (f y)) (hc : ∀ a y, a ≤ y → (∀ z ∈ ys, z ≤ a ∨ y < z) → f y = f a) (h0 : ∀ y, (∀ a ∈ ys, y < a) → f y = []) (h1 : ∀ y, (∀ a ∈ ys, a ≤ y) → f y = []) : BOk (bandsF f ys []) ∧ ∀ y, rowAt (bandsF f ys []) y = f y := by
  obtain ⟨lo, hlo⟩ : ∃ lo : Int, ∀ z ∈ ys, lo ≤ z := by
    have : ∀ m : List Int, ∃ lo : Int, ∀ z ∈ m, lo ≤ z := by
      intro m
      induction m with
      | nil => exact ⟨0, by simp⟩
      | cons a m ih =>
        obtain ⟨lo, h⟩ := ih
        refine ⟨min lo a, fun z hz => ?_⟩
        rcases List.mem_cons.1 hz with rfl | hz
        · omega
        · have := h z hz; omega
    exact this _
  obtain ⟨i1, i2, i3⟩ := bands_ok (lo := lo) hf ys [] hs (constOn hc (ys := ys) (pre := []) rfl hs) trivial (by simp) (fun a ha => ⟨hlo a (List.mem_of_mem_head? (by rw [ha]; rfl)), by simp⟩)
  refine ⟨⟨⟨lo, i1⟩, i2⟩, fun y => ?_⟩
  rw [i3 y]
  by_cases ha : ∃ a ∈ ys, a ≤ y
  · by_cases hz : ∃ z ∈ ys, y < z
    · rw [if_pos ⟨ha, hz⟩]
    · rw [if_neg (fun h => hz h.2), h1 y (fun a ham => by
        rcases Int.lt_or_le y a with h | h
        · exact absurd ⟨a, ham, h⟩ hz
        · exact h)]; rfl
  · rw [if_neg (fun h => ha h.1), h0 y (fun a ham => by
      rcases Int.lt_or_le y a with h | h
      · exact h
      · exact absurd ⟨a, ham, h⟩ ha)]; rfl
theorem rowS_nil {l : List TRect} (hl : ∀ r ∈ l, r.X0 < r.X1) {y : Int} (h : ∀ r ∈ l, ¬ (r.Y0 ≤ y ∧ y < r.Y1)) : rowS l y = [] := by
  obtain ⟨c1, c2⟩ := rowS_ok hl y
  exact can_nil c1 fun x hx => by
    obtain ⟨r, hr, _, hy⟩ := (c2 x).1 hx
    exact h r hr hy
theorem rowS_const {l : List TRect} (hl : ∀ r ∈ l, r.X0 < r.X1) {a y : Int} (h : ∀ r ∈ l, (r.Y0 ≤ y ∧ y < r.Y1) ↔ (r.Y0 ≤ a ∧ a < r.Y1)) : rowS l y = rowS l a := by
  obtain ⟨c1, c2⟩ := rowS_ok hl y
  obtain ⟨c3, c4⟩ := rowS_ok hl a
  refine can_eq c1 c3 fun x => (c2 x).trans (Iff.trans ?_ (c4 x).symm)
  unfold InR
  constructor
  · rintro ⟨r, hr, hx, hy⟩; exact ⟨r, hr, hx, (h r hr).1 hy⟩
  · rintro ⟨r, hr, hx, hy⟩; exact ⟨r, hr, hx, (h r hr).2 hy⟩
/-- Heights of rectangles: what lies at a height changes there alone. -/
theorem rowS_change {l : List TRect} {ys : List Int} (hl : ∀ r ∈ l, r.X0 < r.X1 ∧ r.Y0 < r.Y1) (hy : ∀ r ∈ l, r.Y0 ∈ ys ∧ r.Y1 ∈ ys) : (∀ a y, a ≤ y → (∀ z ∈ ys, z ≤ a ∨ y < z) → rowS l y = rowS l a) ∧ (∀ y, (∀ a ∈ ys, y < a) → rowS l y = []) ∧ (∀ y, (∀ a ∈ ys, a ≤ y) → rowS l y = []) := by
  have hx : ∀ r ∈ l, r.X0 < r.X1 := fun r hr => (hl r hr).1
  refine ⟨fun a y hay h => rowS_const hx fun r hr => ?_, fun y h => rowS_nil hx fun r hr hh => ?_, fun y h => rowS_nil hx fun r hr hh => ?_⟩
  · have := h _ (hy r hr).1; have := h _ (hy r hr).2; omega
  · have := h _ (hy r hr).1; omega
  · have := h _ (hy r hr).2; omega
/-- The bands of rectangles have the one form; what lies at each height. -/
theorem setB_row {l : List TRect} (hl : ∀ r ∈ l, r.X0 < r.X1 ∧ r.Y0 < r.Y1) : BOk (setB l) ∧ ∀ y, rowAt (setB l) y = rowS l y := by
  obtain ⟨h1, h2, h3⟩ := rowS_change (ys := srtd (ysOfR l)) hl fun r hr => ⟨(srtd_mem _ _).2 (mem_ysOfR.2 ⟨r, hr, .inl rfl⟩), (srtd_mem _ _).2 (mem_ysOfR.2 ⟨r, hr, .inr rfl⟩)⟩
  have := bandsF_row (srtd_strict (ysOfR l)) (fun y => (rowS_ok (fun r hr => (hl r hr).1) y).1) h1 h2 h3
  unfold setB
  rw [bandsGo_F]
  exact this
theorem setB_ok {l : List TRect} (hl : ∀ r ∈ l, r.X0 < r.X1 ∧ r.Y0 < r.Y1) : BOk (setB l) ∧ ∀ x y, InB x y (setB l) ↔ InR x y l := by
  obtain ⟨h1, h2⟩ := setB_row hl
  refine ⟨h1, fun x y => ?_⟩
  unfold InB
  rw [h2]
  exact (rowS_ok (fun r hr => (hl r hr).1) y).2 x
theorem setB_congr {l m : List TRect} (hl : ∀ r ∈ l, r.X0 < r.X1 ∧ r.Y0 < r.Y1) (hm : ∀ r ∈ m, r.X0 < r.X1 ∧ r.Y0 < r.Y1) (h : ∀ x y, InR x y l ↔ InR x y m) : setB l = setB m := by
  obtain ⟨a1, a2⟩ := setB_ok hl
  obtain ⟨b1, b2⟩ := setB_ok hm
  exact a1.uniq b1 fun x y => by rw [a2, b2, h]
theorem mem_rectsB {l : List Bd} {r : TRect} : r ∈ rectsB l ↔ ∃ b ∈ l, ∃ s ∈ b.2.2, r = ⟨s.1, b.1, s.2, b.2.1⟩ := by
  unfold rectsB rectsOf
  simp only [List.mem_flatMap, List.mem_map]
  constructor
  · rintro ⟨b, hb, s, hs, rfl⟩; exact ⟨b, hb, s, hs, rfl⟩
  · rintro ⟨b, hb, s, hs, rfl⟩; exact ⟨b, hb, s, hs, rfl⟩
theorem InR_rectsB {l : List Bd} (h : BOk l) (x y : Int) : InR x y (rectsB l) ↔ InB x y l := by
  obtain ⟨lo, hc⟩ := h.can
  unfold InR InB
  constructor
  · rintro ⟨r, hr, hx, hy⟩
    obtain ⟨b, hb, s, hs, rfl⟩ := mem_rectsB.1 hr
    rw [rowAt_of hc hb hy.1 hy.2]
    exact ⟨s, hs, hx⟩
  · intro hx
    rcases rowAt_mem (l := l) (y := y) with h1 | ⟨b, hb, h1, h2, h3⟩
    · rw [h1] at hx; exact absurd hx InS_nil
    · rw [h3] at hx
      obtain ⟨s, hs, hx⟩ := hx
      exact ⟨_, mem_rectsB.2 ⟨b, hb, s, hs, rfl⟩, hx, h1, h2⟩
theorem rectsB_ne {l : List Bd} (h : BOk l) : ∀ r ∈ rectsB l, r.X0 < r.X1 ∧ r.Y0 < r.Y1 := fun r hr => by
  obtain ⟨lo, hc⟩ := h.can
  obtain ⟨b, hb, s, hs, rfl⟩ := mem_rectsB.1 hr
  obtain ⟨lo', hr⟩ := h.row b hb
  exact ⟨(hr.mem s hs).2, (hc.mem b hb).2.1⟩
/-- The bands of the rectangles of bands are the bands. -/
theorem setB_rectsB {l : List Bd} (h : BOk l) : setB (rectsB l) = l := by
  obtain ⟨a1, a2⟩ := setB_ok (rectsB_ne h)
  exact a1.uniq h fun x y => by rw [a2, InR_rectsB h]
theorem rectsB_inj {l m : List Bd} (h1 : BOk l) (h2 : BOk m) (h : rectsB l = rectsB m) : l = m := by rw [← setB_rectsB h1, ← setB_rectsB h2, h]
/-- Squares within limits: rectangles within limits. -/
theorem rectsB_rok {l : List Bd} (h : BOk l) (hx : ∀ x y, InB x y l → (-1000000 ≤ x ∧ x < 1000000) ∧ (-1000000 ≤ y ∧ y < 1000000)) : ∀ r ∈ rectsB l, ROk r := fun r hr => by
  have hne := rectsB_ne h r hr
  have h1 := hx r.X0 r.Y0 ((InR_rectsB h _ _).1 ⟨r, hr, ⟨Int.le_refl _, hne.1⟩, ⟨Int.le_refl _, hne.2⟩⟩)
  have h2 := hx (r.X1 - 1) (r.Y1 - 1) ((InR_rectsB h _ _).1 ⟨r, hr, ⟨by omega, by omega⟩, ⟨by omega, by omega⟩⟩)
  exact ⟨by omega, by omega, by omega, by omega, hne.1, hne.2⟩
theorem ordR_append : ∀ {l m : List TRect}, ordR l = true → ordR m = true → (∀ a ∈ l, ∀ b ∈ m, ltR a b = true) → ordR (l ++ m) = true
  | [], _, _, h, _ => h
  | [a], [], _, _, _ => rfl
  | [a], b :: m, _, h2, h3 => by
    show (ltR a b && ordR (b :: m)) = true
    rw [h3 a (by simp) b (by simp), h2]; rfl
  | a :: c :: l, m, h1, h2, h3 => by
    have h1 : (ltR a c && ordR (c :: l)) = true := h1
    rw [Bool.and_eq_true] at h1
    show (ltR a c && ordR (c :: l ++ m)) = true
    rw [h1.1, ordR_append h1.2 h2 fun x hx y hy => h3 x (by simp [List.mem_cons.1 hx]) y hy]; rfl
theorem ordR_rectsOf {b : Bd} : ∀ {l : List (Int × Int)} {lo : Int}, Can lo l → ordR (l.map fun s => (⟨s.1, b.1, s.2, b.2.1⟩ : TRect)) = true
  | [], _, _ => rfl
  | [p], _, _ => rfl
  | p :: q :: l, lo, h => by
    show (ltR _ _ && ordR (List.map (fun s => (⟨s.1, b.1, s.2, b.2.1⟩ : TRect)) (q :: l))) = true
    rw [ordR_rectsOf h.2.2, Bool.and_true]
    unfold ltR
    have := h.2.1; have := h.2.2.1
    simp
    omega
theorem ordR_rectsB : ∀ {l : List Bd} {lo : Int}, CanB lo l → (∀ b ∈ l, ∃ lo, Can lo b.2.2) → ordR (rectsB l) = true
  | [], _, _, _ => rfl
  | b :: l, lo, h, hr => by
    rw [rectsB_cons]
    obtain ⟨lo', h1⟩ := hr b (by simp)
    refine ordR_append (ordR_rectsOf h1) (ordR_rectsB h.2.2.2.2 fun c hc => hr c (by simp [hc])) fun x hx y hy => ?_
    obtain ⟨s, hs, rfl⟩ := List.mem_map.1 hx
    obtain ⟨c, hc, t, ht, rfl⟩ := mem_rectsB.1 hy
    have := h.2.2.2.2.mem c hc
    have := h.2.1
    unfold ltR
    simp
    omega
theorem CanB.mono {l : List Bd} {lo lo' : Int} (h : CanB lo l) (hl : lo' ≤ lo) : CanB lo' l := by
  cases l with
  | nil => trivial
  | cons b l => exact ⟨by have := h.1; omega, h.2⟩
/-- What is right with a region: the bands that it comes from. -/
theorem region_of {l : List Bd} (h : BOk l) (hx : ∀ x y, InB x y l → (-1000000 ≤ x ∧ x < 1000000) ∧ (-1000000 ≤ y ∧ y < 1000000)) (hn : (rectsB l).length ≤ 2000) : regionErr (rectsB l) = 0 := by
  unfold regionErr
  have h1 : rectsErr (rectsB l) = 0 := by
    unfold rectsErr
    rw [if_neg (by omega)]
    exact rsErr_of (rectsB_rok h hx)
  obtain ⟨lo, hc⟩ := h.can
  rw [if_pos h1, if_pos (ordR_rectsB hc h.row), if_pos (by rw [setB_rectsB h])]
theorem regionErr_ok {l : List TRect} (h : regionErr l = 0) : rectsErr l = 0 ∧ l.length ≤ 2000 ∧ (∀ r ∈ l, ROk r) ∧ rectsB (setB l) = l := by
  unfold regionErr at h
  by_cases h1 : rectsErr l = 0
  · obtain ⟨h2, h3⟩ := rectsErr_ok h1
    rw [if_pos h1] at h
    split at h
    · split at h
      · rename_i h4; exact ⟨h1, h2, h3, h4⟩
      · omega
    · omega
  · rw [if_neg h1] at h; exact absurd h h1
theorem ROk.ne {l : List TRect} (h : ∀ r ∈ l, ROk r) : ∀ r ∈ l, r.X0 < r.X1 ∧ r.Y0 < r.Y1 := fun r hr => ⟨(h r hr).x, (h r hr).y⟩
theorem InR_lim {l : List TRect} (h : ∀ r ∈ l, ROk r) {x y : Int} (hx : InR x y l) : (-1000000 ≤ x ∧ x < 1000000) ∧ (-1000000 ≤ y ∧ y < 1000000) := by
  obtain ⟨r, hr, h1, h2⟩ := hx
  have a := h r hr
  have := a.x0; have := a.x1; have := a.y0; have := a.y1
  omega
end Go.Proofs.YtcjeebkoafonpaaGreatDoor
namespace Go.Proofs.YtcjeebkoafonpaaGreatDoor
/-- How often a border lies at or before a number: odd. -/
def par (x : Int) : List Int → Bool
  | [] => false
  | a :: l => xor (decide (a ≤ x)) (par x l)
theorem par_append (x : Int) : ∀ l m : List Int, par x (l ++ m) = xor (par x l) (par x m)
  | [], m => by simp [par]
  | a :: l, m => by rw [List.cons_append, par, par_append x l m, par, Bool.xor_assoc]
theorem par_lo {x : Int} : ∀ {l : List Int}, (∀ a ∈ l, x < a) → par x l = false
  | [], _ => rfl
  | a :: l, h => by
    rw [par, par_lo fun b hb => h b (by simp [hb]), decide_eq_false (by have := h a (by simp); omega)]; rfl
theorem odd_cons (n : Nat) : ((n + 1) % 2 == 1) = !(n % 2 == 1) := by
  rcases Nat.mod_two_eq_zero_or_one n with h | h
  · have : (n + 1) % 2 = 1 := by omega
    rw [h, this]; rfl
  · have : (n + 1) % 2 = 0 := by omega
    rw [h, this]; rfl
theorem par_hi {x : Int} : ∀ {l : List Int}, (∀ a ∈ l, a ≤ x) → par x l = (l.length % 2 == 1)
  | [], _ => rfl
  | a :: l, h => by
    rw [par, par_hi fun b hb => h b (by simp [hb]), decide_eq_true (h a (by simp)), List.length_cons, odd_cons, Bool.true_xor]
theorem InS_par : ∀ {l : List (Int × Int)} {lo x : Int}, Can lo l → (InS x l ↔ par x (flatS l) = true)
  | [], _, _, _ => by simp [InS_nil, flatS_nil, par]
  | p :: l, lo, x, h => by
    obtain ⟨h1, h2, h3⟩ := h
    have ih := InS_par (x := x) h3
    have hl := fun hx : InS x l => h3.lt hx
    rw [InS_cons, flatS_cons, par, par]
    cases hp : par x (flatS l)
    · rw [hp] at ih
      have : ¬ InS x l := fun hx => by have := ih.1 hx; cases this
      by_cases a : p.1 ≤ x <;> by_cases b : p.2 ≤ x <;> simp [a, b, this] <;> omega
    · rw [hp] at ih
      have h4 := ih.2 rfl
      have := hl h4
      have a : p.1 ≤ x := by omega
      have b : p.2 ≤ x := by omega
      simp [a, b, h4]
theorem Can.strict : ∀ {l : List (Int × Int)} {lo : Int}, Can lo l → (flatS l).Pairwise (fun x y => x < y) ∧ ∀ z ∈ flatS l, lo < z
  | [], _, _ => ⟨List.Pairwise.nil, by simp [flatS_nil]⟩
  | p :: l, lo, h => by
    obtain ⟨h1, h2, h3⟩ := h
    obtain ⟨i1, i2⟩ := h3.strict
    rw [flatS_cons]
    refine ⟨List.pairwise_cons.2 ⟨fun z hz => ?_, List.pairwise_cons.2 ⟨i2, i1⟩⟩, fun z hz => ?_⟩
    · rcases List.mem_cons.1 hz with rfl | hz
      · exact h2
      · have := i2 z hz; omega
    · rcases List.mem_cons.1 hz with rfl | hz
      · exact h1
      · rcases List.mem_cons.1 hz with rfl | hz
        · omega
        · have := i2 z hz; omega
theorem strict_can : ∀ (l : List Int) (lo : Int), l.Pairwise (fun x y => x < y) → (∀ z ∈ l, lo < z) → (l.length % 2 == 1) = false → ∃ C, Can lo C ∧ flatS C = l
  | [], _, _, _, _ => ⟨[], trivial, rfl⟩
  | [a], _, _, _, h => by simp at h
  | a :: b :: l, lo, h1, h2, h3 => by
    have k := List.pairwise_cons.1 h1
    have k2 := List.pairwise_cons.1 k.2
    obtain ⟨C, c1, c2⟩ := strict_can l b k2.2 k2.1 (by rw [List.length_cons, List.length_cons, odd_cons, odd_cons, Bool.not_not] at h3; exact h3)
    exact ⟨(a, b) :: C, ⟨h2 a (by simp), k.1 b (by simp), c1⟩, by rw [flatS_cons, c2]⟩
theorem cut_tail {α : Type} (x : α) (l : List α) : cut (x :: l) 1 ((x :: l).length : Int) = some l := by
  unfold cut
  rw [if_pos ⟨by omega, by simp; omega, by omega⟩]
  simp
/-- What a merge of two lists of borders says. -/
structure LineOk (k : Bool → Bool → Bool) (a b out : List Int) (inA inB : Bool) (r : List Int) : Prop where
  strict : r.Pairwise fun x y => x < y
  mem : ∀ z ∈ r, z ∈ out ∨ z ∈ a ∨ z ∈ b
  len : r.length ≤ out.length + a.length + b.length
  hi : ∀ z, (∀ o ∈ out, o ≤ z) → par z r = k (xor inA (par z a)) (xor inB (par z b))
  lo : ∀ z, (∃ o ∈ out, z < o) → par z r = par z out
theorem line_step {k : Bool → Bool → Bool} {f : Bool → Bool → Option Bool} (hf : ∀ a b, f a b = some (k a b)) {m : Nat} {a b a1 b1 out : List Int} {inA inB inA1 inB1 is : Bool} {X : Int}
    (ih : ∀ (out : List Int) (is : Bool), out.Pairwise (fun x y => x < y) → (∀ o ∈ out, (∀ x ∈ a1, o < x) ∧ ∀ x ∈ b1, o < x) → is = k inA1 inB1 → is = (out.length % 2 == 1) → out.length + a1.length + b1.length ≤ 4000000000 → ∃ r, F_shape_line_L7 f m a1 b1 out inA1 inB1 is = some r ∧ LineOk k a1 b1 out inA1 inB1 r)
    (hs : out.Pairwise fun x y => x < y) (ho : ∀ o ∈ out, o < X) (ha1 : ∀ x ∈ a1, X < x) (hb1 : ∀ x ∈ b1, X < x) (hi : is = k inA inB) (hp : is = (out.length % 2 == 1)) (hl : out.length + a1.length + b1.length + 1 ≤ out.length + a.length + b.length) (hl2 : out.length + a.length + b.length ≤ 4000000000)
    (pa : ∀ z, X ≤ z → xor inA (par z a) = xor inA1 (par z a1)) (pb : ∀ z, X ≤ z → xor inB (par z b) = xor inB1 (par z b1)) (pa0 : ∀ z, z < X → par z a = false) (pb0 : ∀ z, z < X → par z b = false)
    (hm : ∀ z, z ∈ a1 → z ∈ a) (hm2 : ∀ z, z ∈ b1 → z ∈ b) (hX : X ∈ a ∨ X ∈ b) :
    ∃ r, F_shape_line_J8 f out is (F_shape_line_L7 f m) X a1 inA1 b1 inB1 = some r ∧ LineOk k a b out inA inB r := by
  unfold F_shape_line_J8
  rw [hf, Option.bind_some]
  by_cases hk : k inA1 inB1 = is
  · rw [if_neg (by simp [hk])]
    obtain ⟨r, h1, h2⟩ := ih out is hs (fun o h => ⟨fun x hx => by have := ho o h; have := ha1 x hx; omega, fun x hx => by have := ho o h; have := hb1 x hx; omega⟩) hk.symm hp (by omega)
    refine ⟨r, h1, h2.strict, fun z hz => ?_, by have := h2.len; omega, fun z hz => ?_, h2.lo⟩
    · rcases h2.mem z hz with h | h | h
      · exact .inl h
      · exact .inr (.inl (hm z h))
      · exact .inr (.inr (hm2 z h))
    · rw [h2.hi z hz]
      by_cases hxz : X ≤ z
      · rw [pa z hxz, pb z hxz]
      · rw [pa0 z (by omega), pb0 z (by omega), par_lo fun x hx => by have := ha1 x hx; omega, par_lo fun x hx => by have := hb1 x hx; omega, Bool.xor_false, Bool.xor_false, Bool.xor_false, Bool.xor_false, hk, hi]
  · rw [if_pos (by simpa using hk), apd_ok (by simp; omega), Option.bind_some]
    obtain ⟨r, h1, h2⟩ := ih (out ++ [X]) (k inA1 inB1) (List.pairwise_append.2 ⟨hs, List.pairwise_singleton _ _, fun o h x hx => by simp at hx; subst hx; exact ho o h⟩) (fun o h => by
      rcases List.mem_append.1 h with h | h
      · exact ⟨fun x hx => by have := ho o h; have := ha1 x hx; omega, fun x hx => by have := ho o h; have := hb1 x hx; omega⟩
      · simp at h; subst h; exact ⟨ha1, hb1⟩) rfl (by
      rw [List.length_append, List.length_singleton, odd_cons, ← hp]
      cases hv : k inA1 inB1 <;> cases is <;> simp_all) (by simp; omega)
    refine ⟨r, h1, h2.strict, fun z hz => ?_, by have := h2.len; simp at this; omega, fun z hz => ?_, fun z hz => ?_⟩
    · rcases h2.mem z hz with h | h | h
      · rcases List.mem_append.1 h with h | h
        · exact .inl h
        · simp at h; subst h
          rcases hX with h | h
          · exact .inr (.inl h)
          · exact .inr (.inr h)
      · exact .inr (.inl (hm z h))
      · exact .inr (.inr (hm2 z h))
    · by_cases hxz : X ≤ z
      · rw [h2.hi z (fun o h => by
          rcases List.mem_append.1 h with h | h
          · exact hz o h
          · simp at h; omega), pa z hxz, pb z hxz]
      · rw [h2.lo z ⟨X, by simp, by omega⟩, par_append, pa0 z (by omega), pb0 z (by omega), Bool.xor_false, Bool.xor_false, par_hi hz, ← hp, hi, par_lo (l := [X]) (fun x hx => by simp at hx; omega), Bool.xor_false]
    · obtain ⟨o, h, hzo⟩ := hz
      rw [h2.lo z ⟨o, by simp [h], hzo⟩, par_append, par_lo (l := [X]) (fun x hx => by simp at hx; have := ho o h; omega), Bool.xor_false]
theorem line_go {k : Bool → Bool → Bool} {f : Bool → Bool → Option Bool} (hf : ∀ a b, f a b = some (k a b)) : ∀ (m : Nat) (a b out : List Int) (inA inB is : Bool), a.length + b.length < m → a.Pairwise (fun x y => x < y) → b.Pairwise (fun x y => x < y) → out.Pairwise (fun x y => x < y) → (∀ o ∈ out, (∀ x ∈ a, o < x) ∧ ∀ x ∈ b, o < x) → is = k inA inB → is = (out.length % 2 == 1) → out.length + a.length + b.length ≤ 4000000000 →
    ∃ r, F_shape_line_L7 f m a b out inA inB is = some r ∧ LineOk k a b out inA inB r
  | 0, _, _, _, _, _, _, h, _, _, _, _, _, _, _ => absurd h (Nat.not_lt_zero _)
  | m + 1, [], [], out, inA, inB, is, _, _, _, hs, _, hi, hp, _ => by
    rw [F_shape_line_L7.eq_2, if_neg (by simp)]
    exact ⟨out, rfl, hs, fun z hz => .inl hz, by simp, fun z hz => by rw [par_hi hz, ← hp, hi]; simp [par], fun _ _ => rfl⟩
  | m + 1, x :: a, [], out, inA, inB, is, hm, sa, sb, hs, ho, hi, hp, hl => by
    have ha := List.pairwise_cons.1 sa
    rw [F_shape_line_L7.eq_2, if_pos (by simp), if_pos (by simp), Option.bind_some, if_pos rfl, show idx (x :: a) 0 = some x from rfl, Option.bind_some]
    unfold F_shape_line_J10
    rw [if_pos (by simp), show idx (x :: a) 0 = some x from rfl, Option.bind_some, Option.bind_some, if_pos (by simp), cut_tail, Option.bind_some]
    unfold F_shape_line_J9
    rw [if_neg (by simp), Option.bind_some, if_neg (by simp)]
    simp only [List.length_cons, List.length_nil] at hm hl
    refine line_step (m := m) (a := x :: a) (b := []) hf (fun o i k1 k2 k3 k4 k5 => line_go hf m a [] o (!inA) inB i (by simp; omega) ha.2 sb k1 k2 k3 k4 k5) hs (fun o h => (ho o h).1 x (by simp)) ha.1 (by simp) hi hp (by simp; omega) (by simp; omega) (fun z hz => ?_) (fun _ _ => rfl) (fun z hz => par_lo fun y hy => ?_) (fun _ _ => rfl) (fun z h => by simp [h]) (fun z h => h) (.inl (by simp))
    · rw [par, decide_eq_true hz]; cases inA <;> cases par z a <;> rfl
    · rcases List.mem_cons.1 hy with rfl | hy
      · exact hz
      · have := ha.1 y hy; omega
  | m + 1, [], y :: b, out, inA, inB, is, hm, sa, sb, hs, ho, hi, hp, hl => by
    have hb := List.pairwise_cons.1 sb
    rw [F_shape_line_L7.eq_2, if_pos (by simp), if_neg (by simp; omega), if_neg (by simp), Option.bind_some, Option.bind_some, if_neg (by simp), show idx (y :: b) 0 = some y from rfl, Option.bind_some]
    unfold F_shape_line_J10
    rw [if_neg (by simp), Option.bind_some, if_neg (by simp)]
    unfold F_shape_line_J9
    rw [if_pos (by simp), show idx (y :: b) 0 = some y from rfl, Option.bind_some, Option.bind_some, if_pos (by simp), cut_tail, Option.bind_some]
    simp only [List.length_cons, List.length_nil] at hm hl
    refine line_step (m := m) (a := []) (b := y :: b) hf (fun o i k1 k2 k3 k4 k5 => line_go hf m [] b o inA (!inB) i (by simp; omega) sa hb.2 k1 k2 k3 k4 k5) hs (fun o h => (ho o h).2 y (by simp)) (by simp) hb.1 hi hp (by simp; omega) (by simp; omega) (fun _ _ => rfl) (fun z hz => ?_) (fun _ _ => rfl) (fun z hz => par_lo fun x hx => ?_) (fun z h => h) (fun z h => by simp [h]) (.inr (by simp))
    · rw [par, decide_eq_true hz]; cases inB <;> cases par z b <;> rfl
    · rcases List.mem_cons.1 hx with rfl | hx
      · exact hz
      · have := hb.1 x hx; omega
  | m + 1, x :: a, y :: b, out, inA, inB, is, hm, sa, sb, hs, ho, hi, hp, hl => by
    have ha := List.pairwise_cons.1 sa
    have hb := List.pairwise_cons.1 sb
    have e1 : idx (x :: a) 0 = some x := rfl
    have e2 : idx (y :: b) 0 = some y := rfl
    simp only [List.length_cons] at hm hl
    rw [F_shape_line_L7.eq_2, if_pos (by simp), if_neg (by simp; omega), if_pos (by simp), e1, Option.bind_some, e2, Option.bind_some, Option.bind_some, Option.bind_some]
    simp only [Option.bind_some]
    have hxa : ∀ z, x ≤ z → xor inA (par z (x :: a)) = xor (!inA) (par z a) := fun z hz => by rw [par, decide_eq_true hz]; cases inA <;> cases par z a <;> rfl
    have hyb : ∀ z, y ≤ z → xor inB (par z (y :: b)) = xor (!inB) (par z b) := fun z hz => by rw [par, decide_eq_true hz]; cases inB <;> cases par z b <;> rfl
    have hax : ∀ z, z < x → par z (x :: a) = false := fun z hz => par_lo fun v hv => by
      rcases List.mem_cons.1 hv with rfl | hv
      · exact hz
      · have := ha.1 v hv; omega
    have hby : ∀ z, z < y → par z (y :: b) = false := fun z hz => par_lo fun v hv => by
      rcases List.mem_cons.1 hv with rfl | hv
      · exact hz
      · have := hb.1 v hv; omega
    by_cases hxy : x ≤ y
    · rw [if_pos (by simpa using hxy)]
      unfold F_shape_line_J10
      rw [if_pos (by simp), e1, Option.bind_some, Option.bind_some, if_pos (by simp), cut_tail, Option.bind_some]
      unfold F_shape_line_J9
      rw [if_pos (by simp), e2, Option.bind_some, Option.bind_some]
      by_cases he : y = x
      · subst he
        rw [if_pos (by simp), cut_tail, Option.bind_some]
        exact line_step (m := m) (a := y :: a) (b := y :: b) hf (fun o i k1 k2 k3 k4 k5 => line_go hf m a b o (!inA) (!inB) i (by omega) ha.2 hb.2 k1 k2 k3 k4 k5) hs (fun o h => (ho o h).1 y (by simp)) ha.1 hb.1 hi hp (by simp; omega) (by simp; omega) hxa hyb hax hby (fun z h => by simp [h]) (fun z h => by simp [h]) (.inl (by simp))
      · rw [if_neg (by simpa using he)]
        exact line_step (m := m) (a := x :: a) (b := y :: b) hf (fun o i k1 k2 k3 k4 k5 => line_go hf m a (y :: b) o (!inA) inB i (by simp; omega) ha.2 sb k1 k2 k3 k4 k5) hs (fun o h => (ho o h).1 x (by simp)) ha.1 (fun v hv => by
          rcases List.mem_cons.1 hv with rfl | hv
          · omega
          · have := hb.1 v hv; omega) hi hp (by simp; omega) (by simp; omega) hxa (fun _ _ => rfl) hax (fun z hz => hby z (by omega)) (fun z h => by simp [h]) (fun z h => h) (.inl (by simp))
    · rw [if_neg (by simpa using hxy)]
      unfold F_shape_line_J10
      rw [if_pos (by simp), e1, Option.bind_some, Option.bind_some, if_neg (by simp; omega)]
      unfold F_shape_line_J9
      rw [if_pos (by simp), e2, Option.bind_some, Option.bind_some, if_pos (by simp), cut_tail, Option.bind_some]
      exact line_step (m := m) (a := x :: a) (b := y :: b) hf (fun o i k1 k2 k3 k4 k5 => line_go hf m (x :: a) b o inA (!inB) i (by simp; omega) sa hb.2 k1 k2 k3 k4 k5) hs (fun o h => (ho o h).2 y (by simp)) (fun v hv => by
          rcases List.mem_cons.1 hv with rfl | hv
          · omega
          · have := ha.1 v hv; omega) hb.1 hi hp (by simp; omega) (by simp; omega) (fun _ _ => rfl) hyb (fun z hz => hax z (by omega)) hby (fun z h => h) (fun z h => by simp [h]) (.inr (by simp))
theorem up_ex : ∀ l : List Int, ∃ z, ∀ a ∈ l, a ≤ z
  | [] => ⟨0, by simp⟩
  | b :: l => by
    obtain ⟨z, h⟩ := up_ex l
    refine ⟨max z b, fun a ha => ?_⟩
    rcases List.mem_cons.1 ha with rfl | ha
    · omega
    · have := h a ha; omega
theorem lo_ex : ∀ l : List Int, ∃ z, ∀ a ∈ l, z < a
  | [] => ⟨0, by simp⟩
  | b :: l => by
    obtain ⟨z, h⟩ := lo_ex l
    refine ⟨min z (b - 1), fun a ha => ?_⟩
    rcases List.mem_cons.1 ha with rfl | ha
    · omega
    · have := h a ha; omega
theorem even_two (n : Nat) : (2 * n % 2 == 1) = false := by
  have : 2 * n % 2 = 0 := by omega
  rw [this]; rfl
/-- Merged stretches: where the two say so. -/
theorem line_ok {k : Bool → Bool → Bool} {f : Bool → Bool → Option Bool} (hf : ∀ a b, f a b = some (k a b)) (hk : k false false = false) {N : Nat} {l m : List (Int × Int)} (hl : ∃ lo, Can lo l) (hm : ∃ lo, Can lo m) (hlen : 2 * l.length + 2 * m.length < N) (hlen2 : 2 * l.length + 2 * m.length ≤ 4000000000) :
    ∃ C, F_shape_line N (flatS l) (flatS m) f = some (flatS C) ∧ (∃ lo, Can lo C) ∧ C.length ≤ l.length + m.length ∧ ∀ x, InS x C ↔ ∃ p q, (p = true ↔ InS x l) ∧ (q = true ↔ InS x m) ∧ k p q = true := by
  obtain ⟨lo1, c1⟩ := hl
  obtain ⟨lo2, c2⟩ := hm
  obtain ⟨r, h1, h2⟩ := line_go hf N (flatS l) (flatS m) [] false false false (by rw [flatS_len, flatS_len]; exact hlen) c1.strict.1 c2.strict.1 List.Pairwise.nil (by simp) hk.symm rfl (by rw [flatS_len, flatS_len]; simpa using hlen2)
  have hpar : ∀ z, par z r = k (par z (flatS l)) (par z (flatS m)) := fun z => by
    have := h2.hi z (by simp)
    rw [Bool.false_xor, Bool.false_xor] at this
    exact this
  have hodd : (r.length % 2 == 1) = false := by
    obtain ⟨z, hz⟩ := up_ex (r ++ flatS l ++ flatS m)
    rw [← par_hi (x := z) (l := r) (fun a ha => hz a (by simp [ha])), hpar z, par_hi (x := z) (l := flatS l) (fun a ha => hz a (by simp [ha])), par_hi (x := z) (l := flatS m) (fun a ha => hz a (by simp [ha])), flatS_len, flatS_len, even_two, even_two, hk]
  obtain ⟨lo, hlo⟩ := lo_ex r
  obtain ⟨C, d1, d2⟩ := strict_can r lo h2.strict hlo hodd
  refine ⟨C, by rw [d2]; exact h1, ⟨lo, d1⟩, ?_, fun x => ?_⟩
  · have := h2.len
    rw [← d2, flatS_len, flatS_len, flatS_len] at this
    simp at this
    omega
  · rw [InS_par d1, d2, hpar]
    constructor
    · intro h
      exact ⟨_, _, (InS_par c1).symm, (InS_par c2).symm, h⟩
    · rintro ⟨p, q, hp, hq, h⟩
      have e1 : p = par x (flatS l) := by rw [Bool.eq_iff_iff, hp, InS_par c1]
      have e2 : q = par x (flatS m) := by rw [Bool.eq_iff_iff, hq, InS_par c2]
      rw [← e1, ← e2]; exact h
end Go.Proofs.YtcjeebkoafonpaaGreatDoor
namespace Go.Proofs.YtcjeebkoafonpaaGreatDoor
open PX
/-- A step lies on a side. -/
def On (s : Sd) (e : Ed) : Prop := ∃ i, i < s.2 ∧ adv s.1 i = e
def Dj (s t : Sd) : Prop := ∀ e, On s e → ¬ On t e
theorem sysB_of {I : Sq} {L : List Sd} (hp : ∀ s ∈ L, 0 < s.2) (hon : ∀ e, (∃ s ∈ L, On s e) ↔ isB I e) (hd : L.Pairwise Dj) : SysB I L where
  pos := hp
  bor := fun s hs i hi => (hon _).1 ⟨s, hs, i, hi, rfl⟩
  all := fun e he => (hon e).2 he
  once := fun a b s t ha hb i j hi hj he => by
    obtain ⟨ha', rfl⟩ := List.getElem?_eq_some_iff.1 ha
    obtain ⟨hb', rfl⟩ := List.getElem?_eq_some_iff.1 hb
    rw [List.pairwise_iff_getElem] at hd
    rcases Nat.lt_trichotomy a b with h | h | h
    · exact absurd ⟨j, hj, rfl⟩ (hd a b ha' hb' h _ ⟨i, hi, he⟩)
    · exact h
    · exact absurd ⟨i, hi, rfl⟩ (hd b a hb' ha' h _ ⟨j, hj, he.symm⟩)
/-! The four kinds of sides. -/
def sdS (y0 y1 : Int) (p : Int × Int) : Sd := (⟨p.1, y1, .S⟩, (y1 - y0).toNat)
def sdN (y0 y1 : Int) (p : Int × Int) : Sd := (⟨p.2, y0, .N⟩, (y1 - y0).toNat)
def sdW (y : Int) (p : Int × Int) : Sd := (⟨p.2, y, .W⟩, (p.2 - p.1).toNat)
def sdE (y : Int) (p : Int × Int) : Sd := (⟨p.1, y, .E⟩, (p.2 - p.1).toNat)
theorem on_S {y0 y1 : Int} {p : Int × Int} {e : Ed} : On (sdS y0 y1 p) e ↔ e.d = .S ∧ e.x = p.1 ∧ y0 < e.y ∧ e.y ≤ y1 := by
  unfold On sdS adv
  constructor
  · rintro ⟨i, hi, rfl⟩
    simp only [Dir.dx, Dir.dy] at *
    exact ⟨trivial, by omega, by omega, by omega⟩
  · rintro ⟨h1, h2, h3, h4⟩
    refine ⟨(y1 - e.y).toNat, by simp only; omega, Ed.ext' ?_ ?_ h1.symm⟩ <;> simp only [Dir.dx, Dir.dy] <;> omega
theorem on_N {y0 y1 : Int} {p : Int × Int} {e : Ed} : On (sdN y0 y1 p) e ↔ e.d = .N ∧ e.x = p.2 ∧ y0 ≤ e.y ∧ e.y < y1 := by
  unfold On sdN adv
  constructor
  · rintro ⟨i, hi, rfl⟩
    simp only [Dir.dx, Dir.dy] at *
    exact ⟨trivial, by omega, by omega, by omega⟩
  · rintro ⟨h1, h2, h3, h4⟩
    refine ⟨(e.y - y0).toNat, by simp only; omega, Ed.ext' ?_ ?_ h1.symm⟩ <;> simp only [Dir.dx, Dir.dy] <;> omega
theorem on_W {y : Int} {p : Int × Int} {e : Ed} : On (sdW y p) e ↔ e.d = .W ∧ e.y = y ∧ p.1 < e.x ∧ e.x ≤ p.2 := by
  unfold On sdW adv
  constructor
  · rintro ⟨i, hi, rfl⟩
    simp only [Dir.dx, Dir.dy] at *
    exact ⟨trivial, by omega, by omega, by omega⟩
  · rintro ⟨h1, h2, h3, h4⟩
    refine ⟨(p.2 - e.x).toNat, by simp only; omega, Ed.ext' ?_ ?_ h1.symm⟩ <;> simp only [Dir.dx, Dir.dy] <;> omega
theorem on_E {y : Int} {p : Int × Int} {e : Ed} : On (sdE y p) e ↔ e.d = .E ∧ e.y = y ∧ p.1 ≤ e.x ∧ e.x < p.2 := by
  unfold On sdE adv
  constructor
  · rintro ⟨i, hi, rfl⟩
    simp only [Dir.dx, Dir.dy] at *
    exact ⟨trivial, by omega, by omega, by omega⟩
  · rintro ⟨h1, h2, h3, h4⟩
    refine ⟨(e.x - p.1).toNat, by simp only; omega, Ed.ext' ?_ ?_ h1.symm⟩ <;> simp only [Dir.dx, Dir.dy] <;> omega
/-! Pieces of a line. -/
open Classical in
/-- What a row has above or below another. -/
noncomputable def diffS (A B : List (Int × Int)) : List (Int × Int) := if h : ∃ C, (∃ lo, Can lo C) ∧ ∀ x, InS x C ↔ InS x A ∧ ¬ InS x B then Classical.choose h else []
theorem diffS_ok {A B C : List (Int × Int)} (h1 : ∃ lo, Can lo C) (h2 : ∀ x, InS x C ↔ InS x A ∧ ¬ InS x B) : diffS A B = C := by
  have h : ∃ C, (∃ lo, Can lo C) ∧ ∀ x, InS x C ↔ InS x A ∧ ¬ InS x B := ⟨C, h1, h2⟩
  unfold diffS
  rw [dif_pos h]
  obtain ⟨g1, g2⟩ := Classical.choose_spec h
  exact can_eq g1 h1 fun x => by rw [g2, h2]
structure DiffOk (A B C : List (Int × Int)) : Prop where
  can : ∃ lo, Can lo C
  mem : ∀ x, InS x C ↔ InS x A ∧ ¬ InS x B
  len : C.length ≤ A.length + B.length
theorem line1_ok {N : Nat} {A B : List (Int × Int)} (hN : 10000000000 ≤ N) (hA : ∃ lo, Can lo A) (hB : ∃ lo, Can lo B) (hl : A.length + B.length ≤ 1000000000) : DiffOk A B (diffS A B) ∧ F_shape_line N (flatS A) (flatS B) F_shape_Set__sides_2_1 = some (flatS (diffS A B)) := by
  obtain ⟨C, h1, h2, h3, h4⟩ := line_ok (k := fun a b => a && !b) (f := F_shape_Set__sides_2_1) (fun a b => rfl) rfl (N := N) hA hB (by omega) (by omega)
  have h5 : ∀ x, InS x C ↔ InS x A ∧ ¬ InS x B := fun x => by
    rw [h4]
    constructor
    · rintro ⟨p, q, g1, g2, g3⟩
      simp only [Bool.and_eq_true, Bool.not_eq_true'] at g3
      exact ⟨g1.1 g3.1, fun hh => by have := g2.2 hh; rw [g3.2] at this; cases this⟩
    · rintro ⟨g1, g2⟩
      exact ⟨true, false, by simp [g1], by simp [g2], rfl⟩
  rw [diffS_ok h2 h5]
  exact ⟨⟨h2, h5, h3⟩, h1⟩
theorem line2_ok {N : Nat} {A B : List (Int × Int)} (hN : 10000000000 ≤ N) (hA : ∃ lo, Can lo A) (hB : ∃ lo, Can lo B) (hl : A.length + B.length ≤ 1000000000) : DiffOk B A (diffS B A) ∧ F_shape_line N (flatS A) (flatS B) F_shape_Set__sides_2_2 = some (flatS (diffS B A)) := by
  obtain ⟨C, h1, h2, h3, h4⟩ := line_ok (k := fun a b => b && !a) (f := F_shape_Set__sides_2_2) (fun a b => rfl) rfl (N := N) hA hB (by omega) (by omega)
  have h5 : ∀ x, InS x C ↔ InS x B ∧ ¬ InS x A := fun x => by
    rw [h4]
    constructor
    · rintro ⟨p, q, g1, g2, g3⟩
      simp only [Bool.and_eq_true, Bool.not_eq_true'] at g3
      exact ⟨g2.1 g3.1, fun hh => by have := g1.2 hh; rw [g3.2] at this; cases this⟩
    · rintro ⟨g1, g2⟩
      exact ⟨false, true, by simp [g2], by simp [g1], rfl⟩
  rw [diffS_ok h2 h5]
  exact ⟨⟨h2, h5, by omega⟩, h1⟩
/-- The sides at a level: a row below, one above. -/
noncomputable def hz (y : Int) (A B : List (Int × Int)) : List Sd := (diffS A B).map (sdW y) ++ (diffS B A).map (sdE y)
def vt (b : Bd) : List Sd := b.2.2.flatMap fun p => [sdS b.1 b.2.1 p, sdN b.1 b.2.1 p]
/-- The row that touches a band from below. -/
def lowR (prev : Option Bd) (b : Bd) : List (Int × Int) := match prev with
  | none => []
  | some c => if c.2.1 < b.1 then [] else c.2.2
/-- The sides at the upper end of a band, if nothing touches it there. -/
noncomputable def topR (b : Bd) (rest : List Bd) : List Sd := match rest with
  | [] => hz b.2.1 b.2.2 []
  | c :: _ => if b.2.1 < c.1 then hz b.2.1 b.2.2 [] else []
noncomputable def sidesQ : Option Bd → List Bd → List Sd
  | _, [] => []
  | prev, b :: rest => vt b ++ hz b.1 (lowR prev b) b.2.2 ++ topR b rest ++ sidesQ (some b) rest
/-! The program makes them. -/
theorem toS_S {y0 y1 : Int} {p : Int × Int} (h : y0 < y1) : toS (sdS y0 y1 p) = ⟨⟨p.1, y1⟩, ⟨p.1, y0⟩⟩ := by
  unfold toS endP sdS adv toPt Ed.p
  simp only [Dir.dx, Dir.dy, TSide.mk.injEq, TPoint.mk.injEq]
  exact ⟨trivial, by omega, by omega⟩
theorem toS_N {y0 y1 : Int} {p : Int × Int} (h : y0 < y1) : toS (sdN y0 y1 p) = ⟨⟨p.2, y0⟩, ⟨p.2, y1⟩⟩ := by
  unfold toS endP sdN adv toPt Ed.p
  simp only [Dir.dx, Dir.dy, TSide.mk.injEq, TPoint.mk.injEq]
  exact ⟨trivial, by omega, by omega⟩
theorem toS_W {y : Int} {p : Int × Int} (h : p.1 < p.2) : toS (sdW y p) = ⟨⟨p.2, y⟩, ⟨p.1, y⟩⟩ := by
  unfold toS endP sdW adv toPt Ed.p
  simp only [Dir.dx, Dir.dy, TSide.mk.injEq, TPoint.mk.injEq]
  exact ⟨trivial, by omega, by omega⟩
theorem toS_E {y : Int} {p : Int × Int} (h : p.1 < p.2) : toS (sdE y p) = ⟨⟨p.1, y⟩, ⟨p.2, y⟩⟩ := by
  unfold toS endP sdE adv toPt Ed.p
  simp only [Dir.dx, Dir.dy, TSide.mk.injEq, TPoint.mk.injEq]
  exact ⟨trivial, by omega, by omega⟩
theorem flat_fst (pre suf : List (Int × Int)) (p : Int × Int) : idx (flatS (pre ++ p :: suf)) ((2 * pre.length : Nat) : Int) = some p.1 := by
  have h := idx_mid (flatS pre) (p.2 :: flatS suf) p.1
  rw [flatS_len] at h
  rw [flatS_append, flatS_cons]; exact h
theorem flat_snd (pre suf : List (Int × Int)) (p : Int × Int) : idx (flatS (pre ++ p :: suf)) ((2 * pre.length + 1 : Nat) : Int) = some p.2 := by
  have h := idx_mid (flatS pre ++ [p.1]) (flatS suf) p.2
  rw [List.length_append, flatS_len, List.length_singleton, List.append_assoc] at h
  rw [flatS_append, flatS_cons]; exact h
theorem sides1_ok {a b c d : Int} {out : List TSide} (h : out.length < 1000000000) : F_shape_Set__sides_1 a b c d out = some (out ++ [⟨⟨a, b⟩, ⟨c, d⟩⟩]) := by
  unfold F_shape_Set__sides_1
  rw [apd_ok (by simp; omega)]; rfl
theorem len_flat {l : List (Int × Int)} {C pre suf : List (Int × Int)} (h : C = pre ++ suf) : (flatS C).length = 2 * pre.length + 2 * suf.length := by rw [h, flatS_len, List.length_append]; omega
theorem can_pos {l : List (Int × Int)} (h : ∃ lo, Can lo l) : ∀ p ∈ l, p.1 < p.2 := fun p hp => by
  obtain ⟨lo, h⟩ := h
  exact (h.mem p hp).2
theorem east_loop {y : Int} {C : List (Int × Int)} (hC : ∀ p ∈ C, p.1 < p.2) (hl : C.length ≤ 1000000000) : ∀ (suf pre : List (Int × Int)) (m : Nat) (out : List Sd), C = pre ++ suf → suf.length < m → out.length + suf.length ≤ 100000000 →
    F_shape_Set__sides_2__sides_1_L2 y (flatS C) m (out.map toS) ((2 * pre.length : Nat) : Int) = some ((out ++ suf.map (sdE y)).map toS)
  | _, _, 0, _, _, hm, _ => absurd hm (Nat.not_lt_zero _)
  | [], pre, m + 1, out, h, _, _ => by
    rw [F_shape_Set__sides_2__sides_1_L2.eq_2, if_neg (by rw [len_flat (l := C) h]; simp)]; simp
  | p :: suf, pre, m + 1, out, h, hm, ho => by
    have hpl : pre.length ≤ 1000000000 := by rw [h] at hl; simp at hl; omega
    rw [F_shape_Set__sides_2__sides_1_L2.eq_2, if_pos (by rw [len_flat (l := C) h]; simp; omega)]
    have e1 : w64 (((2 * pre.length : Nat) : Int) + 1) = ((2 * pre.length + 1 : Nat) : Int) := by rw [w64_id (by omega) (by omega)]; omega
    have e2 : w64 (((2 * pre.length : Nat) : Int) + 2) = ((2 * (pre ++ [p]).length : Nat) : Int) := by rw [w64_id (by omega) (by omega)]; simp; omega
    have i1 := flat_fst pre suf p
    have i2 := flat_snd pre suf p
    rw [← h] at i1 i2
    simp only [List.length_cons] at hm ho
    rw [e1, e2, i1, Option.bind_some, i2, Option.bind_some, sides1_ok (by rw [List.length_map]; omega), Option.bind_some]
    have := east_loop (y := y) hC hl suf (pre ++ [p]) m (out ++ [sdE y p]) (by rw [h]; simp) (by omega) (by simp; omega)
    rw [List.map_append, List.map_singleton, toS_E (hC p (by rw [h]; simp))] at this
    rw [this]; simp
theorem west_loop {N : Nat} {y : Int} {A B : List Int} {C : List (Int × Int)} (hC : ∀ p ∈ C, p.1 < p.2) (hl : C.length ≤ 1000000000) : ∀ (suf pre : List (Int × Int)) (m : Nat) (out : List Sd), C = pre ++ suf → suf.length < m → out.length + suf.length ≤ 100000000 →
    F_shape_Set__sides_2__sides_1_L1 N y A B (flatS C) m (out.map toS) ((2 * pre.length : Nat) : Int) = (F_shape_line N A B F_shape_Set__sides_2_2).bind fun y122 => F_shape_Set__sides_2__sides_1_L2 y y122 N ((out ++ suf.map (sdW y)).map toS) 0
  | _, _, 0, _, _, hm, _ => absurd hm (Nat.not_lt_zero _)
  | [], pre, m + 1, out, h, _, _ => by
    rw [F_shape_Set__sides_2__sides_1_L1.eq_2, if_neg (by rw [len_flat (l := C) h]; simp)]; simp
  | p :: suf, pre, m + 1, out, h, hm, ho => by
    have hpl : pre.length ≤ 1000000000 := by rw [h] at hl; simp at hl; omega
    rw [F_shape_Set__sides_2__sides_1_L1.eq_2, if_pos (by rw [len_flat (l := C) h]; simp; omega)]
    have e1 : w64 (((2 * pre.length : Nat) : Int) + 1) = ((2 * pre.length + 1 : Nat) : Int) := by rw [w64_id (by omega) (by omega)]; omega
    have e2 : w64 (((2 * pre.length : Nat) : Int) + 2) = ((2 * (pre ++ [p]).length : Nat) : Int) := by rw [w64_id (by omega) (by omega)]; simp; omega
    have i1 := flat_fst pre suf p
    have i2 := flat_snd pre suf p
    rw [← h] at i1 i2
    simp only [List.length_cons] at hm ho
    rw [e1, e2, i2, Option.bind_some, i1, Option.bind_some, sides1_ok (by rw [List.length_map]; omega), Option.bind_some]
    have := west_loop (N := N) (y := y) (A := A) (B := B) hC hl suf (pre ++ [p]) m (out ++ [sdW y p]) (by rw [h]; simp) (by omega) (by simp; omega)
    rw [List.map_append, List.map_singleton, toS_W (hC p (by rw [h]; simp))] at this
    rw [this]; simp
theorem hz_ok {N : Nat} {y : Int} {A B : List (Int × Int)} {out : List Sd} (hN : 10000000000 ≤ N) (hA : ∃ lo, Can lo A) (hB : ∃ lo, Can lo B) (hl : A.length + B.length ≤ 1000000000) (ho : (out ++ hz y A B).length ≤ 100000000) :
    F_shape_Set__sides_2__sides_1 N y (flatS A) (flatS B) (out.map toS) = some ((out ++ hz y A B).map toS) := by
  obtain ⟨d1, d2⟩ := line1_ok hN hA hB hl
  obtain ⟨d3, d4⟩ := line2_ok hN hA hB hl
  unfold hz at ho
  simp only [List.length_append, List.length_map] at ho
  unfold F_shape_Set__sides_2__sides_1
  show (F_shape_line N (flatS A) (flatS B) F_shape_Set__sides_2_1).bind _ = _
  rw [d2, Option.bind_some]
  have h1 := west_loop (N := N) (y := y) (A := flatS A) (B := flatS B) (can_pos d1.can) (by have := d1.len; omega) (diffS A B) [] N out rfl (by have := d1.len; omega) (by omega)
  have h2 := east_loop (y := y) (can_pos d3.can) (by have := d3.len; omega) (diffS B A) [] N (out ++ (diffS A B).map (sdW y)) rfl (by have := d3.len; omega) (by simp; omega)
  have e0 : ((2 * ([] : List (Int × Int)).length : Nat) : Int) = 0 := rfl
  rw [e0] at h1 h2
  rw [h1, d4, Option.bind_some, h2]
  unfold hz
  rw [List.append_assoc]
theorem vt_loop {N : Nat} {p0 : List TBand} {k : List TSide → Option (List TSide)} {b : Bd} {i : Nat} (hb : b.1 < b.2.1) (hl : b.2.2.length ≤ 1000000000) : ∀ (suf pre : List (Int × Int)) (m : Nat) (out : List Sd), b.2.2 = pre ++ suf → suf.length < m → out.length + 2 * suf.length ≤ 100000000 →
    F_shape_Set__sides_L6 N p0 k (toP b) i m (out.map toS) ((2 * pre.length : Nat) : Int) = F_shape_Set__sides_L6 N p0 k (toP b) i 1 ((out ++ suf.flatMap fun p => [sdS b.1 b.2.1 p, sdN b.1 b.2.1 p]).map toS) ((2 * b.2.2.length : Nat) : Int)
  | _, _, 0, _, _, hm, _ => absurd hm (Nat.not_lt_zero _)
  | [], pre, m + 1, out, h, _, _ => by
    have e : b.2.2.length = pre.length := by rw [h]; simp
    have hx : (toP b).Xs = flatS b.2.2 := rfl
    rw [F_shape_Set__sides_L6.eq_2, F_shape_Set__sides_L6.eq_2, e, hx, if_neg (by rw [len_flat (l := b.2.2) h]; simp), if_neg (c := decide (((2 * pre.length : Nat) : Int) < ((flatS b.2.2).length : Int)) = true) (by rw [len_flat (l := b.2.2) h]; simp)]; simp
  | p :: suf, pre, m + 1, out, h, hm, ho => by
    have hpl : pre.length ≤ 1000000000 := by rw [h] at hl; simp at hl; omega
    have hx : (toP b).Xs = flatS b.2.2 := rfl
    have hy0 : (toP b).Y0 = b.1 := rfl
    have hy1 : (toP b).Y1 = b.2.1 := rfl
    rw [F_shape_Set__sides_L6.eq_2, hx, hy0, hy1, if_pos (by rw [len_flat (l := b.2.2) h]; simp; omega)]
    have e1 : w64 (((2 * pre.length : Nat) : Int) + 1) = ((2 * pre.length + 1 : Nat) : Int) := by rw [w64_id (by omega) (by omega)]; omega
    have e2 : w64 (((2 * pre.length : Nat) : Int) + 2) = ((2 * (pre ++ [p]).length : Nat) : Int) := by rw [w64_id (by omega) (by omega)]; simp; omega
    have i1 := flat_fst pre suf p
    have i2 := flat_snd pre suf p
    rw [← h] at i1 i2
    simp only [List.length_cons] at hm ho
    rw [e1, e2, i1, Option.bind_some, Option.bind_some, sides1_ok (by rw [List.length_map]; omega), Option.bind_some, i2, Option.bind_some, Option.bind_some, sides1_ok (by simp; omega), Option.bind_some]
    have := vt_loop (N := N) (p0 := p0) (k := k) (i := i) hb hl suf (pre ++ [p]) m (out ++ [sdS b.1 b.2.1 p, sdN b.1 b.2.1 p]) (by rw [h]; simp) (by omega) (by simp; omega)
    rw [List.map_append, List.map_cons, List.map_singleton, toS_S hb, toS_N hb] at this
    rw [show (out.map toS ++ [TSide.mk ⟨p.1, b.2.1⟩ ⟨p.1, b.1⟩] ++ [TSide.mk ⟨p.2, b.1⟩ ⟨p.2, b.2.1⟩]) = out.map toS ++ [TSide.mk ⟨p.1, b.2.1⟩ ⟨p.1, b.1⟩, TSide.mk ⟨p.2, b.1⟩ ⟨p.2, b.2.1⟩] from by simp, this]
    simp
theorem len_app {a b : List Sd} {n : Nat} (h : (a ++ b).length ≤ n) : a.length ≤ n := by rw [List.length_append] at h; omega
theorem sidesQ_loop {N : Nat} (hN : 10000000000 ≤ N) {l : List Bd} (hl : l.length ≤ 1000000000) (hlo : ∀ b ∈ l, b.1 < b.2.1 ∧ b.2.2.length ≤ 100000000 ∧ ∃ lo, Can lo b.2.2) : ∀ (suf pre : List Bd) (out : List Sd), l = pre ++ suf → (out ++ sidesQ pre.getLast? suf).length ≤ 100000000 →
    F_shape_Set__sides_L5 N (l.map toP) (suf.map toP) pre.length (out.map toS) = some ((out ++ sidesQ pre.getLast? suf).map toS)
  | [], pre, out, _, _ => by
    show F_shape_Set__sides_L5 _ _ [] _ _ = _
    rw [F_shape_Set__sides_L5.eq_1]
    unfold sidesQ
    rw [List.append_nil]
  | b :: rest, pre, out, h, ho => by
    have hbm : b ∈ l := by rw [h]; simp
    obtain ⟨hb1, hb2, hb3⟩ := hlo b hbm
    have hpl : pre.length ≤ 1000000000 := by rw [h] at hl; simp at hl; omega
    unfold sidesQ at ho ⊢
    have eA : out ++ (vt b ++ hz b.1 (lowR pre.getLast? b) b.2.2 ++ topR b rest ++ sidesQ (some b) rest) = (((out ++ vt b) ++ hz b.1 (lowR pre.getLast? b) b.2.2) ++ topR b rest) ++ sidesQ (some b) rest := by simp only [List.append_assoc]
    rw [eA] at ho ⊢
    have ho3 := len_app ho
    have ho2 := len_app ho3
    have ho1 := len_app ho2
    have hvl : (vt b).length = 2 * b.2.2.length := by
      unfold vt
      rw [List.length_flatMap]
      simp only [List.length_cons, List.length_nil]
      rw [List.map_const', List.sum_replicate_nat]; omega
    rw [List.map_cons, F_shape_Set__sides_L5.eq_2]
    have hv := vt_loop (N := N) (p0 := l.map toP) (k := F_shape_Set__sides_L5 N (l.map toP) (rest.map toP) (pre.length + 1)) (b := b) (i := pre.length) hb1 (by omega) b.2.2 [] N out rfl (by omega) (by rw [List.length_append, hvl] at ho1; omega)
    have e0 : ((2 * ([] : List (Int × Int)).length : Nat) : Int) = 0 := rfl
    rw [e0] at hv
    have hx : (toP b).Xs = flatS b.2.2 := rfl
    have hy0 : (toP b).Y0 = b.1 := rfl
    have hy1 : (toP b).Y1 = b.2.1 := rfl
    have hvt : (b.2.2.flatMap fun p => [sdS b.1 b.2.1 p, sdN b.1 b.2.1 p]) = vt b := rfl
    rw [hv, hvt, F_shape_Set__sides_L6.eq_2, hx, hy0, if_neg (by rw [flatS_len]; simp)]
    -- what comes behind
    have hJ : F_shape_Set__sides_J7 N (l.map toP) (F_shape_Set__sides_L5 N (l.map toP) (rest.map toP) (pre.length + 1)) (toP b) pre.length ((out ++ vt b ++ hz b.1 (lowR pre.getLast? b) b.2.2).map toS) = some ((out ++ vt b ++ hz b.1 (lowR pre.getLast? b) b.2.2 ++ topR b rest ++ sidesQ (some b) rest).map toS) := by
      have ih := sidesQ_loop hN hl hlo rest (pre ++ [b]) (out ++ vt b ++ hz b.1 (lowR pre.getLast? b) b.2.2 ++ topR b rest) (by rw [h]; simp) (by rw [List.getLast?_append]; exact ho)
      rw [List.getLast?_append, List.length_append] at ih
      have ih : F_shape_Set__sides_L5 N (l.map toP) (rest.map toP) (pre.length + 1) ((out ++ vt b ++ hz b.1 (lowR pre.getLast? b) b.2.2 ++ topR b rest).map toS) = some ((out ++ vt b ++ hz b.1 (lowR pre.getLast? b) b.2.2 ++ topR b rest ++ sidesQ (some b) rest).map toS) := ih
      unfold F_shape_Set__sides_J7
      have e1 : w64 ((pre.length : Int) + 1) = ((pre ++ [b]).length : Int) := up_mid pre b (by omega)
      have hz0 : ∀ {o : List Sd}, (o ++ hz b.2.1 b.2.2 []).length ≤ 100000000 → F_shape_Set__sides_2__sides_1 N b.2.1 (flatS b.2.2) [] (o.map toS) = some ((o ++ hz b.2.1 b.2.2 []).map toS) := fun {o} ho => hz_ok (B := []) hN hb3 ⟨0, trivial⟩ (by simp; omega) ho
      rw [e1, hx, hy1]
      cases rest with
      | nil =>
        rw [if_pos (by rw [h]; simp), Option.bind_some, if_pos rfl]
        have e2 : topR b [] = hz b.2.1 b.2.2 [] := rfl
        rw [e2] at ih ho3 ⊢
        rw [hz0 ho3, Option.bind_some]; exact ih
      | cons c rest =>
        have e3 : idx (l.map toP) ((pre ++ [b]).length : Int) = some (toP c) := by
          have := idx_mid ((pre ++ [b]).map toP) (rest.map toP) (toP c)
          rw [List.length_map] at this
          rw [h, show pre ++ b :: c :: rest = (pre ++ [b]) ++ c :: rest by simp, List.map_append, List.map_cons]; exact this
        rw [if_neg (by rw [h]; simp; omega), e3, Option.bind_some, Option.bind_some]
        have e4 : (toP c).Y0 = c.1 := rfl
        rw [e4]
        by_cases hc : b.2.1 < c.1
        · have e2 : topR b (c :: rest) = hz b.2.1 b.2.2 [] := if_pos hc
          rw [if_pos (by simpa using hc)]
          rw [e2] at ih ho3 ⊢
          rw [hz0 ho3, Option.bind_some]; exact ih
        · have e2 : topR b (c :: rest) = [] := if_neg hc
          rw [if_neg (by simpa using hc)]
          rw [e2, List.append_nil] at ih ⊢
          exact ih
    rcases List.eq_nil_or_concat pre with hp | ⟨q, c, hp⟩
    · subst hp
      rw [if_pos (by simp), Option.bind_some, if_pos rfl]
      have := hz_ok (N := N) (y := b.1) (A := []) (B := b.2.2) (out := out ++ vt b) hN ⟨0, trivial⟩ hb3 (by simp; omega) ho2
      have e2 : flatS [] = [] := rfl
      rw [e2] at this
      rw [this, Option.bind_some]
      exact hJ
    · rw [List.concat_eq_append] at hp
      subst hp
      have hcm : c ∈ l := by rw [h]; simp
      obtain ⟨hc1, hc2, hc3⟩ := hlo c hcm
      have e1 : w64 (((q ++ [c]).length : Int) - 1) = (q.length : Int) := by rw [w64_id (by omega) (by omega)]; simp
      have e3 : idx (l.map toP) (q.length : Int) = some (toP c) := by
        have := idx_mid (q.map toP) ((b :: rest).map toP) (toP c)
        rw [List.length_map] at this
        rw [h, show (q ++ [c]) ++ b :: rest = q ++ c :: b :: rest by simp, List.map_append, List.map_cons]; exact this
      rw [if_neg (by simp; omega), e1, e3, Option.bind_some, Option.bind_some]
      have e4 : (toP c).Y1 = c.2.1 := rfl
      have e5 : (toP c).Xs = flatS c.2.2 := rfl
      have e6 : (q ++ [c]).getLast? = some c := by simp
      rw [e4]
      rw [e6] at hJ ho2 ⊢
      by_cases hc : c.2.1 < b.1
      · have e2 : lowR (some c) b = [] := if_pos hc
        rw [e2] at hJ ho2 ⊢
        rw [if_pos (by simpa using hc)]
        have := hz_ok (N := N) (y := b.1) (A := []) (B := b.2.2) (out := out ++ vt b) hN ⟨0, trivial⟩ hb3 (by simp; omega) ho2
        have e2 : flatS [] = [] := rfl
        rw [e2] at this
        rw [this, Option.bind_some]
        exact hJ
      · have e2 : lowR (some c) b = c.2.2 := if_neg hc
        rw [e2] at hJ ho2 ⊢
        rw [if_neg (by simpa using hc), Option.bind_some, e5, hz_ok (N := N) (y := b.1) (out := out ++ vt b) hN hc3 hb3 (by omega) ho2, Option.bind_some]
        exact hJ
theorem sidesQ_ok {N : Nat} (hN : 10000000000 ≤ N) {l : List Bd} (hl : l.length ≤ 1000000000) (hlo : ∀ b ∈ l, b.1 < b.2.1 ∧ b.2.2.length ≤ 100000000 ∧ ∃ lo, Can lo b.2.2) (hlen : (sidesQ none l).length ≤ 100000000) : F_shape_Set__sides N (l.map toP) = some ((sidesQ none l).map toS) := sidesQ_loop hN hl hlo l [] [] rfl hlen
end Go.Proofs.YtcjeebkoafonpaaGreatDoor
namespace Go.Proofs.YtcjeebkoafonpaaGreatDoor
open PX
def Has (L : List Sd) (e : Ed) : Prop := ∃ s ∈ L, On s e
theorem has_nil (e : Ed) : ¬ Has [] e := fun ⟨_, h, _⟩ => nomatch h
theorem has_app {A B : List Sd} {e : Ed} : Has (A ++ B) e ↔ Has A e ∨ Has B e := by
  unfold Has
  constructor
  · rintro ⟨s, h1, h2⟩
    rcases List.mem_append.1 h1 with h1 | h1
    · exact .inl ⟨s, h1, h2⟩
    · exact .inr ⟨s, h1, h2⟩
  · rintro (⟨s, h1, h2⟩ | ⟨s, h1, h2⟩)
    · exact ⟨s, List.mem_append_left _ h1, h2⟩
    · exact ⟨s, List.mem_append_right _ h1, h2⟩
theorem can_sep : ∀ {l : List (Int × Int)} {lo : Int}, Can lo l → l.Pairwise fun p q => p.2 < q.1
  | [], _, _ => .nil
  | p :: l, lo, h => List.pairwise_cons.2 ⟨fun q hq => (h.2.2.mem q hq).1, can_sep h.2.2⟩
theorem pw_two {α : Type} {R : α → α → Prop} : ∀ {l : List α}, l.Pairwise R → ∀ a ∈ l, ∀ b ∈ l, a = b ∨ R a b ∨ R b a
  | x :: l, h, a, ha, b, hb => by
    obtain ⟨h1, h2⟩ := List.pairwise_cons.1 h
    rcases List.mem_cons.1 ha with ea | ea
    · rcases List.mem_cons.1 hb with eb | eb
      · left; rw [ea, eb]
      · right; left; rw [ea]; exact h1 b eb
    · rcases List.mem_cons.1 hb with eb | eb
      · right; right; rw [eb]; exact h1 a ea
      · exact pw_two h2 a ea b eb
theorem can_end {l : List (Int × Int)} (h : ∃ lo, Can lo l) {x : Int} : (∃ p ∈ l, x = p.2) ↔ InS (x - 1) l ∧ ¬ InS x l := by
  obtain ⟨lo, h⟩ := h
  constructor
  · rintro ⟨p, hp, rfl⟩
    have h1 := (h.mem p hp).2
    refine ⟨⟨p, hp, by omega, by omega⟩, ?_⟩
    rintro ⟨q, hq, g1, g2⟩
    have h2 := (h.mem q hq).2
    rcases pw_two (can_sep h) p hp q hq with e | e | e
    · subst e; omega
    · omega
    · omega
  · rintro ⟨⟨p, hp, g1, g2⟩, h2⟩
    refine ⟨p, hp, ?_⟩
    rcases Int.lt_or_le x p.2 with h3 | h3
    · exact absurd ⟨p, hp, by omega, h3⟩ h2
    · omega
theorem can_beg {l : List (Int × Int)} (h : ∃ lo, Can lo l) {x : Int} : (∃ p ∈ l, x = p.1) ↔ InS x l ∧ ¬ InS (x - 1) l := by
  obtain ⟨lo, h⟩ := h
  constructor
  · rintro ⟨p, hp, rfl⟩
    have h1 := (h.mem p hp).2
    refine ⟨⟨p, hp, by omega, by omega⟩, ?_⟩
    rintro ⟨q, hq, g1, g2⟩
    have h2 := (h.mem q hq).2
    rcases pw_two (can_sep h) p hp q hq with e | e | e
    · subst e; omega
    · omega
    · omega
  · rintro ⟨⟨p, hp, g1, g2⟩, h2⟩
    refine ⟨p, hp, ?_⟩
    rcases Int.lt_or_le (x - 1) p.1 with h3 | h3
    · omega
    · exact absurd ⟨p, hp, by omega, by omega⟩ h2
def Ok1 (b : Bd) : Prop := b.1 < b.2.1 ∧ b.2.2.length ≤ 100000000 ∧ ∃ lo, Can lo b.2.2
theorem diff_ok {A B : List (Int × Int)} (hA : ∃ lo, Can lo A) (hB : ∃ lo, Can lo B) (hl : A.length + B.length ≤ 1000000000) : DiffOk A B (diffS A B) := (line1_ok (Nat.le_refl _) hA hB hl).1
/-- A row that is in order and not too long. -/
def RowO (A : List (Int × Int)) : Prop := (∃ lo, Can lo A) ∧ A.length ≤ 100000000
theorem RowO.nil : RowO [] := ⟨⟨0, trivial⟩, by simp⟩
theorem Ok1.row {b : Bd} (h : Ok1 b) : RowO b.2.2 := ⟨h.2.2, h.2.1⟩
theorem has_vt {b : Bd} (h : Ok1 b) {e : Ed} : Has (vt b) e ↔ (e.d = .N ∧ (b.1 ≤ e.y ∧ e.y < b.2.1) ∧ InS (e.x - 1) b.2.2 ∧ ¬ InS e.x b.2.2) ∨ (e.d = .S ∧ (b.1 < e.y ∧ e.y ≤ b.2.1) ∧ InS e.x b.2.2 ∧ ¬ InS (e.x - 1) b.2.2) := by
  unfold Has vt
  rw [← can_end h.2.2, ← can_beg h.2.2]
  constructor
  · rintro ⟨s, h1, h2⟩
    obtain ⟨p, hp, hs⟩ := List.mem_flatMap.1 h1
    simp only [List.mem_cons, List.not_mem_nil, or_false] at hs
    rcases hs with rfl | rfl
    · obtain ⟨g1, g2, g3, g4⟩ := on_S.1 h2
      exact .inr ⟨g1, ⟨g3, g4⟩, p, hp, g2⟩
    · obtain ⟨g1, g2, g3, g4⟩ := on_N.1 h2
      exact .inl ⟨g1, ⟨g3, g4⟩, p, hp, g2⟩
  · rintro (⟨g1, ⟨g3, g4⟩, p, hp, g2⟩ | ⟨g1, ⟨g3, g4⟩, p, hp, g2⟩)
    · exact ⟨_, List.mem_flatMap.2 ⟨p, hp, List.mem_cons_of_mem _ (List.mem_cons_self)⟩, on_N.2 ⟨g1, g2, g3, g4⟩⟩
    · exact ⟨_, List.mem_flatMap.2 ⟨p, hp, List.mem_cons_self⟩, on_S.2 ⟨g1, g2, g3, g4⟩⟩
theorem has_hz {y : Int} {A B : List (Int × Int)} (hA : RowO A) (hB : RowO B) {e : Ed} : Has (hz y A B) e ↔ e.y = y ∧ ((e.d = .W ∧ InS (e.x - 1) A ∧ ¬ InS (e.x - 1) B) ∨ (e.d = .E ∧ InS e.x B ∧ ¬ InS e.x A)) := by
  have d1 := diff_ok hA.1 hB.1 (by have := hA.2; have := hB.2; omega)
  have d2 := diff_ok hB.1 hA.1 (by have := hA.2; have := hB.2; omega)
  unfold hz
  rw [has_app, ← d1.mem, ← d2.mem]
  unfold Has
  simp only [List.mem_map]
  constructor
  · rintro (⟨s, ⟨p, hp, rfl⟩, h2⟩ | ⟨s, ⟨p, hp, rfl⟩, h2⟩)
    · obtain ⟨g1, g2, g3, g4⟩ := on_W.1 h2
      exact ⟨g2, .inl ⟨g1, p, hp, by omega, by omega⟩⟩
    · obtain ⟨g1, g2, g3, g4⟩ := on_E.1 h2
      exact ⟨g2, .inr ⟨g1, p, hp, by omega, by omega⟩⟩
  · rintro ⟨g2, (⟨g1, p, hp, g3, g4⟩ | ⟨g1, p, hp, g3, g4⟩)⟩
    · exact .inl ⟨_, ⟨p, hp, rfl⟩, on_W.2 ⟨g1, g2, by omega, by omega⟩⟩
    · exact .inr ⟨_, ⟨p, hp, rfl⟩, on_E.2 ⟨g1, g2, by omega, by omega⟩⟩
/-- Nothing touches a band from above. -/
def Free (b : Bd) : List Bd → Prop
  | [] => True
  | c :: _ => b.2.1 < c.1
theorem has_top {b : Bd} {rest : List Bd} (h : Ok1 b) {e : Ed} : Has (topR b rest) e ↔ Free b rest ∧ e.y = b.2.1 ∧ e.d = .W ∧ InS (e.x - 1) b.2.2 := by
  have h1 := has_hz (y := b.2.1) h.row RowO.nil (e := e)
  have h2 : Has (hz b.2.1 b.2.2 []) e ↔ e.y = b.2.1 ∧ e.d = .W ∧ InS (e.x - 1) b.2.2 := by
    rw [h1]
    constructor
    · rintro ⟨g1, (⟨g2, g3, _⟩ | ⟨_, g3, _⟩)⟩
      · exact ⟨g1, g2, g3⟩
      · exact absurd g3 InS_nil
    · rintro ⟨g1, g2, g3⟩
      exact ⟨g1, .inl ⟨g2, g3, InS_nil⟩⟩
  cases rest with
  | nil => show Has (hz b.2.1 b.2.2 []) e ↔ _; rw [h2]; simp [Free]
  | cons c rest =>
    unfold topR Free
    by_cases hc : b.2.1 < c.1
    · simp only [if_pos hc]
      rw [h2]; simp [hc]
    · simp only [if_neg hc]
      exact ⟨fun hh => absurd hh (has_nil e), fun hh => absurd hh.1 hc⟩
/-- The row under bands: what touches the first from below, then theirs. -/
def gR (prev : Option Bd) : List Bd → Int → List (Int × Int)
  | [], _ => []
  | b :: rest, y => if y = b.1 - 1 then lowR prev b else rowAt (b :: rest) y
theorem gR_cons (prev : Option Bd) (b : Bd) (rest : List Bd) (y : Int) : gR prev (b :: rest) y = if y = b.1 - 1 then lowR prev b else rowAt (b :: rest) y := rfl
theorem sidesQ_cons (prev : Option Bd) (b : Bd) (rest : List Bd) : sidesQ prev (b :: rest) = vt b ++ hz b.1 (lowR prev b) b.2.2 ++ topR b rest ++ sidesQ (some b) rest := by rw [sidesQ]
theorem gR_lo {prev : Option Bd} {l : List Bd} {lo y : Int} (h : CanB lo l) (hy : y < lo - 1) : gR prev l y = [] := by
  cases l with
  | nil => rfl
  | cons b rest =>
    rw [gR_cons, if_neg (by have := h.1; omega)]
    exact rowAt_lo h (by omega)
theorem gR_free {b : Bd} {l : List Bd} (h : CanB b.2.1 l) (hf : Free b l) : gR (some b) l (b.2.1 - 1) = [] := by
  cases l with
  | nil => rfl
  | cons c rest =>
    have hf : b.2.1 < c.1 := hf
    rw [gR_cons, if_neg (by omega)]
    exact rowAt_lo h (by omega)
theorem gR_touch {b : Bd} {l : List Bd} (h : CanB b.2.1 l) (hf : ¬ Free b l) : gR (some b) l (b.2.1 - 1) = b.2.2 := by
  cases l with
  | nil => exact absurd trivial hf
  | cons c rest =>
    have hf : ¬ b.2.1 < c.1 := hf
    have hc : c.1 = b.2.1 := by have := h.1; omega
    rw [gR_cons, if_pos (by omega)]
    exact if_neg hf
theorem rowAt_in {b : Bd} {rest : List Bd} {y : Int} (h1 : b.1 ≤ y) (h2 : y < b.2.1) : rowAt (b :: rest) y = b.2.2 := if_pos ⟨h1, h2⟩
theorem rowAt_hi {b : Bd} {rest : List Bd} {y : Int} (h2 : b.2.1 ≤ y) : rowAt (b :: rest) y = rowAt rest y := if_neg (by omega)
theorem gR_hi {b : Bd} {l : List Bd} {y : Int} (h : CanB b.2.1 l) (hy : b.2.1 ≤ y) : gR (some b) l y = rowAt l y := by
  cases l with
  | nil => rfl
  | cons c rest =>
    rw [gR_cons]
    by_cases hc : y = c.1 - 1
    · rw [if_pos hc]
      have hf : b.2.1 < c.1 := by omega
      have : rowAt (c :: rest) y = [] := rowAt_lo (lo := c.1) ⟨Int.le_refl _, h.2.1, h.2.2.1, h.2.2.2.1, h.2.2.2.2⟩ (by omega)
      rw [this]
      exact if_pos hf
    · rw [if_neg hc]
/-- What the sides of bands are. -/
structure Prv (prev : Option Bd) : Prop where
  ok : ∀ c, prev = some c → Ok1 c
theorem Prv.low {prev : Option Bd} (h : Prv prev) (b : Bd) : RowO (lowR prev b) := by
  cases prev with
  | none => exact RowO.nil
  | some c =>
    unfold lowR
    by_cases hc : c.2.1 < b.1
    · simp only [if_pos hc]; exact RowO.nil
    · simp only [if_neg hc]; exact (h.ok c rfl).row
def QN (l : List Bd) (e : Ed) : Prop := InS (e.x - 1) (rowAt l e.y) ∧ ¬ InS e.x (rowAt l e.y)
def QS (l : List Bd) (e : Ed) : Prop := InS e.x (rowAt l (e.y - 1)) ∧ ¬ InS (e.x - 1) (rowAt l (e.y - 1))
def QE (prev : Option Bd) (l : List Bd) (e : Ed) : Prop := InS e.x (rowAt l e.y) ∧ ¬ InS e.x (gR prev l (e.y - 1))
def QW (prev : Option Bd) (l : List Bd) (e : Ed) : Prop := InS (e.x - 1) (gR prev l (e.y - 1)) ∧ ¬ InS (e.x - 1) (rowAt l e.y)
theorem has_cons {prev : Option Bd} {b : Bd} {rest : List Bd} {e : Ed} : Has (sidesQ prev (b :: rest)) e ↔ Has (vt b) e ∨ Has (hz b.1 (lowR prev b) b.2.2) e ∨ Has (topR b rest) e ∨ Has (sidesQ (some b) rest) e := by
  rw [sidesQ_cons, has_app, has_app, has_app]
  constructor
  · rintro (((h | h) | h) | h)
    · exact .inl h
    · exact .inr (.inl h)
    · exact .inr (.inr (.inl h))
    · exact .inr (.inr (.inr h))
  · rintro (h | h | h | h)
    · exact .inl (.inl (.inl h))
    · exact .inl (.inl (.inr h))
    · exact .inl (.inr h)
    · exact .inr h
theorem has_sides : ∀ {l : List Bd} {prev : Option Bd} {lo : Int}, CanB lo l → (∀ b ∈ l, Ok1 b) → Prv prev → ∀ e, Has (sidesQ prev l) e ↔ (e.d = .N ∧ QN l e) ∨ (e.d = .S ∧ QS l e) ∨ (e.d = .E ∧ QE prev l e) ∨ (e.d = .W ∧ QW prev l e)
  | [], prev, lo, _, _, _, e => by
    constructor
    · intro h; exact absurd h (has_nil e)
    · rintro (⟨_, h, _⟩ | ⟨_, h, _⟩ | ⟨_, h, _⟩ | ⟨_, h, _⟩) <;> exact absurd h InS_nil
  | b :: rest, prev, lo, hc, hok, hp, e => by
    obtain ⟨c1, c2, c3, c4, c5⟩ := hc
    have hb := hok b (by simp)
    have ih := has_sides (prev := some b) c5 (fun c hc => hok c (by simp [hc])) ⟨fun c hc => by cases hc; exact hb⟩ e
    have hcan : CanB b.1 (b :: rest) := ⟨Int.le_refl _, c2, c3, c4, c5⟩
    rw [has_cons, has_vt hb, has_hz (hp.low b) hb.row, has_top hb, ih]
    have nil : ∀ {y : Int}, y < b.2.1 → rowAt rest y = [] := fun hy => rowAt_lo c5 hy
    have lo0 : ∀ {y : Int}, y < b.1 → rowAt (b :: rest) y = [] := fun hy => rowAt_lo hcan hy
    have glow : gR prev (b :: rest) (b.1 - 1) = lowR prev b := by rw [gR_cons, if_pos rfl]
    have gother : ∀ {y : Int}, y ≠ b.1 - 1 → gR prev (b :: rest) y = rowAt (b :: rest) y := fun hy => by rw [gR_cons, if_neg hy]
    have gnil : ∀ {y : Int}, y < b.2.1 - 1 → gR (some b) rest y = [] := fun hy => gR_lo c5 hy
    cases hd : e.d
    · -- east
      simp only [reduceCtorEq, false_and, false_or, or_false, true_and, and_false]
      unfold QE
      rcases Int.lt_or_le e.y b.1 with h1 | h1
      · rw [lo0 h1, nil (y := e.y) (by omega)]
        constructor
        · rintro (⟨h, _⟩ | ⟨h, _⟩)
          · omega
          · exact absurd h InS_nil
        · rintro ⟨h, _⟩; exact absurd h InS_nil
      · rcases Int.lt_or_le e.y b.2.1 with h2 | h2
        · rw [rowAt_in h1 h2, nil h2]
          by_cases h3 : e.y = b.1
          · rw [h3, glow]
            constructor
            · rintro (⟨_, g⟩ | ⟨h, _⟩)
              · exact g
              · exact absurd h InS_nil
            · intro g; exact .inl ⟨rfl, g⟩
          · rw [gother (by omega), rowAt_in (by omega) (by omega)]
            constructor
            · rintro (⟨h, _⟩ | ⟨h, _⟩)
              · exact absurd h h3
              · exact absurd h InS_nil
            · rintro ⟨g1, g2⟩; exact absurd g1 g2
        · rw [rowAt_hi h2, gother (y := e.y - 1) (by omega)]
          by_cases h3 : e.y = b.2.1
          · rw [rowAt_in (y := e.y - 1) (by omega) (by omega), h3]
            by_cases hf : Free b rest
            · -- nothing begins there
              have hn : rowAt rest b.2.1 = [] := by
                cases rest with
                | nil => rfl
                | cons c r => exact rowAt_lo (lo := c.1) ⟨Int.le_refl _, c5.2.1, c5.2.2.1, c5.2.2.2.1, c5.2.2.2.2⟩ hf
              rw [hn]
              constructor
              · rintro (⟨h, _⟩ | ⟨h, _⟩)
                · omega
                · exact absurd h InS_nil
              · rintro ⟨h, _⟩; exact absurd h InS_nil
            · rw [gR_touch c5 hf]
              constructor
              · rintro (⟨h, _⟩ | g)
                · omega
                · exact g
              · intro g; exact .inr g
          · rw [rowAt_hi (y := e.y - 1) (by omega), gR_hi c5 (y := e.y - 1) (by omega)]
            constructor
            · rintro (⟨h, _⟩ | g)
              · omega
              · exact g
            · intro g; exact .inr g
    · -- north
      simp only [reduceCtorEq, false_and, false_or, or_false, true_and, and_false]
      unfold QN
      by_cases h1 : b.1 ≤ e.y ∧ e.y < b.2.1
      · rw [rowAt_in h1.1 h1.2, nil h1.2]
        constructor
        · rintro (⟨_, g⟩ | ⟨h, _⟩)
          · exact g
          · exact absurd h InS_nil
        · intro g; exact .inl ⟨h1, g⟩
      · have : rowAt (b :: rest) e.y = rowAt rest e.y := if_neg h1
        rw [this]
        constructor
        · rintro (⟨h, _⟩ | g)
          · exact absurd h h1
          · exact g
        · intro g; exact .inr g
    · -- west
      simp only [reduceCtorEq, false_and, false_or, or_false, true_and, and_false]
      unfold QW
      rcases Int.lt_or_le e.y b.1 with h1 | h1
      · rw [gother (by omega), lo0 (y := e.y - 1) (by omega), gnil (by omega)]
        constructor
        · rintro (⟨h, _⟩ | ⟨_, h, _⟩ | ⟨h, _⟩)
          · omega
          · omega
          · exact absurd h InS_nil
        · rintro ⟨h, _⟩; exact absurd h InS_nil
      · rcases Int.lt_or_le e.y b.2.1 with h2 | h2
        · rw [rowAt_in h1 h2, nil h2, gnil (by omega)]
          by_cases h3 : e.y = b.1
          · rw [h3, glow]
            constructor
            · rintro (⟨_, g⟩ | ⟨_, h, _⟩ | ⟨h, _⟩)
              · exact g
              · omega
              · exact absurd h InS_nil
            · intro g; exact .inl ⟨rfl, g⟩
          · rw [gother (by omega), rowAt_in (by omega) (by omega)]
            constructor
            · rintro (⟨h, _⟩ | ⟨_, h, _⟩ | ⟨h, _⟩)
              · exact absurd h h3
              · omega
              · exact absurd h InS_nil
            · rintro ⟨g1, g2⟩; exact absurd g1 g2
        · rw [rowAt_hi h2, gother (y := e.y - 1) (by omega)]
          by_cases h3 : e.y = b.2.1
          · rw [rowAt_in (y := e.y - 1) (by omega) (by omega), h3]
            by_cases hf : Free b rest
            · have hn : rowAt rest b.2.1 = [] := by
                cases rest with
                | nil => rfl
                | cons c r => exact rowAt_lo (lo := c.1) ⟨Int.le_refl _, c5.2.1, c5.2.2.1, c5.2.2.2.1, c5.2.2.2.2⟩ hf
              rw [hn, gR_free c5 hf]
              constructor
              · rintro (⟨h, _⟩ | ⟨_, _, g⟩ | ⟨h, _⟩)
                · omega
                · exact ⟨g, InS_nil⟩
                · exact absurd h InS_nil
              · rintro ⟨g, _⟩; exact .inr (.inl ⟨hf, rfl, g⟩)
            · rw [gR_touch c5 hf]
              constructor
              · rintro (⟨h, _⟩ | ⟨h, _⟩ | g)
                · omega
                · exact absurd h hf
                · exact g
              · intro g; exact .inr (.inr g)
          · rw [rowAt_hi (y := e.y - 1) (by omega), gR_hi c5 (y := e.y - 1) (by omega)]
            constructor
            · rintro (⟨h, _⟩ | ⟨_, h, _⟩ | g)
              · omega
              · exact absurd h h3
              · exact g
            · intro g; exact .inr (.inr g)
    · -- south
      simp only [reduceCtorEq, false_and, false_or, or_false, true_and, and_false]
      unfold QS
      by_cases h1 : b.1 < e.y ∧ e.y ≤ b.2.1
      · rw [rowAt_in (by omega) (by omega), nil (y := e.y - 1) (by omega)]
        constructor
        · rintro (⟨_, g⟩ | ⟨h, _⟩)
          · exact g
          · exact absurd h InS_nil
        · intro g; exact .inl ⟨h1, g⟩
      · have : rowAt (b :: rest) (e.y - 1) = rowAt rest (e.y - 1) := if_neg (by omega)
        rw [this]
        constructor
        · rintro (⟨h, _⟩ | g)
          · exact absurd h h1
          · exact g
        · intro g; exact .inr g
/-! No two of them share a step. -/
theorem dj_dir {s t : Sd} (h : ∀ e, On s e → ∀ f, On t f → e.d ≠ f.d) : Dj s t := fun e h1 h2 => h e h1 e h2 rfl
theorem pw_has {A B : List Sd} (hA : A.Pairwise Dj) (hB : B.Pairwise Dj) (h : ∀ e, Has A e → ¬ Has B e) : (A ++ B).Pairwise Dj :=
  List.pairwise_append.2 ⟨hA, hB, fun s hs t ht e h1 h2 => h e ⟨s, hs, h1⟩ ⟨t, ht, h2⟩⟩
theorem pw_hz {y : Int} {A B : List (Int × Int)} (hA : RowO A) (hB : RowO B) : (hz y A B).Pairwise Dj := by
  obtain ⟨lo1, d1⟩ := (diff_ok hA.1 hB.1 (by have := hA.2; have := hB.2; omega)).can
  obtain ⟨lo2, d2⟩ := (diff_ok hB.1 hA.1 (by have := hA.2; have := hB.2; omega)).can
  unfold hz
  refine pw_has ?_ ?_ ?_
  · rw [List.pairwise_map]
    exact (can_sep d1).imp fun {p q} h e h1 h2 => by
      obtain ⟨_, _, g1, g2⟩ := on_W.1 h1
      obtain ⟨_, _, g3, g4⟩ := on_W.1 h2
      omega
  · rw [List.pairwise_map]
    exact (can_sep d2).imp fun {p q} h e h1 h2 => by
      obtain ⟨_, _, g1, g2⟩ := on_E.1 h1
      obtain ⟨_, _, g3, g4⟩ := on_E.1 h2
      omega
  · rintro e ⟨s, hs, h1⟩ ⟨t, ht, h2⟩
    obtain ⟨p, _, rfl⟩ := List.mem_map.1 hs
    obtain ⟨q, _, rfl⟩ := List.mem_map.1 ht
    have g1 := (on_W.1 h1).1
    have g2 := (on_E.1 h2).1
    rw [g1] at g2; cases g2
theorem pw_vt {b : Bd} (h : Ok1 b) : (vt b).Pairwise Dj := by
  obtain ⟨lo, hc⟩ := h.2.2
  unfold vt
  rw [List.pairwise_flatMap]
  constructor
  · intro p hp
    refine List.pairwise_cons.2 ⟨fun t ht e h1 h2 => ?_, List.pairwise_cons.2 ⟨fun t ht => (nomatch ht), .nil⟩⟩
    rw [List.mem_singleton.1 ht] at h2
    have g1 := (on_S.1 h1).1
    have g2 := (on_N.1 h2).1
    rw [g1] at g2; cases g2
  · refine List.Pairwise.imp_of_mem (R := fun p q => p.2 < q.1) (fun {p q} hp hq hpq s hs t ht e h1 h2 => ?_) (can_sep hc)
    have p1 := (hc.mem p hp).2
    have q1 := (hc.mem q hq).2
    simp only [List.mem_cons, List.not_mem_nil, or_false] at hs ht
    rcases hs with rfl | rfl <;> rcases ht with rfl | rfl
    · have g1 := (on_S.1 h1).2.1
      have g2 := (on_S.1 h2).2.1
      omega
    · have g1 := (on_S.1 h1).2.1
      have g2 := (on_N.1 h2).2.1
      omega
    · have g1 := (on_N.1 h1).2.1
      have g2 := (on_S.1 h2).2.1
      omega
    · have g1 := (on_N.1 h1).2.1
      have g2 := (on_N.1 h2).2.1
      omega
theorem pw_top {b : Bd} {rest : List Bd} (h : Ok1 b) : (topR b rest).Pairwise Dj := by
  cases rest with
  | nil => exact pw_hz h.row RowO.nil
  | cons c r =>
    unfold topR
    by_cases hc : b.2.1 < c.1
    · simp only [if_pos hc]; exact pw_hz h.row RowO.nil
    · simp only [if_neg hc]; exact .nil
theorem pw_sides : ∀ {l : List Bd} {prev : Option Bd} {lo : Int}, CanB lo l → (∀ b ∈ l, Ok1 b) → Prv prev → (sidesQ prev l).Pairwise Dj
  | [], _, _, _, _, _ => .nil
  | b :: rest, prev, lo, ⟨c1, c2, c3, c4, c5⟩, hok, hp => by
    have hb := hok b (by simp)
    have hp' : Prv (some b) := ⟨fun c hc => by cases hc; exact hb⟩
    have ih := pw_sides (prev := some b) c5 (fun c hc => hok c (by simp [hc])) hp'
    have hs := has_sides (prev := some b) c5 (fun c hc => hok c (by simp [hc])) hp'
    rw [sidesQ_cons]
    refine pw_has (pw_has (pw_has (pw_vt hb) (pw_hz (hp.low b) hb.row) ?_) (pw_top hb) ?_) ih ?_
    · intro e h1 h2
      rw [has_vt hb] at h1
      rw [has_hz (hp.low b) hb.row] at h2
      rcases h1 with ⟨g, _⟩ | ⟨g, _⟩ <;> rcases h2 with ⟨_, (⟨g', _⟩ | ⟨g', _⟩)⟩ <;> rw [g] at g' <;> cases g'
    · intro e h1 h2
      rw [has_top hb] at h2
      obtain ⟨_, g1, g2, _⟩ := h2
      rcases has_app.1 h1 with h1 | h1
      · rw [has_vt hb] at h1
        rcases h1 with ⟨g, _⟩ | ⟨g, _⟩ <;> rw [g2] at g <;> cases g
      · rw [has_hz (hp.low b) hb.row] at h1
        omega
    · intro e h1 h2
      have nil : ∀ {y : Int}, y < b.2.1 → rowAt rest y = [] := fun hy => rowAt_lo c5 hy
      rw [hs e] at h2
      rw [has_app, has_app, has_vt hb, has_hz (hp.low b) hb.row, has_top hb] at h1
      rcases h2 with ⟨g, q1, _⟩ | ⟨g, q1, _⟩ | ⟨g, q1, _⟩ | ⟨g, q1, _⟩ <;> rw [g] at h1 <;> simp only [reduceCtorEq, false_and, false_or, or_false, true_and, and_false] at h1
      · rw [nil h1.1.2] at q1; exact InS_nil q1
      · rw [nil (by omega)] at q1; exact InS_nil q1
      · rw [nil (by omega)] at q1; exact InS_nil q1
      · rcases h1 with ⟨h1, _⟩ | ⟨hf, h1, _⟩
        · rw [gR_lo c5 (by omega)] at q1; exact InS_nil q1
        · rw [h1, gR_free c5 hf] at q1; exact InS_nil q1
theorem gR_none {l : List Bd} {lo : Int} (h : CanB lo l) (y : Int) : gR none l y = rowAt l y := by
  cases l with
  | nil => rfl
  | cons b rest =>
    rw [gR_cons]
    by_cases hy : y = b.1 - 1
    · rw [if_pos hy]
      exact (rowAt_lo (lo := b.1) (l := b :: rest) ⟨Int.le_refl _, h.2.1, h.2.2.1, h.2.2.2.1, h.2.2.2.2⟩ (by omega)).symm
    · rw [if_neg hy]
theorem sides_pos : ∀ {l : List Bd} {prev : Option Bd}, (∀ b ∈ l, Ok1 b) → Prv prev → ∀ s ∈ sidesQ prev l, 0 < s.2
  | b :: rest, prev, hok, hp, s, hs => by
    have hb := hok b (by simp)
    have hz0 : ∀ {y : Int} {A B : List (Int × Int)}, RowO A → RowO B → ∀ s ∈ hz y A B, 0 < s.2 := fun {y A B} hA hB s hs => by
      have d1 := can_pos (diff_ok hA.1 hB.1 (by have := hA.2; have := hB.2; omega)).can
      have d2 := can_pos (diff_ok hB.1 hA.1 (by have := hA.2; have := hB.2; omega)).can
      unfold hz at hs
      rcases List.mem_append.1 hs with hs | hs
      · obtain ⟨p, hp, rfl⟩ := List.mem_map.1 hs
        have := d1 p hp
        show 0 < (p.2 - p.1).toNat; omega
      · obtain ⟨p, hp, rfl⟩ := List.mem_map.1 hs
        have := d2 p hp
        show 0 < (p.2 - p.1).toNat; omega
    rw [sidesQ_cons] at hs
    rcases List.mem_append.1 hs with hs | hs
    · rcases List.mem_append.1 hs with hs | hs
      · rcases List.mem_append.1 hs with hs | hs
        · obtain ⟨p, hp, hs⟩ := List.mem_flatMap.1 hs
          have := hb.1
          simp only [List.mem_cons, List.not_mem_nil, or_false] at hs
          rcases hs with rfl | rfl <;> show 0 < (b.2.1 - b.1).toNat <;> omega
        · exact hz0 (hp.low b) hb.row s hs
      · cases rest with
        | nil => exact hz0 hb.row RowO.nil s hs
        | cons c r =>
          unfold topR at hs
          by_cases hc : b.2.1 < c.1
          · simp only [if_pos hc] at hs; exact hz0 hb.row RowO.nil s hs
          · simp only [if_neg hc] at hs; cases hs
    · exact sides_pos (prev := some b) (fun c hc => hok c (by simp [hc])) ⟨fun c hc => by cases hc; exact hb⟩ s hs
/-- The sides of bands are the border of their set. -/
theorem sidesQ_sys {I : Sq} {l : List Bd} (h : BOk l) (hlen : ∀ b ∈ l, b.2.2.length ≤ 100000000) (hI : ∀ x y, I x y = true ↔ InS x (rowAt l y)) : SysB I (sidesQ none l) := by
  obtain ⟨lo, hc⟩ := h.can
  have hok : ∀ b ∈ l, Ok1 b := fun b hb => ⟨(hc.mem b hb).2.1, hlen b hb, h.row b hb⟩
  have hp : Prv none := ⟨fun c hc => nomatch hc⟩
  have hI' : ∀ x y, I x y = false ↔ ¬ InS x (rowAt l y) := fun x y => by
    rw [← hI]; cases I x y <;> simp
  refine sysB_of (sides_pos hok hp) (fun e => ?_) (pw_sides hc hok hp)
  refine (has_sides hc hok hp e).trans ?_
  unfold QN QS QE QW isB
  rw [gR_none hc]
  cases hd : e.d <;> simp only [reduceCtorEq, false_and, false_or, or_false, true_and, and_false, lq, Dir.right, hI, hI']
/-- How many there are. -/
theorem sidesQ_len {n : Nat} (hn : n ≤ 100000000) : ∀ {l : List Bd} {prev : Option Bd}, (∀ b ∈ l, Ok1 b ∧ b.2.2.length ≤ n) → (∀ c, prev = some c → Ok1 c ∧ c.2.2.length ≤ n) → (sidesQ prev l).length ≤ l.length * (8 * n)
  | [], _, _, _ => by unfold sidesQ; simp
  | b :: rest, prev, hok, hp => by
    obtain ⟨hb, hbn⟩ := hok b (by simp)
    have ih := sidesQ_len hn (l := rest) (prev := some b) (fun c hc => hok c (by simp [hc])) (fun c hc => by cases hc; exact ⟨hb, hbn⟩)
    have hzl : ∀ {y : Int} {A B : List (Int × Int)}, RowO A → RowO B → (hz y A B).length ≤ 2 * (A.length + B.length) := fun {y A B} hA hB => by
      have d1 := (diff_ok hA.1 hB.1 (by have := hA.2; have := hB.2; omega)).len
      have d2 := (diff_ok hB.1 hA.1 (by have := hA.2; have := hB.2; omega)).len
      unfold hz
      simp only [List.length_append, List.length_map]; omega
    have hlow : (lowR prev b).length ≤ n := by
      cases prev with
      | none => exact Nat.zero_le _
      | some c =>
        unfold lowR
        by_cases hc : c.2.1 < b.1
        · simp only [if_pos hc]; exact Nat.zero_le _
        · simp only [if_neg hc]; exact (hp c rfl).2
    have h1 := hzl (y := b.1) (Prv.low ⟨fun c hc => (hp c hc).1⟩ b) hb.row
    have h2 : (topR b rest).length ≤ 2 * n := by
      have h3 := hzl (y := b.2.1) hb.row RowO.nil
      rw [List.length_nil] at h3
      cases rest with
      | nil => exact Nat.le_trans h3 (by omega)
      | cons c r =>
        unfold topR
        by_cases hc : b.2.1 < c.1
        · simp only [if_pos hc]; omega
        · simp only [if_neg hc]; exact Nat.zero_le _
    have hvl : (vt b).length = 2 * b.2.2.length := by
      unfold vt
      rw [List.length_flatMap]
      simp only [List.length_cons, List.length_nil]
      rw [List.map_const', List.sum_replicate_nat]; omega
    rw [sidesQ_cons]
    simp only [List.length_append, List.length_cons, hvl]
    rw [Nat.add_mul, Nat.one_mul]
    omega
end Go.Proofs.YtcjeebkoafonpaaGreatDoor
namespace Go.Proofs.YtcjeebkoafonpaaGreatDoor
open PX
/-- The squares of rectangles. -/
def inRb (l : List TRect) : Sq := fun x y => l.any fun r => (decide (r.X0 ≤ x) && decide (x < r.X1)) && (decide (r.Y0 ≤ y) && decide (y < r.Y1))
theorem inRb_iff {l : List TRect} {x y : Int} : inRb l x y = true ↔ InR x y l := by
  unfold inRb InR
  rw [List.any_eq_true]
  simp only [Bool.and_eq_true, decide_eq_true_eq]
/-- The squares lie within limits. -/
def Lims (I : Sq) : Prop := ∀ x y, I x y = true → (-1000000 ≤ x ∧ x < 1000000) ∧ (-1000000 ≤ y ∧ y < 1000000)
theorem step_lim {I : Sq} (hI : Lims I) {e : Ed} (h : isB I e) : ((-1000000 ≤ e.x ∧ e.x ≤ 1000000) ∧ (-1000000 ≤ e.y ∧ e.y ≤ 1000000)) ∧ ((-1000000 ≤ e.tx ∧ e.tx ≤ 1000000) ∧ (-1000000 ≤ e.ty ∧ e.ty ≤ 1000000)) := by
  obtain ⟨h1, _⟩ := h
  unfold Ed.tx Ed.ty
  cases hd : e.d <;> rw [hd] at h1 <;> simp only [lq, Dir.dx, Dir.dy] at * <;> have := hI _ _ h1 <;> omega
theorem limS_of {I : Sq} {L : List Sd} (h : SysB I L) (hI : Lims I) (hl : L.length ≤ 100000000) : LimS L := by
  refine ⟨hl, fun s hs => ?_⟩
  obtain ⟨a1, _⟩ := step_lim hI (h.fst hs)
  obtain ⟨_, a2⟩ := step_lim hI (h.last hs).1
  obtain ⟨t1, t2, _⟩ := lst_to (h.pos s hs)
  rw [t1, t2] at a2
  refine ⟨⟨?_, ?_⟩, ?_, ?_⟩
  · show -1000000000 ≤ s.1.x ∧ s.1.x ≤ 1000000000; omega
  · show -1000000000 ≤ s.1.y ∧ s.1.y ≤ 1000000000; omega
  · omega
  · omega
/-- How many points some rows have, as the program counts. -/
def cntP : List (List TPoint) → Int → Int
  | [], n => n
  | p :: l, n => cntP l (w64 (n + (p.length : Int)))
theorem cntS_ok (y : List (List TPoint)) : ∀ (suf : List (List TPoint)) (i : Nat) (n : Int), F_shape_Outlines_L1 y suf i n = some (if 2000 < cntP suf n then ([], 2) else (y, 0))
  | [], i, n => by
    rw [F_shape_Outlines_L1.eq_1]
    unfold cntP
    by_cases h : 2000 < n
    · rw [if_pos (by simpa using h), if_pos h]
    · rw [if_neg (by simpa using h), if_neg h]
  | p :: suf, i, n => by rw [F_shape_Outlines_L1.eq_2, cntS_ok y suf]; rfl
/-- A region's squares lie within limits; its bands are few and short. -/
theorem region_lims {l : List TRect} (h : ∀ r ∈ l, ROk r) : Lims (inRb l) := fun _ _ hx => InR_lim h (inRb_iff.1 hx)
theorem bands_few {l : List Bd} (h : ∀ b ∈ l, b.2.2 ≠ []) : l.length ≤ (rectsB l).length ∧ ∀ b ∈ l, b.2.2.length ≤ (rectsB l).length := by
  induction l with
  | nil => exact ⟨Nat.le_refl _, fun b hb => nomatch hb⟩
  | cons b l ih =>
    obtain ⟨i1, i2⟩ := ih fun c hc => h c (by simp [hc])
    have hb := List.length_pos_iff.2 (h b (by simp))
    rw [rectsB_cons, List.length_append, rectsOf_len]
    refine ⟨by simp only [List.length_cons]; omega, fun c hc => ?_⟩
    rcases List.mem_cons.1 hc with rfl | hc
    · omega
    · have := i2 c hc; omega
/-- The borders of a region's squares. -/
def outV (l : List TRect) (ls : List (List (Int × Int))) : List (List TPoint) × Int := if 2000 < cntP (ls.map (List.map toPt)) 0 then ([], 2) else (ls.map (List.map toPt), 0)
theorem borders_reg {N : Nat} (hN : 10000000000 ≤ N) {l : List TRect} (h : regionErr l = 0) : ∃ ls, Outs (inRb l) ls ∧ (∃ B, Fin_ (inRb l) B) ∧ ls.length ≤ 100000000 ∧ ls.flatten.length ≤ 100000000 ∧ (F_shape_SetOf N l).bind (fun y101 => F_shape_Set__Borders N y101) = some (ls.map (List.map toPt)) := by
  obtain ⟨_, h2, h3, h4⟩ := regionErr_ok h
  have hne := ROk.ne h3
  obtain ⟨b1, b2⟩ := setB_ok hne
  obtain ⟨lo, hc⟩ := b1.can
  obtain ⟨f1, f2⟩ := bands_few (l := setB l) fun b hb => (hc.mem b hb).2.2
  rw [h4] at f1 f2
  have hrow : ∀ b ∈ setB l, b.2.2.length ≤ 2000 := fun b hb => by have := f2 b hb; omega
  have hok : ∀ b ∈ setB l, Ok1 b := fun b hb => ⟨(hc.mem b hb).2.1, by have := hrow b hb; omega, b1.row b hb⟩
  have hI : ∀ x y, inRb l x y = true ↔ InS x (rowAt (setB l) y) := fun x y => inRb_iff.trans (b2 x y).symm
  have sys := sidesQ_sys (I := inRb l) b1 (fun b hb => by have := hrow b hb; omega) hI
  have hlen := sidesQ_len (n := 2000) (by omega) (l := setB l) (prev := none) (fun b hb => ⟨hok b hb, hrow b hb⟩) (fun c hc => nomatch hc)
  have hlim := limS_of sys (region_lims h3) (by omega)
  obtain ⟨ls, l1, l2, l4, l3⟩ := borders_ok sys hlim (N := N) (by omega)
  refine ⟨ls, l1, sys.fin, by omega, by omega, ?_⟩
  rw [SetOf_ok hN (by omega) (fun r hr => (h3 r hr).r9), Option.bind_some]
  unfold F_shape_Set__Borders
  rw [sidesQ_ok hN (by omega) (fun b hb => hok b hb) (by omega), Option.bind_some]
  exact l3
/-- What the program tells of a region's outlines. -/
theorem OutlinesP_ok {N : Nat} (hN : 10000000000 ≤ N) (l : List TRect) : ∃ y, F_shape_Outlines N l = some y ∧ (regionErr l ≠ 0 → y = ([], regionErr l)) ∧ (regionErr l = 0 → ∃ ls, Outs (inRb l) ls ∧ (∃ B, Fin_ (inRb l) B) ∧ ls.length ≤ 100000000 ∧ ls.flatten.length ≤ 100000000 ∧ y = outV l ls) := by
  unfold F_shape_Outlines
  rw [CheckRegion_ok hN, Option.bind_some]
  by_cases h : regionErr l = 0
  · rw [if_neg (by simpa using h)]
    obtain ⟨ls, l1, l4, l2, l5, l3⟩ := borders_reg hN h
    refine ⟨outV l ls, ?_, fun hh => absurd h hh, fun _ => ⟨ls, l1, l4, l2, l5, rfl⟩⟩
    obtain ⟨y, y1, y2⟩ := Option.bind_eq_some_iff.1 l3
    rw [y1, Option.bind_some, y2, Option.bind_some, cntS_ok]; rfl
  · rw [if_pos (by simpa using h)]
    exact ⟨_, rfl, fun _ => rfl, fun hh => absurd hh h⟩
/-- The points are counted. -/
theorem cntP_val : ∀ (suf : List (List TPoint)) (n : Nat), n + suf.flatten.length ≤ 100000000 → cntP suf (n : Int) = ((n + suf.flatten.length : Nat) : Int)
  | [], n, _ => by simp [cntP]
  | l :: suf, n, hn => by
    rw [List.flatten_cons, List.length_append] at hn
    unfold cntP
    have e : w64 ((n : Int) + (l.length : Int)) = ((n + l.length : Nat) : Int) := by rw [w64_id (by omega) (by omega)]; omega
    rw [e, cntP_val suf (n + l.length) (by omega), List.flatten_cons, List.length_append]
    omega
end Go.Proofs.YtcjeebkoafonpaaGreatDoor
namespace Go.Proofs.YtcjeebkoafonpaaGreatDoor
open PX
theorem rowL_nxp {l : List (Int × Int)} {p0 : Int × Int} (h0 : l.head? = some p0) : ∀ (suf pre : List (Int × Int)), l = pre ++ suf → (∀ s ∈ nxp p0 suf, (s.1.1 = s.2.1) ≠ (s.1.2 = s.2.2)) → rowL (l.map toPt) (suf.map toPt) pre.length = true
  | [], _, _, _ => rfl
  | x :: r, pre, he, h => by
    have hlen : l.length = pre.length + r.length + 1 := by rw [he]; simp; omega
    have hnx : (l.map toPt).getD ((pre.length + 1) % (l.map toPt).length) ⟨0, 0⟩ = toPt (r.headD p0) := by
      rw [List.length_map]
      cases r with
      | nil =>
        rw [hlen, List.length_nil, Nat.add_zero, Nat.mod_self]
        cases l with
        | nil => cases h0
        | cons y t => cases h0; rfl
      | cons y t =>
        rw [Nat.mod_eq_of_lt (by rw [hlen]; simp), List.getD_eq_getElem?_getD, List.getElem?_map, he, List.getElem?_append_right (by omega)]
        simp
    rw [List.map_cons, rowL, hnx]
    have hx := h (x, r.headD p0) List.mem_cons_self
    have ih := rowL_nxp h0 r (pre ++ [x]) (by rw [he]; simp) (fun s hs => h s (List.mem_cons_of_mem _ hs))
    rw [List.length_append, List.length_singleton] at ih
    rw [if_neg, ih]
    intro hb
    apply hx
    simp only [toPt, beq_iff_eq] at hb
    show (x.1 = (r.headD p0).1) = (x.2 = (r.headD p0).2)
    generalize r.headD p0 = q at hb ⊢
    rw [Bool.eq_iff_iff, beq_iff_eq, beq_iff_eq] at hb
    exact propext hb
/-- What a row of a region is like. -/
def GoodRow (l : List TPoint) : Prop := 4 ≤ l.length ∧ (∀ q ∈ l, (-1000000 ≤ q.X ∧ q.X ≤ 1000000) ∧ (-1000000 ≤ q.Y ∧ q.Y ≤ 1000000)) ∧ rowL l l 0 = true
theorem rows_good {I : Sq} {ls : List (List (Int × Int))} (ho : Outs I ls) (hf : ∃ B, Fin_ I B) (hI : Lims I) : ∀ l ∈ ls.map (List.map toPt), GoodRow l := by
  intro l0 hl0
  obtain ⟨B, hB⟩ := hf
  obtain ⟨l, hl, rfl⟩ := List.mem_map.1 hl0
  obtain ⟨e, he, hle⟩ := ho.is l hl
  have hd := hle.head hB he
  obtain ⟨n, hn, hl2⟩ := hle
  have hr := row_ok hB he hn
  rw [← hl2] at hr
  refine ⟨by rw [List.length_map]; exact hr.len, fun q hq => ?_, ?_⟩
  · obtain ⟨z, hz, rfl⟩ := List.mem_map.1 hq
    obtain ⟨f, hf, rfl⟩ := hr.pts z hz
    have := (step_lim hI hf).1
    exact this
  · obtain ⟨r, hr2⟩ := hd
    exact rowL_nxp (p0 := e.p) (by rw [hr2]; rfl) l [] rfl hr.ax
theorem ofSteps_mem {x : TPlotStep} : ∀ {o : List (List TPoint)} {d : Int}, x ∈ ofSteps o d → (∃ l ∈ o, x = stepA l) ∨ x = stepK 1 ∨ x = stepK 2
  | [], _, h => by cases h
  | l :: t, d, h => by
    unfold ofSteps at h
    have hk : kindR l = 1 ∨ kindR l = 2 := by unfold kindR; split <;> simp
    split at h
    · rcases List.mem_cons.1 h with rfl | h
      · exact .inl ⟨l, List.mem_cons_self, rfl⟩
      · rcases ofSteps_mem h with ⟨m, hm, e⟩ | h
        · exact .inl ⟨m, List.mem_cons_of_mem _ hm, e⟩
        · exact .inr h
    · rcases List.mem_cons.1 h with rfl | h
      · rcases hk with h | h
        · exact .inr (.inl (by rw [h]))
        · exact .inr (.inr (by rw [h]))
      · rcases List.mem_cons.1 h with rfl | h
        · exact .inl ⟨l, List.mem_cons_self, rfl⟩
        · rcases ofSteps_mem h with ⟨m, hm, e⟩ | h
          · exact .inl ⟨m, List.mem_cons_of_mem _ hm, e⟩
          · exact .inr h
theorem ofSteps_sz : ∀ (o : List (List TPoint)) (d : Int), szSteps (ofSteps o d) ≤ 2 * o.length + o.flatten.length
  | [], d => by show szSteps [] ≤ _; rw [szSteps_nil]; omega
  | l :: t, d => by
    have a1 : szStep (stepA l) = 1 + l.length := by rw [szStep_eq]; show 1 + 0 + l.length + szSteps [] = _; rw [szSteps_nil]; omega
    have a2 : ∀ k, szStep (stepK k) = 1 := fun k => by rw [szStep_eq]; show 1 + 0 + 0 + szSteps [] = _; rw [szSteps_nil]
    unfold ofSteps
    rw [List.length_cons, List.flatten_cons, List.length_append]
    split
    · rw [szSteps_cons, a1]
      have := ofSteps_sz t d; omega
    · rw [szSteps_cons, szSteps_cons, a1, a2]
      have := ofSteps_sz t (kindR l); omega
theorem four_le : ∀ {o : List (List TPoint)}, (∀ l ∈ o, 4 ≤ l.length) → 4 * o.length ≤ o.flatten.length
  | [], _ => by simp
  | l :: t, h => by
    rw [List.length_cons, List.flatten_cons, List.length_append]
    have h1 := h l List.mem_cons_self
    have h2 := four_le (o := t) (fun m hm => h m (List.mem_cons_of_mem _ hm))
    omega
theorem mem_flat {l : List TPoint} : ∀ {o : List (List TPoint)}, l ∈ o → l.length ≤ o.flatten.length
  | m :: t, h => by
    rw [List.flatten_cons, List.length_append]
    rcases List.mem_cons.1 h with rfl | h
    · omega
    · have := mem_flat h; omega
/-- The plot of rows. -/
def ofPlot (o : List (List TPoint)) : TPlot := ⟨1, [], ofSteps o 1⟩
theorem of_steps {x : TPlotStep} {o : List (List TPoint)} (h : x ∈ (ofPlot o).Steps) : x.Steps = [] ∧ x.NX = 0 ∧ x.NY = 0 ∧ x.Name.size = 0 ∧ x.At = ⟨0, 0⟩ ∧ (x.Points = [] ∨ x.Points ∈ o) := by
  rcases ofSteps_mem h with ⟨l, hl, rfl⟩ | rfl | rfl
  · exact ⟨rfl, rfl, rfl, rfl, rfl, .inr hl⟩
  · exact ⟨rfl, rfl, rfl, rfl, rfl, .inl rfl⟩
  · exact ⟨rfl, rfl, rfl, rfl, rfl, .inl rfl⟩
theorem of_lenL {o : List (List TPoint)} (hg : ∀ l ∈ o, GoodRow l) (hf : o.flatten.length ≤ 2000) : lenL (ofPlot o).Steps := by
  refine lenL_of fun x hx => ?_
  obtain ⟨h1, h2, h3, h5, h6, h7⟩ := of_steps (o := o) hx
  have z : J64 0 := ⟨by decide, by decide⟩
  rw [lenS_eq, h1, h2, h3, h5, h6]
  refine ⟨by omega, ⟨z, z⟩, ?_, ⟨z, z⟩, by simp, by rw [lenL]; trivial⟩
  rcases h7 with h7 | h7
  · rw [h7]; exact ⟨by simp, fun q hq => (by cases hq)⟩
  · have := mem_flat h7
    refine ⟨by omega, fun q hq => ?_⟩
    have := (hg _ h7).2.1 q hq
    unfold J64; omega
/-- The program's plot of a region. -/
theorem OfP_ok {N : Nat} (hN : 20000000000 ≤ N) (r : List TRect) : ∃ y, F_shape_Outlines N r = some y ∧ (y.2 ≠ 0 → F_plot_Of N r = some (⟨0, [], []⟩, y.2)) ∧
    (y.2 = 0 → regionErr r = 0 ∧ ∃ ls o, Outs (inRb r) ls ∧ (∃ B, Fin_ (inRb r) B) ∧ y.1 = ls.map (List.map toPt) ∧ ByArea y.1 o ∧ (∀ l ∈ o, GoodRow l) ∧ o.flatten.length ≤ 2000 ∧ F_plot_Of N r = some (ofPlot o, 0)) := by
  obtain ⟨y, y1, y2, y3⟩ := OutlinesP_ok (N := N) (by omega) r
  refine ⟨y, y1, fun h => ?_, fun h => ?_⟩
  · unfold F_plot_Of
    rw [y1, Option.bind_some, if_pos (by simpa using h)]
  · have hr : regionErr r = 0 := by
      apply Classical.byContradiction
      intro hn
      rw [y2 hn] at h
      exact hn h
    obtain ⟨ls, l1, l2, l3, l4, rfl⟩ := y3 hr
    have hc : ¬ 2000 < cntP (ls.map (List.map toPt)) 0 := by
      intro hc
      rw [outV, if_pos hc] at h
      cases h
    have hfl : (ls.map (List.map toPt)).flatten.length = ls.flatten.length := by rw [← List.map_flatten, List.length_map]
    have hv := cntP_val (ls.map (List.map toPt)) 0 (by rw [hfl]; omega)
    rw [show ((0 : Nat) : Int) = 0 from rfl] at hv
    rw [hv] at hc
    rw [outV, if_neg (by rw [hv]; exact hc)]
    have hg := rows_good l1 l2 (region_lims (regionErr_ok hr).2.2.1)
    have hfl2 : (ls.map (List.map toPt)).flatten.length ≤ 2000 := by omega
    obtain ⟨o, o1, o2⟩ := OfP_rows hN (ls := ls.map (List.map toPt)) (by rw [List.length_map]; exact l3) (fun l hl => by have := mem_flat hl; omega)
    refine ⟨hr, ls, o, l1, l2, rfl, o1, fun l hl => hg l ((o1.mem l).1 hl), by rw [o1.len.flatten.length_eq]; exact hfl2, ?_⟩
    unfold F_plot_Of
    rw [y1, outV, if_neg (by rw [hv]; exact hc), Option.bind_some, if_neg (by simp)]
    exact o2
end Go.Proofs.YtcjeebkoafonpaaGreatDoor
namespace Go.Proofs.YtcjeebkoafonpaaGreatDoor.PX
/-- The square at the left hand of a step. -/
def sqL (e : Ed) : Int × Int := match e.d with
  | .E => (e.x, e.y)
  | .N => (e.x - 1, e.y)
  | .W => (e.x - 1, e.y - 1)
  | .S => (e.x, e.y - 1)
/-- .. and at its right hand. -/
def sqR (e : Ed) : Int × Int := sqL ⟨e.x, e.y, e.d.right⟩
theorem lq_sqL (I : Sq) (x y : Int) (d : Dir) : lq I x y d = I (sqL ⟨x, y, d⟩).1 (sqL ⟨x, y, d⟩).2 := by cases d <;> rfl
/-- What a step counts for a square: those to its left that go down, less those that go up. -/
def sg (x y : Int) (e : Ed) : Int := match e.d with
  | .N => if e.y = y ∧ e.x ≤ x then -1 else 0
  | .S => if e.y = y + 1 ∧ e.x ≤ x then 1 else 0
  | _ => 0
def wd (W : List Ed) (x y : Int) : Int := sumd (sg x y) W
/-- Whether a step is among some. -/
def ind (W : List Ed) (e : Ed) : Int := sumd (fun f => if f = e then 1 else 0) W
theorem sumd_zero {f : Ed → Int} : ∀ {W : List Ed}, (∀ e ∈ W, f e = 0) → sumd f W = 0
  | [], _ => rfl
  | e :: W, h => by
    have h1 := h e (by simp)
    have h2 := sumd_zero (f := f) (W := W) fun g hg => h g (by simp [hg])
    simp only [sumd, h1, h2]; rfl
theorem sumd_add (f g : Ed → Int) : ∀ W : List Ed, sumd (fun e => f e + g e) W = sumd f W + sumd g W
  | [] => rfl
  | e :: W => by
    have := sumd_add f g W
    simp only [sumd, this]; omega
theorem sumd_congr {f g : Ed → Int} : ∀ {W : List Ed}, (∀ e ∈ W, f e = g e) → sumd f W = sumd g W
  | [], _ => rfl
  | e :: W, h => by
    have h1 := h e (by simp)
    have h2 := sumd_congr (f := f) (g := g) (W := W) fun x hx => h x (by simp [hx])
    simp only [sumd, h1, h2]
theorem sumd_perm {f : Ed → Int} {W V : List Ed} (h : W.Perm V) : sumd f W = sumd f V := by
  induction h with
  | nil => rfl
  | cons x _ ih => simp only [sumd, ih]
  | swap x y l => simp only [sumd]; omega
  | trans _ _ h1 h2 => exact h1.trans h2
theorem sumd_map (f : Ed → Int) (g : Ed → Ed) : ∀ W : List Ed, sumd f (W.map g) = sumd (fun e => f (g e)) W
  | [] => rfl
  | e :: W => by
    have := sumd_map f g W
    simp only [List.map_cons, sumd, this]
theorem ind_in {W : List Ed} (hn : W.Nodup) {e : Ed} (h : e ∈ W) : ind W e = 1 := by
  induction W with
  | nil => cases h
  | cons f W ih =>
    obtain ⟨n1, n2⟩ := List.nodup_cons.1 hn
    unfold ind at ih ⊢
    rcases List.mem_cons.1 h with h | h
    · subst h
      have : sumd (fun g => if g = e then 1 else 0) W = 0 := sumd_zero fun g hg => if_neg fun (hh : g = e) => n1 (hh ▸ hg)
      simp only [sumd, this, if_true]; rfl
    · have h1 := ih n2 h
      have h2 : f ≠ e := fun hh => n1 (hh ▸ h)
      simp only [sumd, h1, if_neg h2]; rfl
theorem ind_out {W : List Ed} {e : Ed} (h : e ∉ W) : ind W e = 0 := sumd_zero fun g hg => if_neg fun (hh : g = e) => h (hh ▸ hg)
/-- From one square to the next in its row. -/
theorem wd_row (W : List Ed) (x y : Int) : wd W x y - wd W (x - 1) y = ind W ⟨x, y + 1, .S⟩ - ind W ⟨x, y, .N⟩ := by
  have h : sumd (fun e => sg x y e + (if e = ⟨x, y, .N⟩ then 1 else 0)) W = sumd (fun e => sg (x - 1) y e + (if e = ⟨x, y + 1, .S⟩ then 1 else 0)) W := by
    refine sumd_congr fun e _ => ?_
    obtain ⟨a, b, d⟩ := e
    unfold sg
    cases d <;> simp only [Ed.mk.injEq, reduceCtorEq, and_false, and_true, if_false]
    · repeat' split
      all_goals omega
    · repeat' split
      all_goals omega
  rw [sumd_add, sumd_add] at h
  unfold wd ind
  omega
/-- Steps that are closed under following: as many begin at a point as end there. -/
def Flow (W : List Ed) : Prop := ∀ x y, ind W ⟨x, y, .E⟩ + ind W ⟨x, y, .N⟩ + ind W ⟨x, y, .W⟩ + ind W ⟨x, y, .S⟩ = ind W ⟨x - 1, y, .E⟩ + ind W ⟨x, y - 1, .N⟩ + ind W ⟨x + 1, y, .W⟩ + ind W ⟨x, y + 1, .S⟩
theorem lo_all : ∀ W : List Ed, ∃ lo : Int, ∀ e ∈ W, lo < e.x
  | [] => ⟨0, fun _ h => nomatch h⟩
  | e :: W => by
    obtain ⟨lo, h⟩ := lo_all W
    refine ⟨min lo (e.x - 1), fun f hf => ?_⟩
    rcases List.mem_cons.1 hf with rfl | hf
    · omega
    · have := h f hf; omega
theorem wd_lo {W : List Ed} {lo : Int} (h : ∀ e ∈ W, lo < e.x) {x y : Int} (hx : x ≤ lo) : wd W x y = 0 := by
  refine sumd_zero fun e he => ?_
  have := h e he
  obtain ⟨a, b, d⟩ := e
  have this : lo < a := this
  unfold sg
  cases d
  · rfl
  · exact if_neg (by omega)
  · rfl
  · exact if_neg (by omega)
/-- From one square to the one above it. -/
theorem wd_col {W : List Ed} (hf : Flow W) (x y : Int) : wd W x y - wd W x (y - 1) = ind W ⟨x, y, .E⟩ - ind W ⟨x + 1, y, .W⟩ := by
  obtain ⟨lo, hlo⟩ := lo_all W
  have hout : ∀ {a b : Int} {d : Dir}, a ≤ lo → ind W ⟨a, b, d⟩ = 0 := fun {a b d} ha => ind_out fun hm => by
    have h1 : lo < a := hlo _ hm
    omega
  have key : ∀ n : Nat, wd W (lo - 1 + n) y - wd W (lo - 1 + n) (y - 1) = ind W ⟨lo - 1 + n, y, .E⟩ - ind W ⟨lo - 1 + n + 1, y, .W⟩ := by
    intro n
    induction n with
    | zero =>
      rw [wd_lo hlo (by omega), wd_lo hlo (by omega), hout (by omega), hout (by omega)]
    | succ n ih =>
      have e : lo - 1 + ((n + 1 : Nat) : Int) = lo - 1 + (n : Int) + 1 := by omega
      rw [e]
      generalize lo - 1 + (n : Int) = z at ih ⊢
      have h1 := wd_row W (z + 1) y
      have h2 := wd_row W (z + 1) (y - 1)
      have h3 := hf (z + 1) y
      rw [show z + 1 - 1 = z by omega] at h1 h2 h3
      rw [show y - 1 + 1 = y by omega] at h2
      omega
  rcases Int.lt_or_le x (lo - 1) with h | h
  · rw [wd_lo hlo (by omega), wd_lo hlo (by omega), hout (by omega), hout (by omega)]
  · have := key (x - (lo - 1)).toNat
    rw [show lo - 1 + ((x - (lo - 1)).toNat : Int) = x by omega] at this
    exact this
/-- Across any step: what is counted at its left hand and at its right hand. -/
theorem wd_side {W : List Ed} (hf : Flow W) (e : Ed) : wd W (sqL e).1 (sqL e).2 - wd W (sqR e).1 (sqR e).2 = ind W e - ind W ⟨e.tx, e.ty, e.d.left.left⟩ := by
  obtain ⟨x, y, d⟩ := e
  unfold sqR sqL Ed.tx Ed.ty
  cases d <;> simp only [Dir.right, Dir.left, Dir.dx, Dir.dy]
  · rw [Int.add_zero]; exact wd_col hf x y
  · have := wd_row W x y
    rw [Int.add_zero]; omega
  · have := wd_col hf (x - 1) y
    rw [show x - 1 + 1 = x by omega] at this
    rw [Int.add_zero, show x + -1 = x - 1 by omega]; omega
  · have := wd_row W x (y - 1)
    rw [show y - 1 + 1 = y by omega] at this
    rw [Int.add_zero, show y + -1 = y - 1 by omega]; omega
end Go.Proofs.YtcjeebkoafonpaaGreatDoor.PX
namespace Go.Proofs.YtcjeebkoafonpaaGreatDoor.PX
section
variable {I : Sq}
/-- A closed row of border steps, each once. -/
structure Cyc (I : Sq) (W : List Ed) : Prop where
  nd : W.Nodup
  bor : ∀ e ∈ W, isB I e
  flow : Flow W
  cl : ∀ e, isB I e → (e ∈ W ↔ sc I e ∈ W)
theorem walk_map (I : Sq) : ∀ (n : Nat) (e : Ed), (walk I n e).map (sc I) = walk I n (sc I e)
  | 0, _ => rfl
  | n + 1, e => by
    have := walk_map I n (sc I e)
    simp only [walk, List.map_cons, this]
theorem walk_rot {e : Ed} {n : Nat} (h : it I n e = e) : (walk I n (sc I e)).Perm (walk I n e) := by
  have h1 : walk I (1 + n) e = walk I 1 e ++ walk I n (it I 1 e) := walk_add I 1 n e
  have h2 : walk I (n + 1) e = walk I n e ++ walk I 1 (it I n e) := walk_add I n 1 e
  rw [Nat.add_comm 1 n] at h1
  rw [h1] at h2
  have e1 : walk I 1 e = [e] := rfl
  have e2 : it I 1 e = sc I e := rfl
  rw [h, e1, e2, List.singleton_append] at h2
  have h3 : (e :: walk I n (sc I e)).Perm (e :: walk I n e) := by
    rw [h2]
    exact List.perm_append_comm
  exact List.Perm.cons_inv h3
theorem ind_at (W : List Ed) (x y : Int) : ind W ⟨x, y, .E⟩ + ind W ⟨x, y, .N⟩ + ind W ⟨x, y, .W⟩ + ind W ⟨x, y, .S⟩ = sumd (fun f => if f.p = (x, y) then 1 else 0) W := by
  unfold ind
  rw [← sumd_add, ← sumd_add, ← sumd_add]
  refine sumd_congr fun f _ => ?_
  obtain ⟨a, b, d⟩ := f
  have e : (Ed.mk a b d).p = (a, b) := rfl
  rw [e]
  cases d <;> simp only [Ed.mk.injEq, reduceCtorEq, and_false, and_true, if_false, Prod.mk.injEq] <;> repeat' split
  all_goals omega
theorem ind_to (W : List Ed) (x y : Int) : ind W ⟨x - 1, y, .E⟩ + ind W ⟨x, y - 1, .N⟩ + ind W ⟨x + 1, y, .W⟩ + ind W ⟨x, y + 1, .S⟩ = sumd (fun f => if (f.tx, f.ty) = (x, y) then 1 else 0) W := by
  unfold ind
  rw [← sumd_add, ← sumd_add, ← sumd_add]
  refine sumd_congr fun f _ => ?_
  obtain ⟨a, b, d⟩ := f
  unfold Ed.tx Ed.ty
  cases d <;> simp only [Ed.mk.injEq, reduceCtorEq, and_false, and_true, if_false, Prod.mk.injEq, Dir.dx, Dir.dy] <;> repeat' split
  all_goals omega
theorem cyc_walk {e : Ed} {n : Nat} (he : isB I e) (h : Per I e n) : Cyc I (walk I n e) := by
  have hrot := walk_rot h.2.1
  have hw : ∀ f ∈ walk I n e, isB I f := fun f hf => by
    obtain ⟨i, _, rfl⟩ := walk_mem.1 hf
    exact it_isB he i
  refine ⟨h.nodup he, hw, fun x y => ?_, fun f hf => ⟨fun hm => ?_, fun hm => ?_⟩⟩
  · rw [ind_at, ind_to, ← sumd_perm hrot, ← walk_map, sumd_map]
    refine sumd_congr fun f _ => ?_
    rw [sc_p]
  · have : sc I f ∈ (walk I n e).map (sc I) := List.mem_map_of_mem hm
    rw [walk_map] at this
    exact hrot.mem_iff.1 this
  · have h1 := hrot.mem_iff.2 hm
    rw [← walk_map] at h1
    obtain ⟨g, hg, hgs⟩ := List.mem_map.1 h1
    rwa [← sc_inj (hw g hg) hf hgs]
/-! Squares on one side of a border. -/
variable {W : List Ed}
theorem ind_bor (h : Cyc I W) {g : Ed} (hg : ¬ isB I g) : ind W g = 0 := ind_out fun hm => hg (h.bor g hm)
/-- Between two squares that are both in the set or both not, no border passes. -/
theorem wd_same (h : Cyc I W) {g : Ed} (hs : lq I g.x g.y g.d = lq I g.x g.y g.d.right) : wd W (sqL g).1 (sqL g).2 = wd W (sqR g).1 (sqR g).2 := by
  have h1 := wd_side h.flow g
  obtain ⟨a1, a2⟩ := Ed.at_to I g
  have z1 : ind W g = 0 := ind_bor h (g := g) fun hb => by
    obtain ⟨b1, b2⟩ := hb
    rw [hs, b2] at b1
    cases b1
  have z2 : ind W ⟨g.tx, g.ty, g.d.left.left⟩ = 0 := ind_bor h fun hb => by
    obtain ⟨b1, b2⟩ := hb
    have b1 : lq I g.tx g.ty g.d.left.left = true := b1
    have b2 : lq I g.tx g.ty g.d.left.left.right = false := b2
    rw [Dir.lr] at b2
    rw [a2] at b1
    rw [a1, hs, b1] at b2
    cases b2
  rw [z1, z2] at h1
  omega
theorem sqL_to (e : Ed) : sqL ⟨e.tx, e.ty, e.d.left⟩ = sqL e ∧ sqL ⟨e.tx, e.ty, e.d.left.left⟩ = sqR e := by
  obtain ⟨x, y, d⟩ := e
  unfold sqR sqL Ed.tx Ed.ty
  cases d <;> simp only [Dir.left, Dir.right, Dir.dx, Dir.dy, Prod.mk.injEq] <;> omega
theorem wd_left (h : Cyc I W) {e : Ed} (he : isB I e) : wd W (sqL (sc I e)).1 (sqL (sc I e)).2 = wd W (sqL e).1 (sqL e).2 := by
  obtain ⟨s1, s2⟩ := sqL_to e
  obtain ⟨a1, a2⟩ := Ed.at_to I e
  rcases sc_cases he with ⟨h1, h2⟩ | ⟨h1, h2, h3⟩ | ⟨h1, h2, h3⟩
  · rw [h2, s1]
  · have g := wd_same h (g := ⟨e.tx, e.ty, e.d.left⟩) (by
      show lq I e.tx e.ty e.d.left = lq I e.tx e.ty e.d.left.right
      rw [Dir.lr, h1, a1]; exact he.1)
    have er : sqR ⟨e.tx, e.ty, e.d.left⟩ = sqL ⟨e.tx, e.ty, e.d⟩ := by unfold sqR; rw [Dir.lr]
    rw [s1, er] at g
    rw [h3]; exact g.symm
  · have g := wd_same h (g := ⟨e.tx, e.ty, e.d.left⟩) (by
      show lq I e.tx e.ty e.d.left = lq I e.tx e.ty e.d.left.right
      rw [Dir.lr, h1, a1]; exact he.1)
    have er : sqR ⟨e.tx, e.ty, e.d.left⟩ = sqL ⟨e.tx, e.ty, e.d⟩ := by unfold sqR; rw [Dir.lr]
    rw [s1, er] at g
    have g2 := wd_same h (g := ⟨e.tx, e.ty, e.d⟩) (by
      show lq I e.tx e.ty e.d = lq I e.tx e.ty e.d.right
      rw [h1, h2])
    have er2 : sqR ⟨e.tx, e.ty, e.d⟩ = sqL ⟨e.tx, e.ty, e.d.right⟩ := rfl
    rw [er2] at g2
    rw [h3, g, g2]
theorem wd_right (h : Cyc I W) {e : Ed} (he : isB I e) : wd W (sqR (sc I e)).1 (sqR (sc I e)).2 = wd W (sqR e).1 (sqR e).2 := by
  obtain ⟨s1, s2⟩ := sqL_to e
  obtain ⟨a1, a2⟩ := Ed.at_to I e
  have er1 : sqR ⟨e.tx, e.ty, e.d.right⟩ = sqR e := by
    rw [← s2]
    show sqL ⟨e.tx, e.ty, e.d.right.right⟩ = _
    rw [Dir.rr]
  have er2 : sqR ⟨e.tx, e.ty, e.d⟩ = sqL ⟨e.tx, e.ty, e.d.right⟩ := rfl
  have er3 : sqR ⟨e.tx, e.ty, e.d.left⟩ = sqL ⟨e.tx, e.ty, e.d⟩ := by unfold sqR; rw [Dir.lr]
  have hR : lq I e.tx e.ty e.d.right.right = false := by rw [Dir.rr, a2]; exact he.2
  rcases sc_cases he with ⟨h1, h2⟩ | ⟨h1, h2, h3⟩ | ⟨h1, h2, h3⟩
  · rw [h2, er3]
    rcases bc (b := lq I e.tx e.ty e.d.right) with hA | hA
    · have g1 := wd_same h (g := ⟨e.tx, e.ty, e.d.right⟩) (by
        show lq I e.tx e.ty e.d.right = lq I e.tx e.ty e.d.right.right
        rw [hA, hR])
      have g2 := wd_same h (g := ⟨e.tx, e.ty, e.d⟩) (by
        show lq I e.tx e.ty e.d = lq I e.tx e.ty e.d.right
        rw [h1, hA])
      rw [er1] at g1
      rw [er2] at g2
      rw [g2, g1]
    · -- another border passes here
      have g1 := wd_side h.flow ⟨e.tx, e.ty, e.d.right⟩
      have g2 := wd_side h.flow ⟨e.tx, e.ty, e.d⟩
      rw [er1] at g1
      rw [er2] at g2
      have b1 : isB I ⟨e.tx, e.ty, e.d.right⟩ := ⟨hA, hR⟩
      have c1 := PX.at_to I e.tx e.ty e.d.right
      have c2 := PX.at_to I e.tx e.ty e.d
      -- the step that comes in
      have hin : isB I ⟨Ed.tx ⟨e.tx, e.ty, e.d⟩, Ed.ty ⟨e.tx, e.ty, e.d⟩, e.d.left.left⟩ := by
        refine ⟨?_, ?_⟩
        · show lq I (e.tx + e.d.dx) (e.ty + e.d.dy) e.d.left.left = true
          rw [c2.2]; exact hA
        · show lq I (e.tx + e.d.dx) (e.ty + e.d.dy) e.d.left.left.right = false
          rw [Dir.lr, c2.1]; exact h1
      have hto : Ed.tx ⟨Ed.tx ⟨e.tx, e.ty, e.d⟩, Ed.ty ⟨e.tx, e.ty, e.d⟩, e.d.left.left⟩ = e.tx ∧ Ed.ty ⟨Ed.tx ⟨e.tx, e.ty, e.d⟩, Ed.ty ⟨e.tx, e.ty, e.d⟩, e.d.left.left⟩ = e.ty := by
        generalize e.tx = u
        generalize e.ty = v
        unfold Ed.tx Ed.ty
        cases e.d <;> simp only [Dir.left, Dir.dx, Dir.dy] <;> omega
      have hsc : sc I ⟨Ed.tx ⟨e.tx, e.ty, e.d⟩, Ed.ty ⟨e.tx, e.ty, e.d⟩, e.d.left.left⟩ = ⟨e.tx, e.ty, e.d.right⟩ := by
        rw [sc_l (by rw [hto.1, hto.2]; show lq I e.tx e.ty e.d.left.left = false; rw [← Dir.rr]; exact hR), hto.1, hto.2]
        show (⟨e.tx, e.ty, e.d.left.left.left⟩ : Ed) = _
        rw [Dir.lll]
      have hind : ind W ⟨e.tx, e.ty, e.d.right⟩ = ind W ⟨Ed.tx ⟨e.tx, e.ty, e.d⟩, Ed.ty ⟨e.tx, e.ty, e.d⟩, e.d.left.left⟩ := by
        have hcl := h.cl _ hin
        rw [hsc] at hcl
        by_cases hm : (⟨e.tx, e.ty, e.d.right⟩ : Ed) ∈ W
        · rw [ind_in h.nd hm, ind_in h.nd (hcl.2 hm)]
        · rw [ind_out hm, ind_out fun hh => hm (hcl.1 hh)]
      have z1 : ind W ⟨Ed.tx ⟨e.tx, e.ty, e.d.right⟩, Ed.ty ⟨e.tx, e.ty, e.d.right⟩, e.d.right.left.left⟩ = 0 := ind_bor h fun hb => by
        have hb1 : lq I (e.tx + e.d.right.dx) (e.ty + e.d.right.dy) e.d.right.left.left = true := hb.1
        rw [c1.2, hR] at hb1
        cases hb1
      have z2 : ind W ⟨e.tx, e.ty, e.d⟩ = 0 := ind_bor h fun hb => by
        have hb1 : lq I e.tx e.ty e.d = true := hb.1
        rw [h1] at hb1; cases hb1
      simp only at g1 g2
      rw [z1] at g1
      rw [z2, ← hind] at g2
      omega
  · have g := wd_same h (g := ⟨e.tx, e.ty, e.d.right⟩) (by
      show lq I e.tx e.ty e.d.right = lq I e.tx e.ty e.d.right.right
      rw [h2, hR])
    rw [er1] at g
    rw [h3, er2, g]
  · rw [h3, er1]
end
end Go.Proofs.YtcjeebkoafonpaaGreatDoor.PX
namespace Go.Proofs.YtcjeebkoafonpaaGreatDoor.PX
section
variable {I : Sq}
/-- A border: the steps from one on, till it comes round. -/
structure Bd1 (I : Sq) (W : List Ed) : Prop where
  cyc : Cyc I W
  one : ∃ e n, isB I e ∧ Per I e n ∧ W = walk I n e
theorem bd1_of {e : Ed} {n : Nat} (he : isB I e) (h : Per I e n) : Bd1 I (walk I n e) := ⟨cyc_walk he h, e, n, he, h, rfl⟩
/-- What one border counts beside another one. -/
theorem beside {W V : List Ed} (hW : Cyc I W) (hV : Bd1 I V) {f g : Ed} (hf : f ∈ V) (hg : g ∈ V) : wd W (sqL f).1 (sqL f).2 = wd W (sqL g).1 (sqL g).2 ∧ wd W (sqR f).1 (sqR f).2 = wd W (sqR g).1 (sqR g).2 := by
  obtain ⟨e, n, he, hp, rfl⟩ := hV.one
  have key : ∀ k, wd W (sqL (it I k e)).1 (sqL (it I k e)).2 = wd W (sqL e).1 (sqL e).2 ∧ wd W (sqR (it I k e)).1 (sqR (it I k e)).2 = wd W (sqR e).1 (sqR e).2 := by
    intro k
    induction k with
    | zero => exact ⟨rfl, rfl⟩
    | succ k ih =>
      have hb := it_isB he k
      rw [it_succ, wd_left hW hb, wd_right hW hb]
      exact ih
  obtain ⟨i, _, rfl⟩ := walk_mem.1 hf
  obtain ⟨j, _, rfl⟩ := walk_mem.1 hg
  exact ⟨(key i).1.trans (key j).1.symm, (key i).2.trans (key j).2.symm⟩
/-- Across a step of its own a border counts one more at the left hand; another one counts the same. -/
theorem own_step {W : List Ed} (hW : Cyc I W) {f : Ed} (hf : isB I f) : wd W (sqL f).1 (sqL f).2 = wd W (sqR f).1 (sqR f).2 + ind W f := by
  have h1 := wd_side hW.flow f
  have z : ind W ⟨f.tx, f.ty, f.d.left.left⟩ = 0 := ind_bor hW fun hb => by
    have hb1 : lq I f.tx f.ty f.d.left.left = true := hb.1
    rw [(Ed.at_to I f).2, hf.2] at hb1
    cases hb1
  omega
theorem own_one {W : List Ed} (hW : Cyc I W) {f : Ed} (hf : f ∈ W) : wd W (sqL f).1 (sqL f).2 = wd W (sqR f).1 (sqR f).2 + 1 := by
  rw [own_step hW (hW.bor f hf), ind_in hW.nd hf]
/-- Going left from a square: either a border is met, with the same count on the way, or nothing is counted. -/
theorem go_left (Ws : List (List Ed)) (x y : Int) : (∀ W ∈ Ws, wd W x y = 0) ∨ ∃ V ∈ Ws, ∃ f ∈ V, ∃ z, (sqL f = (z, y) ∨ sqR f = (z, y)) ∧ ∀ W ∈ Ws, wd W z y = wd W x y := by
  obtain ⟨lo, hlo⟩ : ∃ lo : Int, ∀ W ∈ Ws, ∀ e ∈ W, lo < e.x := by
    obtain ⟨lo, h⟩ := lo_all Ws.flatten
    exact ⟨lo, fun W hW e he => h e (List.mem_flatten.2 ⟨W, hW, he⟩)⟩
  have key : ∀ (n : Nat) (x : Int), x ≤ lo + n → (∀ W ∈ Ws, wd W x y = 0) ∨ ∃ V ∈ Ws, ∃ f ∈ V, ∃ z, (sqL f = (z, y) ∨ sqR f = (z, y)) ∧ ∀ W ∈ Ws, wd W z y = wd W x y := by
    intro n
    induction n with
    | zero => intro x hx; exact .inl fun W hW => wd_lo (hlo W hW) (by omega)
    | succ n ih =>
      intro x hx
      by_cases hm : ∃ V ∈ Ws, (⟨x, y + 1, .S⟩ : Ed) ∈ V ∨ (⟨x, y, .N⟩ : Ed) ∈ V
      · right
        obtain ⟨V, hV, hm | hm⟩ := hm
        · refine ⟨V, hV, _, hm, x, .inl ?_, fun _ _ => rfl⟩
          show (x, y + 1 - 1) = (x, y)
          rw [show y + 1 - 1 = y by omega]
        · exact ⟨V, hV, _, hm, x, .inr rfl, fun _ _ => rfl⟩
      · have hstep : ∀ W ∈ Ws, wd W (x - 1) y = wd W x y := fun W hW => by
          have h1 := wd_row W x y
          rw [ind_out fun hh => hm ⟨W, hW, .inl hh⟩, ind_out fun hh => hm ⟨W, hW, .inr hh⟩] at h1
          omega
        rcases ih (x - 1) (by omega) with h | ⟨V, hV, f, hf, z, h1, h2⟩
        · exact .inl fun W hW => by rw [← hstep W hW]; exact h W hW
        · exact .inr ⟨V, hV, f, hf, z, h1, fun W hW => (h2 W hW).trans (hstep W hW)⟩
  rcases Int.lt_or_le lo x with h | h
  · exact key (x - lo).toNat x (by omega)
  · exact key 0 x (by omega)
/-- A border counts 0 at one of its hands, so it counts 0 and one more number: 1 if it has its squares within, -1 if they lie without. -/
theorem two_values {W : List Ed} (hW : Bd1 I W) {f : Ed} (hf : f ∈ W) : (wd W (sqL f).1 (sqL f).2 = 1 ∧ wd W (sqR f).1 (sqR f).2 = 0) ∨ (wd W (sqL f).1 (sqL f).2 = 0 ∧ wd W (sqR f).1 (sqR f).2 = -1) := by
  have h1 := own_one hW.cyc hf
  -- the leftmost step of all: to its left nothing is counted
  obtain ⟨lo, hlo⟩ := lo_all W
  suffices h : wd W (sqL f).1 (sqL f).2 = 0 ∨ wd W (sqR f).1 (sqR f).2 = 0 by omega
  -- some square counts something; go left from it
  have hne : ∃ x y, wd W x y ≠ 0 := by
    rcases Int.lt_trichotomy (wd W (sqL f).1 (sqL f).2) 0 with h | h | h
    · exact ⟨(sqL f).1, (sqL f).2, by omega⟩
    · exact ⟨(sqR f).1, (sqR f).2, by omega⟩
    · exact ⟨(sqL f).1, (sqL f).2, by omega⟩
  obtain ⟨x, y, hxy⟩ := hne
  -- the first square of its row, from far left, that counts something
  have key : ∀ (n : Nat) (x : Int), x ≤ lo + n → wd W x y ≠ 0 → ∃ z, wd W z y ≠ 0 ∧ wd W (z - 1) y = 0 := by
    intro n
    induction n with
    | zero => intro x hx h; exact absurd (wd_lo hlo (by omega)) h
    | succ n ih =>
      intro x hx h
      by_cases h0 : wd W (x - 1) y = 0
      · exact ⟨x, h, h0⟩
      · exact ih (x - 1) (by omega) h0
  obtain ⟨z, z1, z2⟩ := key (x - lo).toNat x (by omega) hxy
  have h2 := wd_row W z y
  by_cases hS : (⟨z, y + 1, .S⟩ : Ed) ∈ W
  · have := beside hW.cyc hW hf hS
    right
    rw [this.2]
    show wd W (z - 1) (y + 1 - 1) = 0
    rw [show y + 1 - 1 = y by omega]; exact z2
  · by_cases hN : (⟨z, y, .N⟩ : Ed) ∈ W
    · have := beside hW.cyc hW hf hN
      left
      rw [this.1]; exact z2
    · rw [ind_out hS, ind_out hN] at h2
      omega
end
end Go.Proofs.YtcjeebkoafonpaaGreatDoor.PX
namespace Go.Proofs.YtcjeebkoafonpaaGreatDoor.PX
section
variable {I : Sq}
/-- From far left, the first square beside a step of some borders: none of them counts there. -/
theorem first_hit (Ws : List (List Ed)) {x y : Int} (h : ∃ W ∈ Ws, wd W x y ≠ 0) : ∃ V ∈ Ws, ∃ f ∈ V, ∃ z, (sqL f = (z, y) ∨ sqR f = (z, y)) ∧ ∀ W ∈ Ws, wd W z y = 0 := by
  obtain ⟨lo, hlo⟩ : ∃ lo : Int, ∀ W ∈ Ws, ∀ e ∈ W, lo < e.x := by
    obtain ⟨lo, h⟩ := lo_all Ws.flatten
    exact ⟨lo, fun W hW e he => h e (List.mem_flatten.2 ⟨W, hW, he⟩)⟩
  have key : ∀ (n : Nat) (x : Int), x ≤ lo + n → (∃ W ∈ Ws, wd W x y ≠ 0) → ∃ V ∈ Ws, ∃ f ∈ V, ∃ z, (sqL f = (z, y) ∨ sqR f = (z, y)) ∧ ∀ W ∈ Ws, wd W z y = 0 := by
    intro n
    induction n with
    | zero =>
      rintro x hx ⟨W, hW, h⟩
      exact absurd (wd_lo (hlo W hW) (by omega)) h
    | succ n ih =>
      rintro x hx ⟨W, hW, h⟩
      by_cases h0 : ∃ U ∈ Ws, wd U (x - 1) y ≠ 0
      · exact ih (x - 1) (by omega) h0
      · have hz : ∀ U ∈ Ws, wd U (x - 1) y = 0 := fun U hU => by
          by_cases hh : wd U (x - 1) y = 0
          · exact hh
          · exact absurd ⟨U, hU, hh⟩ h0
        have h1 := wd_row W x y
        have h2 := hz W hW
        by_cases hS : (⟨x, y + 1, .S⟩ : Ed) ∈ W
        · refine ⟨W, hW, _, hS, x - 1, .inr ?_, hz⟩
          show (x - 1, y + 1 - 1) = (x - 1, y)
          rw [show y + 1 - 1 = y by omega]
        · by_cases hN : (⟨x, y, .N⟩ : Ed) ∈ W
          · exact ⟨W, hW, _, hN, x - 1, .inl rfl, hz⟩
          · rw [ind_out hS, ind_out hN] at h1
            omega
  obtain ⟨W, hW, hne⟩ := h
  rcases Int.lt_or_le lo x with h | h
  · exact key (x - lo).toNat x (by omega) ⟨W, hW, hne⟩
  · exact key 0 x (by omega) ⟨W, hW, hne⟩
/-- The sign of a border. -/
def Sgn (W : List Ed) (s : Int) : Prop := ∀ f ∈ W, wd W (sqL f).1 (sqL f).2 + wd W (sqR f).1 (sqR f).2 = s
theorem sgn_ex {W : List Ed} (hW : Bd1 I W) : ∃ s, (s = 1 ∨ s = -1) ∧ Sgn W s ∧ ∀ x y, wd W x y = 0 ∨ wd W x y = s := by
  obtain ⟨e, n, he, hp, hw⟩ := hW.one
  have hem : e ∈ W := by
    rw [hw]
    exact walk_mem.2 ⟨0, hp.1, rfl⟩
  have h2 := two_values hW hem
  refine ⟨wd W (sqL e).1 (sqL e).2 + wd W (sqR e).1 (sqR e).2, by omega, fun f hf => ?_, fun x y => ?_⟩
  · obtain ⟨b1, b2⟩ := beside hW.cyc hW hf hem
    rw [b1, b2]
  · rcases go_left [W] x y with h | ⟨V, hV, f, hf, z, h3, h4⟩
    · exact .inl (h W (by simp))
    · have : V = W := by simpa using hV
      subst this
      have h5 := h4 V (by simp)
      obtain ⟨b1, b2⟩ := beside hW.cyc hW hf hem
      rcases h3 with h3 | h3
      · rw [h3] at b1
        have b1 : wd V z y = wd V (sqL e).1 (sqL e).2 := b1
        omega
      · rw [h3] at b2
        have b2 : wd V z y = wd V (sqR e).1 (sqR e).2 := b2
        omega
/-- What one border counts on both hands of another one. -/
theorem both_sides {W V : List Ed} (hW : Cyc I W) (hV : Bd1 I V) (hd : ∀ f ∈ V, f ∉ W) : ∃ c, ∀ f ∈ V, wd W (sqL f).1 (sqL f).2 = c ∧ wd W (sqR f).1 (sqR f).2 = c := by
  obtain ⟨e, n, he, hp, hw⟩ := hV.one
  have hem : e ∈ V := by
    rw [hw]
    exact walk_mem.2 ⟨0, hp.1, rfl⟩
  refine ⟨wd W (sqL e).1 (sqL e).2, fun f hf => ?_⟩
  obtain ⟨b1, b2⟩ := beside hW hV hf hem
  have h1 := own_step hW (hV.cyc.bor e hem)
  rw [ind_out (hd e hem)] at h1
  exact ⟨b1, by rw [b2]; omega⟩
theorem side_val {W : List Ed} {c x y : Int} {f : Ed} (h : wd W (sqL f).1 (sqL f).2 = c ∧ wd W (sqR f).1 (sqR f).2 = c) (hs : sqL f = (x, y) ∨ sqR f = (x, y)) : wd W x y = c := by
  rcases hs with hs | hs
  · rw [hs] at h; exact h.1
  · rw [hs] at h; exact h.2
/-- Two borders lie apart, or one lies within the other one, its outer hand too. -/
theorem nest {W V : List Ed} (hW : Bd1 I W) (hV : Bd1 I V) (hd : ∀ f ∈ V, f ∉ W) :
    (∀ x y, ¬ (wd W x y ≠ 0 ∧ wd V x y ≠ 0)) ∨ ((∀ x y, wd V x y ≠ 0 → wd W x y ≠ 0) ∧ ∀ f ∈ V, wd W (sqL f).1 (sqL f).2 ≠ 0 ∧ wd W (sqR f).1 (sqR f).2 ≠ 0) ∨ ((∀ x y, wd W x y ≠ 0 → wd V x y ≠ 0) ∧ ∀ f ∈ W, wd V (sqL f).1 (sqL f).2 ≠ 0 ∧ wd V (sqR f).1 (sqR f).2 ≠ 0) := by
  obtain ⟨a, ha⟩ := both_sides hW.cyc hV hd
  obtain ⟨b, hb⟩ := both_sides hV.cyc hW fun f hf hh => hd f hh hf
  -- a square that both count, and how they count at a side met from it
  by_cases ha0 : a = 0
  · by_cases hb0 : b = 0
    · left
      rintro x y ⟨h1, h2⟩
      rcases go_left [W, V] x y with h | ⟨U, hU, f, hf, z, h3, h4⟩
      · exact h1 (h W (by simp))
      · have e1 := h4 W (by simp)
        have e2 := h4 V (by simp)
        simp only [List.mem_cons, List.not_mem_nil, or_false] at hU
        rcases hU with rfl | rfl
        · have := side_val (hb f hf) h3
          omega
        · have := side_val (ha f hf) h3
          omega
    · right; right
      refine ⟨fun x y h1 h2 => ?_, fun f hf => by rw [(hb f hf).1, (hb f hf).2]; exact ⟨hb0, hb0⟩⟩
      rcases go_left [W, V] x y with h | ⟨U, hU, f, hf, z, h3, h4⟩
      · exact h1 (h W (by simp))
      · have e1 := h4 W (by simp)
        have e2 := h4 V (by simp)
        simp only [List.mem_cons, List.not_mem_nil, or_false] at hU
        rcases hU with rfl | rfl
        · have := side_val (hb f hf) h3
          omega
        · have := side_val (ha f hf) h3
          omega
  · by_cases hb0 : b = 0
    · right; left
      refine ⟨fun x y h1 h2 => ?_, fun f hf => by rw [(ha f hf).1, (ha f hf).2]; exact ⟨ha0, ha0⟩⟩
      rcases go_left [W, V] x y with h | ⟨U, hU, f, hf, z, h3, h4⟩
      · exact h1 (h V (by simp))
      · have e1 := h4 W (by simp)
        have e2 := h4 V (by simp)
        simp only [List.mem_cons, List.not_mem_nil, or_false] at hU
        rcases hU with rfl | rfl
        · have := side_val (hb f hf) h3
          omega
        · have := side_val (ha f hf) h3
          omega
    · -- not both: the first of them that is met from far left
      exfalso
      obtain ⟨e, n, he, hp, hw⟩ := hV.one
      have hem : e ∈ V := by
        rw [hw]
        exact walk_mem.2 ⟨0, hp.1, rfl⟩
      obtain ⟨U, hU, f, hf, z, h3, h4⟩ := first_hit [W, V] (x := (sqL e).1) (y := (sqL e).2) ⟨W, by simp, by rw [(ha e hem).1]; exact ha0⟩
      have e1 := h4 W (by simp)
      have e2 := h4 V (by simp)
      simp only [List.mem_cons, List.not_mem_nil, or_false] at hU
      rcases hU with rfl | rfl
      · have := side_val (hb f hf) h3
        omega
      · have := side_val (ha f hf) h3
        omega
end
end Go.Proofs.YtcjeebkoafonpaaGreatDoor.PX
namespace Go.Proofs.YtcjeebkoafonpaaGreatDoor.PX
section
variable {I : Sq}
def sumW (g : List Ed → Int) : List (List Ed) → Int
  | [] => 0
  | W :: Ws => g W + sumW g Ws
theorem sumW_zero {g : List Ed → Int} : ∀ {Ws : List (List Ed)}, (∀ W ∈ Ws, g W = 0) → sumW g Ws = 0
  | [], _ => rfl
  | W :: Ws, h => by
    have h1 := h W (by simp)
    have h2 := sumW_zero (g := g) (Ws := Ws) fun V hV => h V (by simp [hV])
    simp only [sumW, h1, h2]; rfl
theorem sumW_congr {g k : List Ed → Int} : ∀ {Ws : List (List Ed)}, (∀ W ∈ Ws, g W = k W) → sumW g Ws = sumW k Ws
  | [], _ => rfl
  | W :: Ws, h => by
    have h1 := h W (by simp)
    have h2 := sumW_congr (g := g) (k := k) (Ws := Ws) fun V hV => h V (by simp [hV])
    simp only [sumW, h1, h2]
theorem sumW_sub (g k : List Ed → Int) : ∀ Ws : List (List Ed), sumW (fun W => g W - k W) Ws = sumW g Ws - sumW k Ws
  | [] => rfl
  | W :: Ws => by
    have := sumW_sub g k Ws
    simp only [sumW, this]; omega
theorem pw_two' {α : Type} {R : α → α → Prop} : ∀ {l : List α}, l.Pairwise R → ∀ a ∈ l, ∀ b ∈ l, a = b ∨ R a b ∨ R b a
  | x :: l, h, a, ha, b, hb => by
    obtain ⟨h1, h2⟩ := List.pairwise_cons.1 h
    rcases List.mem_cons.1 ha with ea | ea
    · rcases List.mem_cons.1 hb with eb | eb
      · left; rw [ea, eb]
      · right; left; rw [ea]; exact h1 b eb
    · rcases List.mem_cons.1 hb with eb | eb
      · right; right; rw [eb]; exact h1 a ea
      · exact pw_two' h2 a ea b eb
/-- All borders of a set. -/
structure Full (I : Sq) (Ws : List (List Ed)) : Prop where
  bd : ∀ W ∈ Ws, Bd1 I W
  dis : Ws.Pairwise fun W V => ∀ f ∈ W, f ∉ V
  all : ∀ e, isB I e → ∃ W ∈ Ws, e ∈ W
theorem Full.ind {Ws : List (List Ed)} (h : Full I Ws) (e : Ed) : (isB I e → sumW (fun W => PX.ind W e) Ws = 1) ∧ (¬ isB I e → sumW (fun W => PX.ind W e) Ws = 0) := by
  refine ⟨fun he => ?_, fun he => sumW_zero fun W hW => ind_bor (h.bd W hW).cyc he⟩
  have key : ∀ Ws : List (List Ed), (∀ W ∈ Ws, W.Nodup) → Ws.Pairwise (fun W V => ∀ f ∈ W, f ∉ V) → (∃ W ∈ Ws, e ∈ W) → sumW (fun W => PX.ind W e) Ws = 1 := by
    intro Ws
    induction Ws with
    | nil => rintro _ _ ⟨W, hW, _⟩; cases hW
    | cons V Ws ih =>
      rintro hn hd ⟨W, hW, heW⟩
      obtain ⟨d1, d2⟩ := List.pairwise_cons.1 hd
      by_cases hV : e ∈ V
      · have : sumW (fun W => PX.ind W e) Ws = 0 := sumW_zero fun U hU => ind_out (d1 U hU e hV)
        simp only [sumW, this, ind_in (hn V (by simp)) hV]; rfl
      · have hm : ∃ W ∈ Ws, e ∈ W := by
          rcases List.mem_cons.1 hW with rfl | hW
          · exact absurd heW hV
          · exact ⟨W, hW, heW⟩
        have := ih (fun U hU => hn U (by simp [hU])) d2 hm
        simp only [sumW, this, ind_out hV]; rfl
  exact key Ws (fun W hW => (h.bd W hW).cyc.nd) h.dis (h.all e he)
/-- All borders together count the squares of the set, each once. -/
theorem Full.tot {Ws : List (List Ed)} (h : Full I Ws) (hfin : ∀ y, ∃ lo, ∀ x, x ≤ lo → I x y = false) (x y : Int) : sumW (fun W => wd W x y) Ws = if I x y = true then 1 else 0 := by
  obtain ⟨lo1, hlo1⟩ : ∃ lo : Int, ∀ W ∈ Ws, ∀ e ∈ W, lo < e.x := by
    obtain ⟨lo, h⟩ := lo_all Ws.flatten
    exact ⟨lo, fun W hW e he => h e (List.mem_flatten.2 ⟨W, hW, he⟩)⟩
  obtain ⟨lo2, hlo2⟩ := hfin y
  have base : ∀ x, x ≤ min lo1 lo2 → sumW (fun W => wd W x y) Ws = if I x y = true then 1 else 0 := fun x hx => by
    rw [hlo2 x (by omega), if_neg (by simp)]
    exact sumW_zero fun W hW => wd_lo (hlo1 W hW) (by omega)
  have key : ∀ n : Nat, sumW (fun W => wd W (min lo1 lo2 + n) y) Ws = if I (min lo1 lo2 + n) y = true then 1 else 0 := by
    intro n
    induction n with
    | zero => exact base _ (by omega)
    | succ n ih =>
      rw [show min lo1 lo2 + ((n + 1 : Nat) : Int) = min lo1 lo2 + (n : Int) + 1 by omega]
      generalize min lo1 lo2 + (n : Int) = z at ih ⊢
      have hs : sumW (fun W => wd W (z + 1) y - wd W z y) Ws = sumW (fun W => PX.ind W ⟨z + 1, y + 1, .S⟩ - PX.ind W ⟨z + 1, y, .N⟩) Ws := sumW_congr fun W _ => by
        have := wd_row W (z + 1) y
        rw [show z + 1 - 1 = z by omega] at this
        exact this
      rw [sumW_sub, sumW_sub, ih] at hs
      obtain ⟨s1, s2⟩ := h.ind ⟨z + 1, y + 1, .S⟩
      obtain ⟨n1, n2⟩ := h.ind ⟨z + 1, y, .N⟩
      have bS : isB I ⟨z + 1, y + 1, .S⟩ ↔ I (z + 1) y = true ∧ I z y = false := by
        unfold isB
        simp only [lq, Dir.right]
        rw [show y + 1 - 1 = y by omega, show z + 1 - 1 = z by omega]
      have bN : isB I ⟨z + 1, y, .N⟩ ↔ I z y = true ∧ I (z + 1) y = false := by
        unfold isB
        simp only [lq, Dir.right]
        rw [show z + 1 - 1 = z by omega]
      rw [bS] at s1 s2
      rw [bN] at n1 n2
      cases hz : I z y <;> cases hz1 : I (z + 1) y <;> simp only [hz, hz1, Bool.false_eq_true, reduceCtorEq, and_self, and_true, true_and, false_and, and_false, if_true, if_false, not_true, not_false_iff, forall_const, false_implies, true_implies] at s1 s2 n1 n2 hs ⊢ <;> omega
  rcases Int.lt_or_le (min lo1 lo2) x with hx | hx
  · have := key (x - min lo1 lo2).toNat
    rw [show min lo1 lo2 + ((x - min lo1 lo2).toNat : Int) = x by omega] at this
    exact this
  · exact base x hx
/-- The innermost border round a square. -/
theorem Full.inner {Ws : List (List Ed)} (h : Full I Ws) (hfin : ∀ y, ∃ lo, ∀ x, x ≤ lo → I x y = false) {W : List Ed} (hW : W ∈ Ws) {s x y : Int} (hs : Sgn W s) (hxy : wd W x y ≠ 0) (hin : ∀ V ∈ Ws, wd V x y ≠ 0 → V = W ∨ ∀ f ∈ W, wd V (sqL f).1 (sqL f).2 ≠ 0 ∧ wd V (sqR f).1 (sqR f).2 ≠ 0) : (I x y = true ↔ s = 1) := by
  have hB := h.bd W hW
  obtain ⟨e, n, he, hp, hw⟩ := hB.one
  have hem : e ∈ W := by
    rw [hw]
    exact walk_mem.2 ⟨0, hp.1, rfl⟩
  have hse := hs e hem
  obtain ⟨s', h1, h2, h3⟩ := sgn_ex hB
  have hss : s' = s := by rw [← h2 e hem, hse]
  subst hss
  have htv := two_values hB hem
  have hIL : I (sqL e).1 (sqL e).2 = true := by rw [← lq_sqL I e.x e.y e.d]; exact he.1
  have hIR : I (sqR e).1 (sqR e).2 = false := by
    unfold sqR
    rw [← lq_sqL I e.x e.y e.d.right]; exact he.2
  -- squares on both hands of this border have all other borders round them that the square has
  have hoth : ∀ V ∈ Ws, V ≠ W → wd V (sqL e).1 (sqL e).2 = wd V x y ∧ wd V (sqR e).1 (sqR e).2 = wd V x y := fun V hV hne => by
    have hVB := h.bd V hV
    have hd : ∀ f ∈ W, f ∉ V := fun f hf hfV => by
      have := pw_two' h.dis V hV W hW
      rcases this with hh | hh | hh
      · exact hne hh
      · exact hh f hfV hf
      · exact hh f hf hfV
    obtain ⟨c, hc⟩ := both_sides hVB.cyc hB hd
    obtain ⟨sv, v1, v2, v3⟩ := sgn_ex hVB
    rw [(hc e hem).1, (hc e hem).2]
    suffices hh : c = wd V x y from ⟨hh, hh⟩
    by_cases h0 : wd V x y = 0
    · rw [h0]
      by_cases hc0 : c = 0
      · exact hc0
      · exfalso
        -- the border lies within V, and with it the square
        rcases nest hVB hB hd with hn | ⟨hn, _⟩ | ⟨hn, _⟩
        · rcases htv with ⟨t1, t2⟩ | ⟨t1, t2⟩
          · exact hn _ _ ⟨by rw [(hc e hem).1]; exact hc0, by rw [t1]; decide⟩
          · exact hn _ _ ⟨by rw [(hc e hem).2]; exact hc0, by rw [t2]; decide⟩
        · exact hn x y hxy h0
        · rcases htv with ⟨t1, t2⟩ | ⟨t1, t2⟩
          · exact hn _ _ (by rw [(hc e hem).2]; exact hc0) t2
          · exact hn _ _ (by rw [(hc e hem).1]; exact hc0) t1
    · rcases hin V hV h0 with hh | hh
      · exact absurd hh hne
      · have g1 := (hh e hem).1
        have g2 := v3 (sqL e).1 (sqL e).2
        have g3 := v3 x y
        rw [(hc e hem).1] at g1 g2
        omega
  have hown := h3 x y
  have hT := h.tot hfin x y
  rcases htv with ⟨t1, t2⟩ | ⟨t1, t2⟩
  · -- its squares lie within
    have hs1 : s' = 1 := by omega
    have hTL := h.tot hfin (sqL e).1 (sqL e).2
    have : sumW (fun V => wd V x y) Ws = sumW (fun V => wd V (sqL e).1 (sqL e).2) Ws := sumW_congr fun V hV => by
      by_cases hVW : V = W
      · subst hVW; omega
      · exact (hoth V hV hVW).1.symm
    rw [this, hTL, hIL, if_pos rfl] at hT
    constructor
    · intro _; exact hs1
    · intro _
      cases hi : I x y with
      | true => rfl
      | false => rw [hi] at hT; simp at hT
  · have hs1 : s' = -1 := by omega
    have hTR := h.tot hfin (sqR e).1 (sqR e).2
    have : sumW (fun V => wd V x y) Ws = sumW (fun V => wd V (sqR e).1 (sqR e).2) Ws := sumW_congr fun V hV => by
      by_cases hVW : V = W
      · subst hVW; omega
      · exact (hoth V hV hVW).2.symm
    rw [this, hTR, hIR, if_neg (by simp)] at hT
    constructor
    · intro hi; rw [hi] at hT; simp at hT
    · intro hh; omega
end
end Go.Proofs.YtcjeebkoafonpaaGreatDoor.PX
namespace Go.Proofs.YtcjeebkoafonpaaGreatDoor.PX
section
variable {I : Sq}
/-- All outlines of a set are all its borders. -/
theorem Outs.full {B : List Ed} (hB : Fin_ I B) {ls : List (List (Int × Int))} (h : Outs I ls) : ∃ ws, ws.length = ls.length ∧ Full I ws ∧ ∀ (i : Nat) (l : List (Int × Int)) (w : List Ed), ls[i]? = some l → ws[i]? = some w → ∃ e n, Lst I e ∧ Per I e n ∧ l = crn I n e ∧ w = walk I n e ∧ RowL I e n l := by
  obtain ⟨ws, w1, w2, w3, w4, w5⟩ := Outs.steps hB h.is h.ord
  rw [List.Nodup, List.pairwise_flatten] at w2
  refine ⟨ws, w1, ⟨fun W hW => ?_, w2.2.imp fun {W V} hd f hf hfV => hd f hf f hfV rfl, fun f hf => ?_⟩, w3⟩
  · obtain ⟨i, hi⟩ := List.mem_iff_getElem?.1 hW
    have hil : i < ls.length := by have := (List.getElem?_eq_some_iff.1 hi).1; omega
    obtain ⟨e, n, he, hn, _, rfl, _⟩ := w3 i _ _ (List.getElem?_eq_getElem hil) hi
    exact bd1_of he.1 hn
  · obtain ⟨n, hn⟩ := per hB hf
    obtain ⟨j, hj, hl⟩ := has_lst hf hn
    obtain ⟨l, hl1, m, hm, hl2⟩ := h.has _ hl
    have := w5 l hl1 _ m hl hm hl2 f (walk_mem.2 ⟨(n - j) % n, by
      have := (hn.shift hf j).uniq hm
      rw [← this]; exact Nat.mod_lt _ hn.1, by
      rw [← (hn.shift hf j).mod, ← it_add, show n - j + j = n from by omega, hn.2.1]⟩)
    obtain ⟨W, hW, hfW⟩ := List.mem_flatten.1 this
    exact ⟨W, hW, hfW⟩
end
/-- The sides to the left, by number, and what they count, agree up to twice something. -/
theorem cl_wd (x y : Int) : ∀ W : List Ed, ∃ k : Int, (cl x (W.filterMap (vx y)) : Int) = wd W x y + 2 * k
  | [] => ⟨0, rfl⟩
  | e :: W => by
    obtain ⟨k, hk⟩ := cl_wd x y W
    have hw : wd (e :: W) x y = sg x y e + wd W x y := rfl
    rw [hw]
    obtain ⟨a, b, d⟩ := e
    have one : ∀ z : Int, ∀ l : List Int, (cl x (z :: l) : Int) = (if z ≤ x then 1 else 0) + (cl x l : Int) := fun z l => by
      unfold cl
      by_cases h : z ≤ x
      · rw [List.filter_cons, if_pos (by simpa using h), if_pos h, List.length_cons]; omega
      · rw [List.filter_cons, if_neg (by simpa using h), if_neg h]; omega
    cases d
    · exact ⟨k, by rw [List.filterMap_cons_none (by rfl), hk]; show _ = 0 + wd W x y + 2 * k; omega⟩
    · by_cases hb : b = y
      · rw [List.filterMap_cons_some (show vx y ⟨a, b, .N⟩ = some a from if_pos hb), one, hk]
        by_cases ha : a ≤ x
        · exact ⟨k + 1, by rw [if_pos ha]; show _ = (if b = y ∧ a ≤ x then -1 else 0) + wd W x y + 2 * (k + 1); rw [if_pos ⟨hb, ha⟩]; omega⟩
        · exact ⟨k, by rw [if_neg ha]; show _ = (if b = y ∧ a ≤ x then -1 else 0) + wd W x y + 2 * k; rw [if_neg (by omega)]; omega⟩
      · exact ⟨k, by rw [List.filterMap_cons_none (show vx y ⟨a, b, .N⟩ = none from if_neg hb), hk]; show _ = (if b = y ∧ a ≤ x then -1 else 0) + wd W x y + 2 * k; rw [if_neg (by omega)]; omega⟩
    · exact ⟨k, by rw [List.filterMap_cons_none (by rfl), hk]; show _ = 0 + wd W x y + 2 * k; omega⟩
    · by_cases hb : b = y + 1
      · rw [List.filterMap_cons_some (show vx y ⟨a, b, .S⟩ = some a from if_pos hb), one, hk]
        by_cases ha : a ≤ x
        · exact ⟨k, by rw [if_pos ha]; show _ = (if b = y + 1 ∧ a ≤ x then 1 else 0) + wd W x y + 2 * k; rw [if_pos ⟨hb, ha⟩]; omega⟩
        · exact ⟨k, by rw [if_neg ha]; show _ = (if b = y + 1 ∧ a ≤ x then 1 else 0) + wd W x y + 2 * k; rw [if_neg (by omega)]; omega⟩
      · exact ⟨k, by rw [List.filterMap_cons_none (show vx y ⟨a, b, .S⟩ = none from if_neg hb), hk]; show _ = (if b = y + 1 ∧ a ≤ x then 1 else 0) + wd W x y + 2 * k; rw [if_neg (by omega)]; omega⟩
/-- A square lies within a border's row just if the border goes round it. -/
theorem row_wd {I : Sq} {W : List Ed} (hW : Bd1 I W) (x y : Int) : cl x (W.filterMap (vx y)) % 2 = 1 ↔ wd W x y ≠ 0 := by
  obtain ⟨s, s1, _, s3⟩ := sgn_ex hW
  obtain ⟨k, hk⟩ := cl_wd x y W
  have := s3 x y
  constructor
  · intro h; omega
  · intro h; omega
/-! Sums over a box. -/
def sumI (g : Int → Int) (lo : Int) : Nat → Int
  | 0 => 0
  | n + 1 => sumI g lo n + g (lo + n)
theorem sumI_congr {g k : Int → Int} {lo : Int} : ∀ {n : Nat}, (∀ z, lo ≤ z → z < lo + n → g z = k z) → sumI g lo n = sumI k lo n
  | 0, _ => rfl
  | n + 1, h => by
    have h1 := sumI_congr (g := g) (k := k) (lo := lo) (n := n) fun z a b => h z a (by omega)
    have h2 := h (lo + n) (by omega) (by omega)
    simp only [sumI, h1, h2]
theorem sumI_add (g k : Int → Int) (lo : Int) : ∀ n : Nat, sumI (fun z => g z + k z) lo n = sumI g lo n + sumI k lo n
  | 0 => rfl
  | n + 1 => by
    have := sumI_add g k lo n
    simp only [sumI, this]; omega
theorem sumI_zero (lo : Int) : ∀ n : Nat, sumI (fun _ => 0) lo n = 0
  | 0 => rfl
  | n + 1 => by
    have := sumI_zero lo n
    simp only [sumI, this]; rfl
/-- From a number on. -/
theorem sumI_from (a lo : Int) : ∀ n : Nat, lo ≤ a → a ≤ lo + n → sumI (fun z => if a ≤ z then 1 else 0) lo n = lo + n - a
  | 0, h1, h2 => by simp only [sumI]; omega
  | n + 1, h1, h2 => by
    simp only [sumI]
    by_cases h : a ≤ lo + n
    · rw [sumI_from a lo n h1 h, if_pos h]; omega
    · rw [if_neg h, sumI_congr (k := fun _ => 0) fun z g1 g2 => if_neg (by omega), sumI_zero]; omega
/-- One number. -/
theorem sumI_one (a v lo : Int) : ∀ n : Nat, lo ≤ a → a < lo + n → sumI (fun z => if a = z then v else 0) lo n = v
  | 0, h1, h2 => by omega
  | n + 1, h1, h2 => by
    simp only [sumI]
    by_cases h : a = lo + n
    · rw [if_pos h, sumI_congr (k := fun _ => 0) fun z g1 g2 => if_neg (by omega), sumI_zero]; omega
    · rw [if_neg h, sumI_one a v lo n h1 (by omega)]; omega
/-- A sum over a box of what steps count is a sum over the steps. -/
theorem sumI_sumd (F : Int → Ed → Int) (lo : Int) (n : Nat) : ∀ W : List Ed, sumI (fun z => sumd (F z) W) lo n = sumd (fun e => sumI (fun z => F z e) lo n) W
  | [] => sumI_zero lo n
  | e :: W => by
    have := sumI_sumd F lo n W
    have h2 := sumI_add (fun z => F z e) (fun z => sumd (F z) W) lo n
    simp only [sumd]
    rw [h2, this]
end Go.Proofs.YtcjeebkoafonpaaGreatDoor.PX
namespace Go.Proofs.YtcjeebkoafonpaaGreatDoor.PX
theorem sumI_mul (c : Int) (g : Int → Int) (lo : Int) : ∀ n : Nat, sumI (fun z => c * g z) lo n = c * sumI g lo n
  | 0 => by simp [sumI]
  | n + 1 => by
    have := sumI_mul c g lo n
    simp only [sumI, this, Int.mul_add]
theorem sumI_le {g k : Int → Int} {lo : Int} : ∀ {n : Nat}, (∀ z, lo ≤ z → z < lo + n → g z ≤ k z) → sumI g lo n ≤ sumI k lo n
  | 0, _ => Int.le_refl _
  | n + 1, h => by
    have h1 := sumI_le (g := g) (k := k) (lo := lo) (n := n) fun z a b => h z a (by omega)
    have h2 := h (lo + n) (by omega) (by omega)
    simp only [sumI]; omega
theorem sumI_lt {g k : Int → Int} {lo : Int} : ∀ {n : Nat}, (∀ z, lo ≤ z → z < lo + n → g z ≤ k z) → (∃ z, lo ≤ z ∧ z < lo + n ∧ g z < k z) → sumI g lo n < sumI k lo n
  | 0, _, ⟨z, h1, h2, _⟩ => by omega
  | n + 1, h, ⟨z, h1, h2, h3⟩ => by
    have hl := h (lo + n) (by omega) (by omega)
    simp only [sumI]
    by_cases hz : z = lo + n
    · subst hz
      have := sumI_le (g := g) (k := k) (lo := lo) (n := n) fun z a b => h z a (by omega)
      omega
    · have := sumI_lt (g := g) (k := k) (lo := lo) (n := n) (fun z a b => h z a (by omega)) ⟨z, h1, by omega, h3⟩
      omega
theorem sumd_mul (c : Int) (f : Ed → Int) : ∀ W : List Ed, sumd (fun e => c * f e) W = c * sumd f W
  | [] => by simp [sumd]
  | e :: W => by
    have := sumd_mul c f W
    simp only [sumd, this, Int.mul_add]
/-- Steps lie within a box, their squares too. -/
def InBox (lo : Int) (n : Nat) (W : List Ed) : Prop := ∀ e ∈ W, (lo < e.x ∧ e.x < lo + n) ∧ (lo < e.y ∧ e.y < lo + n)
/-- Twice this is what the corners tell. -/
def ar (W : List Ed) : Int := sumd (fun e => e.x * e.d.dy) W
theorem box_sg {lo : Int} {n : Nat} {e : Ed} (h : (lo < e.x ∧ e.x < lo + n) ∧ (lo < e.y ∧ e.y < lo + n)) : sumI (fun y => sumI (fun x => sg x y e) lo n) lo n = e.x * e.d.dy + -(lo + n) * e.d.dy := by
  obtain ⟨a, b, d⟩ := e
  obtain ⟨⟨h1, h2⟩, h3, h4⟩ := h
  simp only at h1 h2 h3 h4
  have z0 : sumI (fun y => sumI (fun x => (0 : Int)) lo n) lo n = 0 := by
    rw [sumI_congr (k := fun _ => 0) fun z _ _ => sumI_zero lo n, sumI_zero]
  cases d
  · show sumI (fun y => sumI (fun x => (0 : Int)) lo n) lo n = a * 0 + -(lo + n) * 0
    rw [z0]; omega
  · show sumI (fun y => sumI (fun x => if b = y ∧ a ≤ x then (-1 : Int) else 0) lo n) lo n = a * 1 + -(lo + n) * 1
    rw [sumI_congr (k := fun y => if b = y then -(lo + n - a) else 0) fun y _ _ => by
      by_cases hb : b = y
      · simp only [hb, true_and, if_true]
        rw [sumI_congr (k := fun x => -1 * (if a ≤ x then 1 else 0)) fun x _ _ => by by_cases ha : a ≤ x <;> simp [ha], sumI_mul, sumI_from a lo n (by omega) (by omega)]
        omega
      · simp only [hb, false_and, if_false]
        exact sumI_zero lo n, sumI_one b _ lo n (by omega) (by omega)]
    omega
  · show sumI (fun y => sumI (fun x => (0 : Int)) lo n) lo n = a * 0 + -(lo + n) * 0
    rw [z0]; omega
  · show sumI (fun y => sumI (fun x => if b = y + 1 ∧ a ≤ x then (1 : Int) else 0) lo n) lo n = a * -1 + -(lo + n) * -1
    rw [sumI_congr (k := fun y => if b - 1 = y then lo + n - a else 0) fun y _ _ => by
      by_cases hb : b = y + 1
      · have hb2 : b - 1 = y := by omega
        simp only [hb, true_and]
        rw [if_pos (by omega), sumI_from a lo n (by omega) (by omega)]
      · have hb2 : ¬ b - 1 = y := by omega
        simp only [hb, false_and, if_false, if_neg hb2]
        exact sumI_zero lo n, sumI_one (b - 1) _ lo n (by omega) (by omega)]
    omega
theorem box_wd {W : List Ed} {lo : Int} {n : Nat} (hin : InBox lo n W) (hc : sumd (fun e => e.d.dy) W = 0) : sumI (fun y => sumI (fun x => wd W x y) lo n) lo n = ar W := by
  have e1 : sumI (fun y => sumI (fun x => wd W x y) lo n) lo n = sumd (fun e => sumI (fun y => sumI (fun x => sg x y e) lo n) lo n) W := by
    rw [← sumI_sumd (fun y e => sumI (fun x => sg x y e) lo n) lo n W]
    exact sumI_congr fun y _ _ => sumI_sumd (fun x e => sg x y e) lo n W
  rw [e1, sumd_congr (g := fun e => e.x * e.d.dy + -(lo + n) * e.d.dy) fun e he => box_sg (hin e he), sumd_add, sumd_mul, hc]
  unfold ar
  omega
/-- How many squares of a box a border goes round. -/
def cnt (W : List Ed) (lo : Int) (n : Nat) : Int := sumI (fun y => sumI (fun x => if wd W x y = 0 then 0 else 1) lo n) lo n
section
variable {I : Sq}
theorem dy_zero {W : List Ed} (hW : Bd1 I W) : sumd (fun e => e.d.dy) W = 0 := by
  obtain ⟨e, n, _, hp, rfl⟩ := hW.one
  rw [(walk_sum n e).2, hp.2.1]; omega
theorem ar_cnt {W : List Ed} (hW : Bd1 I W) {s : Int} (hs : ∀ x y, wd W x y = 0 ∨ wd W x y = s) {lo : Int} {n : Nat} (hin : InBox lo n W) : ar W = s * cnt W lo n := by
  rw [← box_wd hin (dy_zero hW)]
  unfold cnt
  rw [← sumI_mul]
  refine sumI_congr fun y _ _ => ?_
  rw [← sumI_mul]
  refine sumI_congr fun x _ _ => ?_
  by_cases h : wd W x y = 0
  · rw [if_pos h, h]; omega
  · rw [if_neg h]
    have := hs x y
    omega
/-- A border that lies within another one has fewer squares. -/
theorem cnt_lt {W V : List Ed} {lo : Int} {n : Nat} (h : ∀ x y, wd V x y ≠ 0 → wd W x y ≠ 0) (hs : ∃ x y, (lo ≤ x ∧ x < lo + n) ∧ (lo ≤ y ∧ y < lo + n) ∧ wd W x y ≠ 0 ∧ wd V x y = 0) : cnt V lo n < cnt W lo n := by
  have hle : ∀ x y : Int, (if wd V x y = 0 then (0 : Int) else 1) ≤ if wd W x y = 0 then 0 else 1 := fun x y => by
    by_cases hv : wd V x y = 0
    · rw [if_pos hv]; split <;> omega
    · rw [if_neg hv, if_neg (h x y hv)]; omega
  obtain ⟨x, y, ⟨x1, x2⟩, ⟨y1, y2⟩, h1, h2⟩ := hs
  unfold cnt
  refine sumI_lt (fun z _ _ => sumI_le fun u _ _ => hle u z) ⟨y, y1, y2, sumI_lt (fun u _ _ => hle u y) ⟨x, x1, x2, ?_⟩⟩
  rw [if_pos h2, if_neg h1]; omega
end
end Go.Proofs.YtcjeebkoafonpaaGreatDoor.PX
namespace Go.Proofs.YtcjeebkoafonpaaGreatDoor.PX
/-- What two points that follow one another add to twice the area. -/
def crs1 (s : (Int × Int) × (Int × Int)) : Int := s.1.1 * s.2.2 - s.2.1 * s.1.2
def shoe (l : List (Int × Int)) : Int := ((nxp (l.headD (0, 0)) l).map crs1).sum
theorem sumd_append (f : Ed → Int) : ∀ W V : List Ed, sumd f (W ++ V) = sumd f W + sumd f V
  | [], V => by simp [sumd]
  | e :: W, V => by
    have := sumd_append f W V
    simp only [List.cons_append, sumd, this]; omega
theorem sumd_flat (f : Ed → Int) (g : Sd → List Ed) : ∀ sl : List Sd, sumd f (sl.flatMap g) = (sl.map fun s => sumd f (g s)).sum
  | [] => rfl
  | s :: sl => by
    have := sumd_flat f g sl
    rw [List.flatMap_cons, sumd_append, this, List.map_cons, List.sum_cons]
theorem unit_area (s : Sd) : sumd (fun e => e.x * e.d.dy - e.y * e.d.dx) (unit s) = crs1 (s.1.p, (adv s.1 s.2).p) := by
  obtain ⟨⟨x, y, d⟩, m⟩ := s
  unfold unit
  have key : ∀ m : Nat, sumd (fun e => e.x * e.d.dy - e.y * e.d.dx) ((List.range m).map (adv ⟨x, y, d⟩)) = crs1 ((x, y), (x + m * d.dx, y + m * d.dy)) := by
    intro m
    induction m with
    | zero => unfold crs1; simp [sumd]
    | succ m ih =>
      rw [List.range_succ, List.map_append, sumd_append, ih]
      unfold crs1
      simp only [List.map_cons, List.map_nil, sumd, adv]
      cases d <;> simp only [Dir.dx, Dir.dy, Int.mul_zero, Int.mul_one, Int.add_zero, Int.sub_zero, Int.zero_add]
      · have e1 : (x + ((m + 1 : Nat) : Int)) * y = (x + (m : Int)) * y + y := by
          rw [show x + ((m + 1 : Nat) : Int) = (x + (m : Int)) + 1 by omega, Int.add_mul]; omega
        rw [e1]; omega
      · have e1 : x * (y + ((m + 1 : Nat) : Int)) = x * (y + (m : Int)) + x := by
          rw [show y + ((m + 1 : Nat) : Int) = (y + (m : Int)) + 1 by omega, Int.mul_add]; omega
        rw [e1]; omega
      · have e1 : (x + ((m + 1 : Nat) : Int) * -1) * y = (x + (m : Int) * -1) * y - y := by
          rw [show x + ((m + 1 : Nat) : Int) * -1 = (x + (m : Int) * -1) - 1 by omega, Int.sub_mul]; omega
        rw [e1]; omega
      · have e1 : x * (y + ((m + 1 : Nat) : Int) * -1) = x * (y + (m : Int) * -1) - x := by
          rw [show y + ((m + 1 : Nat) : Int) * -1 = (y + (m : Int) * -1) - 1 by omega, Int.mul_sub]; omega
        rw [e1]; omega
  exact key m
section
variable {I : Sq}
theorem walk_tel : ∀ (n : Nat) (e : Ed), sumd (fun e => e.tx * e.ty - e.x * e.y) (walk I n e) = (it I n e).x * (it I n e).y - e.x * e.y
  | 0, e => by simp [walk, sumd, it]
  | n + 1, e => by
    have := walk_tel n (sc I e)
    have h := sc_p (I := I) e
    have hx : (sc I e).x = e.tx := congrArg Prod.fst h
    have hy : (sc I e).y = e.ty := congrArg Prod.snd h
    simp only [walk, sumd, it, this, hx, hy]; omega
/-- The corners tell twice the area. -/
theorem shoe_ar {B : List Ed} (hB : Fin_ I B) {e : Ed} (he : Lst I e) {n : Nat} (hn : Per I e n) : shoe (crn I n e) = 2 * ar (walk I n e) := by
  have hc := he.corner hB
  obtain ⟨sl, s1, s2, s3, s4⟩ := stretches I n e he.1 hc (by rw [hn.2.1]; exact hc)
  rw [hn.2.1] at s1
  obtain ⟨m, r, hr⟩ := s2 hn.1
  have hhead : (crn I n e).headD (0, 0) = e.p := by rw [← s3, hr]; rfl
  unfold shoe
  rw [hhead, ← s3, nxp_str s1, List.map_map]
  have h1 : (sl.map (crs1 ∘ fun s => (s.1.p, (adv s.1 s.2).p))) = sl.map fun s => sumd (fun e => e.x * e.d.dy - e.y * e.d.dx) (unit s) := List.map_congr_left fun s _ => (unit_area s).symm
  rw [h1, ← sumd_flat, ← s4]
  have h2 : sumd (fun e => (e.x * e.d.dy - e.y * e.d.dx) + (e.tx * e.ty - e.x * e.y)) (walk I n e) = sumd (fun e => 2 * (e.x * e.d.dy)) (walk I n e) := sumd_congr fun f _ => by
    obtain ⟨x, y, d⟩ := f
    unfold Ed.tx Ed.ty
    cases d <;> simp only [Dir.dx, Dir.dy, Int.mul_zero, Int.mul_one, Int.add_zero, Int.sub_zero, Int.zero_add]
    · rw [Int.add_mul]; omega
    · rw [Int.mul_add]; omega
    · rw [show x + -1 = x - 1 by omega, Int.sub_mul]; omega
    · rw [show y + -1 = y - 1 by omega, Int.mul_sub]; omega
  rw [sumd_add, walk_tel, hn.2.1, sumd_mul] at h2
  unfold ar
  omega
end
end Go.Proofs.YtcjeebkoafonpaaGreatDoor.PX
namespace Go.Proofs.YtcjeebkoafonpaaGreatDoor.PX
/-- One border painted: dark, or clear where it goes round to the right. -/
def pstep (img : Int → Int → Prop) (W : List Ed) : Int → Int → Prop := fun x y => if ar W < 0 then img x y ∧ wd W x y = 0 else img x y ∨ wd W x y ≠ 0
/-- The last border round a square. -/
def lastC (x y : Int) : List (List Ed) → Option (List Ed)
  | [] => none
  | W :: Ws => match lastC x y Ws with
    | some V => some V
    | none => if wd W x y = 0 then none else some W
theorem lastC_none {x y : Int} : ∀ {Ws : List (List Ed)}, lastC x y Ws = none → ∀ W ∈ Ws, wd W x y = 0
  | V :: Ws, h, W, hW => by
    unfold lastC at h
    cases hl : lastC x y Ws with
    | some U => rw [hl] at h; cases h
    | none =>
      rw [hl] at h
      simp only at h
      rcases List.mem_cons.1 hW with rfl | hW
      · by_cases h0 : wd W x y = 0
        · exact h0
        · rw [if_neg h0] at h; cases h
      · exact lastC_none hl W hW
theorem lastC_some {x y : Int} {W : List Ed} : ∀ {Ws : List (List Ed)}, lastC x y Ws = some W → wd W x y ≠ 0 ∧ ∃ A B, Ws = A ++ W :: B ∧ ∀ V ∈ B, wd V x y = 0
  | V :: Ws, h => by
    unfold lastC at h
    cases hl : lastC x y Ws with
    | some U =>
      rw [hl] at h
      have e : U = W := Option.some.inj h
      subst e
      obtain ⟨h1, A, B, rfl, h2⟩ := lastC_some hl
      exact ⟨h1, V :: A, B, rfl, h2⟩
    | none =>
      rw [hl] at h
      simp only at h
      by_cases h0 : wd V x y = 0
      · rw [if_pos h0] at h; cases h
      · rw [if_neg h0] at h
        have e : V = W := Option.some.inj h
        subst e
        exact ⟨h0, [], Ws, rfl, lastC_none hl⟩
theorem lastC_cons (x y : Int) (W : List Ed) (Ws : List (List Ed)) : lastC x y (W :: Ws) = match lastC x y Ws with
    | some V => some V
    | none => if wd W x y = 0 then none else some W := rfl
theorem paint_last (x y : Int) : ∀ (Ws : List (List Ed)) (img : Int → Int → Prop), (Ws.foldl pstep img) x y ↔ (match lastC x y Ws with | some V => ¬ ar V < 0 | none => img x y)
  | [], img => Iff.rfl
  | W :: Ws, img => by
    rw [List.foldl_cons, paint_last x y Ws, lastC_cons]
    cases hl : lastC x y Ws with
    | some V => exact Iff.rfl
    | none =>
      show pstep img W x y ↔ (match (if wd W x y = 0 then none else some W) with | some V => ¬ ar V < 0 | none => img x y)
      unfold pstep
      by_cases h0 : wd W x y = 0
      · rw [if_pos h0]
        by_cases ha : ar W < 0
        · rw [if_pos ha]; simp [h0]
        · rw [if_neg ha]; simp [h0]
      · rw [if_neg h0]
        by_cases ha : ar W < 0
        · rw [if_pos ha]; simp [h0, ha]
        · rw [if_neg ha]; simp [h0, ha]
section
variable {I : Sq}
theorem box_ex : ∀ Ws : List (List Ed), ∃ (lo : Int) (n : Nat), ∀ W ∈ Ws, InBox lo n W := by
  have one : ∀ W : List Ed, ∃ B : Nat, ∀ e ∈ W, (-(B : Int) < e.x ∧ e.x < B) ∧ (-(B : Int) < e.y ∧ e.y < B) := by
    intro W
    induction W with
    | nil => exact ⟨0, fun _ h => nomatch h⟩
    | cons e W ih =>
      obtain ⟨B, h⟩ := ih
      refine ⟨B + e.x.natAbs + e.y.natAbs + 1, fun f hf => ?_⟩
      rcases List.mem_cons.1 hf with rfl | hf
      · omega
      · have := h f hf; omega
  intro Ws
  obtain ⟨B, h⟩ := one Ws.flatten
  refine ⟨-(B : Int), 2 * B, fun W hW e he => ?_⟩
  have := h e (List.mem_flatten.2 ⟨W, hW, he⟩)
  omega
theorem cnt_nonneg (W : List Ed) (lo : Int) (n : Nat) : 0 ≤ cnt W lo n := by
  have h := sumI_le (g := fun _ => 0) (k := fun y => sumI (fun x => if wd W x y = 0 then (0 : Int) else 1) lo n) (lo := lo) (n := n) fun y _ _ => by
    have h2 := sumI_le (g := fun _ => (0 : Int)) (k := fun x => if wd W x y = 0 then (0 : Int) else 1) (lo := lo) (n := n) fun x _ _ => by
      show (0 : Int) ≤ if wd W x y = 0 then 0 else 1
      split <;> omega
    rw [sumI_zero] at h2
    exact h2
  rw [sumI_zero] at h
  exact h
theorem painted {Ws : List (List Ed)} (h : Full I Ws) (hfin : ∀ y, ∃ lo, ∀ x, x ≤ lo → I x y = false) (hord : Ws.Pairwise fun W V => max (ar V) (-(ar V)) ≤ max (ar W) (-(ar W))) (x y : Int) : (Ws.foldl pstep fun _ _ => False) x y ↔ I x y = true := by
  rw [paint_last]
  cases hl : lastC x y Ws with
  | none =>
    simp only
    have ht := h.tot hfin x y
    rw [sumW_zero fun W hW => lastC_none hl W hW] at ht
    constructor
    · intro hh; exact hh.elim
    · intro hi; rw [if_pos hi] at ht; omega
  | some W =>
    simp only
    obtain ⟨hw, A, C, hWs, hC⟩ := lastC_some hl
    have hWm : W ∈ Ws := by rw [hWs]; simp
    have hB := h.bd W hWm
    obtain ⟨s, s1, s2, s3⟩ := sgn_ex hB
    obtain ⟨lo, n, hbox⟩ := box_ex Ws
    have hca := ar_cnt hB s3 (hbox W hWm)
    -- it goes round a square within the box
    obtain ⟨e, k, he, hp, hwk⟩ := hB.one
    have hem : e ∈ W := by rw [hwk]; exact walk_mem.2 ⟨0, hp.1, rfl⟩
    have inb : ∀ (V : List Ed), V ∈ Ws → ∀ f ∈ V, ((lo ≤ (sqL f).1 ∧ (sqL f).1 < lo + n) ∧ (lo ≤ (sqL f).2 ∧ (sqL f).2 < lo + n)) ∧ ((lo ≤ (sqR f).1 ∧ (sqR f).1 < lo + n) ∧ (lo ≤ (sqR f).2 ∧ (sqR f).2 < lo + n)) := fun V hV f hf => by
      have := hbox V hV f hf
      obtain ⟨a, b, d⟩ := f
      unfold sqR sqL
      cases d <;> simp only [Dir.right] at * <;> omega
    have hin : ∀ V ∈ Ws, wd V x y ≠ 0 → V = W ∨ ∀ f ∈ W, wd V (sqL f).1 (sqL f).2 ≠ 0 ∧ wd V (sqR f).1 (sqR f).2 ≠ 0 := fun V hV hv => by
      by_cases hVW : V = W
      · exact .inl hVW
      · right
        have hVB := h.bd V hV
        have hd : ∀ f ∈ W, f ∉ V := fun f hf hfV => by
          rcases pw_two' h.dis V hV W hWm with hh | hh | hh
          · exact hVW hh
          · exact hh f hfV hf
          · exact hh f hf hfV
        -- it stands ahead, so it is not the lesser one
        have hVA : V ∈ A := by
          rw [hWs] at hV
          rcases List.mem_append.1 hV with hV | hV
          · exact hV
          · rcases List.mem_cons.1 hV with hV | hV
            · exact absurd hV hVW
            · exact absurd (hC V hV) hv
        rw [hWs] at hord
        have hle := (List.pairwise_append.1 hord).2.2 V hVA W (by simp)
        rcases nest hVB hB hd with hn | ⟨_, hn⟩ | ⟨hn1, hn2⟩
        · exact absurd ⟨hv, hw⟩ (hn x y)
        · exact hn
        · exfalso
          obtain ⟨s', t1, _, t3⟩ := sgn_ex hVB
          have hcv := ar_cnt hVB t3 (hbox V hV)
          obtain ⟨g, k', _, hp', hwk'⟩ := hVB.one
          have hgm : g ∈ V := by rw [hwk']; exact walk_mem.2 ⟨0, hp'.1, rfl⟩
          have hlt : cnt V lo n < cnt W lo n := cnt_lt hn1 (by
            have hb := inb V hV g hgm
            rcases two_values hVB hgm with ⟨v1, v2⟩ | ⟨v1, v2⟩
            · exact ⟨_, _, hb.2.1, hb.2.2, (hn2 g hgm).2, v2⟩
            · exact ⟨_, _, hb.1.1, hb.1.2, (hn2 g hgm).1, v1⟩)
          have p1 := cnt_nonneg V lo n
          have p2 := cnt_nonneg W lo n
          rcases s1 with rfl | rfl <;> rcases t1 with rfl | rfl <;> omega
    rw [h.inner hfin hWm s2 hw hin]
    have hpos : 0 < cnt W lo n := by
      have hb := inb W hWm e hem
      have h0 := cnt_nonneg [] lo n
      have hlt : cnt [] lo n < cnt W lo n := cnt_lt (V := []) (fun _ _ hh => absurd rfl hh) (by
        rcases two_values hB hem with ⟨v1, v2⟩ | ⟨v1, v2⟩
        · exact ⟨_, _, hb.1.1, hb.1.2, by rw [v1]; decide, rfl⟩
        · exact ⟨_, _, hb.2.1, hb.2.2, by rw [v2]; decide, rfl⟩)
      omega
    rcases s1 with rfl | rfl
    · constructor
      · intro _; rfl
      · intro _; omega
    · constructor
      · intro hh; omega
      · intro hh; cases hh
end
end Go.Proofs.YtcjeebkoafonpaaGreatDoor.PX
namespace Go.Proofs.YtcjeebkoafonpaaGreatDoor.PX
variable {I : Sq}
theorem Full.perm {Ws Vs : List (List Ed)} (h : Full I Ws) (hp : Vs.Perm Ws) : Full I Vs :=
  ⟨fun W hW => h.bd W (hp.mem_iff.1 hW), (hp.pairwise_iff (R := fun (W V : List Ed) => ∀ f ∈ W, f ∉ V) (fun {W V} hd f hf hfW => hd f hfW hf)).2 h.dis, fun e he => by
    obtain ⟨W, hW, heW⟩ := h.all e he
    exact ⟨W, hp.mem_iff.2 hW, heW⟩⟩
/-- The border of an outline. -/
def lk : List (List (Int × Int) × List Ed) → List (Int × Int) → List Ed
  | [], _ => []
  | p :: t, l => if p.1 = l then p.2 else lk t l
theorem lk_map : ∀ {Z : List (List (Int × Int) × List Ed)}, (Z.map (·.1)).Nodup → (Z.map (·.1)).map (lk Z) = Z.map (·.2)
  | [], _ => rfl
  | p :: t, h => by
    rw [List.map_cons, List.nodup_cons] at h
    rw [List.map_cons, List.map_cons, List.map_cons]
    congr 1
    · exact if_pos rfl
    · rw [← lk_map h.2]
      apply List.map_congr_left
      intro l hl
      exact if_neg fun (e : p.1 = l) => h.1 (by rw [e]; exact hl)
theorem outs_nodup {ls : List (List (Int × Int))} (h : Outs I ls) : ls.Nodup := h.ord.imp fun {a b} hab e => by
  subst e
  exact pl_irrefl _ hab
theorem outs_painted {B : List Ed} (hB : Fin_ I B) {ls : List (List (Int × Int))} (h : Outs I ls) (hfin : ∀ y, ∃ lo, ∀ x, x ≤ lo → I x y = false) :
    ∃ wf : List (Int × Int) → List Ed, (∀ l ∈ ls, (∀ x y, cl x (crx y l) % 2 = 1 ↔ wd (wf l) x y ≠ 0) ∧ shoe l = 2 * ar (wf l)) ∧
      ∀ os : List (List (Int × Int)), os.Perm ls → os.Pairwise (fun a b => max (ar (wf b)) (-(ar (wf b))) ≤ max (ar (wf a)) (-(ar (wf a)))) → ∀ x y, ((os.map wf).foldl pstep fun _ _ => False) x y ↔ I x y = true := by
  obtain ⟨ws, w1, w2, w3⟩ := h.full hB
  have e1 : (ls.zip ws).map (·.1) = ls := List.map_fst_zip (by omega)
  have e2 : (ls.zip ws).map (·.2) = ws := List.map_snd_zip (by omega)
  have hm : ls.map (lk (ls.zip ws)) = ws := by
    have := lk_map (Z := ls.zip ws) (by rw [e1]; exact outs_nodup h)
    rw [e1, e2] at this
    exact this
  refine ⟨lk (ls.zip ws), fun l hl => ?_, fun os hp ho => ?_⟩
  · obtain ⟨i, hi⟩ := List.mem_iff_getElem?.1 hl
    have hwi : ws[i]? = some (lk (ls.zip ws) l) := by
      have := congrArg (fun z => z[i]?) hm
      simp only [List.getElem?_map, hi, Option.map_some] at this
      exact this.symm
    obtain ⟨e, n, he, hn, hl2, hw, hr⟩ := w3 i l _ hi hwi
    have hd : l.headD (0, 0) = e.p := Otl.headD hB he ⟨n, hn, hl2⟩
    rw [hw]
    refine ⟨fun x y => ?_, ?_⟩
    · have : crx y l = (walk I n e).filterMap (vx y) := by
        unfold crx
        rw [hd]; exact hr.crs y
      rw [this]
      exact row_wd (bd1_of he.1 hn) x y
    · rw [hl2]
      exact shoe_ar hB he hn
  · have hpw : (os.map (lk (ls.zip ws))).Perm ws := by
      have := hp.map (lk (ls.zip ws))
      rw [hm] at this
      exact this
    exact painted (w2.perm hpw) hfin (List.pairwise_map.2 ho)
end Go.Proofs.YtcjeebkoafonpaaGreatDoor.PX
