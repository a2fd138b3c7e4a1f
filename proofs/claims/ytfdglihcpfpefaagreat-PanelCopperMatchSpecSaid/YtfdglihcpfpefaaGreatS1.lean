/- Sets of rectangles: the bands that cover the same. Plain Lean; the program's helpers compute it. -/
import Derived.Test.YtfdglihcpfpefaaGreatXF
import Derived.Test.YtfdglihcpfpefaaGreatA0
import Derived.Test.YtfdglihcpfpefaaGreatS0
namespace Go.Proofs.YtfdglihcpfpefaaGreat
/-- A band: from, to, stretches. -/
abbrev Bd := Int × Int × List (Int × Int)
def xsR (r : TRect) : Int × Int := (r.X0, r.X1)
/-- The stretches of rectangles at a height. -/
def rowS (l : List TRect) (y : Int) : List (Int × Int) := covS ((l.filter fun r => decide (r.Y0 ≤ y) && decide (y < r.Y1)).map xsR)
/-- One band more behind all others. -/
def pushB (l : List Bd) (b : Bd) : List Bd :=
  if b.2.2 = [] then l else
  match l.getLast? with
  | none => l ++ [b]
  | some c => if c.2.1 = b.1 ∧ c.2.2 = b.2.2 then l.dropLast ++ [(c.1, b.2.1, c.2.2)] else l ++ [b]
theorem pushB_empty {l : List Bd} {b : Bd} (h : b.2.2 = []) : pushB l b = l := if_pos h
theorem pushB_nil {b : Bd} (h : b.2.2 ≠ []) : pushB [] b = [b] := by unfold pushB; rw [if_neg h]; rfl
theorem pushB_snoc {l : List Bd} {c b : Bd} (h : b.2.2 ≠ []) : pushB (l ++ [c]) b = if c.2.1 = b.1 ∧ c.2.2 = b.2.2 then l ++ [(c.1, b.2.1, c.2.2)] else l ++ [c] ++ [b] := by
  unfold pushB
  rw [if_neg h]
  simp
/-- The bands of rectangles over consecutive heights. -/
def bandsGo (l : List TRect) : List Int → List Bd → List Bd
  | a :: b :: ys, out => bandsGo l (b :: ys) (pushB out (a, b, rowS l a))
  | _, out => out
def ysOfR (l : List TRect) : List Int := l.flatMap fun r => [r.Y0, r.Y1]
def setB (l : List TRect) : List Bd := bandsGo l (srtd (ysOfR l)) []
def rectsOf (b : Bd) : List TRect := b.2.2.map fun s => ⟨s.1, b.1, s.2, b.2.1⟩
def rectsB (l : List Bd) : List TRect := l.flatMap rectsOf
def toP (b : Bd) : TBand := ⟨b.1, b.2.1, flatS b.2.2⟩
/-- A rectangle with something in it, within the limits. -/
structure ROk (r : TRect) : Prop where
  x0 : -1000000 ≤ r.X0 ∧ r.X0 ≤ 1000000
  y0 : -1000000 ≤ r.Y0 ∧ r.Y0 ≤ 1000000
  x1 : -1000000 ≤ r.X1 ∧ r.X1 ≤ 1000000
  y1 : -1000000 ≤ r.Y1 ∧ r.Y1 ≤ 1000000
  x : r.X0 < r.X1
  y : r.Y0 < r.Y1
/-- A rectangle with something in it, within wide limits. -/
structure R9 (r : TRect) : Prop where
  x0 : -2000000000 ≤ r.X0 ∧ r.X0 ≤ 2000000000
  y0 : -2000000000 ≤ r.Y0 ∧ r.Y0 ≤ 2000000000
  x1 : -2000000000 ≤ r.X1 ∧ r.X1 ≤ 2000000000
  y1 : -2000000000 ≤ r.Y1 ∧ r.Y1 ≤ 2000000000
  x : r.X0 < r.X1
  y : r.Y0 < r.Y1
theorem ROk.r9 {r : TRect} (h : ROk r) : R9 r := by
  have := h.x0; have := h.x1; have := h.y0; have := h.y1
  exact ⟨by omega, by omega, by omega, by omega, h.x, h.y⟩
theorem EqualI_ok (l m : List Int) : F_slices_Equal_int l m = some (decide (l = m)) := by
  have key : ∀ (suf pre rest : List Int), suf.length = rest.length → F_slices_Equal_int_L1 (pre ++ rest) suf pre.length = some (decide (suf = rest)) := by
    intro suf
    induction suf with
    | nil =>
      intro pre rest h
      have : rest = [] := List.eq_nil_of_length_eq_zero h.symm
      subst this
      rw [F_slices_Equal_int_L1.eq_1]; rfl
    | cons x suf ih =>
      intro pre rest h
      cases rest with
      | nil => simp at h
      | cons y rest =>
        rw [F_slices_Equal_int_L1.eq_2, idx_mid pre rest y, Option.bind_some]
        have := ih (pre ++ [y]) rest (by simpa using h)
        by_cases hxy : x = y
        · subst hxy
          rw [if_neg (by simp)]
          simpa using this
        · rw [if_pos (by simpa using hxy)]
          simp [hxy]
  unfold F_slices_Equal_int
  by_cases h : l.length = m.length
  · rw [if_neg (by simp; omega)]
    exact key l [] m h
  · rw [if_pos (by simp; omega)]
    have : l ≠ m := fun e => h (by rw [e])
    simp [this]
theorem eqR_dec {a b : TRect} : eqTRect a b = true ↔ a = b := eqTRect_iff
theorem EqualR_ok (l m : List TRect) : ∃ b : Bool, F_slices_Equal_Rect l m = some b ∧ (b = true ↔ l = m) := by
  have key : ∀ (suf pre rest : List TRect), suf.length = rest.length → ∃ b : Bool, F_slices_Equal_Rect_L1 (pre ++ rest) suf pre.length = some b ∧ (b = true ↔ suf = rest) := by
    intro suf
    induction suf with
    | nil =>
      intro pre rest h
      have : rest = [] := List.eq_nil_of_length_eq_zero h.symm
      subst this
      rw [F_slices_Equal_Rect_L1.eq_1]; exact ⟨true, rfl, by simp⟩
    | cons x suf ih =>
      intro pre rest h
      cases rest with
      | nil => simp at h
      | cons y rest =>
        rw [F_slices_Equal_Rect_L1.eq_2, idx_mid pre rest y, Option.bind_some]
        obtain ⟨b, h1, h2⟩ := ih (pre ++ [y]) rest (by simpa using h)
        by_cases hxy : x = y
        · subst hxy
          rw [eqTRect_iff.2 rfl, if_neg (by simp)]
          exact ⟨b, by simpa using h1, by simp [h2]⟩
        · have : eqTRect x y = false := by rw [Bool.eq_false_iff]; exact fun h => hxy (eqTRect_iff.1 h)
          rw [this, if_pos (by simp)]
          exact ⟨false, rfl, by simp [hxy]⟩
  unfold F_slices_Equal_Rect
  by_cases h : l.length = m.length
  · rw [if_neg (by simp; omega)]
    exact key l [] m h
  · rw [if_pos (by simp; omega)]
    exact ⟨false, rfl, by simp; exact fun e => h (by rw [e])⟩
/-- slices.SortFunc by a number of each element. -/
theorem sort_key {c : TRect → TRect → Option Int} {k : TRect → Int} {l : List TRect} (hl : l.length ≤ 1000000000) (hc : ∀ x ∈ l, ∀ y ∈ l, c x y = some (k x - k y)) : ∃ m, srtF l c = some m ∧ m.Perm l ∧ m.Pairwise fun x y => k x ≤ k y := by
  have hlt : ∀ x ∈ l, ∀ y ∈ l, ltC c x y = decide (k x < k y) := fun x hx y hy => by
    unfold ltC
    rw [hc x hx y hy, Option.getD_some]
    exact decide_eq_decide.2 (by omega)
  have hs : SortOk c l := ⟨by omega, fun x hx y hy => ⟨_, hc x hx y hy⟩, fun x hx => by rw [hlt x hx x hx]; simp, fun x hx y hy z hz h1 h2 => by
    rw [hlt x hx y hy] at h1; rw [hlt y hy z hz] at h2; rw [hlt x hx z hz]; simp at *; omega, fun x hx y hy z hz h1 h2 => by
    rw [hlt x hx y hy] at h1; rw [hlt y hy z hz] at h2; rw [hlt x hx z hz]; simp at *; omega⟩
  obtain ⟨m, hm⟩ := srtF_ok hs
  obtain ⟨_, hp, hw⟩ := srtF_some hm
  refine ⟨m, hm, hp, hw.imp_of_mem fun {x y} hx hy h => ?_⟩
  rw [hlt y (hp.subset hy) x (hp.subset hx)] at h
  simp at h
  exact h
theorem stretches_loop (y : List TRect) : ∀ (suf : List TRect) (i : Nat) (l : List (Int × Int)), l.length + suf.length ≤ 1000000000 → F_shape_stretches_L1 y suf i (flatS l) = some (flatS ((suf.map xsR).foldl ext1 l), y)
  | [], i, l, _ => by rw [F_shape_stretches_L1.eq_1]; rfl
  | r :: suf, i, l, h => by
    simp only [List.length_cons] at h
    have hsplit : l = [] ∨ ∃ j q, l = j ++ [q] := by
      rcases List.eq_nil_or_concat l with h | ⟨j, q, h⟩
      · exact .inl h
      · exact .inr ⟨j, q, by simpa using h⟩
    rw [F_shape_stretches_L1.eq_2, List.map_cons, List.foldl_cons]
    rcases hsplit with rfl | ⟨j, q, rfl⟩
    · rw [if_neg (by simp [flatS_nil, w64_id]), Option.bind_some, if_neg (by simp), show apd (flatS []) [r.X0, r.X1] = some (flatS [xsR r]) from rfl, Option.bind_some, ext1_nil]
      exact stretches_loop y suf (i + 1) [xsR r] (by simp; omega)
    · have hfl : flatS (j ++ [q]) = (flatS j ++ [q.1]) ++ q.2 :: [] := by rw [flatS_append]; simp [flatS]
      have hlen : (flatS (j ++ [q])).length = 2 * j.length + 2 := by rw [flatS_len]; simp; omega
      simp only [List.length_append, List.length_singleton] at h
      have hw : w64 (((flatS (j ++ [q])).length : Int) - 1) = ((flatS j ++ [q.1]).length : Int) := by
        rw [w64_id (by omega) (by omega), hlen]; simp [flatS_len]; omega
      have hid : idx (flatS (j ++ [q])) ((flatS j ++ [q.1]).length : Int) = some q.2 := by rw [hfl]; exact idx_mid _ [] q.2
      rw [hw, if_pos (decide_eq_true (by omega)), hid, Option.bind_some, Option.bind_some, ext1_snoc]
      by_cases hle : r.X0 ≤ q.2
      · rw [if_pos (by simpa using hle), if_pos (show (xsR r).1 ≤ q.2 from hle), Option.bind_some]
        have hset : sets (flatS (j ++ [q])) ((flatS j ++ [q.1]).length : Int) (max q.2 r.X1) = some (flatS (j ++ [(q.1, max q.2 (xsR r).2)])) := by
          unfold sets
          rw [if_pos ⟨by omega, by rw [hlen]; simp [flatS_len]⟩, hfl, flatS_append]
          simp [flatS, xsR]
        rw [Option.bind_some, hset, Option.bind_some]
        exact stretches_loop y suf (i + 1) _ (by simp; omega)
      · rw [if_neg (by simpa using hle), if_neg (show ¬ (xsR r).1 ≤ q.2 from hle), apd_ok (by rw [hlen]; simp; omega), Option.bind_some]
        have : flatS (j ++ [q]) ++ [r.X0, r.X1] = flatS (j ++ [q] ++ [xsR r]) := by rw [flatS_append (j ++ [q])]; rfl
        rw [this]
        exact stretches_loop y suf (i + 1) _ (by simp; omega)
theorem stretches_ok {l : List TRect} (hl : l.length ≤ 400000000) (h : ∀ r ∈ l, R9 r) : ∃ m, m.Perm l ∧ F_shape_stretches l = some (flatS (covS (l.map xsR)), m) := by
  obtain ⟨m, h1, h2, h3⟩ := sort_key (c := fun z0 z1 => F_shape_stretches_1 z0 z1) (k := fun r => r.X0) (l := l) (by omega) (fun x hx y hy => by
    have a := (h x hx).x0; have b := (h y hy).x0
    unfold F_shape_stretches_1
    rw [w64_id (by omega) (by omega)])
  refine ⟨m, h2, ?_⟩
  unfold F_shape_stretches
  rw [h1, Option.bind_some]
  have := stretches_loop m m 0 [] (by have := h2.length_eq; simp; omega)
  rw [flatS_nil] at this
  rw [this, ext_cov (lo := -2000000001) (h2.map xsR) (by rw [List.pairwise_map]; exact h3) (fun p hp => by
    obtain ⟨r, hr, rfl⟩ := List.mem_map.1 hp
    have a := h r hr
    exact ⟨by have := a.x0; show -2000000001 < r.X0; omega, a.x⟩)]
theorem IndexR_ok {g : TRect → Bool} {f : TRect → Option Bool} : ∀ (l : List TRect) (i : Nat), (∀ x ∈ l, f x = some (g x)) → F_slices_IndexFunc_Rect_L1 f l i = some (ixOf g l i)
  | [], i, _ => rfl
  | x :: l, i, h => by
    rw [F_slices_IndexFunc_Rect_L1.eq_2, h x (by simp), Option.bind_some, IndexR_ok l (i + 1) (fun y hy => h y (by simp [hy])), ixOf, show ((i + 1 : Nat) : Int) = (i : Int) + 1 by omega]
    cases g x <;> rfl
theorem delete_loop {g : TRect → Bool} {f : TRect → Option Bool} : ∀ (rest k u : List TRect) (n : Nat), (∀ x ∈ rest, f x = some (g x)) → u ≠ [] → rest.length < n → (k ++ u ++ rest).length ≤ 1000000000 →
    F_slices_DeleteFunc_Rect_L1 f n (k ++ u ++ rest) k.length (k ++ u).length = some (k ++ rest.filter fun x => !g x)
  | [], k, u, n + 1, _, hu, _, hl => by
    have hc : cut (k ++ u ++ []) (k.length : Int) ((k ++ u ++ []).length : Int) = some u := by
      unfold cut
      rw [if_pos ⟨by omega, by simp; omega, by omega⟩, List.append_nil, Int.toNat_natCast, Int.toNat_natCast, List.take_length, List.drop_left]
    rw [F_slices_DeleteFunc_Rect_L1.eq_2, if_neg (by simp), hc, Option.bind_some]
    unfold clr pre
    rw [if_pos ⟨by omega, by simp; omega⟩]
    simp
  | x :: rest, k, u, n + 1, h, hu, hn, hl => by
    obtain ⟨u0, u', rfl⟩ : ∃ u0 u', u = u0 :: u' := by cases u with | nil => exact absurd rfl hu | cons a b => exact ⟨a, b, rfl⟩
    have hid : idx (k ++ (u0 :: u') ++ x :: rest) ((k ++ (u0 :: u')).length : Int) = some x := idx_mid _ rest x
    simp only [List.length_append, List.length_cons] at hl hn
    rw [F_slices_DeleteFunc_Rect_L1.eq_2, if_pos (by simp; omega), hid, Option.bind_some, h x (by simp), Option.bind_some, up_mid (k ++ (u0 :: u')) x (by simp; omega)]
    cases hg : g x
    · have hid2 : idx (k ++ (u0 :: u') ++ x :: rest) (k.length : Int) = some u0 := by
        rw [List.append_assoc]; exact idx_mid k (u' ++ x :: rest) u0
      have hset : sets (k ++ (u0 :: u') ++ x :: rest) (k.length : Int) x = some ((k ++ [x]) ++ (u' ++ [x]) ++ rest) := by
        unfold sets
        rw [if_pos ⟨by omega, by simp⟩]
        simp
      rw [if_pos (by simp), hid2, Option.bind_some, hset, Option.bind_some, up_mid k x (by omega)]
      have := delete_loop rest (k ++ [x]) (u' ++ [x]) n (fun y hy => h y (by simp [hy])) (by simp) (by omega) (by simp; omega)
      have e : ((k ++ (u0 :: u') ++ [x]).length : Int) = ((k ++ [x] ++ (u' ++ [x])).length : Int) := by rw [List.length_append, List.length_append, List.length_append, List.length_append, List.length_append]; simp; omega
      rw [e, this, List.filter_cons, hg]
      simp
    · rw [if_neg (by simp)]
      have := delete_loop rest k (u0 :: u' ++ [x]) n (fun y hy => h y (by simp [hy])) (by simp) (by omega) (by simp; omega)
      have e : k ++ (u0 :: u') ++ x :: rest = k ++ (u0 :: u' ++ [x]) ++ rest := by simp
      have e2 : ((k ++ (u0 :: u') ++ [x]).length : Int) = ((k ++ (u0 :: u' ++ [x])).length : Int) := by simp
      rw [e, e2, this, List.filter_cons, hg]
      simp
theorem ixOf_split {α : Type} (g : α → Bool) : ∀ (l : List α) (i : Int), 0 ≤ i → (ixOf g l i = -1 ∧ ∀ x ∈ l, g x = false) ∨ ∃ a x b, l = a ++ x :: b ∧ (∀ y ∈ a, g y = false) ∧ g x = true ∧ ixOf g l i = i + a.length
  | [], i, _ => .inl ⟨rfl, by simp⟩
  | x :: l, i, hi => by
    unfold ixOf
    cases hg : g x
    · simp only [Bool.false_eq_true, if_false]
      rcases ixOf_split g l (i + 1) (by omega) with ⟨h1, h2⟩ | ⟨a, z, b, h1, h2, h3, h4⟩
      · exact .inl ⟨h1, fun y hy => by rcases List.mem_cons.1 hy with rfl | hy; exact hg; exact h2 y hy⟩
      · refine .inr ⟨x :: a, z, b, by rw [h1]; rfl, fun y hy => ?_, h3, by rw [h4]; simp; omega⟩
        rcases List.mem_cons.1 hy with rfl | hy
        · exact hg
        · exact h2 y hy
    · rw [if_pos rfl]
      exact .inr ⟨[], x, l, rfl, by simp, hg, by simp⟩
theorem Delete_ok {N : Nat} {g : TRect → Bool} {f : TRect → Option Bool} {l : List TRect} (hN : 1000000000 < N) (hl : l.length ≤ 1000000000) (h : ∀ x ∈ l, f x = some (g x)) : F_slices_DeleteFunc_Rect N l f = some (l.filter fun x => !g x) := by
  unfold F_slices_DeleteFunc_Rect F_slices_IndexFunc_Rect
  rw [IndexR_ok l 0 h, Option.bind_some, show ((0 : Nat) : Int) = 0 from rfl]
  rcases ixOf_split g l 0 (by omega) with ⟨h1, h2⟩ | ⟨a, x, b, h1, h2, h3, h4⟩
  · rw [h1, if_pos (by simp)]
    congr 1
    exact (List.filter_eq_self.2 fun y hy => by simp [h2 y hy]).symm
  · rw [h4, if_neg (by first | (simp; done) | (simp; omega))]
    subst h1
    simp only [List.length_append, List.length_cons] at hl
    have := delete_loop b a [x] N (fun y hy => h y (by simp [hy])) (by simp) (by omega) (by simp; omega)
    have e : a ++ [x] ++ b = a ++ x :: b := by simp
    rw [e] at this
    rw [Int.zero_add, w64_id (by omega) (by omega), show ((a.length : Int) + 1) = ((a ++ [x]).length : Int) by simp, this, List.filter_append, List.filter_cons, h3]
    have ha : a.filter (fun x => !g x) = a := List.filter_eq_self.2 fun y hy => by simp [h2 y hy]
    simp [ha]
theorem push_ok {l : List Bd} {b : Bd} (hl : l.length ≤ 1000000000) (hb : b.1 < b.2.1) : F_shape_Set__push (l.map toP) (toP b) = some ((pushB l b).map toP) := by
  unfold F_shape_Set__push
  have hfl : ((toP b).Xs.length : Int) = 2 * (b.2.2.length : Int) := by show ((flatS b.2.2).length : Int) = _; rw [flatS_len]; omega
  by_cases he : b.2.2 = []
  · rw [if_pos (by rw [hfl, he]; simp), pushB_empty he]
  · have hpos : 0 < b.2.2.length := List.length_pos_iff.2 he
    rw [if_neg (by
      rw [hfl]
      show ¬ ((2 * (b.2.2.length : Int) == 0) || decide (b.2.1 ≤ b.1)) = true
      rw [Bool.or_eq_true, not_or]
      exact ⟨by simp; exact he, by simp; exact hb⟩)]
    have hsplit : l = [] ∨ ∃ j q, l = j ++ [q] := by
      rcases List.eq_nil_or_concat l with h | ⟨j, q, h⟩
      · exact .inl h
      · exact .inr ⟨j, q, by simpa using h⟩
    rcases hsplit with rfl | ⟨j, c, rfl⟩
    · rw [pushB_nil he, if_neg (by simp [w64_id]), Option.bind_some, if_neg (by simp), Option.bind_some, if_neg (by simp)]
      rfl
    · simp only [List.length_append, List.length_singleton] at hl
      have hm : (j ++ [c]).map toP = j.map toP ++ toP c :: [] := by simp
      have hw : w64 ((((j ++ [c]).map toP).length : Int) - 1) = ((j.map toP).length : Int) := by
        rw [w64_id (by first | (simp; done) | (simp; omega)) (by first | (simp; done) | (simp; omega))]; simp
      have hid : idx ((j ++ [c]).map toP) ((j.map toP).length : Int) = some (toP c) := by rw [hm]; exact idx_mid _ [] _
      rw [pushB_snoc he, hw, if_pos (by simp), hid, Option.bind_some, Option.bind_some, Option.bind_some, EqualI_ok]
      have hxs : ((toP c).Xs = (toP b).Xs) ↔ c.2.2 = b.2.2 := ⟨fun h => flatS_inj h, fun h => by show flatS c.2.2 = flatS b.2.2; rw [h]⟩
      by_cases h1 : c.2.1 = b.1
      · have e1 : ((toP c).Y1 == (toP b).Y0) = true := by simpa [toP] using h1
        rw [e1, if_pos rfl, Option.bind_some, Option.bind_some]
        by_cases h2 : c.2.2 = b.2.2
        · rw [decide_eq_true (hxs.2 h2), if_pos rfl, if_pos ⟨h1, h2⟩]
          have hset : sets ((j ++ [c]).map toP) ((j.map toP).length : Int) (TBand.mk (toP c).Y0 (toP b).Y1 (toP c).Xs) = some ((j ++ [(c.1, b.2.1, c.2.2)]).map toP) := by
            unfold sets
            rw [if_pos ⟨by omega, by simp⟩, hm]
            simp [toP]
          rw [Option.bind_some, hset]; rfl
        · rw [decide_eq_false (fun h => h2 (hxs.1 h)), if_neg (by simp), if_neg (fun h => h2 h.2), apd_ok (by simp; omega), Option.bind_some]
          simp
      · have e1 : ((toP c).Y1 == (toP b).Y0) = false := by simpa [toP] using h1
        rw [e1, if_neg (by simp), Option.bind_some, if_neg (by simp), if_neg (fun h => h1 h.1), apd_ok (by simp; omega), Option.bind_some]
        simp
end Go.Proofs.YtfdglihcpfpefaaGreat
