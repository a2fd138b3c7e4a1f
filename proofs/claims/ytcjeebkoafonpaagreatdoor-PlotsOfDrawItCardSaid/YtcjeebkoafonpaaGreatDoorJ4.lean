/- Stable sorting of lists by a key: the words. Plain Lean. Conditions: none beyond each theorem's own. Plain words: counting loops over lists, numbers in range. No program. Conditions: none beyond each theorem's own. The library's stable sort, at rows by their areas: its loops. Conditions: none beyond each theorem's own. The library's stable sort, at rows by their areas: the merge. Conditions: none beyond each theorem's own. The library's stable sort, at rows by their areas: what it makes. Conditions: fewer than a thousand million rows. The library's stable sort, at rows by their areas: blocks, then greater blocks. Conditions: fewer than a thousand million rows. Plots: names, places, numbers written: the program's and the reference's answer alike. Plain. Conditions: none beyond each theorem's own. Plots: the error of a step by itself: the program's and the reference's alike. Plain. Conditions: none beyond each theorem's own. The plot of a region: its rows by their areas, and its steps; the program. Conditions: few rows. Plots: how many steps are done, and the error of all steps: the program's and the reference's alike. Plain. Conditions: none beyond each theorem's own. Borders of sets of squares: steps along a border, with the set at the left hand. Plain Lean. Conditions: none beyond each theorem's own. Borders: their corners, from the least one on. Plain Lean. Conditions: none beyond each theorem's own. Borders as lists of sides, and the rows in which sides follow one another. Plain Lean. Conditions: none beyond each theorem's own. All borders of a set; what a border looks like. Plain Lean. Conditions: none beyond each theorem's own. What a border looks like: stretches along one axis and the other in turn; which borders cross a row. Plain Lean. Conditions: none beyond each theorem's own. All borders together cross a row just where the set begins and ends. Plain Lean. Conditions: none beyond each theorem's own. Sides as the program holds them; the rows in which it follows them. Plain Lean about the plain functions. Conditions: none beyond each theorem's own. The rows in which the program follows the sides of a set. Plain Lean about the plain functions. Conditions: none beyond each theorem's own. The program follows the sides of a set: it tells all borders, in order. Plain Lean about the plain functions. Conditions: none beyond each theorem's own. Integers sorted, each once. Plain Lean. Sets of numbers by stretches: their one form. Plain Lean. -/
import Derived.Test.YtcjeebkoafonpaaGreatDoorJ2
import Derived.Test.YtcjeebkoafonpaaGreatDoorXF
import Derived.Lib.ItoaLen
namespace Go.Proofs.YtcjeebkoafonpaaGreatDoor.ST
variable {α : Type} (K : α → Int)
/-- From place a to place b the keys do not fall. -/
def SR (l : List α) (a b : Nat) : Prop := ∀ i j x y, a ≤ i → i ≤ j → j < b → l[i]? = some x → l[j]? = some y → K x ≤ K y
/-- Only the places from a to b were mixed, and none of one key went past another one of it. -/
structure Mg (l l' : List α) (a b : Nat) : Prop where
  len : l'.length = l.length
  out : ∀ k, k < a ∨ b ≤ k → l'[k]? = l[k]?
  inn : ∀ k, a ≤ k → k < b → ∃ j, a ≤ j ∧ j < b ∧ l'[k]? = l[j]?
  eqv : ∀ v : Int, l'.filter (fun x => decide (K x = v)) = l.filter (fun x => decide (K x = v))
variable {K}
theorem Mg.rfl {l : List α} {a b : Nat} : Mg K l l a b := ⟨by rfl, fun _ _ => by rfl, fun k h h2 => ⟨k, h, h2, by rfl⟩, fun _ => by rfl⟩
theorem Mg.trans {l l' l'' : List α} {a b : Nat} (h : Mg K l l' a b) (h2 : Mg K l' l'' a b) : Mg K l l'' a b :=
  ⟨h2.len.trans h.len, fun k hk => (h2.out k hk).trans (h.out k hk), fun k ha hb => by
    obtain ⟨j, hj, hj2, he⟩ := h2.inn k ha hb
    obtain ⟨i, hi, hi2, he2⟩ := h.inn j hj hj2
    exact ⟨i, hi, hi2, he.trans he2⟩, fun v => (h2.eqv v).trans (h.eqv v)⟩
theorem Mg.mono {l l' : List α} {a b c d : Nat} (h : Mg K l l' a b) (hc : c ≤ a) (hd : b ≤ d) : Mg K l l' c d :=
  ⟨h.len, fun k hk => h.out k (by omega), fun k hk hk2 => by
    by_cases h1 : a ≤ k ∧ k < b
    · obtain ⟨j, hj, hj2, he⟩ := h.inn k h1.1 h1.2
      exact ⟨j, by omega, by omega, he⟩
    · exact ⟨k, hk, hk2, h.out k (by omega)⟩, h.eqv⟩
theorem SR.of_out {l l' : List α} {a b c d : Nat} (h : Mg K l l' a b) (hs : SR K l c d) (hd : d ≤ a ∨ b ≤ c) : SR K l' c d := by
  intro i j x y hi hij hj hx hy
  rw [h.out i (by omega)] at hx
  rw [h.out j (by omega)] at hy
  exact hs i j x y hi hij hj hx hy
theorem SR.sub {l : List α} {a b c d : Nat} (hs : SR K l a b) (hc : a ≤ c) (hd : d ≤ b) : SR K l c d :=
  fun i j x y hi hij hj => hs i j x y (by omega) hij (by omega)
theorem SR.one {l : List α} {a b : Nat} (h : b ≤ a + 1) : SR K l a b := by
  intro i j x y hi hij hj hx hy
  have : i = j := by omega
  subst this
  rw [hx] at hy
  cases hy
  exact Int.le_refl _
/-- Two sorted halves, none of the left one greater than one of the right one. -/
theorem SR.join {l : List α} {a m b : Nat} (h1 : SR K l a m) (h2 : SR K l m b) (h : ∀ i j x y, a ≤ i → i < m → m ≤ j → j < b → l[i]? = some x → l[j]? = some y → K x ≤ K y) : SR K l a b := by
  intro i j x y hi hij hj hx hy
  by_cases hjm : j < m
  · exact h1 i j x y hi hij hjm hx hy
  · by_cases him : i < m
    · exact h i j x y hi him (by omega) hj hx hy
    · exact h2 i j x y (by omega) hij hj hx hy
/-- Two halves that were mixed each by itself keep what holds between them. -/
theorem between {l l' l'' : List α} {a m b : Nat} (h1 : Mg K l l' a m) (h2 : Mg K l' l'' m b) (h : ∀ i j x y, a ≤ i → i < m → m ≤ j → j < b → l[i]? = some x → l[j]? = some y → K x ≤ K y) :
    ∀ i j x y, a ≤ i → i < m → m ≤ j → j < b → l''[i]? = some x → l''[j]? = some y → K x ≤ K y := by
  intro i j x y hi him hj hjb hx hy
  rw [h2.out i (by omega)] at hx
  obtain ⟨i', ha, hb, he⟩ := h1.inn i hi him
  obtain ⟨j', ha', hb', he'⟩ := h2.inn j hj hjb
  rw [he] at hx
  rw [he', h1.out j' (by omega)] at hy
  exact h i' j' x y ha hb ha' hb' hx hy
theorem filter_swap {U V : List α} (h : ∀ x ∈ U, ∀ y ∈ V, K y ≠ K x) (v : Int) : (U ++ V).filter (fun x => decide (K x = v)) = (V ++ U).filter (fun x => decide (K x = v)) := by
  rw [List.filter_append, List.filter_append]
  by_cases hU : U.filter (fun x => decide (K x = v)) = []
  · rw [hU]; simp
  · have hV : V.filter (fun x => decide (K x = v)) = [] := by
      rw [List.filter_eq_nil_iff]
      intro y hy hv
      obtain ⟨x, hx⟩ := List.exists_mem_of_ne_nil _ hU
      rw [List.mem_filter] at hx
      have e1 := of_decide_eq_true hv
      have e2 := of_decide_eq_true hx.2
      exact h x hx.1 y hy (e1.trans e2.symm)
    rw [hV]; simp
/-- A list in four parts, the two middle ones changed for one another. -/
theorem rot_parts (l : List α) {a m b : Nat} (ham : a ≤ m) (hmb : m ≤ b) (hb : b ≤ l.length) : l = l.take a ++ ((l.drop a).take (m - a) ++ (l.drop m).take (b - m)) ++ l.drop b := by
  have e1 : l.drop a = (l.drop a).take (m - a) ++ l.drop m := by
    conv => lhs; rw [← List.take_append_drop (m - a) (l.drop a)]
    rw [List.drop_drop, Nat.add_sub_cancel' ham]
  have e2 : l.drop m = (l.drop m).take (b - m) ++ l.drop b := by
    conv => lhs; rw [← List.take_append_drop (b - m) (l.drop m)]
    rw [List.drop_drop, Nat.add_sub_cancel' hmb]
  conv => lhs; rw [← List.take_append_drop a l, e1, e2]
  simp only [List.append_assoc]
/-- What a rotation makes. -/
def Rot (l l' : List α) (a m b : Nat) : Prop := l'.length = l.length ∧ ∀ k, l'[k]? = if a ≤ k ∧ k < a + (b - m) then l[k + (m - a)]? else if a + (b - m) ≤ k ∧ k < b then l[k - (b - m)]? else l[k]?
theorem Rot.eq {l l' : List α} {a m b : Nat} (h : Rot l l' a m b) (ham : a ≤ m) (hmb : m ≤ b) (hb : b ≤ l.length) : l' = l.take a ++ ((l.drop m).take (b - m) ++ (l.drop a).take (m - a)) ++ l.drop b := by
  apply List.ext_getElem?
  intro k
  rw [h.2 k]
  have l1 : (l.take a).length = a := by rw [List.length_take]; omega
  have l2 : ((l.drop m).take (b - m)).length = b - m := by rw [List.length_take, List.length_drop]; omega
  have l3 : ((l.drop a).take (m - a)).length = m - a := by rw [List.length_take, List.length_drop]; omega
  by_cases c1 : k < a
  · rw [if_neg (by omega), if_neg (by omega), List.append_assoc, List.getElem?_append_left (by omega), List.getElem?_take_of_lt c1]
  · by_cases c2 : k < a + (b - m)
    · rw [if_pos ⟨by omega, c2⟩, List.append_assoc, List.getElem?_append_right (by omega), l1, List.append_assoc, List.getElem?_append_left (by omega), List.getElem?_take_of_lt (by omega), List.getElem?_drop]
      congr 1; omega
    · by_cases c3 : k < b
      · rw [if_neg (by omega), if_pos ⟨by omega, c3⟩, List.append_assoc, List.getElem?_append_right (by omega), l1, List.append_assoc, List.getElem?_append_right (by omega), l2, List.getElem?_append_left (by omega), List.getElem?_take_of_lt (by omega), List.getElem?_drop]
        congr 1; omega
      · rw [if_neg (by omega), if_neg (by omega), List.getElem?_append_right (by simp only [List.length_append]; omega), List.getElem?_drop]
        congr 1; simp only [List.length_append]; omega
theorem Rot.mg {l l' : List α} {a m b : Nat} (h : Rot l l' a m b) (ham : a ≤ m) (hmb : m ≤ b) (hb : b ≤ l.length)
    (hk : ∀ i j x y, a ≤ i → i < m → m ≤ j → j < b → l[i]? = some x → l[j]? = some y → K y < K x) : Mg K l l' a b := by
  refine ⟨h.1, fun k hk => ?_, fun k h1 h2 => ?_, fun v => ?_⟩
  · rw [h.2 k, if_neg (by omega), if_neg (by omega)]
  · rw [h.2 k]
    by_cases c : k < a + (b - m)
    · rw [if_pos ⟨h1, c⟩]; exact ⟨_, by omega, by omega, rfl⟩
    · rw [if_neg (by omega), if_pos ⟨by omega, h2⟩]; exact ⟨_, by omega, by omega, rfl⟩
  · have e := rot_parts l ham hmb hb
    rw [h.eq ham hmb hb]
    conv => rhs; rw [e]
    rw [List.filter_append, List.filter_append, List.filter_append (l.take a ++ _), List.filter_append (l.take a)]
    rw [filter_swap (U := (l.drop m).take (b - m)) (V := (l.drop a).take (m - a))]
    intro y hy x hx
    obtain ⟨i, hi⟩ := List.mem_iff_getElem?.1 hx
    obtain ⟨j, hj⟩ := List.mem_iff_getElem?.1 hy
    have hi' : i < m - a := by
      have := (List.getElem?_eq_some_iff.1 hi).1; rw [List.length_take] at this; omega
    have hj' : j < b - m := by
      have := (List.getElem?_eq_some_iff.1 hj).1; rw [List.length_take] at this; omega
    rw [List.getElem?_take_of_lt hi', List.getElem?_drop] at hi
    rw [List.getElem?_take_of_lt hj', List.getElem?_drop] at hj
    have := hk (a + i) (m + j) x y (by omega) (by omega) (by omega) (by omega) hi hj
    omega
/-- Two neighbours changed for one another, the right one the smaller. -/
theorem swap_mg {l : List α} {i : Nat} {x y : α} (hx : l[i]? = some x) (hy : l[i + 1]? = some y) (h : K y < K x) : Mg K l ((l.set i y).set (i + 1) x) i (i + 2) := by
  have hl := (List.getElem?_eq_some_iff.1 hy).1
  have hr : Rot l ((l.set i y).set (i + 1) x) i (i + 1) (i + 2) := by
    refine ⟨by simp, fun k => ?_⟩
    have e1 : i + (i + 2 - (i + 1)) = i + 1 := by omega
    have e2 : i + 2 - (i + 1) = 1 := by omega
    rw [e2]
    rw [List.getElem?_set, List.getElem?_set, List.length_set]
    by_cases c1 : i + 1 = k
    · subst c1
      rw [if_pos rfl, if_pos hl, if_neg (by omega), if_pos ⟨by omega, by omega⟩, Nat.add_sub_cancel, hx]
    · by_cases c2 : i = k
      · subst c2
        rw [if_neg (by omega), if_pos rfl, if_pos (by omega), if_pos ⟨by omega, by omega⟩]
        rw [show i + (i + 1 - i) = i + 1 by omega, hy]
      · rw [if_neg c1, if_neg c2, if_neg (by omega), if_neg (by omega)]
  refine hr.mg (by omega) (by omega) (by omega) ?_
  intro p q u v h1 h2 h3 h4 hu hv
  have : p = i := by omega
  subst this
  have : q = p + 1 := by omega
  subst this
  rw [hx] at hu; rw [hy] at hv
  cases hu; cases hv
  exact h
/-- What is sorted and has the same elements of each key in the same order is one list. -/
theorem sorted_unique : ∀ {l l' : List α}, l.Pairwise (fun x y => K x ≤ K y) → l'.Pairwise (fun x y => K x ≤ K y) →
    (∀ v : Int, l'.filter (fun x => decide (K x = v)) = l.filter (fun x => decide (K x = v))) → l' = l
  | [], l', _, _, he => by
    cases l' with
    | nil => rfl
    | cons x t => have := he (K x); simp at this
  | x :: t, [], _, _, he => by have := he (K x); simp at this
  | x :: t, y :: s, h, h', he => by
    have hx : x ∈ y :: s := by
      have := he (K x)
      have hm : x ∈ (x :: t).filter (fun z => decide (K z = K x)) := List.mem_filter.2 ⟨List.mem_cons_self, by simp⟩
      rw [← this] at hm
      exact (List.mem_filter.1 hm).1
    have hy : y ∈ x :: t := by
      have := he (K y)
      have hm : y ∈ (y :: s).filter (fun z => decide (K z = K y)) := List.mem_filter.2 ⟨List.mem_cons_self, by simp⟩
      rw [this] at hm
      exact (List.mem_filter.1 hm).1
    have k1 : K y ≤ K x := by
      rcases List.mem_cons.1 hx with h1 | h1
      · rw [h1]; exact Int.le_refl _
      · exact (List.pairwise_cons.1 h').1 x h1
    have k2 : K x ≤ K y := by
      rcases List.mem_cons.1 hy with h1 | h1
      · rw [h1]; exact Int.le_refl _
      · exact (List.pairwise_cons.1 h).1 y h1
    have kk : K y = K x := by omega
    have e := he (K x)
    rw [List.filter_cons_of_pos (by simp [kk]), List.filter_cons_of_pos (by simp)] at e
    have exy : y = x := (List.cons.inj e).1
    subst exy
    have := sorted_unique (List.pairwise_cons.1 h).2 (List.pairwise_cons.1 h').2 (fun v => by
      have ev := he v
      by_cases c : K y = v
      · rw [List.filter_cons_of_pos (by simp [c]), List.filter_cons_of_pos (by simp [c])] at ev
        exact (List.cons.inj ev).2
      · rw [List.filter_cons_of_neg (by simp [c]), List.filter_cons_of_neg (by simp [c])] at ev
        exact ev)
    rw [this]
theorem SR.pairwise {l : List α} (h : SR K l 0 l.length) : l.Pairwise (fun x y => K x ≤ K y) := by
  rw [List.pairwise_iff_getElem]
  intro i j hi hj hij
  exact h i j _ _ (by omega) (by omega) hj (List.getElem?_eq_getElem hi) (List.getElem?_eq_getElem hj)
/-- After the search for the place where two sorted stretches are parted, and the rotation. -/
theorem parted {l l1 : List α} {a m b mid start : Nat} (ham : a < m) (hmb : m < b) (hb : b ≤ l.length) (hmid : mid = (a + b) / 2)
    (s1 : SR K l a m) (s2 : SR K l m b)
    (hs0 : a ≤ start) (hs1 : start ≤ m) (hs2 : mid + m ≤ start + b) (hs3 : start ≤ mid)
    (hlow : ∀ x y, a < start → mid + m < start + b → l[start - 1]? = some x → l[mid + m - start]? = some y → K x ≤ K y)
    (hup : ∀ x y, start < m → start < mid → l[start]? = some x → l[mid + m - start - 1]? = some y → K y < K x)
    (hr : Rot l l1 start m (mid + m - start)) :
    Mg K l l1 a b ∧ SR K l1 a start ∧ SR K l1 start mid ∧ SR K l1 mid (mid + m - start) ∧ SR K l1 (mid + m - start) b ∧
      ∀ i j x y, a ≤ i → i < mid → mid ≤ j → j < b → l1[i]? = some x → l1[j]? = some y → K x ≤ K y := by
  generalize hE : mid + m - start = e at *
  have he1 : m ≤ e := by omega
  have he2 : e ≤ b := by omega
  have hcross : ∀ i j x y, start ≤ i → i < m → m ≤ j → j < e → l[i]? = some x → l[j]? = some y → K y < K x := by
    intro i j x y h1 h2 h3 h4 hx hy
    have hi : start < l.length := by omega
    have hj : e - 1 < l.length := by omega
    have k := hup _ _ (by omega) (by omega) (List.getElem?_eq_getElem hi) (List.getElem?_eq_getElem hj)
    have k1 := s1 start i _ x hs0 h1 h2 (List.getElem?_eq_getElem hi) hx
    have k2 := s2 j (e - 1) y _ h3 (by omega) (by omega) hy (List.getElem?_eq_getElem hj)
    omega
  have g1 : ∀ k, k < start → l1[k]? = l[k]? := fun k hk => by rw [hr.2 k, if_neg (by omega), if_neg (by omega)]
  have g2 : ∀ k, start ≤ k → k < mid → l1[k]? = l[k + (m - start)]? := fun k hk hk2 => by rw [hr.2 k, if_pos ⟨hk, by omega⟩]
  have g3 : ∀ k, mid ≤ k → k < e → l1[k]? = l[k - (e - m)]? := fun k hk hk2 => by rw [hr.2 k, if_neg (by omega), if_pos ⟨by omega, by omega⟩]
  have g4 : ∀ k, e ≤ k → l1[k]? = l[k]? := fun k hk => by rw [hr.2 k, if_neg (by omega), if_neg (by omega)]
  refine ⟨(hr.mg hs1 he1 (by omega) hcross).mono hs0 he2, ?_, ?_, ?_, ?_, ?_⟩
  · intro i j x y h1 h2 h3 hx hy
    rw [g1 i (by omega)] at hx; rw [g1 j (by omega)] at hy
    exact s1 i j x y h1 h2 (by omega) hx hy
  · intro i j x y h1 h2 h3 hx hy
    rw [g2 i (by omega) (by omega)] at hx; rw [g2 j (by omega) (by omega)] at hy
    exact s2 _ _ x y (by omega) (by omega) (by omega) hx hy
  · intro i j x y h1 h2 h3 hx hy
    rw [g3 i (by omega) (by omega)] at hx; rw [g3 j (by omega) (by omega)] at hy
    exact s1 _ _ x y (by omega) (by omega) (by omega) hx hy
  · intro i j x y h1 h2 h3 hx hy
    rw [g4 i (by omega)] at hx; rw [g4 j (by omega)] at hy
    exact s2 _ _ x y (by omega) (by omega) (by omega) hx hy
  · intro i j x y h1 h2 h3 h4 hx hy
    by_cases ci : i < start
    · rw [g1 i ci] at hx
      by_cases cj : j < e
      · rw [g3 j h3 cj] at hy
        exact s1 _ _ x y h1 (by omega) (by omega) hx hy
      · rw [g4 j (by omega)] at hy
        have hi : start - 1 < l.length := by omega
        have hj : e < l.length := by omega
        have k := hlow _ _ (by omega) (by omega) (List.getElem?_eq_getElem hi) (List.getElem?_eq_getElem hj)
        have k1 := s1 i (start - 1) x _ h1 (by omega) (by omega) hx (List.getElem?_eq_getElem hi)
        have k2 := s2 e j _ y (by omega) (by omega) h4 (List.getElem?_eq_getElem hj) hy
        omega
    · rw [g2 i (by omega) h2] at hx
      by_cases cj : j < e
      · rw [g3 j h3 cj] at hy
        have := hcross (j - (e - m)) (i + (m - start)) y x (by omega) (by omega) (by omega) (by omega) hy hx
        omega
      · rw [g4 j (by omega)] at hy
        exact s2 _ _ x y (by omega) (by omega) (by omega) hx hy
end Go.Proofs.YtcjeebkoafonpaaGreatDoor.ST
namespace Go.Proofs.YtcjeebkoafonpaaGreatDoor
theorem w64_id {x : Int} (h1 : -4611686018427387904 ≤ x) (h2 : x ≤ 4611686018427387904) : w64 x = x := w64_eq (by omega) (by omega)
theorem idx_mid {α : Type} (pre suf : List α) (x : α) : idx (pre ++ x :: suf) (pre.length : Int) = some x := by
  unfold idx
  rw [if_pos (by omega)]
  simp
theorem idx_nat {α : Type} {l : List α} {i : Nat} (h : i < l.length) : idx l (i : Int) = some l[i] := by
  unfold idx
  rw [if_pos (by omega)]
  simp [h]
theorem idx_lt {α : Type} {l : List α} {i : Int} (h0 : 0 ≤ i) (h : i < l.length) : ∃ x, idx l i = some x ∧ l[i.toNat]? = some x := by
  unfold idx
  rw [if_pos h0]
  exact ⟨l[i.toNat]'(by omega), by simp, by simp⟩
theorem lt_mid {α : Type} (pre suf : List α) (x : α) : decide ((pre.length : Int) < ((pre ++ x :: suf).length : Int)) = true := decide_eq_true (by simp; omega)
theorem lt_end {α : Type} (pre : List α) : decide ((pre.length : Int) < ((pre ++ []).length : Int)) = false := decide_eq_false (by simp)
theorem up_mid {α : Type} (pre : List α) (x : α) (h : pre.length ≤ 4611686018427387903) : w64 ((pre.length : Int) + 1) = ((pre ++ [x]).length : Int) := by
  rw [w64_id (by omega) (by omega)]; simp
theorem snoc_mid {α : Type} (pre suf : List α) (x : α) : pre ++ x :: suf = (pre ++ [x]) ++ suf := by simp
theorem apd_ok {α : Type} {l m : List α} (h : l.length + m.length ≤ 4294967296) : apd l m = some (l ++ m) := if_pos h
theorem cut_ok {α : Type} {l : List α} {n : Nat} (h : n ≤ l.length) : cut l 0 (n : Int) = some (l.take n) := by
  unfold cut
  rw [if_pos (by omega)]
  simp
theorem sEq_comm (s t : ByteArray) : sEq s t = sEq t s := by rw [sEq_dec, sEq_dec]; exact decide_eq_decide.2 eq_comm
def within (n lo hi : Int) : Bool := decide (lo ≤ n) && decide (n ≤ hi)
theorem within_iff {n lo hi : Int} : within n lo hi = true ↔ lo ≤ n ∧ n ≤ hi := by simp [within]
/-- The first place at which g holds, counted from i on; -1: none. -/
def ixOf {α : Type} (g : α → Bool) : List α → Int → Int
  | [], _ => -1
  | x :: l, i => if g x then i else ixOf g l (i + 1)
theorem ixOf_any {α : Type} (g : α → Bool) : ∀ (l : List α) (i : Int), 0 ≤ i → decide (0 ≤ ixOf g l i) = l.any g
  | [], _, _ => by simp [ixOf]
  | x :: l, i, hi => by
    unfold ixOf
    rw [List.any_cons]
    cases g x
    · simp [ixOf_any g l (i + 1) (by omega)]
    · simp [hi]
theorem ixOf_lo {α : Type} (g : α → Bool) : ∀ (l : List α) (i : Int), 0 ≤ i → (ixOf g l i = -1 ∧ l.any g = false) ∨ (i ≤ ixOf g l i ∧ ixOf g l i < i + l.length ∧ ∃ x, l[(ixOf g l i - i).toNat]? = some x ∧ g x = true)
  | [], _, _ => by simp [ixOf]
  | x :: l, i, hi => by
    have ih := ixOf_lo g l (i + 1) (by omega)
    unfold ixOf
    rw [List.any_cons]
    cases hg : g x
    · simp only [Bool.false_eq_true, if_false, Bool.false_or, List.length_cons]
      rcases ih with ih | ⟨h1, h2, y, h3, h4⟩
      · exact .inl ih
      · refine .inr ⟨by omega, by omega, y, ?_, h4⟩
        rw [show (ixOf g l (i + 1) - i).toNat = (ixOf g l (i + 1) - (i + 1)).toNat + 1 by omega]
        simpa using h3
    · right
      simp only [if_true, List.length_cons]
      exact ⟨by omega, by omega, x, by simp, hg⟩
end Go.Proofs.YtcjeebkoafonpaaGreatDoor
namespace Go.Proofs.YtcjeebkoafonpaaGreatDoor.ST
/-- What rows are sorted by: the greatest area first. -/
def KR (x : TRow) : Int := - max x.area (w64 (0 - x.area))
theorem cf (x y : TRow) : ∃ c, F_plot_Of_2__Of_1 x y = some c ∧ (c < 0 ↔ KR x < KR y) := by
  unfold F_plot_Of_2__Of_1 F_plot_Of_1 F_cmp_Compare_int F_cmp_isNaN_int KR
  simp only [Option.bind_some, bne_self_eq_false, Bool.false_eq_true, if_false, decide_eq_true_eq]
  split
  · exact ⟨_, rfl, by constructor <;> intro _ <;> omega⟩
  · split
    · exact ⟨_, rfl, by constructor <;> intro _ <;> omega⟩
    · exact ⟨_, rfl, by constructor <;> intro _ <;> omega⟩
theorem ix {α : Type} {l : List α} {i : Int} {k : Nat} {x : α} (e : i = (k : Int)) (h : l[k]? = some x) : idx l i = some x := by
  subst e
  unfold idx
  rw [if_pos (by omega), Int.toNat_natCast, h]
theorem st {α : Type} {l : List α} {i : Int} {k : Nat} (x : α) (e : i = (k : Int)) (h : k < l.length) : sets l i x = some (l.set k x) := by
  subst e
  unfold sets
  rw [if_pos ⟨by omega, by rw [Int.toNat_natCast]; exact h⟩, Int.toNat_natCast]
theorem gt {α : Type} {l : List α} {k : Nat} (h : k < l.length) : ∃ x, l[k]? = some x := ⟨l[k], List.getElem?_eq_getElem h⟩
/-- Two places changed for one another. -/
theorem sw_get {α : Type} {l : List α} {i j : Nat} {x y : α} (hx : l[i]? = some x) (hy : l[j]? = some y) (hij : i ≠ j) (k : Nat) : ((l.set i y).set j x)[k]? = if k = i then l[j]? else if k = j then l[i]? else l[k]? := by
  have h1 := (List.getElem?_eq_some_iff.1 hx).1
  have h2 := (List.getElem?_eq_some_iff.1 hy).1
  rw [List.getElem?_set, List.getElem?_set, List.length_set, hx, hy]
  by_cases c1 : j = k
  · subst c1
    rw [if_pos rfl, if_pos h2, if_neg (by omega), if_pos rfl]
  · rw [if_neg c1]
    by_cases c2 : i = k
    · subst c2; rw [if_pos rfl, if_pos h1, if_pos rfl]
    · rw [if_neg c2, if_neg (by omega), if_neg (by omega)]
theorem ins_in (a i : Nat) (k : List TRow → Int → Option (List TRow)) (hi : i ≤ 1000000000) : ∀ (m : Nat) (l : List TRow) (j : Nat), j < m → a ≤ j → j ≤ i → i < l.length →
    SR KR l a j → SR KR l j (i + 1) → (∀ p q x y, a ≤ p → p < j → j + 1 ≤ q → q < i + 1 → l[p]? = some x → l[q]? = some y → KR x ≤ KR y) →
    ∃ l', Mg KR l l' a (i + 1) ∧ SR KR l' a (i + 1) ∧ F_slices_insertionSortCmpFunc_row__Of_2__Of_1_L4 (a : Int) (i : Int) k m l (j : Int) = k l' ((i : Int) + 1)
  | 0, _, _, hm, _, _, _, _, _, _ => absurd hm (Nat.not_lt_zero _)
  | m + 1, l, j, hm, haj, hji, hil, s1, s2, hc => by
    unfold F_slices_insertionSortCmpFunc_row__Of_2__Of_1_L4
    by_cases hj : a < j
    · obtain ⟨x, hx⟩ := gt (l := l) (k := j) (by omega)
      obtain ⟨y, hy⟩ := gt (l := l) (k := j - 1) (by omega)
      have e1 : w64 ((j : Int) - 1) = ((j - 1 : Nat) : Int) := by rw [w64_id (by omega) (by omega)]; omega
      obtain ⟨c, hcf, hlt⟩ := cf x y
      rw [if_pos (decide_eq_true (by omega : (a : Int) < (j : Int))), e1, ix rfl hx, Option.bind_some, ix rfl hy, Option.bind_some, hcf, Option.bind_some, Option.bind_some]
      by_cases hk : c < 0
      · rw [if_pos (decide_eq_true hk)]
        have hK := hlt.1 hk
        rw [Option.bind_some, Option.bind_some, Option.bind_some, st y rfl (by omega : j < l.length), Option.bind_some]
        obtain ⟨z, hz⟩ := gt (l := l.set j y) (k := j - 1) (by rw [List.length_set]; omega)
        rw [ix rfl hz, Option.bind_some, st x rfl (by rw [List.length_set]; omega), Option.bind_some]
        have hcomm : (l.set j y).set (j - 1) x = (l.set (j - 1) x).set j y := List.set_comm _ _ (by omega)
        rw [hcomm]
        have hy' : l[j - 1 + 1]? = some x := by rw [Nat.sub_add_cancel (by omega)]; exact hx
        have hm1 := swap_mg (K := KR) hy hy' hK
        rw [Nat.sub_add_cancel (by omega : 1 ≤ j)] at hm1
        have hg := sw_get hy hx (by omega : j - 1 ≠ j)
        generalize (l.set (j - 1) x).set j y = l1 at hm1 hg
        obtain ⟨l', h1, h2, h3⟩ := ins_in a i k hi m l1 (j - 1) (by omega) (by omega) (by omega) (by rw [hm1.len]; exact hil)
          (SR.of_out hm1 (s1.sub (Nat.le_refl _) (Nat.sub_le _ _)) (.inl (by omega)))
          (fun p q u v hp hpq hq hu hv => by
            rw [hg p] at hu; rw [hg q] at hv
            by_cases cp : p = j - 1
            · rw [if_pos cp, hx] at hu
              cases hu
              by_cases cq : q = j - 1
              · rw [if_pos cq, hx] at hv; cases hv; exact Int.le_refl _
              · rw [if_neg cq] at hv
                by_cases cq2 : q = j
                · rw [if_pos cq2, hy] at hv; cases hv; omega
                · rw [if_neg cq2] at hv
                  exact s2 j q _ _ (Nat.le_refl _) (by omega) hq hx hv
            · rw [if_neg cp] at hu
              rw [if_neg (by omega)] at hv
              by_cases cp2 : p = j
              · rw [if_pos cp2, hy] at hu
                cases hu
                by_cases cq2 : q = j
                · rw [if_pos cq2, hy] at hv; cases hv; exact Int.le_refl _
                · rw [if_neg cq2] at hv
                  exact hc (j - 1) q _ _ (by omega) (by omega) (by omega) hq hy hv
              · rw [if_neg cp2] at hu
                rw [if_neg (by omega)] at hv
                exact s2 p q _ _ (by omega) hpq hq hu hv)
          (fun p q u v hp hpj hq hqi hu hv => by
            rw [hg p, if_neg (by omega), if_neg (by omega)] at hu
            rw [hg q, if_neg (by omega)] at hv
            by_cases cq : q = j
            · rw [if_pos cq, hy] at hv
              cases hv
              exact s1 p (j - 1) _ _ hp (by omega) (by omega) hu hy
            · rw [if_neg cq] at hv
              exact hc p q _ _ hp (by omega) (by omega) hqi hu hv)
        exact ⟨l', (hm1.mono (by omega) (by omega)).trans h1, h2, h3⟩
      · rw [if_neg (by rw [decide_eq_true_eq]; exact hk), w64_id (by omega) (by omega)]
        refine ⟨l, .rfl, s1.join s2 fun p q u v hp hpj hq hqi hu hv => ?_, rfl⟩
        have k1 := s1 p (j - 1) _ _ hp (by omega) (by omega) hu hy
        have k2 := s2 j q _ _ (Nat.le_refl _) hq hqi hx hv
        have k3 : ¬ KR x < KR y := fun h => hk (hlt.2 h)
        omega
    · have : j = a := by omega
      subst this
      rw [if_neg (by rw [decide_eq_true_eq]; omega), Option.bind_some, if_neg (by decide), w64_id (by omega) (by omega)]
      exact ⟨l, .rfl, s2, rfl⟩
theorem ins_out (N a b : Nat) (hN : 10000000000 ≤ N) (hb : b ≤ 1000000000) : ∀ (m : Nat) (l : List TRow) (i : Nat), b < m + i ∧ a + 1 < m + i → a ≤ i → (i ≤ b ∨ i ≤ a + 1) → b ≤ l.length → SR KR l a i →
    ∃ l', Mg KR l l' a b ∧ SR KR l' a b ∧ F_slices_insertionSortCmpFunc_row__Of_2__Of_1_L3 N (a : Int) (b : Int) m l (i : Int) = some l'
  | 0, l, i, hm, hai, hib, hbl, s => by omega
  | m + 1, l, i, hm, hai, hib, hbl, s => by
    unfold F_slices_insertionSortCmpFunc_row__Of_2__Of_1_L3
    by_cases hi : i < b
    · rw [if_pos (decide_eq_true (by omega : (i : Int) < (b : Int)))]
      obtain ⟨l1, h1, h2, h3⟩ := ins_in a i (F_slices_insertionSortCmpFunc_row__Of_2__Of_1_L3 N (a : Int) (b : Int) m) (by omega) N l i (by omega) hai (Nat.le_refl _) (by omega) s (SR.one (by omega)) (fun p q u v _ _ h3 h4 _ _ => by omega)
      rw [h3]
      obtain ⟨l', h4, h5, h6⟩ := ins_out N a b hN hb m l1 (i + 1) (by omega) (by omega) (by omega) (by rw [h1.len]; exact hbl) h2
      exact ⟨l', (h1.mono (Nat.le_refl _) (by omega)).trans h4, h5, by rw [← h6]; norm_cast⟩
    · rw [if_neg (by rw [decide_eq_true_eq]; omega)]
      exact ⟨l, .rfl, s.sub (Nat.le_refl _) (by omega), rfl⟩
theorem ins_ok {N a b : Nat} (hN : 10000000000 ≤ N) (hb : b ≤ 1000000000) {l : List TRow} (hbl : b ≤ l.length) (hab : a ≤ b) :
    ∃ l', Mg KR l l' a b ∧ SR KR l' a b ∧ F_slices_insertionSortCmpFunc_row__Of_2__Of_1 N l (a : Int) (b : Int) = some l' := by
  unfold F_slices_insertionSortCmpFunc_row__Of_2__Of_1
  rw [w64_id (by omega) (by omega), show (a : Int) + 1 = ((a + 1 : Nat) : Int) by omega]
  exact ins_out N a b hN hb N l (a + 1) (by omega) (by omega) (by omega) hbl (SR.one (Nat.le_refl _))
/-- Two stretches changed for one another. -/
def Swp {α : Type} (l l' : List α) (a b n : Nat) : Prop := l'.length = l.length ∧ ∀ k, l'[k]? = if a ≤ k ∧ k < a + n then l[k - a + b]? else if b ≤ k ∧ k < b + n then l[k - b + a]? else l[k]?
theorem swp_loop (a b n : Nat) (hab : a + n ≤ b) (hb : b + n ≤ 1000000000) (l0 : List TRow) (hl : b + n ≤ l0.length) : ∀ (m : Nat) (l : List TRow) (i : Nat), n < m + i → i ≤ n → Swp l0 l a b i →
    ∃ l', Swp l0 l' a b n ∧ F_slices_swapRangeCmpFunc_row__Of_2__Of_1_L1 (a : Int) (b : Int) (n : Int) m l (i : Int) = some l'
  | 0, l, i, hm, hi, h => by omega
  | m + 1, l, i, hm, hi, h => by
    unfold F_slices_swapRangeCmpFunc_row__Of_2__Of_1_L1
    by_cases c : i < n
    · rw [if_pos (decide_eq_true (by omega : (i : Int) < (n : Int)))]
      have e1 : w64 ((b : Int) + (i : Int)) = ((b + i : Nat) : Int) := by rw [w64_id (by omega) (by omega)]; omega
      have e2 : w64 ((a : Int) + (i : Int)) = ((a + i : Nat) : Int) := by rw [w64_id (by omega) (by omega)]; omega
      have hll := h.1
      obtain ⟨y, hy⟩ := gt (l := l) (k := b + i) (by omega)
      obtain ⟨x, hx⟩ := gt (l := l) (k := a + i) (by omega)
      rw [e1, e2, ix rfl hy, Option.bind_some, ix rfl hx, Option.bind_some, Option.bind_some, st y rfl (by omega), Option.bind_some]
      obtain ⟨z, hz⟩ := gt (l := l.set (a + i) y) (k := b + i) (by rw [List.length_set]; omega)
      rw [ix rfl hz, Option.bind_some, st x rfl (by rw [List.length_set]; omega), Option.bind_some]
      have hg := sw_get hx hy (by omega : a + i ≠ b + i)
      have hlen : ((l.set (a + i) y).set (b + i) x).length = l.length := by simp
      generalize (l.set (a + i) y).set (b + i) x = l1 at hg hlen
      rw [show w64 ((i : Int) + 1) = ((i + 1 : Nat) : Int) by rw [w64_id (by omega) (by omega)]; omega]
      refine swp_loop a b n hab hb l0 hl m l1 (i + 1) (by omega) (by omega) ⟨by omega, fun k => ?_⟩
      rw [hg k]
      simp only [h.2]
      repeat' split
      all_goals first
        | (exfalso; omega)
        | rfl
        | (congr 1; omega)
    · rw [if_neg (by rw [decide_eq_true_eq]; omega)]
      have : i = n := by omega
      subst this
      exact ⟨l, h, rfl⟩
theorem swp_ok {N a b n : Nat} (hN : 10000000000 ≤ N) (hab : a + n ≤ b) (hb : b + n ≤ 1000000000) {l : List TRow} (hl : b + n ≤ l.length) :
    ∃ l', Swp l l' a b n ∧ F_slices_swapRangeCmpFunc_row__Of_2__Of_1 N l (a : Int) (b : Int) (n : Int) = some l' :=
  swp_loop a b n hab hb l hl N l 0 (by omega) (by omega) ⟨rfl, fun k => by rw [if_neg (by omega), if_neg (by omega)]⟩
theorem rot_loop {N : Nat} (hN : 10000000000 ≤ N) (p : Nat) : ∀ (m : Nat) (l : List TRow) (i j : Nat), i + j < m → 0 < i → 0 < j → i ≤ p → p + j ≤ l.length → l.length ≤ 1000000000 →
    ∃ l', Rot l l' (p - i) p (p + j) ∧ F_slices_rotateCmpFunc_row__Of_2__Of_1_L1 N (p : Int) m l (i : Int) (j : Int) = some l'
  | 0, _, _, _, hm, _, _, _, _, _ => absurd hm (Nat.not_lt_zero _)
  | m + 1, l, i, j, hm, hi, hj, hip, hl, hlen => by
    unfold F_slices_rotateCmpFunc_row__Of_2__Of_1_L1
    have e1 : w64 ((p : Int) - (i : Int)) = ((p - i : Nat) : Int) := by rw [w64_id (by omega) (by omega)]; omega
    by_cases c : i = j
    · subst c
      rw [if_neg (by simp), e1]
      obtain ⟨l1, h1, h2⟩ := swp_ok (N := N) (a := p - i) (b := p) (n := i) hN (by omega) (by omega) (l := l) (by omega)
      rw [h2, Option.bind_some]
      refine ⟨l1, ⟨h1.1, fun k => ?_⟩, rfl⟩
      rw [h1.2 k]
      repeat' split
      all_goals first
        | (exfalso; omega)
        | rfl
        | (congr 1; omega)
    · rw [if_pos (by simp; omega)]
      by_cases d : j < i
      · rw [if_pos (decide_eq_true (by omega : (j : Int) < (i : Int))), e1]
        obtain ⟨l1, h1, h2⟩ := swp_ok (N := N) (a := p - i) (b := p) (n := j) hN (by omega) (by omega) (l := l) (by omega)
        rw [h2, Option.bind_some, show w64 ((i : Int) - (j : Int)) = ((i - j : Nat) : Int) by rw [w64_id (by omega) (by omega)]; omega]
        have hl1 := h1.1
        obtain ⟨l', h3, h4⟩ := rot_loop hN p m l1 (i - j) j (by omega) (by omega) hj (by omega) (by omega) (by omega)
        refine ⟨l', ⟨h3.1.trans h1.1, fun k => ?_⟩, h4⟩
        rw [h3.2 k]
        simp only [h1.2]
        repeat' split
        all_goals first
          | (exfalso; omega)
          | rfl
          | (congr 1; omega)
      · rw [if_neg (by rw [decide_eq_true_eq]; omega), e1]
        have e2 : w64 ((w64 ((p : Int) + (j : Int))) - (i : Int)) = ((p + j - i : Nat) : Int) := by rw [w64_id (x := (p : Int) + (j : Int)) (by omega) (by omega), w64_id (by omega) (by omega)]; omega
        obtain ⟨l1, h1, h2⟩ := swp_ok (N := N) (a := p - i) (b := p + j - i) (n := i) hN (by omega) (by omega) (l := l) (by omega)
        rw [e2, h2, Option.bind_some, show w64 ((j : Int) - (i : Int)) = ((j - i : Nat) : Int) by rw [w64_id (by omega) (by omega)]; omega]
        have hl1 := h1.1
        obtain ⟨l', h3, h4⟩ := rot_loop hN p m l1 i (j - i) (by omega) hi (by omega) hip (by omega) (by omega)
        refine ⟨l', ⟨h3.1.trans h1.1, fun k => ?_⟩, h4⟩
        rw [h3.2 k]
        simp only [h1.2]
        repeat' split
        all_goals first
          | (exfalso; omega)
          | rfl
          | (congr 1; omega)
theorem rot_ok {N a p b : Nat} (hN : 10000000000 ≤ N) (h1 : a < p) (h2 : p < b) {l : List TRow} (hb : b ≤ l.length) (hl : l.length ≤ 1000000000) :
    ∃ l', Rot l l' a p b ∧ F_slices_rotateCmpFunc_row__Of_2__Of_1 N l (a : Int) (p : Int) (b : Int) = some l' := by
  unfold F_slices_rotateCmpFunc_row__Of_2__Of_1
  have e1 : w64 ((p : Int) - (a : Int)) = ((p - a : Nat) : Int) := by rw [w64_id (by omega) (by omega)]; omega
  have e2 : w64 ((b : Int) - (p : Int)) = ((b - p : Nat) : Int) := by rw [w64_id (by omega) (by omega)]; omega
  obtain ⟨l', h3, h4⟩ := rot_loop hN p N l (p - a) (b - p) (by omega) (by omega) (by omega) (by omega) (by omega) hl
  rw [e1, e2]
  refine ⟨l', ?_, h4⟩
  rw [show p - (p - a) = a by omega, show p + (b - p) = b by omega] at h3
  exact h3
end Go.Proofs.YtcjeebkoafonpaaGreatDoor.ST
namespace Go.Proofs.YtcjeebkoafonpaaGreatDoor.ST
theorem uo {x : Int} {k : Nat} (e : x = (k : Int)) (h : k ≤ 4000000000) : uO x = some (k : Int) := by
  subst e
  unfold uO
  rw [if_pos ⟨by omega, by omega⟩]
theorem half {i j : Nat} (hi : i ≤ 1000000000) (hj : j ≤ 1000000000) {β : Type} (f : Int → Option β) : ((uO (w64 ((i : Int) + (j : Int)))).bind fun q => (uO (q / 2)).bind fun q2 => f q2) = f (((i + j) / 2 : Nat) : Int) := by
  rw [uo (k := i + j) (by rw [w64_id (by omega) (by omega)]; omega) (by omega), Option.bind_some, uo (k := (i + j) / 2) (by omega) (by omega), Option.bind_some]
/-- The left stretch has one row: it goes right. -/
theorem mv_right (a i : Nat) (hi : i ≤ 1000000000) (l0 : List TRow) (hl : i ≤ l0.length) : ∀ (m : Nat) (l : List TRow) (k : Nat), i < m + k → a ≤ k → k < i → Rot l0 l a (a + 1) (k + 1) →
    ∃ l', Rot l0 l' a (a + 1) i ∧ F_slices_symMergeCmpFunc_row__Of_2__Of_1_L2 (i : Int) m l (k : Int) = some l'
  | 0, _, _, hm, _, _, _ => by omega
  | m + 1, l, k, hm, hak, hki, h => by
    unfold F_slices_symMergeCmpFunc_row__Of_2__Of_1_L2
    rw [w64_id (by omega) (by omega)]
    by_cases c : k + 1 < i
    · rw [if_pos (decide_eq_true (by omega : (k : Int) < (i : Int) - 1))]
      have e1 : w64 ((k : Int) + 1) = ((k + 1 : Nat) : Int) := by rw [w64_id (by omega) (by omega)]; omega
      have hll := h.1
      obtain ⟨y, hy⟩ := gt (l := l) (k := k + 1) (by omega)
      obtain ⟨x, hx⟩ := gt (l := l) (k := k) (by omega)
      rw [e1, ix rfl hy, Option.bind_some, ix rfl hx, Option.bind_some, Option.bind_some, st y rfl (by omega), Option.bind_some]
      obtain ⟨z, hz⟩ := gt (l := l.set k y) (k := k + 1) (by rw [List.length_set]; omega)
      rw [ix rfl hz, Option.bind_some, st x rfl (by rw [List.length_set]; omega), Option.bind_some]
      have hg := sw_get hx hy (by omega : k ≠ k + 1)
      have hlen : ((l.set k y).set (k + 1) x).length = l.length := by simp
      generalize (l.set k y).set (k + 1) x = l1 at hg hlen
      refine mv_right a i hi l0 hl m l1 (k + 1) (by omega) (by omega) c ⟨by omega, fun q => ?_⟩
      rw [hg q]
      simp only [h.2]
      repeat' split
      all_goals first
        | (exfalso; omega)
        | exact congrArg (fun n => l0[n]?) (by omega)
    · rw [if_neg (by rw [decide_eq_true_eq]; omega)]
      have : k + 1 = i := by omega
      subst this
      exact ⟨l, h, rfl⟩
/-- The right stretch has one row: it goes left. -/
theorem mv_left (i p : Nat) (hp : p ≤ 1000000000) (l0 : List TRow) (hl : p < l0.length) : ∀ (m : Nat) (l : List TRow) (k : Nat), k < m + i → i ≤ k → k ≤ p → Rot l0 l k p (p + 1) →
    ∃ l', Rot l0 l' i p (p + 1) ∧ F_slices_symMergeCmpFunc_row__Of_2__Of_1_L4 (i : Int) m l (k : Int) = some l'
  | 0, _, _, hm, _, _, _ => by omega
  | m + 1, l, k, hm, hak, hki, h => by
    unfold F_slices_symMergeCmpFunc_row__Of_2__Of_1_L4
    by_cases c : i < k
    · rw [if_pos (decide_eq_true (by omega : (i : Int) < (k : Int)))]
      have e1 : w64 ((k : Int) - 1) = ((k - 1 : Nat) : Int) := by rw [w64_id (by omega) (by omega)]; omega
      have hll := h.1
      obtain ⟨y, hy⟩ := gt (l := l) (k := k - 1) (by omega)
      obtain ⟨x, hx⟩ := gt (l := l) (k := k) (by omega)
      rw [e1, ix rfl hy, Option.bind_some, ix rfl hx, Option.bind_some, Option.bind_some, st y rfl (by omega), Option.bind_some]
      obtain ⟨z, hz⟩ := gt (l := l.set k y) (k := k - 1) (by rw [List.length_set]; omega)
      rw [ix rfl hz, Option.bind_some, st x rfl (by rw [List.length_set]; omega), Option.bind_some]
      have hg := sw_get hx hy (by omega : k ≠ k - 1)
      have hlen : ((l.set k y).set (k - 1) x).length = l.length := by simp
      generalize (l.set k y).set (k - 1) x = l1 at hg hlen
      refine mv_left i p hp l0 hl m l1 (k - 1) (by omega) (by omega) (by omega) ⟨by omega, fun q => ?_⟩
      rw [hg q]
      simp only [h.2]
      repeat' split
      all_goals first
        | (exfalso; omega)
        | exact congrArg (fun n => l0[n]?) (by omega)
    · rw [if_neg (by rw [decide_eq_true_eq]; omega)]
      have : k = i := by omega
      subst this
      exact ⟨l, h, rfl⟩
theorem find_right {N : Nat} {l : List TRow} {a b : Nat} {x : TRow} (hx : l[a]? = some x) (hb : b ≤ l.length) (hl : l.length ≤ 1000000000) (s : SR KR l (a + 1) b) : ∀ (m i j : Nat), j < m + i → a + 1 ≤ i → i ≤ j → j ≤ b →
    (∀ k y, a + 1 ≤ k → k < i → l[k]? = some y → KR y < KR x) → (∀ k y, j ≤ k → k < b → l[k]? = some y → KR x ≤ KR y) →
    ∃ q : Nat, a + 1 ≤ q ∧ q ≤ b ∧ (∀ k y, a + 1 ≤ k → k < q → l[k]? = some y → KR y < KR x) ∧ (∀ k y, q ≤ k → k < b → l[k]? = some y → KR x ≤ KR y) ∧
      F_slices_symMergeCmpFunc_row__Of_2__Of_1_L1 N l (a : Int) m (i : Int) (j : Int) = F_slices_symMergeCmpFunc_row__Of_2__Of_1_L2 (q : Int) N l (a : Int)
  | 0, _, _, hm, _, _, _, _, _ => by omega
  | m + 1, i, j, hm, hai, hij, hjb, h1, h2 => by
    unfold F_slices_symMergeCmpFunc_row__Of_2__Of_1_L1
    by_cases c : i < j
    · rw [if_pos (decide_eq_true (by omega : (i : Int) < (j : Int))), half (by omega) (by omega)]
      generalize hh : (i + j) / 2 = h
      obtain ⟨y, hy⟩ := gt (l := l) (k := h) (by omega)
      obtain ⟨cc, hcf, hlt⟩ := cf y x
      rw [ix rfl hy, Option.bind_some, ix rfl hx, Option.bind_some, hcf, Option.bind_some]
      by_cases d : cc < 0
      · rw [if_pos (decide_eq_true d), show w64 ((h : Int) + 1) = ((h + 1 : Nat) : Int) by rw [w64_id (by omega) (by omega)]; omega]
        refine find_right hx hb hl s m (h + 1) j (by omega) (by omega) (by omega) hjb (fun k z hk hk2 hz => ?_) h2
        have := s k h z y hk (by omega) (by omega) hz hy
        have := hlt.1 d
        omega
      · rw [if_neg (by rw [decide_eq_true_eq]; exact d)]
        refine find_right hx hb hl s m i h (by omega) hai (by omega) (by omega) h1 (fun k z hk hk2 hz => ?_)
        have := s h k y z (by omega) hk hk2 hy hz
        have : ¬ KR y < KR x := fun g => d (hlt.2 g)
        omega
    · rw [if_neg (by rw [decide_eq_true_eq]; omega)]
      have : i = j := by omega
      subst this
      exact ⟨i, hai, hjb, h1, h2, rfl⟩
theorem find_left {N : Nat} {l : List TRow} {a p : Nat} {x : TRow} (hx : l[p]? = some x) (hl : l.length ≤ 1000000000) (s : SR KR l a p) : ∀ (m i j : Nat), j < m + i → a ≤ i → i ≤ j → j ≤ p →
    (∀ k y, a ≤ k → k < i → l[k]? = some y → KR y ≤ KR x) → (∀ k y, j ≤ k → k < p → l[k]? = some y → KR x < KR y) →
    ∃ q : Nat, a ≤ q ∧ q ≤ p ∧ (∀ k y, a ≤ k → k < q → l[k]? = some y → KR y ≤ KR x) ∧ (∀ k y, q ≤ k → k < p → l[k]? = some y → KR x < KR y) ∧
      F_slices_symMergeCmpFunc_row__Of_2__Of_1_L3 N l (p : Int) m (i : Int) (j : Int) = F_slices_symMergeCmpFunc_row__Of_2__Of_1_L4 (q : Int) N l (p : Int)
  | 0, _, _, hm, _, _, _, _, _ => by omega
  | m + 1, i, j, hm, hai, hij, hjb, h1, h2 => by
    have hpl := (List.getElem?_eq_some_iff.1 hx).1
    unfold F_slices_symMergeCmpFunc_row__Of_2__Of_1_L3
    by_cases c : i < j
    · rw [if_pos (decide_eq_true (by omega : (i : Int) < (j : Int))), half (by omega) (by omega)]
      generalize hh : (i + j) / 2 = h
      obtain ⟨y, hy⟩ := gt (l := l) (k := h) (by omega)
      obtain ⟨cc, hcf, hlt⟩ := cf x y
      rw [ix rfl hx, Option.bind_some, ix rfl hy, Option.bind_some, hcf, Option.bind_some]
      by_cases d : cc < 0
      · rw [if_neg (by simp [d])]
        refine find_left hx hl s m i h (by omega) hai (by omega) (by omega) h1 (fun k z hk hk2 hz => ?_)
        have := s h k y z (by omega) hk hk2 hy hz
        have := hlt.1 d
        omega
      · rw [if_pos (by simp [d]), show w64 ((h : Int) + 1) = ((h + 1 : Nat) : Int) by rw [w64_id (by omega) (by omega)]; omega]
        refine find_left hx hl s m (h + 1) j (by omega) (by omega) (by omega) hjb (fun k z hk hk2 hz => ?_) h2
        have := s k h z y hk (by omega) (by omega) hz hy
        have : ¬ KR x < KR y := fun g => d (hlt.2 g)
        omega
    · rw [if_neg (by rw [decide_eq_true_eq]; omega)]
      have : i = j := by omega
      subst this
      exact ⟨i, hai, hjb, h1, h2, rfl⟩
/-- Where two stretches are parted. -/
theorem find_mid {N : Nat} {l : List TRow} {a p b mid : Nat} (rec : List TRow → Int → Int → Int → Option (List TRow)) (hap : a < p) (hpb : p < b) (hb : b ≤ l.length) (hl : l.length ≤ 1000000000) (hmid : mid = (a + b) / 2) (s1 : SR KR l a p) (s2 : SR KR l p b)
    (lo hi : Nat) (hlo : lo = max a (mid + p - b)) (hhi : hi = min p mid) : ∀ (m i j : Nat), j < m + i → lo ≤ i → i ≤ j → j ≤ hi →
    (∀ x y, lo < i → l[i - 1]? = some x → l[mid + p - i]? = some y → KR x ≤ KR y) → (∀ x y, j < hi → l[j]? = some x → l[mid + p - j - 1]? = some y → KR y < KR x) →
    ∃ q : Nat, lo ≤ q ∧ q ≤ hi ∧ (∀ x y, lo < q → l[q - 1]? = some x → l[mid + p - q]? = some y → KR x ≤ KR y) ∧ (∀ x y, q < hi → l[q]? = some x → l[mid + p - q - 1]? = some y → KR y < KR x) ∧
      F_slices_symMergeCmpFunc_row__Of_2__Of_1_L5 N l (a : Int) (p : Int) (b : Int) rec (mid : Int) m (i : Int) (j : Int) = F_slices_symMergeCmpFunc_row__Of_2__Of_1_L5 N l (a : Int) (p : Int) (b : Int) rec (mid : Int) 1 (q : Int) (q : Int)
  | 0, _, _, hm, _, _, _, _, _ => by omega
  | m + 1, i, j, hm, hai, hij, hjb, h1, h2 => by
    by_cases c : i < j
    · unfold F_slices_symMergeCmpFunc_row__Of_2__Of_1_L5
      rw [if_pos (decide_eq_true (by omega : (i : Int) < (j : Int))), half (by omega) (by omega)]
      generalize hh : (i + j) / 2 = h
      obtain ⟨y, hy⟩ := gt (l := l) (k := mid + p - 1 - h) (by omega)
      obtain ⟨x, hx⟩ := gt (l := l) (k := h) (by omega)
      obtain ⟨cc, hcf, hlt⟩ := cf y x
      have e : w64 ((w64 ((w64 ((mid : Int) + (p : Int))) - 1)) - (h : Int)) = ((mid + p - 1 - h : Nat) : Int) := by
        rw [w64_id (x := (mid : Int) + (p : Int)) (by omega) (by omega), w64_id (x := (mid : Int) + (p : Int) - 1) (by omega) (by omega), w64_id (by omega) (by omega)]; omega
      rw [e, ix rfl hy, Option.bind_some, ix rfl hx, Option.bind_some, hcf, Option.bind_some]
      by_cases d : cc < 0
      · rw [if_neg (by simp [d])]
        refine find_mid rec hap hpb hb hl hmid s1 s2 lo hi hlo hhi m i h (by omega) hai (by omega) (by omega) h1 (fun u v hk hu hv => ?_)
        rw [show mid + p - h - 1 = mid + p - 1 - h by omega, hy] at hv
        rw [hx] at hu
        cases hu; cases hv
        exact hlt.1 d
      · rw [if_pos (by simp [d]), show w64 ((h : Int) + 1) = ((h + 1 : Nat) : Int) by rw [w64_id (by omega) (by omega)]; omega]
        refine find_mid rec hap hpb hb hl hmid s1 s2 lo hi hlo hhi m (h + 1) j (by omega) (by omega) (by omega) hjb (fun u v hk hu hv => ?_) h2
        rw [show mid + p - (h + 1) = mid + p - 1 - h by omega, hy] at hv
        rw [show h + 1 - 1 = h by omega, hx] at hu
        cases hu; cases hv
        have : ¬ KR y < KR x := fun g => d (hlt.2 g)
        omega
    · have : i = j := by omega
      subst this
      refine ⟨i, hai, hjb, h1, h2, ?_⟩
      unfold F_slices_symMergeCmpFunc_row__Of_2__Of_1_L5
      simp only [show ¬ ((i : Int) < (i : Int)) by omega, decide_false, Bool.false_eq_true, if_false]
end Go.Proofs.YtcjeebkoafonpaaGreatDoor.ST
namespace Go.Proofs.YtcjeebkoafonpaaGreatDoor.ST
theorem dv_next {s a c : Nat} (ha : s ∣ a) (hc : s ∣ c) (h : a < c) : a + s ≤ c := by
  obtain ⟨u, rfl⟩ := ha
  obtain ⟨v, rfl⟩ := hc
  have : u < v := Nat.lt_of_mul_lt_mul_left h
  have := Nat.mul_le_mul_left s this
  rw [Nat.mul_succ] at this
  omega
theorem sym_ok : ∀ (d N : Nat) (l : List TRow) (a p b : Nat), 10000000000 + d ≤ N → b ≤ a + d → a < p → p < b → b ≤ l.length → l.length ≤ 1000000000 → SR KR l a p → SR KR l p b →
    ∃ l', Mg KR l l' a b ∧ SR KR l' a b ∧ F_slices_symMergeCmpFunc_row__Of_2__Of_1 N l (a : Int) (p : Int) (b : Int) = some l'
  | 0, _, _, _, _, _, _, hd, h1, h2, _, _, _, _ => by omega
  | d + 1, 0, _, _, _, _, hN, _, _, _, _, _, _, _ => by omega
  | d + 1, N + 1, l, a, p, b, hN, hd, hap, hpb, hb, hl, s1, s2 => by
    unfold F_slices_symMergeCmpFunc_row__Of_2__Of_1 F_slices_symMergeCmpFunc_row__Of_2__Of_1_b
    rw [w64_id (x := (p : Int) - (a : Int)) (by omega) (by omega)]
    by_cases c1 : p = a + 1
    · subst c1
      rw [if_pos (by simp; omega)]
      obtain ⟨x, hx⟩ := gt (l := l) (k := a) (by omega)
      obtain ⟨q, hq1, hq2, hq3, hq4, hq5⟩ := find_right (N := N) hx hb hl s2 N (a + 1) b (by omega) (Nat.le_refl _) (by omega) (Nat.le_refl _) (fun k y h h2 => by omega) (fun k y h h2 => by omega)
      obtain ⟨l', hr, hf⟩ := mv_right a q (by omega) l (by omega) N l a (by omega) (Nat.le_refl _) (by omega) ⟨rfl, fun k => by
        repeat' split
        all_goals first
          | (exfalso; omega)
          | exact congrArg (fun n => l[n]?) (by omega)
          | rfl⟩
      rw [hq5, hf]
      have hm := (hr.mg (K := KR) (by omega) hq1 (by omega) fun i j u v h1 h2 h3 h4 hu hv => by
        have : i = a := by omega
        subst this
        rw [hx] at hu; cases hu
        exact hq3 j v h3 h4 hv).mono (Nat.le_refl a) hq2
      refine ⟨l', hm, ?_, rfl⟩
      intro i j u v h1 h2 h3 hu hv
      rw [hr.2 i] at hu
      rw [hr.2 j] at hv
      by_cases ci : i + 1 < q
      · rw [if_pos ⟨h1, by omega⟩, show i + (a + 1 - a) = i + 1 by omega] at hu
        by_cases cj : j + 1 < q
        · rw [if_pos ⟨by omega, by omega⟩, show j + (a + 1 - a) = j + 1 by omega] at hv
          exact s2 _ _ u v (by omega) (by omega) (by omega) hu hv
        · rw [if_neg (by omega)] at hv
          have k1 := hq3 _ u (by omega) ci hu
          by_cases cj2 : j < q
          · rw [if_pos ⟨by omega, cj2⟩, show j - (q - (a + 1)) = a by omega, hx] at hv
            cases hv; omega
          · rw [if_neg (by omega)] at hv
            have := hq4 j v (by omega) h3 hv
            omega
      · rw [if_neg (by omega)] at hu
        rw [if_neg (by omega)] at hv
        by_cases ci2 : i < q
        · rw [if_pos ⟨by omega, ci2⟩, show i - (q - (a + 1)) = a by omega, hx] at hu
          cases hu
          by_cases cj2 : j < q
          · rw [if_pos ⟨by omega, cj2⟩, show j - (q - (a + 1)) = a by omega, hx] at hv
            cases hv; exact Int.le_refl _
          · rw [if_neg (by omega)] at hv
            exact hq4 j v (by omega) h3 hv
        · rw [if_neg (by omega)] at hu
          rw [if_neg (by omega)] at hv
          exact s2 i j u v (by omega) h2 h3 hu hv
    · rw [if_neg (by simp; omega), w64_id (x := (b : Int) - (p : Int)) (by omega) (by omega)]
      by_cases c2 : b = p + 1
      · subst c2
        rw [if_pos (by simp; omega)]
        obtain ⟨x, hx⟩ := gt (l := l) (k := p) (by omega)
        obtain ⟨q, hq1, hq2, hq3, hq4, hq5⟩ := find_left (N := N) hx hl s1 N a p (by omega) (Nat.le_refl _) (by omega) (Nat.le_refl _) (fun k y h h2 => by omega) (fun k y h h2 => by omega)
        obtain ⟨l', hr, hf⟩ := mv_left q p (by omega) l (by omega) N l p (by omega) hq2 (Nat.le_refl _) ⟨rfl, fun k => by
          repeat' split
          all_goals first
            | (exfalso; omega)
            | exact congrArg (fun n => l[n]?) (by omega)
            | rfl⟩
        rw [hq5, hf]
        have hm := (hr.mg (K := KR) hq2 (by omega) (by omega) fun i j u v h1 h2 h3 h4 hu hv => by
          have : j = p := by omega
          subst this
          rw [hx] at hv; cases hv
          exact hq4 i u h1 h2 hu).mono hq1 (Nat.le_refl _)
        refine ⟨l', hm, ?_, rfl⟩
        intro i j u v h1 h2 h3 hu hv
        rw [hr.2 i] at hu
        rw [hr.2 j] at hv
        by_cases cj : j < q
        · rw [if_neg (by omega), if_neg (by omega)] at hu hv
          exact s1 i j u v h1 h2 (by omega) hu hv
        · by_cases cj2 : j = q
          · rw [if_pos ⟨by omega, by omega⟩, show j + (p - q) = p by omega, hx] at hv
            cases hv
            by_cases ci : i < q
            · rw [if_neg (by omega), if_neg (by omega)] at hu
              exact hq3 i u h1 ci hu
            · rw [if_pos ⟨by omega, by omega⟩, show i + (p - q) = p by omega, hx] at hu
              cases hu; exact Int.le_refl _
          · rw [if_neg (by omega), if_pos ⟨by omega, by omega⟩] at hv
            by_cases ci : i < q
            · rw [if_neg (by omega), if_neg (by omega)] at hu
              exact s1 i _ u v h1 (by omega) (by omega) hu hv
            · by_cases ci2 : i = q
              · rw [if_pos ⟨by omega, by omega⟩, show i + (p - q) = p by omega, hx] at hu
                cases hu
                have := hq4 _ v (by omega) (by omega) hv
                omega
              · rw [if_neg (by omega), if_pos ⟨by omega, by omega⟩] at hu
                exact s1 _ _ u v (by omega) (by omega) (by omega) hu hv
      · rw [if_neg (by simp; omega), half (by omega) (by omega)]
        generalize hmid : (a + b) / 2 = mid
        have key : ∀ lo hi : Nat, lo = max a (mid + p - b) → hi = min p mid → lo ≤ hi → ∃ l', Mg KR l l' a b ∧ SR KR l' a b ∧ F_slices_symMergeCmpFunc_row__Of_2__Of_1_J8 N l (a : Int) (p : Int) (b : Int) (F_slices_symMergeCmpFunc_row__Of_2__Of_1 N) (mid : Int) (lo : Int) (hi : Int) = some l' := by
          intro lo hi hlo hhi hlh
          unfold F_slices_symMergeCmpFunc_row__Of_2__Of_1_J8
          obtain ⟨q, hq1, hq2, hq3, hq4, hq5⟩ := find_mid (N := N) (F_slices_symMergeCmpFunc_row__Of_2__Of_1 N) hap hpb hb hl hmid.symm s1 s2 lo hi hlo hhi N lo hi (by omega) (Nat.le_refl _) hlh (Nat.le_refl _) (fun x y h => by omega) (fun x y h => by omega)
          rw [hq5]
          unfold F_slices_symMergeCmpFunc_row__Of_2__Of_1_L5
          have e : w64 ((w64 ((mid : Int) + (p : Int))) - (q : Int)) = ((mid + p - q : Nat) : Int) := by
            rw [w64_id (x := (mid : Int) + (p : Int)) (by omega) (by omega), w64_id (by omega) (by omega)]; omega
          rw [if_neg (by rw [decide_eq_true_eq]; omega), e]
          have fin : ∀ l1, Rot l l1 q p (mid + p - q) → ∃ l', Mg KR l l' a b ∧ SR KR l' a b ∧ F_slices_symMergeCmpFunc_row__Of_2__Of_1_J7 (a : Int) (p : Int) (b : Int) (F_slices_symMergeCmpFunc_row__Of_2__Of_1 N) (mid : Int) (q : Int) l1 = some l' := by
            intro l1 hr
            obtain ⟨m1, r1, r2, r3, r4, r5⟩ := parted (K := KR) hap hpb hb hmid.symm s1 s2 (by omega) (by omega) (by omega) (by omega)
              (fun x y h h2 hx hy => hq3 x y (by omega) hx hy) (fun x y h h2 hx hy => hq4 x y (by omega) hx hy) hr
            have hl1 := m1.len
            have second : ∀ l2, Mg KR l1 l2 a mid → SR KR l2 a mid → ∃ l', Mg KR l l' a b ∧ SR KR l' a b ∧ F_slices_symMergeCmpFunc_row__Of_2__Of_1_J6 (p : Int) (b : Int) (F_slices_symMergeCmpFunc_row__Of_2__Of_1 N) (mid : Int) (q : Int) l2 = some l' := by
              intro l2 m2 t2
              have hl2 := m2.len
              unfold F_slices_symMergeCmpFunc_row__Of_2__Of_1_J6
              rw [e]
              have done : ∀ l3, Mg KR l2 l3 mid b → SR KR l3 mid b → Mg KR l l3 a b ∧ SR KR l3 a b := fun l3 m3 t3 =>
                ⟨(m1.trans (m2.mono (Nat.le_refl _) (by omega))).trans (m3.mono (by omega) (Nat.le_refl _)),
                  (SR.of_out m3 t2 (.inl (Nat.le_refl _))).join t3 (between m2 m3 r5)⟩
              have q3 := SR.of_out m2 r3 (.inr (Nat.le_refl _))
              have q4 := SR.of_out m2 r4 (.inr (by omega))
              by_cases c : mid < mid + p - q ∧ mid + p - q < b
              · rw [if_pos (by simp only [Bool.and_eq_true, decide_eq_true_eq]; omega)]
                obtain ⟨l3, m3, t3, h3⟩ := sym_ok d N l2 mid (mid + p - q) b (by omega) (by omega) c.1 c.2 (by omega) (by omega) q3 q4
                rw [h3, Option.bind_some]
                exact ⟨l3, (done l3 m3 t3).1, (done l3 m3 t3).2, rfl⟩
              · rw [if_neg (by simp only [Bool.and_eq_true, decide_eq_true_eq]; omega)]
                have t3 : SR KR l2 mid b := by
                  by_cases c' : mid < mid + p - q
                  · have : mid + p - q = b := by omega
                    rw [this] at q3; exact q3
                  · have : mid + p - q = mid := by omega
                    rw [this] at q4; exact q4
                exact ⟨l2, (done l2 .rfl t3).1, (done l2 .rfl t3).2, rfl⟩
            unfold F_slices_symMergeCmpFunc_row__Of_2__Of_1_J7
            by_cases c : a < q ∧ q < mid
            · rw [if_pos (by simp only [Bool.and_eq_true, decide_eq_true_eq]; omega)]
              obtain ⟨l2, m2, t2, h2⟩ := sym_ok d N l1 a q mid (by omega) (by omega) c.1 c.2 (by omega) (by omega) r1 r2
              rw [h2, Option.bind_some]
              exact second l2 m2 t2
            · rw [if_neg (by simp only [Bool.and_eq_true, decide_eq_true_eq]; omega)]
              refine second l1 .rfl ?_
              by_cases c' : a < q
              · have : q = mid := by omega
                rw [← this]; exact r1
              · have : q = a := by omega
                rw [← this]; exact r2
          by_cases c : q < p ∧ p < mid + p - q
          · rw [if_pos (by simp only [Bool.and_eq_true, decide_eq_true_eq]; omega)]
            obtain ⟨l1, hr, hf⟩ := rot_ok (N := N) (by omega) c.1 c.2 (l := l) (by omega) hl
            rw [hf, Option.bind_some]
            exact fin l1 hr
          · rw [if_neg (by simp only [Bool.and_eq_true, decide_eq_true_eq]; omega)]
            refine fin l ⟨rfl, fun k => ?_⟩
            repeat' split
            all_goals first
              | (exfalso; omega)
              | exact congrArg (fun n => l[n]?) (by omega)
              | rfl
        by_cases c3 : mid < p
        · rw [if_pos (decide_eq_true (by omega : (mid : Int) < (p : Int)))]
          have e : w64 ((w64 ((mid : Int) + (p : Int))) - (b : Int)) = ((mid + p - b : Nat) : Int) := by
            rw [w64_id (x := (mid : Int) + (p : Int)) (by omega) (by omega), w64_id (by omega) (by omega)]; omega
          rw [e]
          exact key (mid + p - b) mid (by omega) (by omega) (by omega)
        · rw [if_neg (by rw [decide_eq_true_eq]; omega)]
          exact key a p (by omega) (by omega) (by omega)
end Go.Proofs.YtcjeebkoafonpaaGreatDoor.ST
namespace Go.Proofs.YtcjeebkoafonpaaGreatDoor.ST
/-- Each block of s rows is sorted. -/
def Blk (l : List TRow) (s n : Nat) : Prop := ∀ c, s ∣ c → SR KR l c (min (c + s) n)
theorem blocks {N : Nat} (hN : 20000000000 ≤ N) (l0 : List TRow) (hl : l0.length ≤ 1000000000) (s : Nat) (hs : 0 < s) (hsl : s ≤ 1000000000) (k : List TRow → Int → Option (List TRow)) : ∀ (m : Nat) (l : List TRow) (a : Nat), l0.length < m + a → 2 * s ∣ a → a ≤ l0.length → Mg KR l0 l 0 l0.length →
    (∀ c, 2 * s ∣ c → c < a → SR KR l c (c + 2 * s)) → (∀ c, s ∣ c → a ≤ c → SR KR l c (min (c + s) l0.length)) →
    ∃ l', Mg KR l0 l' 0 l0.length ∧ Blk l' (2 * s) l0.length ∧ F_slices_stableCmpFunc_row__Of_2__Of_1_L7 N (l0.length : Int) (s : Int) k m l (a : Int) ((a + 2 * s : Nat) : Int) = k l' ((2 * s : Nat) : Int)
  | 0, _, _, hm, _, _, _, _, _ => by omega
  | m + 1, l, a, hm, hd, hal, h, h1, h2 => by
    have hll := h.len
    have hsa : s ∣ a := Nat.dvd_trans ⟨2, by omega⟩ hd
    unfold F_slices_stableCmpFunc_row__Of_2__Of_1_L7
    have e1 : w64 ((a : Int) + (s : Int)) = ((a + s : Nat) : Int) := by rw [w64_id (by omega) (by omega)]; omega
    rw [e1]
    by_cases c : a + 2 * s ≤ l0.length
    · rw [if_pos (decide_eq_true (by omega : ((a + 2 * s : Nat) : Int) ≤ (l0.length : Int)))]
      have t1 := h2 a hsa (Nat.le_refl _)
      have t2 := h2 (a + s) (Nat.dvd_add hsa (Nat.dvd_refl _)) (by omega)
      rw [Nat.min_eq_left (by omega)] at t1 t2
      obtain ⟨l1, m1, u1, f1⟩ := sym_ok (2 * s) N l a (a + s) (a + 2 * s) (by omega) (by omega) (by omega) (by omega) (by omega) (by omega) t1 (by rw [show a + 2 * s = a + s + s by omega]; exact t2)
      rw [f1, Option.bind_some]
      have e2 : w64 (((a + 2 * s : Nat) : Int) + w64 (2 * (s : Int))) = ((a + 2 * s + 2 * s : Nat) : Int) := by rw [w64_id (x := 2 * (s : Int)) (by omega) (by omega), w64_id (by omega) (by omega)]; omega
      rw [e2]
      refine blocks hN l0 hl s hs hsl k m l1 (a + 2 * s) (by omega) (Nat.dvd_add hd (Nat.dvd_refl _)) c (h.trans (m1.mono (Nat.zero_le _) c)) (fun c' hc hca => ?_) (fun c' hc hca => ?_)
      · by_cases hlt : c' < a
        · have := dv_next hc hd hlt
          exact SR.of_out m1 (h1 c' hc hlt) (.inl (by omega))
        · by_cases heq : c' = a
          · subst heq; exact u1
          · have := dv_next hd hc (by omega)
            omega
      · exact SR.of_out m1 (h2 c' hc (by omega)) (.inr hca)
    · rw [if_neg (by rw [decide_eq_true_eq]; omega)]
      have fin : ∀ l', Mg KR l l' a l0.length → SR KR l' a l0.length → Blk l' (2 * s) l0.length := fun l' m1 u1 c' hc => by
        by_cases hlt : c' < a
        · have := dv_next hc hd hlt
          rw [Nat.min_eq_left (by omega)]
          exact SR.of_out m1 (h1 c' hc hlt) (.inl (by omega))
        · by_cases heq : c' = a
          · subst heq; rw [Nat.min_eq_right (by omega)]; exact u1
          · have := dv_next hd hc (by omega)
            exact SR.one (by omega)
      have e3 : w64 ((s : Int) * 2) = ((2 * s : Nat) : Int) := by rw [w64_id (by omega) (by omega)]; omega
      by_cases d : a + s < l0.length
      · rw [if_pos (decide_eq_true (by omega : ((a + s : Nat) : Int) < (l0.length : Int)))]
        have t1 := h2 a hsa (Nat.le_refl _)
        have t2 := h2 (a + s) (Nat.dvd_add hsa (Nat.dvd_refl _)) (by omega)
        rw [Nat.min_eq_left (by omega)] at t1
        rw [Nat.min_eq_right (by omega)] at t2
        obtain ⟨l1, m1, u1, f1⟩ := sym_ok (2 * s) N l a (a + s) l0.length (by omega) (by omega) (by omega) d (by omega) (by omega) t1 t2
        rw [f1, Option.bind_some]
        unfold F_slices_stableCmpFunc_row__Of_2__Of_1_J8
        rw [e3]
        exact ⟨l1, h.trans (m1.mono (Nat.zero_le _) (Nat.le_refl _)), fin l1 m1 u1, rfl⟩
      · rw [if_neg (by rw [decide_eq_true_eq]; omega)]
        unfold F_slices_stableCmpFunc_row__Of_2__Of_1_J8
        rw [e3]
        refine ⟨l, h, fin l .rfl ?_, rfl⟩
        have t1 := h2 a hsa (Nat.le_refl _)
        rw [Nat.min_eq_right (by omega)] at t1
        exact t1
theorem doubles {N : Nat} (hN : 20000000000 ≤ N) (l0 : List TRow) (hl : l0.length ≤ 1000000000) : ∀ (m : Nat) (l : List TRow) (s : Nat), 0 < m ∧ l0.length < m + s → 0 < s → s ≤ 2000000000 → Mg KR l0 l 0 l0.length → Blk l s l0.length →
    ∃ l', Mg KR l0 l' 0 l0.length ∧ SR KR l' 0 l0.length ∧ F_slices_stableCmpFunc_row__Of_2__Of_1_L6 N (l0.length : Int) m l (s : Int) = some l'
  | 0, l, s, hm, hs, hs2, h, hb => absurd hm.1 (Nat.lt_irrefl 0)
  | m + 1, l, s, hm, hs, hs2, h, hb => by
    unfold F_slices_stableCmpFunc_row__Of_2__Of_1_L6
    by_cases c : s < l0.length
    · rw [if_pos (decide_eq_true (by omega : (s : Int) < (l0.length : Int)))]
      have e : w64 (2 * (s : Int)) = ((0 + 2 * s : Nat) : Int) := by rw [w64_id (by omega) (by omega)]; omega
      obtain ⟨l1, m1, b1, f1⟩ := blocks hN l0 hl s hs (by omega) (F_slices_stableCmpFunc_row__Of_2__Of_1_L6 N (l0.length : Int) m) N l 0 (by omega) (Nat.dvd_zero _) (Nat.zero_le _) h (fun c _ hc => by omega) (fun c hc _ => hb c hc)
      rw [e]
      rw [show (0 : Int) = ((0 : Nat) : Int) from rfl, f1]
      exact doubles hN l0 hl m l1 (2 * s) (by omega) (by omega) (by omega) m1 b1
    · rw [if_neg (by rw [decide_eq_true_eq]; omega)]
      have := hb 0 (Nat.dvd_zero _)
      rw [Nat.zero_add, Nat.min_eq_right (by omega)] at this
      exact ⟨l, h, this, rfl⟩
theorem firsts {N : Nat} (hN : 20000000000 ≤ N) (l0 : List TRow) (hl : l0.length ≤ 1000000000) : ∀ (m : Nat) (l : List TRow) (a : Nat), l0.length < m + a → 20 ∣ a → a ≤ l0.length → Mg KR l0 l 0 l0.length → (∀ c, 20 ∣ c → c < a → SR KR l c (c + 20)) →
    ∃ l', Mg KR l0 l' 0 l0.length ∧ SR KR l' 0 l0.length ∧ F_slices_stableCmpFunc_row__Of_2__Of_1_L1 N (l0.length : Int) m l (a : Int) ((a + 20 : Nat) : Int) = some l'
  | 0, _, _, hm, _, _, _, _ => by omega
  | m + 1, l, a, hm, hd, hal, h, h1 => by
    have hll := h.len
    unfold F_slices_stableCmpFunc_row__Of_2__Of_1_L1
    by_cases c : a + 20 ≤ l0.length
    · rw [if_pos (decide_eq_true (by omega : ((a + 20 : Nat) : Int) ≤ (l0.length : Int)))]
      obtain ⟨l1, m1, u1, f1⟩ := ins_ok (N := N) (a := a) (b := a + 20) (by omega) (by omega) (l := l) (by omega) (by omega)
      rw [f1, Option.bind_some, show w64 (((a + 20 : Nat) : Int) + 20) = ((a + 20 + 20 : Nat) : Int) by rw [w64_id (by omega) (by omega)]; omega]
      refine firsts hN l0 hl m l1 (a + 20) (by omega) (Nat.dvd_add hd (Nat.dvd_refl _)) c (h.trans (m1.mono (Nat.zero_le _) c)) (fun c' hc hca => ?_)
      by_cases hlt : c' < a
      · have := dv_next hc hd hlt
        exact SR.of_out m1 (h1 c' hc hlt) (.inl (by omega))
      · by_cases heq : c' = a
        · subst heq; exact u1
        · have := dv_next hd hc (by omega)
          omega
    · rw [if_neg (by rw [decide_eq_true_eq]; omega)]
      obtain ⟨l1, m1, u1, f1⟩ := ins_ok (N := N) (a := a) (b := l0.length) (by omega) (by omega) (l := l) (by omega) hal
      rw [f1, Option.bind_some]
      refine doubles hN l0 hl N l1 20 (by omega) (by omega) (by omega) (h.trans (m1.mono (Nat.zero_le _) (Nat.le_refl _))) (fun c' hc => ?_)
      by_cases hlt : c' < a
      · have := dv_next hc hd hlt
        rw [Nat.min_eq_left (by omega)]
        exact SR.of_out m1 (h1 c' hc hlt) (.inl (by omega))
      · by_cases heq : c' = a
        · subst heq; rw [Nat.min_eq_right (by omega)]; exact u1
        · have := dv_next hd hc (by omega)
          exact SR.one (by omega)
/-- The stable sort gives the one list that is sorted and keeps the order of rows of one size. -/
theorem stable_ok {N : Nat} (hN : 20000000000 ≤ N) {l : List TRow} (hl : l.length ≤ 1000000000) :
    ∃ l', F_slices_SortStableFunc_row__Of_2__Of_1 N l = some l' ∧ l'.Pairwise (fun x y => KR x ≤ KR y) ∧ ∀ v : Int, l'.filter (fun x => decide (KR x = v)) = l.filter (fun x => decide (KR x = v)) := by
  obtain ⟨l', m, s, f⟩ := firsts hN l hl N l 0 (by omega) (Nat.dvd_zero _) (Nat.zero_le _) .rfl (fun c _ h => by omega)
  unfold F_slices_SortStableFunc_row__Of_2__Of_1 F_slices_stableCmpFunc_row__Of_2__Of_1
  refine ⟨l', ?_, SR.pairwise (by rw [m.len]; exact s), m.eqv⟩
  rw [show (0 : Int) = ((0 : Nat) : Int) from rfl, show (20 : Int) = ((0 + 20 : Nat) : Int) from rfl, f, Option.bind_some]
end Go.Proofs.YtcjeebkoafonpaaGreatDoor.ST
namespace Go.Proofs.YtcjeebkoafonpaaGreatDoor
theorem up_mid2 {α : Type} (pre : List α) (x : α) (h : pre.length < 9223372036854775807) : w64 ((pre.length : Int) + 1) = ((pre ++ [x]).length : Int) := by
  rw [w64_eq (by omega) (by omega)]; simp
/-! Names. -/
def fitP (n u : Int) : Bool := decide (-(1000000 / u) ≤ n) && decide (n ≤ 1000000 / u)
theorem isAt_ok {n u : Int} (hu : 1 ≤ u ∧ u ≤ 1000) : F_plot_isAt n u = some (fitP n u) := by
  have h0 : 0 ≤ 1000000 / u := Int.ediv_nonneg (by omega) (by omega)
  have h1 : 1000000 / u ≤ 1000000 := Int.ediv_le_self _ (by omega)
  have e1 : (1000000 : Int).tdiv u = 1000000 / u := Int.tdiv_eq_ediv_of_nonneg (by omega)
  have e2 : (-1000000 : Int).tdiv u = -(1000000 / u) := by rw [show (-1000000 : Int) = -(1000000) from rfl, Int.neg_tdiv, e1]
  unfold F_plot_isAt dv
  rw [if_neg (by omega), if_neg (by omega), Option.bind_some, Option.bind_some, e1, e2, w64_id (by omega) (by omega), w64_id (by omega) (by omega)]
  rfl
def fitPt (p : TPoint) (u : Int) : Bool := fitP p.X u && fitP p.Y u
theorem isPoint_ok {p : TPoint} {u : Int} (hu : 1 ≤ u ∧ u ≤ 1000) : F_plot_isPoint p u = some (fitPt p u) := by
  unfold F_plot_isPoint fitPt
  rw [isAt_ok hu, Option.bind_some]
  cases fitP p.X u
  · rfl
  · rw [if_pos rfl, isAt_ok hu]; simp
end Go.Proofs.YtcjeebkoafonpaaGreatDoor
namespace Go.Proofs.YtcjeebkoafonpaaGreatDoor
/-! Rows of corners. -/
def rowL (l : List TPoint) : List TPoint → Nat → Bool
  | [], _ => true
  | x :: r, i => if ((x.X == (l.getD ((i + 1) % l.length) ⟨0, 0⟩).X) == (x.Y == (l.getD ((i + 1) % l.length) ⟨0, 0⟩).Y)) then false else rowL l r (i + 1)
theorem next_ok {l : List TPoint} {i : Nat} (h : i < l.length) (hl : l.length ≤ 9223372036854775807) : ((md (w64 ((i : Int) + 1)) (l.length : Int)).bind fun q => idx l q) = some (l.getD ((i + 1) % l.length) ⟨0, 0⟩) := by
  have hm : (i + 1) % l.length < l.length := Nat.mod_lt _ (by omega)
  unfold md
  rw [w64_eq (by omega) (by omega), if_neg (by omega), Option.bind_some, Int.tmod_eq_emod_of_nonneg (by omega)]
  rw [show ((i : Int) + 1) % (l.length : Int) = (((i + 1) % l.length : Nat) : Int) by simp]
  rw [idx_nat hm]
  simp [List.getD, hm]
theorem next_ok2 {β : Type} {l : List TPoint} {i : Nat} (h : i < l.length) (hl : l.length ≤ 9223372036854775807) (k : TPoint → Option β) :
    ((md (w64 ((i : Int) + 1)) (l.length : Int)).bind fun q => (idx l q).bind k) = k (l.getD ((i + 1) % l.length) ⟨0, 0⟩) := by
  have := next_ok h hl
  cases hq : md (w64 ((i : Int) + 1)) (l.length : Int) with
  | none => rw [hq] at this; simp at this
  | some q =>
    rw [hq] at this
    simp only [Option.bind_some] at this ⊢
    rw [this, Option.bind_some]
theorem IsRow_loop {l : List TPoint} (hl : l.length ≤ 9223372036854775807) : ∀ (suf : List TPoint) (i : Nat), i + suf.length = l.length → F_shape_IsRow_L1 l suf i = some (rowL l suf i)
  | [], _, _ => rfl
  | x :: r, i, h => by
    simp at h
    rw [F_shape_IsRow_L1, rowL, next_ok2 (by omega) hl, IsRow_loop hl r (i + 1) (by omega)]
    split <;> rfl
theorem IsRow_ok {l : List TPoint} (hl : l.length ≤ 9223372036854775807) : F_shape_IsRow l = some (if (l.length : Int) < 4 then false else rowL l l 0) := by
  unfold F_shape_IsRow
  rw [IsRow_loop hl l 0 (by omega)]
  split
  · rename_i h; rw [if_pos (by simpa using h)]
  · rename_i h; rw [if_neg (by simpa using h)]
theorem contains_ok {p : TPlot} {l : List TPoint} (hu : 1 ≤ p.Unit ∧ p.Unit ≤ 1000) : F_slices_ContainsFunc_Point l (fun z0 => F_plot_checkStep_1 z0 p) = some (l.any (fun q => !fitPt q p.Unit)) := by
  have key : ∀ (l : List TPoint) (i : Nat), F_slices_IndexFunc_Point_L1 (fun z0 => F_plot_checkStep_1 z0 p) l i = some (ixOf (fun q => !fitPt q p.Unit) l (i : Int)) := by
    intro l
    induction l with
    | nil => intro i; rfl
    | cons x r ih =>
      intro i
      rw [F_slices_IndexFunc_Point_L1, ixOf, ih]
      have e : F_plot_checkStep_1 x p = some (!fitPt x p.Unit) := by
        unfold F_plot_checkStep_1
        rw [isPoint_ok hu]; rfl
      rw [e, Option.bind_some]
      split <;> rfl
  unfold F_slices_ContainsFunc_Point F_slices_IndexFunc_Point
  rw [key, Option.bind_some]
  exact congrArg some (ixOf_any _ l 0 (by omega))
/-! The error of a step. -/
end Go.Proofs.YtcjeebkoafonpaaGreatDoor
namespace Go.Proofs.YtcjeebkoafonpaaGreatDoor
/-- What the corners of a row tell, as it is counted. -/
def arW (l : List TPoint) : List TPoint → Nat → Int → Int
  | [], _, x => x
  | p :: t, i, x => arW l t (i + 1) (w64 (x + w64 (w64 (p.X * (l.getD ((i + 1) % l.length) ⟨0, 0⟩).Y) - w64 ((l.getD ((i + 1) % l.length) ⟨0, 0⟩).X * p.Y))))
def rowOf (l : List TPoint) : TRow := ⟨l, arW l l 0 0⟩
def KP (l : List TPoint) : Int := ST.KR (rowOf l)
def stepA (l : List TPoint) : TPlotStep := ⟨7, ⟨#[]⟩, ⟨0, 0⟩, l, 0, 0, []⟩
def stepK (k : Int) : TPlotStep := ⟨k, ⟨#[]⟩, ⟨0, 0⟩, [], 0, 0, []⟩
def kindR (l : List TPoint) : Int := if arW l l 0 0 < 0 then 2 else 1
def ofSteps : List (List TPoint) → Int → List TPlotStep
  | [], _ => []
  | l :: t, d => if kindR l = d then stepA l :: ofSteps t d else stepK (kindR l) :: stepA l :: ofSteps t (kindR l)
theorem ofSteps_len : ∀ (l : List (List TPoint)) (d : Int), (ofSteps l d).length ≤ 2 * l.length
  | [], _ => by simp [ofSteps]
  | x :: t, d => by
    unfold ofSteps
    split
    · have := ofSteps_len t d
      simp only [List.length_cons]; omega
    · have := ofSteps_len t (kindR x)
      simp only [List.length_cons]; omega
theorem ofL11_ok {l161 : List TRow} (k : List TRow → Option (TPlot × Int)) {l : List TPoint} (hl : l.length ≤ 9223372036854775807) (hc : l161.length < 1000000000) : ∀ (suf : List TPoint) (i : Nat) (x : Int), i + suf.length = l.length →
    F_plot_Of_L11 l161 k l suf i x = k (l161 ++ [⟨l, arW l suf i x⟩])
  | [], i, x, _ => by
    unfold F_plot_Of_L11 arW
    rw [apd_ok (by simp; omega), Option.bind_some]
  | p :: t, i, x, h => by
    simp only [List.length_cons] at h
    unfold F_plot_Of_L11 arW
    rw [next_ok2 (by omega) hl, ofL11_ok k hl hc t (i + 1) _ (by omega)]
theorem ofL8_ok : ∀ (o : List (List TPoint)) (i : Nat) (out : List TPlotStep) (d : Int), out.length + 2 * o.length ≤ 1000000000 →
    F_plot_Of_L8 (o.map rowOf) i out d = some (⟨1, [], out ++ ofSteps o d⟩, 0)
  | [], i, out, d, _ => by
    show some ((TPlot.mk 1 [] out), (0 : Int)) = _
    rw [show ofSteps [] d = [] from rfl, List.append_nil]
  | l :: t, i, out, d, h => by
    simp only [List.length_cons] at h
    have key : ∀ k : Int, kindR l = k → F_plot_Of_J10 out d (F_plot_Of_L8 (t.map rowOf) (i + 1)) (rowOf l) k = some (⟨1, [], out ++ ofSteps (l :: t) d⟩, 0) := by
      intro k hk
      unfold F_plot_Of_J10 F_plot_Of_J9 ofSteps
      rw [hk]
      by_cases c : k = d
      · subst c
        rw [if_neg (by simp), if_pos rfl, apd_ok (by simp; omega), Option.bind_some]
        rw [ofL8_ok t (i + 1) _ k (by simp only [List.length_append, List.length_cons, List.length_nil]; omega), List.append_assoc]
        rfl
      · rw [if_pos (by simp [c]), if_neg c, apd_ok (by simp; omega), Option.bind_some, apd_ok (by simp; omega), Option.bind_some]
        rw [ofL8_ok t (i + 1) _ k (by simp only [List.length_append, List.length_cons, List.length_nil]; omega), List.append_assoc, List.append_assoc]
        rfl
    show F_plot_Of_L8 (rowOf l :: t.map rowOf) i out d = _
    unfold F_plot_Of_L8
    by_cases c : (rowOf l).area < 0
    · rw [if_pos (decide_eq_true c)]
      exact key 2 (if_pos c)
    · rw [if_neg (by rw [decide_eq_true_eq]; exact c)]
      exact key 1 (if_neg c)
theorem ofL3_ok {N : Nat} {res : List TRow → Option (TPlot × Int)} (hres : ∀ i l, F_plot_Of_L3 N [] i l = res l) : ∀ (ls : List (List TPoint)) (i : Nat) (out : List TRow), out.length + ls.length < 1000000000 → (∀ l ∈ ls, l.length ≤ 9223372036854775807) →
    F_plot_Of_L3 N ls i out = res (out ++ ls.map rowOf)
  | [], i, out, _, _ => by rw [hres]; simp
  | l :: t, i, out, h, hl => by
    simp only [List.length_cons] at h
    unfold F_plot_Of_L3
    rw [ofL11_ok _ (hl l List.mem_cons_self) (by omega) l 0 0 (by omega)]
    rw [ofL3_ok hres t (i + 1) _ (by simp; omega) (fun l h => hl l (List.mem_cons_of_mem _ h)), List.append_assoc]
    rfl
theorem filter_row (o : List (List TPoint)) (v : Int) : (o.map rowOf).filter (fun x => decide (ST.KR x = v)) = (o.filter fun l => decide (KP l = v)).map rowOf := by
  rw [List.filter_map]; rfl
theorem row_inj {l m : List TPoint} (h : rowOf l = rowOf m) : l = m := by
  have := congrArg TRow.points h
  exact this
/-- The rows in their order. -/
def ByArea (ls o : List (List TPoint)) : Prop := o.Pairwise (fun x y => KP x ≤ KP y) ∧ ∀ v : Int, o.filter (fun l => decide (KP l = v)) = ls.filter fun l => decide (KP l = v)
theorem ByArea.uniq {ls o o' : List (List TPoint)} (h : ByArea ls o) (h' : ByArea ls o') : o' = o := ST.sorted_unique h.1 h'.1 (fun v => (h'.2 v).trans (h.2 v).symm)
theorem ByArea.mem {ls o : List (List TPoint)} (h : ByArea ls o) (x : List TPoint) : x ∈ o ↔ x ∈ ls := by
  have := congrArg (x ∈ ·) (h.2 (KP x))
  simp only [List.mem_filter, decide_true, and_true, eq_iff_iff] at this
  exact this
theorem ByArea.len {ls o : List (List TPoint)} (h : ByArea ls o) : o.Perm ls := by
  classical
  rw [List.perm_iff_count]
  intro x
  have := congrArg (List.count x) (h.2 (KP x))
  rwa [List.count_filter (by simp), List.count_filter (by simp)] at this
/-- The steps of the program's plot. -/
theorem OfP_rows {N : Nat} (hN : 20000000000 ≤ N) {ls : List (List TPoint)} (hls : ls.length ≤ 100000000) (hl : ∀ l ∈ ls, l.length ≤ 100000000) : ∃ o, ByArea ls o ∧ F_plot_Of_L3 N ls 0 [] = some (⟨1, [], ofSteps o 1⟩, 0) := by
  obtain ⟨l', h1, h2, h3⟩ := ST.stable_ok hN (l := ls.map rowOf) (by rw [List.length_map]; omega)
  have hmem : ∀ x ∈ l', ∃ l ∈ ls, rowOf l = x := by
    intro x hx
    have : x ∈ l'.filter (fun y => decide (ST.KR y = ST.KR x)) := List.mem_filter.2 ⟨hx, by simp⟩
    rw [h3] at this
    exact List.mem_map.1 (List.mem_filter.1 this).1
  have e : (l'.map (·.points)).map rowOf = l' := by
    rw [List.map_map]
    conv => rhs; rw [← List.map_id l']
    apply List.map_congr_left
    intro x hx
    obtain ⟨l, _, rfl⟩ := hmem x hx
    rfl
  have hB : ByArea ls (l'.map (·.points)) := by
    constructor
    · rw [← e] at h2
      have := (List.pairwise_map (f := rowOf) (R := fun x y => ST.KR x ≤ ST.KR y)).1 h2
      exact this
    · intro v
      have := h3 v
      rw [← e, filter_row, filter_row] at this
      exact (List.map_inj_right (fun _ _ => row_inj)).1 this
  refine ⟨l'.map (·.points), hB, ?_⟩
  have hlen := hB.len.length_eq
  rw [ofL3_ok (N := N) (res := fun l => (F_slices_SortStableFunc_row__Of_2__Of_1 N l).bind fun y163 => F_plot_Of_L8 y163 0 ([] : List TPlotStep) 1) (fun _ _ => rfl) ls 0 [] (by simp; omega) (fun l h => by have := hl l h; omega), List.nil_append]
  rw [h1, Option.bind_some]
  conv => lhs; rw [← e]
  rw [ofL8_ok _ 0 [] 1 (by rw [hlen]; simp; omega), List.nil_append]
end Go.Proofs.YtcjeebkoafonpaaGreatDoor
namespace Go.Proofs.YtcjeebkoafonpaaGreatDoor
mutual
/-- How large a step is. -/
def szStep : TPlotStep → Nat
  | ⟨_, n, _, ps, _, _, l⟩ => 1 + n.size + ps.length + szSteps l
def szSteps : List TPlotStep → Nat
  | [] => 0
  | x :: l => szStep x + szSteps l
end
mutual
/-- How many steps there are. -/
def ndStep : TPlotStep → Nat
  | ⟨_, _, _, _, _, _, l⟩ => 1 + ndSteps l
def ndSteps : List TPlotStep → Nat
  | [] => 0
  | x :: l => ndStep x + ndSteps l
end
theorem szStep_eq (x : TPlotStep) : szStep x = 1 + x.Name.size + x.Points.length + szSteps x.Steps := by cases x; rw [szStep]
theorem ndStep_eq (x : TPlotStep) : ndStep x = 1 + ndSteps x.Steps := by cases x; rw [ndStep]
theorem szSteps_nil : szSteps [] = 0 := by rw [szSteps]
theorem szSteps_cons (x : TPlotStep) (l : List TPlotStep) : szSteps (x :: l) = szStep x + szSteps l := by rw [szSteps]
theorem ndSteps_nil : ndSteps [] = 0 := by rw [ndSteps]
theorem ndSteps_cons (x : TPlotStep) (l : List TPlotStep) : ndSteps (x :: l) = ndStep x + ndSteps l := by rw [ndSteps]
theorem szSteps_mem {x : TPlotStep} : ∀ {l : List TPlotStep}, x ∈ l → szStep x ≤ szSteps l
  | y :: l, h => by
    rw [szSteps_cons]
    rcases List.mem_cons.1 h with h | h
    · subst h; omega
    · have := szSteps_mem h; omega
theorem ndSteps_mem {x : TPlotStep} : ∀ {l : List TPlotStep}, x ∈ l → ndStep x ≤ ndSteps l
  | y :: l, h => by
    rw [ndSteps_cons]
    rcases List.mem_cons.1 h with h | h
    · subst h; omega
    · have := ndSteps_mem h; omega
theorem szSteps_len : ∀ (l : List TPlotStep), l.length ≤ szSteps l
  | [] => by simp
  | x :: l => by
    have := szSteps_len l
    have := szStep_eq x
    rw [szSteps_cons, List.length_cons]; omega
/-- Numbers of 64 bits. -/
def J64 (n : Int) : Prop := -9223372036854775808 ≤ n ∧ n ≤ 9223372036854775807
mutual
/-- Lengths and numbers are those of the machine. -/
def lenS : TPlotStep → Prop
  | ⟨_, n, a, ps, nx, ny, l⟩ => n.size ≤ 9223372036854775807 ∧ (J64 a.X ∧ J64 a.Y) ∧ (ps.length ≤ 9223372036854775807 ∧ ∀ q ∈ ps, J64 q.X ∧ J64 q.Y) ∧ (J64 nx ∧ J64 ny) ∧ l.length ≤ 9223372036854775807 ∧ lenL l
def lenL : List TPlotStep → Prop
  | [] => True
  | x :: l => lenS x ∧ lenL l
end
theorem lenS_eq (x : TPlotStep) : lenS x ↔ x.Name.size ≤ 9223372036854775807 ∧ (J64 x.At.X ∧ J64 x.At.Y) ∧ (x.Points.length ≤ 9223372036854775807 ∧ ∀ q ∈ x.Points, J64 q.X ∧ J64 q.Y) ∧ (J64 x.NX ∧ J64 x.NY) ∧ x.Steps.length ≤ 9223372036854775807 ∧ lenL x.Steps := by cases x; rw [lenS]
theorem lenL_cons (x : TPlotStep) (l : List TPlotStep) : lenL (x :: l) ↔ lenS x ∧ lenL l := by rw [lenL]
theorem lenL_mem {x : TPlotStep} : ∀ {l : List TPlotStep}, lenL l → x ∈ l → lenS x
  | y :: l, h, hm => by
    rw [lenL_cons] at h
    rcases List.mem_cons.1 hm with e | e
    · subst e; exact h.1
    · exact lenL_mem h.2 e
theorem lenL_of {l : List TPlotStep} (h : ∀ x ∈ l, lenS x) : lenL l := by
  induction l with
  | nil => rw [lenL]; trivial
  | cons x l ih => rw [lenL_cons]; exact ⟨h x List.mem_cons_self, ih (fun y hy => h y (List.mem_cons_of_mem _ hy))⟩
/-! How many steps are done. -/
end Go.Proofs.YtcjeebkoafonpaaGreatDoor
namespace Go.Proofs.YtcjeebkoafonpaaGreatDoor.PX
/-- Directions. -/
inductive Dir where
  | E | N | W | S
namespace Dir
def left : Dir → Dir | E => N | N => W | W => S | S => E
def right : Dir → Dir | E => S | N => E | W => N | S => W
def dx : Dir → Int | E => 1 | N => 0 | W => -1 | S => 0
def dy : Dir → Int | E => 0 | N => 1 | W => 0 | S => -1
instance : DecidableEq Dir := fun a b => by
  cases a <;> cases b <;> first | exact isTrue rfl | exact isFalse (fun h => nomatch h)
end Dir
/-- A step along a border: where it begins, and where it goes. -/
structure Ed where
  x : Int
  y : Int
  d : Dir
instance : DecidableEq Ed := fun a b => by
  obtain ⟨x, y, d⟩ := a
  obtain ⟨x', y', d'⟩ := b
  exact if h : x = x' ∧ y = y' ∧ d = d' then isTrue (by obtain ⟨rfl, rfl, rfl⟩ := h; rfl) else isFalse (fun e => h (by cases e; exact ⟨rfl, rfl, rfl⟩))
abbrev Sq := Int → Int → Bool
/-- The square at the left hand of a direction, at a point. -/
def lq (I : Sq) (x y : Int) : Dir → Bool
  | .E => I x y
  | .N => I (x - 1) y
  | .W => I (x - 1) (y - 1)
  | .S => I x (y - 1)
/-- A step of the border of a set. -/
def isB (I : Sq) (e : Ed) : Prop := lq I e.x e.y e.d = true ∧ lq I e.x e.y e.d.right = false
def Ed.tx (e : Ed) : Int := e.x + e.d.dx
def Ed.ty (e : Ed) : Int := e.y + e.d.dy
/-- The next step: left if it can be. -/
def sc (I : Sq) (e : Ed) : Ed :=
  if lq I e.tx e.ty e.d = false then ⟨e.tx, e.ty, e.d.left⟩ else if lq I e.tx e.ty e.d.right = false then ⟨e.tx, e.ty, e.d⟩ else ⟨e.tx, e.ty, e.d.right⟩
/-- The step before. -/
def pd (I : Sq) (e : Ed) : Ed :=
  if lq I e.x e.y e.d.left = false then ⟨e.x - e.d.right.dx, e.y - e.d.right.dy, e.d.right⟩ else if lq I e.x e.y e.d.left.left = false then ⟨e.x - e.d.dx, e.y - e.d.dy, e.d⟩ else ⟨e.x - e.d.left.dx, e.y - e.d.left.dy, e.d.left⟩
theorem at_to (I : Sq) (x y : Int) (d : Dir) : lq I (x + d.dx) (y + d.dy) d.left = lq I x y d ∧ lq I (x + d.dx) (y + d.dy) d.left.left = lq I x y d.right := by
  cases d <;> simp only [Dir.left, Dir.right, Dir.dx, Dir.dy, lq] <;> refine ⟨?_, ?_⟩ <;> congr 1 <;> omega
theorem at_from (I : Sq) (x y : Int) (d : Dir) : lq I (x - d.dx) (y - d.dy) d = lq I x y d.left ∧ lq I (x - d.dx) (y - d.dy) d.right = lq I x y d.left.left := by
  have h := at_to I (x - d.dx) (y - d.dy) d
  have e1 : x - d.dx + d.dx = x := by omega
  have e2 : y - d.dy + d.dy = y := by omega
  rw [e1, e2] at h
  exact ⟨h.1.symm, h.2.symm⟩
theorem Dir.lr (d : Dir) : d.left.right = d := by cases d <;> rfl
theorem Dir.rl (d : Dir) : d.right.left = d := by cases d <;> rfl
theorem Dir.rr (d : Dir) : d.right.right = d.left.left := by cases d <;> rfl
theorem Dir.lll (d : Dir) : d.left.left.left = d.right := by cases d <;> rfl
theorem sc_l {I : Sq} {e : Ed} (h : lq I e.tx e.ty e.d = false) : sc I e = ⟨e.tx, e.ty, e.d.left⟩ := if_pos h
theorem sc_s {I : Sq} {e : Ed} (h : lq I e.tx e.ty e.d = true) (h' : lq I e.tx e.ty e.d.right = false) : sc I e = ⟨e.tx, e.ty, e.d⟩ := (if_neg (by rw [h]; simp)).trans (if_pos h')
theorem sc_r {I : Sq} {e : Ed} (h : lq I e.tx e.ty e.d = true) (h' : lq I e.tx e.ty e.d.right = true) : sc I e = ⟨e.tx, e.ty, e.d.right⟩ := (if_neg (by rw [h]; simp)).trans (if_neg (by rw [h']; simp))
theorem pd_l {I : Sq} {e : Ed} (h : lq I e.x e.y e.d.left = false) : pd I e = ⟨e.x - e.d.right.dx, e.y - e.d.right.dy, e.d.right⟩ := if_pos h
theorem pd_s {I : Sq} {e : Ed} (h : lq I e.x e.y e.d.left = true) (h' : lq I e.x e.y e.d.left.left = false) : pd I e = ⟨e.x - e.d.dx, e.y - e.d.dy, e.d⟩ := (if_neg (by rw [h]; simp)).trans (if_pos h')
theorem pd_r {I : Sq} {e : Ed} (h : lq I e.x e.y e.d.left = true) (h' : lq I e.x e.y e.d.left.left = true) : pd I e = ⟨e.x - e.d.left.dx, e.y - e.d.left.dy, e.d.left⟩ := (if_neg (by rw [h]; simp)).trans (if_neg (by rw [h']; simp))
theorem bc {b : Bool} : b = false ∨ b = true := by cases b; exact .inl rfl; exact .inr rfl
/-- What follows a step: its three ways. -/
theorem sc_cases {I : Sq} {e : Ed} (_ : isB I e) : (lq I e.tx e.ty e.d = false ∧ sc I e = ⟨e.tx, e.ty, e.d.left⟩) ∨ (lq I e.tx e.ty e.d = true ∧ lq I e.tx e.ty e.d.right = false ∧ sc I e = ⟨e.tx, e.ty, e.d⟩) ∨
    (lq I e.tx e.ty e.d = true ∧ lq I e.tx e.ty e.d.right = true ∧ sc I e = ⟨e.tx, e.ty, e.d.right⟩) := by
  rcases bc (b := lq I e.tx e.ty e.d) with h1 | h1
  · exact .inl ⟨h1, sc_l h1⟩
  · rcases bc (b := lq I e.tx e.ty e.d.right) with h2 | h2
    · exact .inr (.inl ⟨h1, h2, sc_s h1 h2⟩)
    · exact .inr (.inr ⟨h1, h2, sc_r h1 h2⟩)
theorem Ed.at_to (I : Sq) (e : Ed) : lq I e.tx e.ty e.d.left = lq I e.x e.y e.d ∧ lq I e.tx e.ty e.d.left.left = lq I e.x e.y e.d.right := PX.at_to I e.x e.y e.d
theorem sc_isB {I : Sq} {e : Ed} (h : isB I e) : isB I (sc I e) := by
  obtain ⟨g1, g2⟩ := Ed.at_to I e
  rcases sc_cases h with ⟨h1, h2⟩ | ⟨h1, h2, h3⟩ | ⟨h1, h2, h3⟩
  · rw [h2]; exact ⟨g1.trans h.1, by simp only [Dir.lr]; exact h1⟩
  · rw [h3]; exact ⟨h1, h2⟩
  · rw [h3]; exact ⟨h2, by simp only [Dir.rr]; exact g2.trans h.2⟩
theorem Ed.ext' {e f : Ed} (h1 : e.x = f.x) (h2 : e.y = f.y) (h3 : e.d = f.d) : e = f := by cases e; cases f; cases h1; cases h2; cases h3; rfl
theorem pd_sc {I : Sq} {e : Ed} (h : isB I e) : pd I (sc I e) = e := by
  obtain ⟨g1, g2⟩ := Ed.at_to I e
  have a1 : e.tx - e.d.dx = e.x := by unfold Ed.tx; omega
  have a2 : e.ty - e.d.dy = e.y := by unfold Ed.ty; omega
  rcases sc_cases h with ⟨h1, h2⟩ | ⟨h1, h2, h3⟩ | ⟨h1, h2, h3⟩
  · rw [h2, pd_l (g2.trans h.2)]; exact Ed.ext' (by simp only [Dir.lr]; exact a1) (by simp only [Dir.lr]; exact a2) (Dir.lr _)
  · rw [h3, pd_s (g1.trans h.1) (g2.trans h.2)]; exact Ed.ext' a1 a2 rfl
  · rw [h3, pd_r (by simp only [Dir.rl]; exact h1) (by simp only [Dir.rl]; exact g1.trans h.1)]; exact Ed.ext' (by simp only [Dir.rl]; exact a1) (by simp only [Dir.rl]; exact a2) (Dir.rl _)
theorem pd_cases {I : Sq} {e : Ed} (_ : isB I e) : (lq I e.x e.y e.d.left = false ∧ pd I e = ⟨e.x - e.d.right.dx, e.y - e.d.right.dy, e.d.right⟩) ∨ (lq I e.x e.y e.d.left = true ∧ lq I e.x e.y e.d.left.left = false ∧ pd I e = ⟨e.x - e.d.dx, e.y - e.d.dy, e.d⟩) ∨
    (lq I e.x e.y e.d.left = true ∧ lq I e.x e.y e.d.left.left = true ∧ pd I e = ⟨e.x - e.d.left.dx, e.y - e.d.left.dy, e.d.left⟩) := by
  rcases bc (b := lq I e.x e.y e.d.left) with h1 | h1
  · exact .inl ⟨h1, pd_l h1⟩
  · rcases bc (b := lq I e.x e.y e.d.left.left) with h2 | h2
    · exact .inr (.inl ⟨h1, h2, pd_s h1 h2⟩)
    · exact .inr (.inr ⟨h1, h2, pd_r h1 h2⟩)
theorem pd_to {I : Sq} {e : Ed} (h : isB I e) : (pd I e).tx = e.x ∧ (pd I e).ty = e.y := by
  rcases pd_cases h with ⟨_, h2⟩ | ⟨_, _, h2⟩ | ⟨_, _, h2⟩ <;> rw [h2] <;> exact ⟨by simp only [Ed.tx]; omega, by simp only [Ed.ty]; omega⟩
theorem pd_isB {I : Sq} {e : Ed} (h : isB I e) : isB I (pd I e) := by
  rcases pd_cases h with ⟨h1, h2⟩ | ⟨h1, h2, h3⟩ | ⟨h1, h2, h3⟩
  · obtain ⟨g1, g2⟩ := at_from I e.x e.y e.d.right
    rw [h2]; exact ⟨g1.trans (by rw [Dir.rl]; exact h.1), g2.trans (by rw [Dir.rl]; exact h1)⟩
  · obtain ⟨g1, g2⟩ := at_from I e.x e.y e.d
    rw [h3]; exact ⟨g1.trans h1, g2.trans h2⟩
  · obtain ⟨g1, g2⟩ := at_from I e.x e.y e.d.left
    rw [h3]; exact ⟨g1.trans h2, g2.trans (by rw [Dir.lll]; exact h.2)⟩
theorem sc_pd {I : Sq} {e : Ed} (h : isB I e) : sc I (pd I e) = e := by
  obtain ⟨t1, t2⟩ := pd_to h
  rcases pd_cases h with ⟨h1, h2⟩ | ⟨h1, h2, h3⟩ | ⟨h1, h2, h3⟩
  · have hd : (pd I e).d = e.d.right := by rw [h2]
    rw [sc_l (by rw [t1, t2, hd]; exact h.2), t1, t2, hd, Dir.rl]
  · have hd : (pd I e).d = e.d := by rw [h3]
    rw [sc_s (by rw [t1, t2, hd]; exact h.1) (by rw [t1, t2, hd]; exact h.2), t1, t2, hd]
  · have hd : (pd I e).d = e.d.left := by rw [h3]
    rw [sc_r (by rw [t1, t2, hd]; exact h1) (by rw [t1, t2, hd, Dir.lr]; exact h.1), t1, t2, hd, Dir.lr]
/-- A corner: a step that goes elsewhere than the step before. -/
def isC (I : Sq) (e : Ed) : Bool := decide ((pd I e).d ≠ e.d)
/-! Many steps. -/
def it (I : Sq) : Nat → Ed → Ed
  | 0, e => e
  | k + 1, e => it I k (sc I e)
theorem it_succ (I : Sq) (k : Nat) (e : Ed) : it I (k + 1) e = sc I (it I k e) := by
  induction k generalizing e with
  | zero => rfl
  | succ k ih => exact ih (sc I e)
theorem it_add (I : Sq) (j k : Nat) (e : Ed) : it I (j + k) e = it I j (it I k e) := by
  induction k generalizing e with
  | zero => rfl
  | succ k ih => exact ih (sc I e)
theorem it_isB {I : Sq} {e : Ed} (h : isB I e) : ∀ k, isB I (it I k e)
  | 0 => h
  | k + 1 => by rw [it_succ]; exact sc_isB (it_isB h k)
theorem sc_inj {I : Sq} {e f : Ed} (he : isB I e) (hf : isB I f) (h : sc I e = sc I f) : e = f := by rw [← pd_sc he, h, pd_sc hf]
theorem it_inj {I : Sq} {e f : Ed} (he : isB I e) (hf : isB I f) : ∀ k, it I k e = it I k f → e = f
  | 0, h => h
  | k + 1, h => sc_inj he hf (it_inj (sc_isB he) (sc_isB hf) k h)
/-- A set all of whose border lies on a list. -/
def Fin_ (I : Sq) (B : List Ed) : Prop := ∀ e, isB I e → e ∈ B
theorem nodup_len {α : Type} [DecidableEq α] : ∀ {l m : List α}, l.Nodup → (∀ x ∈ l, x ∈ m) → l.length ≤ m.length
  | [], _, _, _ => Nat.zero_le _
  | x :: l, m, hn, h => by
    obtain ⟨h1, h2⟩ := List.nodup_cons.1 hn
    have hx := h x (by simp)
    have : l.length ≤ (m.erase x).length := nodup_len h2 fun y hy => (List.mem_erase_of_ne (fun (e : y = x) => h1 (e ▸ hy))).2 (h y (by simp [hy]))
    rw [List.length_erase_of_mem hx] at this
    have := List.length_pos_of_mem hx
    simp only [List.length_cons]
    omega
/-- The first so many steps. -/
def walk (I : Sq) : Nat → Ed → List Ed
  | 0, _ => []
  | k + 1, e => e :: walk I k (sc I e)
theorem walk_len (I : Sq) : ∀ (k : Nat) (e : Ed), (walk I k e).length = k
  | 0, _ => rfl
  | k + 1, e => by simp [walk, walk_len I k]
theorem walk_get (I : Sq) : ∀ (k : Nat) (e : Ed) (i : Nat), i < k → (walk I k e)[i]? = some (it I i e)
  | 0, _, _, h => absurd h (Nat.not_lt_zero _)
  | k + 1, e, 0, _ => rfl
  | k + 1, e, i + 1, h => by
    simp only [walk, List.getElem?_cons_succ]
    exact walk_get I k (sc I e) i (by omega)
theorem walk_mem {I : Sq} {k : Nat} {e f : Ed} : f ∈ walk I k e ↔ ∃ i, i < k ∧ it I i e = f := by
  constructor
  · intro h
    obtain ⟨i, hi⟩ := List.mem_iff_getElem?.1 h
    have hlt : i < k := by
      have := (List.getElem?_eq_some_iff.1 hi).1
      rwa [walk_len] at this
    rw [walk_get I k e i hlt] at hi
    exact ⟨i, hlt, by simpa using hi⟩
  · rintro ⟨i, hi, rfl⟩
    exact List.mem_iff_getElem?.2 ⟨i, walk_get I k e i hi⟩
theorem walk_add (I : Sq) : ∀ (j k : Nat) (e : Ed), walk I (j + k) e = walk I j e ++ walk I k (it I j e)
  | 0, k, e => by simp [walk, it]
  | j + 1, k, e => by
    have : j + 1 + k = (j + k) + 1 := by omega
    rw [this]
    simp only [walk, List.cons_append, it]
    rw [walk_add I j k (sc I e)]
/-- A step comes back. -/
theorem back {I : Sq} {B : List Ed} (hB : Fin_ I B) {e : Ed} (he : isB I e) : ∃ n, 0 < n ∧ it I n e = e := by
  cases Classical.em (∃ n, 0 < n ∧ it I n e = e) with
  | inl h => exact h
  | inr h =>
    have hne : ∀ i j, i < j → it I i e ≠ it I j e := fun i j hij hh => by
      refine h ⟨j - i, by omega, ?_⟩
      have : it I j e = it I i (it I (j - i) e) := by rw [← it_add]; congr 1; omega
      rw [this] at hh
      exact (it_inj he (it_isB he _) i hh).symm
    have hnd : (walk I (B.length + 1) e).Nodup := by
      rw [List.Nodup, List.pairwise_iff_getElem]
      intro i j hi hj hij
      rw [walk_len] at hi hj
      have h1 := walk_get I (B.length + 1) e i hi
      have h2 := walk_get I (B.length + 1) e j hj
      rw [List.getElem?_eq_getElem (by rw [walk_len]; exact hi)] at h1
      rw [List.getElem?_eq_getElem (by rw [walk_len]; exact hj)] at h2
      rw [Option.some.inj h1, Option.some.inj h2]
      exact hne i j hij
    have := nodup_len hnd (fun f hf => by
      obtain ⟨i, _, rfl⟩ := walk_mem.1 hf
      exact hB _ (it_isB he i))
    rw [walk_len] at this
    omega
theorem least_nat {p : Nat → Prop} : ∀ n, p n → ∃ m, p m ∧ ∀ k, k < m → ¬ p k := by
  intro n
  induction n using Nat.strongRecOn with
  | _ n ih =>
    intro hp
    cases Classical.em (∃ k, k < n ∧ p k) with
    | inl h => obtain ⟨k, h1, h2⟩ := h; exact ih k h1 h2
    | inr h => exact ⟨n, hp, fun k hk hpk => h ⟨k, hk, hpk⟩⟩
/-- A closed walk that comes back for the first time at its end. -/
def Per (I : Sq) (e : Ed) (n : Nat) : Prop := 0 < n ∧ it I n e = e ∧ ∀ k, 0 < k → k < n → it I k e ≠ e
theorem per {I : Sq} {B : List Ed} (hB : Fin_ I B) {e : Ed} (he : isB I e) : ∃ n, Per I e n := by
  obtain ⟨n, h1, h2⟩ := back hB he
  obtain ⟨m, ⟨h3, h4⟩, h5⟩ := least_nat (p := fun n => 0 < n ∧ it I n e = e) n ⟨h1, h2⟩
  exact ⟨m, h3, h4, fun k h6 h7 h8 => h5 k h7 ⟨h6, h8⟩⟩
theorem Per.uniq {I : Sq} {e : Ed} {n m : Nat} (h : Per I e n) (k : Per I e m) : n = m := by
  rcases Nat.lt_trichotomy n m with h1 | h1 | h1
  · exact absurd h.2.1 (k.2.2 n h.1 h1)
  · exact h1
  · exact absurd k.2.1 (h.2.2 m k.1 h1)
theorem Per.nodup {I : Sq} {e : Ed} {n : Nat} (he : isB I e) (h : Per I e n) : (walk I n e).Nodup := by
  rw [List.Nodup, List.pairwise_iff_getElem]
  intro i j hi hj hij
  rw [walk_len] at hi hj
  have h1 := walk_get I n e i hi
  have h2 := walk_get I n e j hj
  rw [List.getElem?_eq_getElem (by rw [walk_len]; exact hi)] at h1
  rw [List.getElem?_eq_getElem (by rw [walk_len]; exact hj)] at h2
  rw [Option.some.inj h1, Option.some.inj h2]
  intro hh
  have e1 : it I j e = it I i (it I (j - i) e) := by rw [← it_add]; congr 1; omega
  rw [e1] at hh
  exact h.2.2 (j - i) (by omega) (by omega) (it_inj he (it_isB he _) i hh).symm
theorem Per.mod {I : Sq} {e : Ed} {n : Nat} (h : Per I e n) : ∀ k, it I k e = it I (k % n) e := by
  intro k
  induction k using Nat.strongRecOn with
  | _ k ih =>
    by_cases hk : k < n
    · rw [Nat.mod_eq_of_lt hk]
    · have h1 : k = (k - n) + n := by omega
      have h2 : k % n = (k - n) % n := by rw [h1, Nat.add_mod_right]; congr 1; omega
      have h3 : it I k e = it I (k - n) e := by
        conv => lhs; rw [h1]
        rw [it_add, h.2.1]
      rw [h3, h2]
      exact ih (k - n) (by have := h.1; omega)
/-- Whoever lies on the walk has the same walk, turned. -/
theorem Per.shift {I : Sq} {e : Ed} {n : Nat} (he : isB I e) (h : Per I e n) (j : Nat) : Per I (it I j e) n := by
  refine ⟨h.1, ?_, fun k h1 h2 h3 => ?_⟩
  · rw [← it_add, Nat.add_comm, it_add, h.2.1]
  · rw [← it_add, Nat.add_comm, it_add] at h3
    exact h.2.2 k h1 h2 (it_inj (it_isB he k) he j h3)
end Go.Proofs.YtcjeebkoafonpaaGreatDoor.PX
namespace Go.Proofs.YtcjeebkoafonpaaGreatDoor.PX
/-- Points by height, then place. -/
def pl (a b : Int × Int) : Prop := a.2 < b.2 ∨ (a.2 = b.2 ∧ a.1 < b.1)
instance (a b : Int × Int) : Decidable (pl a b) := inferInstanceAs (Decidable (_ ∨ _))
theorem pl_irrefl (a : Int × Int) : ¬ pl a a := by unfold pl; omega
theorem pl_trans {a b c : Int × Int} (h : pl a b) (k : pl b c) : pl a c := by unfold pl at *; omega
theorem pl_total (a b : Int × Int) : pl a b ∨ a = b ∨ pl b a := by
  obtain ⟨a1, a2⟩ := a
  obtain ⟨b1, b2⟩ := b
  unfold pl
  simp only [Prod.mk.injEq]
  omega
def Ed.p (e : Ed) : Int × Int := (e.x, e.y)
/-- No step of the walk begins at a lesser point. -/
def Lst (I : Sq) (e : Ed) : Prop := isB I e ∧ ∀ k, ¬ pl (it I k e).p e.p
theorem lst_of {I : Sq} {e : Ed} {n : Nat} (h : Per I e n) : ∀ m, m ≤ n → 0 < m → ∃ j, j < m ∧ ∀ k, k < m → ¬ pl (it I k e).p (it I j e).p := by
  intro m
  induction m with
  | zero => intro _ h; omega
  | succ m ih =>
    intro hm _
    by_cases h0 : m = 0
    · subst h0
      exact ⟨0, by omega, fun k hk => by have : k = 0 := by omega
                                         subst this; exact pl_irrefl _⟩
    · obtain ⟨j, h1, h2⟩ := ih (by omega) (by omega)
      by_cases h3 : pl (it I m e).p (it I j e).p
      · refine ⟨m, by omega, fun k hk h4 => ?_⟩
        rcases Nat.lt_or_ge k m with h5 | h5
        · exact h2 k h5 (pl_trans h4 h3)
        · have : k = m := by omega
          subst this; exact pl_irrefl _ h4
      · refine ⟨j, by omega, fun k hk => ?_⟩
        rcases Nat.lt_or_ge k m with h5 | h5
        · exact h2 k h5
        · have : k = m := by omega
          subst this; exact h3
/-- Each walk has a least point. -/
theorem has_lst {I : Sq} {e : Ed} {n : Nat} (he : isB I e) (h : Per I e n) : ∃ j, j < n ∧ Lst I (it I j e) := by
  obtain ⟨j, h1, h2⟩ := lst_of h n (Nat.le_refl _) h.1
  refine ⟨j, h1, it_isB he j, fun k => ?_⟩
  rw [← it_add, h.mod]
  exact h2 _ (Nat.mod_lt _ h.1)
theorem Lst.pd {I : Sq} {B : List Ed} (hB : Fin_ I B) {e : Ed} (h : Lst I e) : ¬ pl (PX.pd I e).p e.p := by
  obtain ⟨n, hn⟩ := per hB h.1
  have : it I (n - 1) e = PX.pd I e := by
    have h1 : sc I (it I (n - 1) e) = e := by rw [← it_succ, show n - 1 + 1 = n from by have := hn.1; omega, hn.2.1]
    have h2 := pd_sc (it_isB h.1 (n - 1))
    rw [h1] at h2; exact h2.symm
  rw [← this]
  exact h.2 _
/-- At a least point the walk comes from above, or from the right, and goes the other one of these ways. -/
theorem Lst.ways {I : Sq} {B : List Ed} (hB : Fin_ I B) {e : Ed} (h : Lst I e) : (e.d = .E ∧ (PX.pd I e).d = .S) ∨ (e.d = .N ∧ (PX.pd I e).d = .W) := by
  have h1 := h.pd hB
  have h2 := h.2 1
  have h3 : (sc I e).p = (e.tx, e.ty) := by
    rcases sc_cases h.1 with ⟨_, h2⟩ | ⟨_, _, h2⟩ | ⟨_, _, h2⟩ <;> rw [h2] <;> rfl
  have h4 := pd_to h.1
  simp only [it] at h2
  rw [h3] at h2
  have h5 : ¬ pl ((PX.pd I e).x, (PX.pd I e).y) e.p := h1
  unfold Ed.tx at h4 h2
  unfold Ed.ty at h4 h2
  unfold Ed.p at *
  unfold pl at h5 h2
  simp only at h5 h2
  rcases pd_cases h.1 with ⟨_, g⟩ | ⟨_, _, g⟩ | ⟨_, _, g⟩
  all_goals
    rw [g] at h4 h5 ⊢
    cases hd : e.d <;> rw [hd] at h2 h5 h4 <;> simp only [Dir.dx, Dir.dy, Dir.left, Dir.right] at h2 h4 h5 ⊢
    all_goals first | omega | simp
/-- Two least steps from one point are one. -/
theorem Lst.uniq {I : Sq} {B : List Ed} (hB : Fin_ I B) {e f : Ed} (he : Lst I e) (hf : Lst I f) (h : e.p = f.p) : e = f := by
  have hx : e.x = f.x := congrArg Prod.fst h
  have hy : e.y = f.y := congrArg Prod.snd h
  refine Ed.ext' hx hy ?_
  have h1 := pd_isB he.1
  have h2 := pd_isB hf.1
  have k1 := Ed.at_to I (PX.pd I e)
  have k2 := Ed.at_to I (PX.pd I f)
  rw [(pd_to he.1).1, (pd_to he.1).2] at k1
  rw [(pd_to hf.1).1, (pd_to hf.1).2] at k2
  have a1 := he.1
  have a2 := hf.1
  unfold isB at h1 h2 a1 a2
  rcases he.ways hB with ⟨g1, g2⟩ | ⟨g1, g2⟩ <;> rcases hf.ways hB with ⟨g3, g4⟩ | ⟨g3, g4⟩
  · rw [g1, g3]
  · exfalso
    rw [g4] at k2 h2
    rw [g3] at a2
    rw [g2] at k1 h1
    rw [g1] at a1
    rw [hx, hy] at a1 k1
    simp only [Dir.left, Dir.right] at *
    rw [← k1.1] at h1
    have := a2.2
    rw [a1.1] at this
    cases this
  · exfalso
    rw [g4] at k2 h2
    rw [g3] at a2
    rw [g2] at k1 h1
    rw [g1] at a1
    rw [hx, hy] at a1 k1
    simp only [Dir.left, Dir.right] at *
    have := a1.2
    rw [a2.1] at this
    cases this
  · rw [g1, g3]
theorem Lst.uniq_it {I : Sq} {B : List Ed} (hB : Fin_ I B) {e : Ed} (h : Lst I e) {k : Nat} (hp : (it I k e).p = e.p) : it I k e = e := by
  refine Lst.uniq hB ⟨it_isB h.1 k, fun j => ?_⟩ h hp
  rw [← it_add, hp]
  exact h.2 _
theorem Lst.corner {I : Sq} {B : List Ed} (hB : Fin_ I B) {e : Ed} (h : Lst I e) : isC I e = true := by
  unfold isC
  rcases h.ways hB with ⟨g1, g2⟩ | ⟨g1, g2⟩ <;> rw [g1, g2] <;> rfl
/-- The corners of so many steps. -/
def crn (I : Sq) (k : Nat) (e : Ed) : List (Int × Int) := ((walk I k e).filter (isC I)).map Ed.p
theorem crn_add (I : Sq) (j k : Nat) (e : Ed) : crn I (j + k) e = crn I j e ++ crn I k (it I j e) := by unfold crn; rw [walk_add, List.filter_append, List.map_append]
/-- The place of the first least point. -/
def fl : List (Int × Int) → Nat × (Int × Int) → Nat → Nat
  | [], b, _ => b.1
  | p :: l, b, i => if pl p b.2 then fl l (i, p) (i + 1) else fl l b (i + 1)
/-- Corners from the least one on. -/
def lr (l : List (Int × Int)) : List (Int × Int) := let k := fl l (0, l.headD (0, 0)) 0; l.drop k ++ l.take k
theorem fl_stay : ∀ (l : List (Int × Int)) (b : Nat × (Int × Int)) (i : Nat), (∀ p ∈ l, ¬ pl p b.2) → fl l b i = b.1
  | [], _, _, _ => rfl
  | p :: l, b, i, h => by
    unfold fl
    rw [if_neg (h p (by simp))]
    exact fl_stay l b (i + 1) fun q hq => h q (by simp [hq])
theorem fl_ok : ∀ (A : List (Int × Int)) (m : Int × Int) (B : List (Int × Int)) (b : Nat × (Int × Int)) (i : Nat), (∀ p ∈ A, pl m p) → (∀ p ∈ B, ¬ pl p m) → pl m b.2 → fl (A ++ m :: B) b i = i + A.length
  | [], m, B, b, i, _, h2, h3 => by
    show fl (m :: B) b i = _
    unfold fl
    rw [if_pos h3, fl_stay _ _ _ h2]; rfl
  | p :: A, m, B, b, i, h1, h2, h3 => by
    show fl (p :: (A ++ m :: B)) b i = _
    unfold fl
    have hp := h1 p (by simp)
    have hA : ∀ q ∈ A, pl m q := fun q hq => h1 q (by simp [hq])
    split
    · rw [fl_ok A m B (i, p) (i + 1) hA h2 hp]; simp only [List.length_cons]; omega
    · rw [fl_ok A m B b (i + 1) hA h2 h3]; simp only [List.length_cons]; omega
theorem lr_ok {A B : List (Int × Int)} {m : Int × Int} (h1 : ∀ p ∈ A, pl m p) (h2 : ∀ p ∈ B, ¬ pl p m) : lr (A ++ m :: B) = m :: B ++ A := by
  have hk : fl (A ++ m :: B) (0, (A ++ m :: B).headD (0, 0)) 0 = A.length := by
    cases A with
    | nil =>
      show fl (m :: B) (0, m) 0 = 0
      rw [fl_stay]
      intro p hp
      rcases List.mem_cons.1 hp with rfl | hp
      · exact pl_irrefl _
      · exact h2 p hp
    | cons a A =>
      have := fl_ok (a :: A) m B (0, a) 0 h1 h2 (h1 a (by simp))
      simpa using this
  unfold lr
  simp only [hk]
  rw [List.drop_left, List.take_left]
/-- The corners of a closed walk, from the least one on, are those of the walk from its least step on. -/
theorem lr_crn {I : Sq} {B : List Ed} (hB : Fin_ I B) {e : Ed} {n : Nat} (he : isB I e) (h : Per I e n) {j : Nat} (hj : j < n) (hl : Lst I (it I j e)) : lr (crn I n e) = crn I n (it I j e) := by
  have e1 : crn I n e = crn I j e ++ crn I (n - j) (it I j e) := by rw [← crn_add]; congr 1; omega
  have e2 : crn I n (it I j e) = crn I (n - j) (it I j e) ++ crn I j e := by
    have : it I (n - j) (it I j e) = e := by rw [← it_add, show n - j + j = n from by omega, h.2.1]
    have h3 := crn_add I (n - j) j (it I j e)
    rw [this, show n - j + j = n from by omega] at h3
    exact h3
  obtain ⟨k, hk⟩ : ∃ k, n - j = k + 1 := ⟨n - j - 1, by omega⟩
  have e3 : crn I (n - j) (it I j e) = (it I j e).p :: crn I k (sc I (it I j e)) := by
    rw [hk]
    unfold crn
    simp only [walk, List.filter_cons, hl.corner hB, if_true, List.map_cons]
  have all : ∀ i, ¬ pl (it I i e).p (it I j e).p := fun i => by
    have h4 : it I i e = it I (i + (n - j)) (it I j e) := by
      rw [← it_add, show i + (n - j) + j = i + n from by omega, it_add, h.2.1]
    rw [h4]; exact hl.2 _
  rw [e1, e2, e3]
  refine lr_ok (fun p hp => ?_) (fun p hp => ?_)
  · obtain ⟨f, hf, rfl⟩ := List.mem_map.1 hp
    obtain ⟨i, hi, rfl⟩ := walk_mem.1 (List.mem_filter.1 hf).1
    rcases pl_total (it I j e).p (it I i e).p with h5 | h5 | h5
    · exact h5
    · exfalso
      have h6 : it I i e = it I (i + (n - j)) (it I j e) := by
        rw [← it_add, show i + (n - j) + j = i + n from by omega, it_add, h.2.1]
      have h7 := hl.uniq_it hB (k := i + (n - j)) (by rw [← h6]; exact h5.symm)
      rw [← h6] at h7
      have h8 : it I j e = it I i (it I (j - i) e) := by rw [← it_add]; congr 1; omega
      rw [h8] at h7
      exact h.2.2 (j - i) (by omega) (by omega) (it_inj he (it_isB he _) i h7).symm
    · exact absurd h5 (all i)
  · obtain ⟨f, hf, rfl⟩ := List.mem_map.1 hp
    obtain ⟨i, hi, rfl⟩ := walk_mem.1 (List.mem_filter.1 hf).1
    have : it I i (sc I (it I j e)) = it I (i + 1) (it I j e) := rfl
    rw [this]
    exact hl.2 _
end Go.Proofs.YtcjeebkoafonpaaGreatDoor.PX
namespace Go.Proofs.YtcjeebkoafonpaaGreatDoor.PX
/-- A side: where it begins, and how many steps it has. -/
abbrev Sd := Ed × Nat
def adv (e : Ed) (i : Nat) : Ed := ⟨e.x + i * e.d.dx, e.y + i * e.d.dy, e.d⟩
theorem adv_zero (e : Ed) : adv e 0 = e := Ed.ext' (by simp [adv]) (by simp [adv]) rfl
theorem adv_inj {e : Ed} {i j : Nat} (h : adv e i = adv e j) : i = j := by
  have h1 := congrArg Ed.x h
  have h2 := congrArg Ed.y h
  simp only [adv] at h1 h2
  cases hd : e.d <;> rw [hd] at h1 h2 <;> simp only [Dir.dx, Dir.dy] at h1 h2 <;> omega
theorem adv_to (e : Ed) (i : Nat) : (adv e i).tx = (adv e (i + 1)).x ∧ (adv e i).ty = (adv e (i + 1)).y := by
  unfold Ed.tx Ed.ty adv
  simp only
  cases e.d <;> simp only [Dir.dx, Dir.dy] <;> omega
theorem sc_adv {I : Sq} {e : Ed} {i : Nat} (h : isB I (adv e (i + 1))) : sc I (adv e i) = adv e (i + 1) := by
  obtain ⟨t1, t2⟩ := adv_to e i
  rw [sc_s (e := adv e i) (by rw [t1, t2]; exact h.1) (by rw [t1, t2]; exact h.2)]
  exact Ed.ext' t1 t2 rfl
structure SysB (I : Sq) (L : List Sd) : Prop where
  pos : ∀ s ∈ L, 0 < s.2
  bor : ∀ s ∈ L, ∀ i, i < s.2 → isB I (adv s.1 i)
  all : ∀ e, isB I e → ∃ s ∈ L, ∃ i, i < s.2 ∧ adv s.1 i = e
  once : ∀ (a b : Nat) (s t : Sd), L[a]? = some s → L[b]? = some t → ∀ i j : Nat, i < s.2 → j < t.2 → adv s.1 i = adv t.1 j → a = b
section
variable {I : Sq} {L : List Sd}
theorem SysB.fst (h : SysB I L) {s : Sd} (hs : s ∈ L) : isB I s.1 := by have := h.bor s hs 0 (h.pos s hs); rwa [adv_zero] at this
theorem SysB.it_adv (h : SysB I L) {s : Sd} (hs : s ∈ L) : ∀ i, i < s.2 → it I i s.1 = adv s.1 i
  | 0, _ => (adv_zero s.1).symm
  | i + 1, hi => by rw [it_succ, h.it_adv hs i (by omega)]; exact sc_adv (h.bor s hs (i + 1) hi)
/-- The last step of a side. -/
def lstE (s : Sd) : Ed := adv s.1 (s.2 - 1)
theorem SysB.last (h : SysB I L) {s : Sd} (hs : s ∈ L) : isB I (lstE s) ∧ it I s.2 s.1 = sc I (lstE s) := by
  have hp := h.pos s hs
  refine ⟨h.bor s hs _ (by omega), ?_⟩
  have : s.2 = (s.2 - 1) + 1 := by omega
  rw [this, it_succ, h.it_adv hs _ (by omega)]; rfl
theorem SysB.fin (h : SysB I L) : ∃ B, Fin_ I B := ⟨L.flatMap fun s => (List.range s.2).map fun i => adv s.1 i, fun e he => by
  obtain ⟨s, hs, i, hi, rfl⟩ := h.all e he
  exact List.mem_flatMap.2 ⟨s, hs, List.mem_map.2 ⟨i, List.mem_range.2 hi, rfl⟩⟩⟩
/-- Side b follows side a. -/
def Nx (I : Sq) (L : List Sd) (a b : Nat) : Prop := ∃ s t, L[a]? = some s ∧ L[b]? = some t ∧ t.1 = sc I (lstE s)
theorem SysB.next (h : SysB I L) {a : Nat} (ha : a < L.length) : ∃ b, b < L.length ∧ Nx I L a b := by
  have hs : L[a]? = some L[a] := List.getElem?_eq_getElem ha
  have hm : L[a] ∈ L := List.getElem_mem ha
  obtain ⟨h1, h2⟩ := h.last hm
  obtain ⟨t, ht, i, hi, he⟩ := h.all _ (sc_isB h1)
  obtain ⟨b, hb⟩ := List.mem_iff_getElem?.1 ht
  refine ⟨b, (List.getElem?_eq_some_iff.1 hb).1, L[a], t, hs, hb, ?_⟩
  cases i with
  | zero => rw [adv_zero] at he; exact he
  | succ i =>
    exfalso
    have h3 := h.bor t ht i (by omega)
    have h4 : sc I (adv t.1 i) = adv t.1 (i + 1) := sc_adv (h.bor t ht (i + 1) hi)
    have h5 : adv t.1 i = lstE L[a] := sc_inj h3 h1 (h4.trans he)
    have hp := h.pos _ hm
    have h6 := h.once b a t L[a] hb hs i (L[a].2 - 1) (by omega) (by omega) h5
    subst h6
    rw [hs] at hb
    have := Option.some.inj hb
    subst this
    have := adv_inj h5
    omega
theorem Nx.lt {a b : Nat} (h : Nx I L a b) : a < L.length ∧ b < L.length := by
  obtain ⟨s, t, h1, h2, _⟩ := h
  exact ⟨(List.getElem?_eq_some_iff.1 h1).1, (List.getElem?_eq_some_iff.1 h2).1⟩
theorem SysB.nx_r (h : SysB I L) {a b b' : Nat} (h1 : Nx I L a b) (h2 : Nx I L a b') : b = b' := by
  obtain ⟨s, t, g1, g2, g3⟩ := h1
  obtain ⟨s', t', k1, k2, k3⟩ := h2
  rw [g1] at k1
  have := Option.some.inj k1
  subst this
  exact h.once b b' t t' g2 k2 0 0 (h.pos t (List.mem_of_getElem? g2)) (h.pos t' (List.mem_of_getElem? k2)) (by rw [adv_zero, adv_zero, g3, k3])
theorem SysB.nx_l (h : SysB I L) {a a' b : Nat} (h1 : Nx I L a b) (h2 : Nx I L a' b) : a = a' := by
  obtain ⟨s, t, g1, g2, g3⟩ := h1
  obtain ⟨s', t', k1, k2, k3⟩ := h2
  rw [g2] at k2
  have := Option.some.inj k2
  subst this
  have p1 := h.pos s (List.mem_of_getElem? g1)
  have p2 := h.pos s' (List.mem_of_getElem? k1)
  exact h.once a a' s s' g1 k1 (s.2 - 1) (s'.2 - 1) (by omega) (by omega) (sc_inj (h.last (List.mem_of_getElem? g1)).1 (h.last (List.mem_of_getElem? k1)).1 (g3.symm.trans k3))
/-- Sides in a row, each behind the one before. -/
def Cn (I : Sq) (L : List Sd) : Nat → List Nat → Prop
  | _, [] => True
  | a, b :: r => Nx I L a b ∧ Cn I L b r
/-- A closed row of sides, each once. -/
def RowB (I : Sq) (L : List Sd) (r : List Nat) : Prop := ∃ a q, r = a :: q ∧ Cn I L a q ∧ Nx I L (q.getLastD a) a ∧ r.Nodup
def sdAt (L : List Sd) (a : Nat) : Sd := L.getD a (⟨0, 0, .E⟩, 0)
theorem sdAt_eq {a : Nat} {s : Sd} (h : L[a]? = some s) : sdAt L a = s := by unfold sdAt; rw [List.getD_eq_getElem?_getD, h]; rfl
/-- How many steps so many sides have. -/
def stp (L : List Sd) : List Nat → Nat
  | [] => 0
  | a :: r => (sdAt L a).2 + stp L r
/-- The corners of a row, as the program tells them. -/
def cns (L : List Sd) : Dir → List Nat → List (Int × Int)
  | _, [] => []
  | d, a :: r => if d ≠ (sdAt L a).1.d then (sdAt L a).1.p :: cns L (sdAt L a).1.d r else cns L (sdAt L a).1.d r
theorem crn_side (h : SysB I L) {s : Sd} (hs : s ∈ L) : crn I s.2 s.1 = if isC I s.1 = true then [s.1.p] else [] := by
  obtain ⟨k, hk⟩ : ∃ k, s.2 = k + 1 := ⟨s.2 - 1, by have := h.pos s hs; omega⟩
  have h0 : ∀ f ∈ walk I k (sc I s.1), isC I f = false := fun f hf => by
    obtain ⟨i, hi, rfl⟩ := walk_mem.1 hf
    have h1 : it I i (sc I s.1) = adv s.1 (i + 1) := h.it_adv hs (i + 1) (by omega)
    have h2 : pd I (adv s.1 (i + 1)) = adv s.1 i := by
      rw [← sc_adv (h.bor s hs (i + 1) (by omega))]
      exact pd_sc (h.bor s hs i (by omega))
    rw [h1]
    unfold isC
    rw [h2]
    exact decide_eq_false (fun hh => hh rfl)
  have h1 : (walk I k (sc I s.1)).filter (isC I) = [] := List.filter_eq_nil_iff.2 fun f hf => by rw [h0 f hf]; simp
  unfold crn
  rw [hk]
  simp only [walk, List.filter_cons, h1]
  by_cases hc : isC I s.1 = true
  · rw [if_pos hc, if_pos hc]; rfl
  · rw [if_neg hc, if_neg hc]; rfl
theorem cns_ok (h : SysB I L) : ∀ (q : List Nat) (a : Nat) (s : Sd), L[a]? = some s → Cn I L a q → cns L (pd I s.1).d (a :: q) = crn I (stp L (a :: q)) s.1 ∧ it I (stp L (a :: q)) s.1 = sc I (lstE (sdAt L (q.getLastD a)))
  | [], a, s, hs, _ => by
    have hm := List.mem_of_getElem? hs
    simp only [stp, cns, sdAt_eq hs, Nat.add_zero, List.getLastD_nil]
    refine ⟨?_, (h.last hm).2⟩
    rw [crn_side h hm]
    unfold isC
    simp only [decide_eq_true_eq]
  | b :: q, a, s, hs, hc => by
    have hm := List.mem_of_getElem? hs
    obtain ⟨⟨s', t, g1, g2, g3⟩, hc2⟩ := hc
    rw [hs] at g1
    have := Option.some.inj g1
    subst this
    have hl := h.last hm
    have hit : it I s.2 s.1 = t.1 := hl.2.trans g3.symm
    have hpd : (pd I t.1).d = s.1.d := by rw [g3, pd_sc hl.1]; rfl
    obtain ⟨i1, i2⟩ := cns_ok h q b t g2 hc2
    have e1 : stp L (a :: b :: q) = s.2 + stp L (b :: q) := by simp only [stp, sdAt_eq hs]
    have e2 : cns L (pd I s.1).d (a :: b :: q) = (if isC I s.1 = true then [s.1.p] else []) ++ cns L s.1.d (b :: q) := by
      simp only [cns, sdAt_eq hs]
      unfold isC
      simp only [decide_eq_true_eq]
      by_cases hd : (pd I s.1).d ≠ s.1.d
      · rw [if_pos hd, if_pos hd]; rfl
      · rw [if_neg hd, if_neg hd]; rfl
    refine ⟨?_, ?_⟩
    · rw [e2, e1, crn_add, crn_side h hm, hit, ← i1, hpd]
    · rw [e1, Nat.add_comm, it_add, hit, i2]
      cases q <;> rfl
theorem Cn.mem : ∀ {q : List Nat} {a : Nat}, Cn I L a q → ∀ b ∈ q, b < L.length
  | c :: q, a, h, b, hb => by
    rcases List.mem_cons.1 hb with rfl | hb
    · exact h.1.lt.2
    · exact Cn.mem h.2 b hb
/-- Each step of a row lies on one of its sides. -/
theorem row_steps (h : SysB I L) : ∀ (q : List Nat) (a : Nat) (s : Sd), L[a]? = some s → Cn I L a q → ∀ k, k < stp L (a :: q) → ∃ b t i, b ∈ a :: q ∧ L[b]? = some t ∧ i < t.2 ∧ it I k s.1 = adv t.1 i ∧ (b = a → (a :: q).Nodup → k = i)
  | q, a, s, hs, hc, k, hk => by
    have hm := List.mem_of_getElem? hs
    by_cases h1 : k < s.2
    · exact ⟨a, s, k, by simp, hs, h1, h.it_adv hm k h1, fun _ _ => rfl⟩
    · cases q with
      | nil => simp only [stp, sdAt_eq hs] at hk; omega
      | cons b q =>
        obtain ⟨⟨s', t, g1, g2, g3⟩, hc2⟩ := hc
        rw [hs] at g1
        have := Option.some.inj g1
        subst this
        have hit : it I s.2 s.1 = t.1 := (h.last hm).2.trans g3.symm
        have e1 : stp L (a :: b :: q) = s.2 + stp L (b :: q) := by simp only [stp, sdAt_eq hs]
        obtain ⟨c, u, i, j1, j2, j3, j4, j5⟩ := row_steps h q b t g2 hc2 (k - s.2) (by omega)
        refine ⟨c, u, i, List.mem_cons_of_mem _ j1, j2, j3, ?_, fun e hn => ?_⟩
        · rw [← j4, ← hit, ← it_add]; congr 1; omega
        · subst e
          exact absurd j1 (List.nodup_cons.1 hn).1
/-- .. and each step of one of its sides is one of the row. -/
theorem row_has (h : SysB I L) : ∀ (q : List Nat) (a : Nat) (s : Sd), L[a]? = some s → Cn I L a q → ∀ b ∈ a :: q, ∀ i, i < (sdAt L b).2 → ∃ k, k < stp L (a :: q) ∧ it I k s.1 = adv (sdAt L b).1 i
  | q, a, s, hs, hc, b, hb, i, hi => by
    have hm := List.mem_of_getElem? hs
    rcases List.mem_cons.1 hb with rfl | hb
    · rw [sdAt_eq hs] at hi ⊢
      exact ⟨i, by simp only [stp, sdAt_eq hs]; omega, h.it_adv hm i hi⟩
    · cases q with
      | nil => cases hb
      | cons c q =>
        obtain ⟨⟨s', t, g1, g2, g3⟩, hc2⟩ := hc
        rw [hs] at g1
        have := Option.some.inj g1
        subst this
        have hit : it I s.2 s.1 = t.1 := (h.last hm).2.trans g3.symm
        have e1 : stp L (a :: c :: q) = s.2 + stp L (c :: q) := by simp only [stp, sdAt_eq hs]
        obtain ⟨k, k1, k2⟩ := row_has h q c t g2 hc2 b hb i hi
        exact ⟨k + s.2, by omega, by rw [it_add, hit, k2]⟩
theorem row_per (h : SysB I L) {a : Nat} {q : List Nat} {s : Sd} (hs : L[a]? = some s) (hc : Cn I L a q) (hn : Nx I L (q.getLastD a) a) (hd : (a :: q).Nodup) : Per I s.1 (stp L (a :: q)) := by
  obtain ⟨_, h2⟩ := cns_ok h q a s hs hc
  obtain ⟨u, t, g1, g2, g3⟩ := hn
  rw [hs] at g2
  have := Option.some.inj g2
  subst this
  rw [sdAt_eq g1, ← g3] at h2
  refine ⟨?_, h2, fun k k1 k2 k3 => ?_⟩
  · have := h.pos s (List.mem_of_getElem? hs)
    simp only [stp, sdAt_eq hs]; omega
  · obtain ⟨b, t, i, j1, j2, j3, j4, j5⟩ := row_steps h q a s hs hc k k2
    rw [k3] at j4
    have h6 := h.once a b s t hs j2 0 i (h.pos s (List.mem_of_getElem? hs)) j3 (by rw [adv_zero]; exact j4)
    subst h6
    rw [hs] at j2
    have := Option.some.inj j2
    subst this
    have := j5 rfl hd
    subst this
    rw [← adv_zero s.1] at j4
    have := adv_inj (e := s.1) (i := 0) (j := k) (by rw [adv_zero] at j4 ⊢; exact j4)
    omega
/-- A border, told by its corners from its least one on. -/
def Otl (I : Sq) (e : Ed) (l : List (Int × Int)) : Prop := ∃ n, Per I e n ∧ l = crn I n e
theorem Otl.uniq {e : Ed} {l m : List (Int × Int)} (h : Otl I e l) (k : Otl I e m) : l = m := by
  obtain ⟨n, h1, rfl⟩ := h
  obtain ⟨n', h2, rfl⟩ := k
  rw [h1.uniq h2]
/-- What the program tells of a row. -/
def rowOut (L : List Sd) (r : List Nat) : List (Int × Int) := lr (cns L (sdAt L (r.getLastD 0)).1.d r)
theorem rowOut_ok (h : SysB I L) {r : List Nat} (hr : RowB I L r) : ∃ e, Lst I e ∧ Otl I e (rowOut L r) ∧ ∃ b ∈ r, ∃ i, i < (sdAt L b).2 ∧ e = adv (sdAt L b).1 i := by
  obtain ⟨a, q, rfl, hc, hn, hd⟩ := hr
  obtain ⟨B, hB⟩ := h.fin
  have ha := hn.lt.2
  have hs : L[a]? = some L[a] := List.getElem?_eq_getElem ha
  have hm : L[a] ∈ L := List.getElem_mem ha
  have hp := row_per h hs hc hn hd
  obtain ⟨h1, _⟩ := cns_ok h q a _ hs hc
  obtain ⟨j, hj, hl⟩ := has_lst (h.fst hm) hp
  have hlast : (sdAt L ((a :: q).getLastD 0)).1.d = (pd I L[a].1).d := by
    obtain ⟨u, t, g1, g2, g3⟩ := hn
    rw [hs] at g2
    have := Option.some.inj g2
    have e1 : (a :: q).getLastD 0 = q.getLastD a := by cases q <;> rfl
    rw [e1, sdAt_eq g1]
    rw [← this] at g3
    rw [g3, pd_sc (h.last (List.mem_of_getElem? g1)).1]; rfl
  refine ⟨it I j L[a].1, hl, ⟨_, hp.shift (h.fst hm) j, ?_⟩, ?_⟩
  · unfold rowOut
    rw [hlast, h1]
    exact lr_crn hB (h.fst hm) hp hj hl
  · obtain ⟨b, t, i, j1, j2, j3, j4, _⟩ := row_steps h q a _ hs hc j hj
    exact ⟨b, j1, i, by rw [sdAt_eq j2]; exact j3, by rw [sdAt_eq j2]; exact j4⟩
theorem rowOut_of (h : SysB I L) {r : List Nat} (hr : RowB I L r) {e : Ed} (he : Lst I e) {b : Nat} (hb : b ∈ r) {i : Nat} (hi : i < (sdAt L b).2) (hbe : e = adv (sdAt L b).1 i) : Otl I e (rowOut L r) := by
  obtain ⟨B, hB⟩ := h.fin
  obtain ⟨f, f1, f2, c, c1, k, c2, c3⟩ := rowOut_ok h hr
  obtain ⟨a, q, rfl, hc, hn, hd⟩ := hr
  have ha := hn.lt.2
  have hs : L[a]? = some L[a] := List.getElem?_eq_getElem ha
  obtain ⟨j, j1, j2⟩ := row_has h q a _ hs hc b hb i hi
  obtain ⟨j', j1', j2'⟩ := row_has h q a _ hs hc c c1 k c2
  have hp := row_per h hs hc hn hd
  have hm : L[a] ∈ L := List.getElem_mem ha
  -- both lie on one walk, and both are least there
  have g1 : e = it I (j + (stp L (a :: q) - j')) f := by
    rw [c3, ← j2', ← it_add, show j + (stp L (a :: q) - j') + j' = j + stp L (a :: q) from by omega, it_add, hp.2.1, j2, hbe]
  have g2 : f = it I (j' + (stp L (a :: q) - j)) e := by
    rw [hbe, ← j2, ← it_add, show j' + (stp L (a :: q) - j) + j = j' + stp L (a :: q) from by omega, it_add, hp.2.1, j2', c3]
  have g3 : e.p = f.p := by
    have n1 := f1.2 (j + (stp L (a :: q) - j'))
    rw [← g1] at n1
    have n2 := he.2 (j' + (stp L (a :: q) - j))
    rw [← g2] at n2
    rcases pl_total e.p f.p with h5 | h5 | h5
    · exact absurd h5 n1
    · exact h5
    · exact absurd h5 n2
  rw [Lst.uniq hB he f1 g3]
  exact f2
end
end Go.Proofs.YtcjeebkoafonpaaGreatDoor.PX
namespace Go.Proofs.YtcjeebkoafonpaaGreatDoor.PX
section
variable {I : Sq} {L : List Sd}
/-- All borders, in order. -/
structure Outs (I : Sq) (ls : List (List (Int × Int))) : Prop where
  is : ∀ l ∈ ls, ∃ e, Lst I e ∧ Otl I e l
  has : ∀ e, Lst I e → ∃ l ∈ ls, Otl I e l
  ord : ls.Pairwise fun a b => pl (a.headD (0, 0)) (b.headD (0, 0))
theorem Otl.head {B : List Ed} (hB : Fin_ I B) {e : Ed} {l : List (Int × Int)} (he : Lst I e) (h : Otl I e l) : ∃ r, l = e.p :: r := by
  obtain ⟨n, h1, rfl⟩ := h
  obtain ⟨k, rfl⟩ : ∃ k, n = k + 1 := ⟨n - 1, by have := h1.1; omega⟩
  unfold crn
  simp only [walk, List.filter_cons, he.corner hB, if_true, List.map_cons]
  exact ⟨_, rfl⟩
theorem Otl.headD {B : List Ed} (hB : Fin_ I B) {e : Ed} {l : List (Int × Int)} (he : Lst I e) (h : Otl I e l) : l.headD (0, 0) = e.p := by
  obtain ⟨r, rfl⟩ := h.head hB he; rfl
theorem pl_sorted_uniq : ∀ {a b : List (List (Int × Int))}, a.Pairwise (fun x y => pl (x.headD (0, 0)) (y.headD (0, 0))) → b.Pairwise (fun x y => pl (x.headD (0, 0)) (y.headD (0, 0))) → (∀ x, x ∈ a ↔ x ∈ b) → a = b
  | [], [], _, _, _ => rfl
  | [], y :: b, _, _, h => by have := (h y).2 (by simp); cases this
  | x :: a, [], _, _, h => by have := (h x).1 (by simp); cases this
  | x :: a, y :: b, ha, hb, h => by
    obtain ⟨a1, a2⟩ := List.pairwise_cons.1 ha
    obtain ⟨b1, b2⟩ := List.pairwise_cons.1 hb
    have hxy : x = y := by
      rcases List.mem_cons.1 ((h x).1 (by simp)) with h1 | h1
      · exact h1
      · rcases List.mem_cons.1 ((h y).2 (by simp)) with h2 | h2
        · exact h2.symm
        · exact absurd (pl_trans (a1 y h2) (b1 x h1)) (pl_irrefl _)
    subst hxy
    congr 1
    refine pl_sorted_uniq a2 b2 fun z => ⟨fun hz => ?_, fun hz => ?_⟩
    · rcases List.mem_cons.1 ((h z).1 (by simp [hz])) with h1 | h1
      · subst h1; exact absurd (a1 z hz) (pl_irrefl _)
      · exact h1
    · rcases List.mem_cons.1 ((h z).2 (by simp [hz])) with h1 | h1
      · subst h1; exact absurd (b1 z hz) (pl_irrefl _)
      · exact h1
theorem Outs.uniq {a b : List (List (Int × Int))} (ha : Outs I a) (hb : Outs I b) : a = b := by
  refine pl_sorted_uniq ha.ord hb.ord fun l => ⟨fun h => ?_, fun h => ?_⟩
  · obtain ⟨e, h1, h2⟩ := ha.is l h
    obtain ⟨m, h3, h4⟩ := hb.has e h1
    rw [h2.uniq h4]; exact h3
  · obtain ⟨e, h1, h2⟩ := hb.is l h
    obtain ⟨m, h3, h4⟩ := ha.has e h1
    rw [h2.uniq h4]; exact h3
/-- RowsB that have all sides, each once. -/
structure RowsB (I : Sq) (L : List Sd) (rs : List (List Nat)) : Prop where
  row : ∀ r ∈ rs, RowB I L r
  all : ∀ a, a < L.length → ∃ r ∈ rs, a ∈ r
  once : rs.Pairwise fun r r' => ∀ a ∈ r, a ∉ r'
theorem sd_lt {b i : Nat} (h : i < (sdAt L b).2) : b < L.length := by
  rcases Nat.lt_or_ge b L.length with h1 | h1
  · exact h1
  · have : sdAt L b = (⟨0, 0, .E⟩, 0) := by unfold sdAt; rw [List.getD_eq_getElem?_getD, List.getElem?_eq_none h1]; rfl
    rw [this] at h; cases h
theorem sd_get {b : Nat} (h : b < L.length) : L[b]? = some (sdAt L b) := by
  rw [sdAt_eq (List.getElem?_eq_getElem h)]; exact List.getElem?_eq_getElem h
theorem RowsB.heads {rs : List (List Nat)} (hL : SysB I L) (h : RowsB I L rs) : (rs.map (rowOut L)).Pairwise fun a b => a.headD (0, 0) ≠ b.headD (0, 0) := by
  obtain ⟨B, hB⟩ := hL.fin
  rw [List.pairwise_map]
  refine List.Pairwise.imp_of_mem (R := fun r r' => ∀ a ∈ r, a ∉ r') (fun {r r'} hr hr' hd heq => ?_) h.once
  obtain ⟨e, e1, e2, b, b1, i, b2, b3⟩ := rowOut_ok hL (h.row r hr)
  obtain ⟨f, f1, f2, c, c1, j, c2, c3⟩ := rowOut_ok hL (h.row r' hr')
  rw [e2.headD hB e1, f2.headD hB f1] at heq
  have := Lst.uniq hB e1 f1 heq
  subst this
  rw [b3] at c3
  have := hL.once b c _ _ (sd_get (sd_lt b2)) (sd_get (sd_lt c2)) i j b2 c2 c3
  subst this
  exact hd b b1 c1
theorem RowsB.is {rs : List (List Nat)} (hL : SysB I L) (h : RowsB I L rs) : ∀ l ∈ rs.map (rowOut L), ∃ e, Lst I e ∧ Otl I e l := fun l hl => by
  obtain ⟨r, hr, rfl⟩ := List.mem_map.1 hl
  obtain ⟨e, e1, e2, _⟩ := rowOut_ok hL (h.row r hr)
  exact ⟨e, e1, e2⟩
theorem RowsB.has {rs : List (List Nat)} (hL : SysB I L) (h : RowsB I L rs) : ∀ e, Lst I e → ∃ l ∈ rs.map (rowOut L), Otl I e l := fun e he => by
  obtain ⟨s, hs, i, hi, hse⟩ := hL.all e he.1
  obtain ⟨b, hb⟩ := List.mem_iff_getElem?.1 hs
  obtain ⟨r, hr, hbr⟩ := h.all b (List.getElem?_eq_some_iff.1 hb).1
  exact ⟨_, List.mem_map.2 ⟨r, hr, rfl⟩, rowOut_of hL (h.row r hr) he hbr (i := i) (by rw [sdAt_eq hb]; exact hi) (by rw [sdAt_eq hb]; exact hse.symm)⟩
theorem RowsB.outs {rs : List (List Nat)} {ls : List (List (Int × Int))} (hL : SysB I L) (h : RowsB I L rs) (hp : ls.Perm (rs.map (rowOut L))) (ho : ls.Pairwise fun a b => pl (a.headD (0, 0)) (b.headD (0, 0))) : Outs I ls :=
  ⟨fun l hl => h.is hL l (hp.mem_iff.1 hl), fun e he => by obtain ⟨l, h1, h2⟩ := h.has hL e he; exact ⟨l, hp.mem_iff.2 h1, h2⟩, ho⟩
/-! A border in straight stretches. -/
theorem sc_perp {e : Ed} (h : isB I e) : (sc I e).d = e.d ∨ (sc I e).d = e.d.left ∨ (sc I e).d = e.d.right := by
  rcases sc_cases h with ⟨_, h2⟩ | ⟨_, _, h2⟩ | ⟨_, _, h2⟩ <;> rw [h2] <;> simp
theorem sc_p (e : Ed) : (sc I e).p = (e.tx, e.ty) := by
  unfold sc
  by_cases h1 : lq I e.tx e.ty e.d = false
  · rw [if_pos h1]; rfl
  · rw [if_neg h1]
    by_cases h2 : lq I e.tx e.ty e.d.right = false
    · rw [if_pos h2]; rfl
    · rw [if_neg h2]; rfl
/-- Stretches, each behind the one before, that end at a step. -/
def Str (I : Sq) : List Sd → Ed → Prop
  | [], _ => True
  | s :: r, z => 0 < s.2 ∧ isC I s.1 = true ∧ (∀ i, i < s.2 → it I i s.1 = adv s.1 i) ∧ it I s.2 s.1 = (match r with | [] => z | t :: _ => t.1) ∧ Str I r z
def unit (s : Sd) : List Ed := (List.range s.2).map (adv s.1)
theorem walk_unit {s : Sd} (h : ∀ i, i < s.2 → it I i s.1 = adv s.1 i) : walk I s.2 s.1 = unit s := by
  apply List.ext_getElem?
  intro i
  by_cases hi : i < s.2
  · rw [walk_get I s.2 s.1 i hi, h i hi]
    unfold unit
    rw [List.getElem?_map, List.getElem?_range hi]; rfl
  · rw [List.getElem?_eq_none (by rw [walk_len]; omega), List.getElem?_eq_none (by unfold unit; simp; omega)]
theorem crn_str {s : Sd} (h0 : 0 < s.2) (hb : isB I s.1) (hc : isC I s.1 = true) (h : ∀ i, i < s.2 → it I i s.1 = adv s.1 i) : crn I s.2 s.1 = [s.1.p] := by
  obtain ⟨k, hk⟩ : ∃ k, s.2 = k + 1 := ⟨s.2 - 1, by omega⟩
  have h1 : (walk I k (sc I s.1)).filter (isC I) = [] := List.filter_eq_nil_iff.2 fun f hf => by
    obtain ⟨i, hi, rfl⟩ := walk_mem.1 hf
    have h1 : it I i (sc I s.1) = adv s.1 (i + 1) := h (i + 1) (by omega)
    have h2 : pd I (adv s.1 (i + 1)) = adv s.1 i := by
      rw [← h (i + 1) (by omega), ← h i (by omega), it_succ]
      exact pd_sc (it_isB hb i)
    rw [h1]
    unfold isC
    rw [h2]
    simp [adv]
  unfold crn
  rw [hk]
  simp only [walk, List.filter_cons, h1, hc, if_true]; rfl
/-- A walk from a corner to a corner is a row of stretches. -/
theorem stretches (I : Sq) : ∀ (k : Nat) (e : Ed), isB I e → isC I e = true → isC I (it I k e) = true → ∃ sl : List Sd, Str I sl (it I k e) ∧ (0 < k → ∃ m r, sl = (e, m) :: r) ∧ sl.map (fun s => s.1.p) = crn I k e ∧ walk I k e = sl.flatMap unit := by
  intro k
  induction k using Nat.strongRecOn with
  | _ k ih =>
    intro e he hc hz
    by_cases h0 : k = 0
    · subst h0
      exact ⟨[], trivial, fun h => absurd h (Nat.lt_irrefl 0), rfl, rfl⟩
    · obtain ⟨m, ⟨m1, m2⟩, m3⟩ := least_nat (p := fun n => 0 < n ∧ isC I (it I n e) = true) k ⟨by omega, hz⟩
      have mk : m ≤ k := by
        rcases Nat.lt_or_ge k m with h | h
        · exact absurd ⟨by omega, hz⟩ (m3 k h)
        · exact h
      have hstr : ∀ i, i < m → it I i e = adv e i := by
        intro i
        induction i with
        | zero => intro _; exact (adv_zero e).symm
        | succ i ihi =>
          intro hi
          have h1 := ihi (by omega)
          have h2 : isC I (it I (i + 1) e) = false := by
            cases hh : isC I (it I (i + 1) e) with
            | false => rfl
            | true => exact absurd ⟨by omega, hh⟩ (m3 (i + 1) hi)
          have hbi := it_isB he i
          have h3 : (sc I (it I i e)).d = (it I i e).d := by
            unfold isC at h2
            rw [it_succ, pd_sc hbi] at h2
            simp only [decide_eq_false_iff_not, ne_eq, Decidable.not_not] at h2
            exact h2.symm
          rw [it_succ]
          have h4 := sc_p (I := I) (it I i e)
          rw [h1] at h3 h4 ⊢
          obtain ⟨t1, t2⟩ := adv_to e i
          exact Ed.ext' ((congrArg Prod.fst h4).trans t1) ((congrArg Prod.snd h4).trans t2) h3
      obtain ⟨sl, s1, s2, s3, s4⟩ := ih (k - m) (by omega) (it I m e) (it_isB he m) m2 (by rw [← it_add, show k - m + m = k from by omega]; exact hz)
      rw [← it_add, show k - m + m = k from by omega] at s1
      have ek : k = m + (k - m) := by omega
      refine ⟨(e, m) :: sl, ⟨m1, hc, hstr, ?_, s1⟩, fun _ => ⟨m, sl, rfl⟩, ?_, ?_⟩
      · by_cases hkm : 0 < k - m
        · obtain ⟨m', r, rfl⟩ := s2 hkm; rfl
        · have : k = m := by omega
          subst this
          cases sl with
          | nil => rfl
          | cons s r =>
            exfalso
            rw [Nat.sub_self] at s3
            cases s3
      · rw [ek, crn_add, List.map_cons, s3, crn_str (s := (e, m)) m1 he hc hstr]; rfl
      · rw [ek, walk_add, s4, walk_unit (s := (e, m)) hstr]; rfl
end
end Go.Proofs.YtcjeebkoafonpaaGreatDoor.PX
namespace Go.Proofs.YtcjeebkoafonpaaGreatDoor.PX
section
variable {I : Sq}
/-- Points, each with the one behind it; behind the last comes z. -/
def nxp (z : Int × Int) : List (Int × Int) → List ((Int × Int) × (Int × Int))
  | [] => []
  | x :: r => (x, r.headD z) :: nxp z r
theorem it_end {s : Sd} (h0 : 0 < s.2) (h : ∀ i, i < s.2 → it I i s.1 = adv s.1 i) : (it I s.2 s.1).p = (adv s.1 s.2).p := by
  obtain ⟨k, hk⟩ : ∃ k, s.2 = k + 1 := ⟨s.2 - 1, by omega⟩
  rw [hk, it_succ, sc_p, h k (by omega)]
  obtain ⟨t1, t2⟩ := adv_to s.1 k
  rw [t1, t2]; rfl
theorem nxp_str : ∀ {sl : List Sd} {z : Ed}, Str I sl z → nxp z.p (sl.map fun s => s.1.p) = sl.map fun s => (s.1.p, (adv s.1 s.2).p)
  | [], _, _ => rfl
  | s :: r, z, ⟨h0, _, h2, h3, h4⟩ => by
    rw [List.map_cons, List.map_cons]
    unfold nxp
    rw [nxp_str h4]
    congr 1
    rw [Prod.mk.injEq]
    refine ⟨rfl, ?_⟩
    rw [← it_end h0 h2, h3]
    cases r with
    | nil => rfl
    | cons t r => rfl
/-- Where a step crosses a row. -/
def vx (y : Int) (e : Ed) : Option Int :=
  match e.d with
  | .N => if e.y = y then some e.x else none
  | .S => if e.y = y + 1 then some e.x else none
  | _ => none
/-- Does a side between two points cross a row? -/
def crs2 (y : Int) (s : (Int × Int) × (Int × Int)) : Bool := decide (s.1.1 = s.2.1) && (decide (min s.1.2 s.2.2 ≤ y) && decide (y < max s.1.2 s.2.2))
theorem range_one (f : Nat → Option Int) (v : Int) : ∀ (m j : Nat), (∀ i, i < m → f i = if i = j then some v else none) → (List.range m).filterMap f = if j < m then [v] else []
  | 0, j, _ => by simp
  | m + 1, j, h => by
    rw [List.range_succ, List.filterMap_append, range_one f v m j fun i hi => h i (by omega)]
    have hm := h m (by omega)
    by_cases h1 : j < m
    · rw [if_pos h1, if_pos (by omega)]
      rw [if_neg (by omega)] at hm
      simp [hm]
    · rw [if_neg h1]
      by_cases h2 : m = j
      · subst h2
        rw [if_pos rfl] at hm
        simp [hm]
      · rw [if_neg h2] at hm
        rw [if_neg (by omega)]
        simp [hm]
theorem range_none (f : Nat → Option Int) (m : Nat) (h : ∀ i, i < m → f i = none) : (List.range m).filterMap f = [] := by
  rw [List.filterMap_eq_nil_iff]
  intro i hi
  exact h i (List.mem_range.1 hi)
theorem vx_unit (y : Int) (s : Sd) (h0 : 0 < s.2) : (unit s).filterMap (vx y) = if crs2 y (s.1.p, (adv s.1 s.2).p) = true then [s.1.x] else [] := by
  unfold unit
  rw [List.filterMap_map]
  have hc : crs2 y (s.1.p, (adv s.1 s.2).p) = (decide (s.1.x = s.1.x + s.2 * s.1.d.dx) && (decide (min s.1.y (s.1.y + s.2 * s.1.d.dy) ≤ y) && decide (y < max s.1.y (s.1.y + s.2 * s.1.d.dy)))) := rfl
  rw [hc]
  cases hd : s.1.d
  · have hv : ∀ i, (vx y ∘ adv s.1) i = none := fun i => by simp only [Function.comp, vx, adv, hd]
    rw [range_none _ _ fun i _ => hv i, if_neg]
    simp [Dir.dx]; omega
  · have hv : ∀ i : Nat, (vx y ∘ adv s.1) i = if s.1.y + i = y then some s.1.x else none := fun i => by
      simp only [Function.comp, vx, adv, hd, Dir.dx, Dir.dy]
      rw [Int.mul_one, Int.mul_zero, Int.add_zero]
    simp only [Dir.dx, Dir.dy, Int.mul_zero, Int.add_zero, Int.mul_one]
    by_cases hy : s.1.y ≤ y ∧ y < s.1.y + s.2
    · rw [range_one _ s.1.x s.2 (y - s.1.y).toNat fun i _ => (hv i).trans ?_, if_pos (by omega), if_pos]
      · have h1 : min s.1.y (s.1.y + s.2) ≤ y := by omega
        have h2 : y < max s.1.y (s.1.y + s.2) := by omega
        simp [h1, h2]
      · by_cases h1 : s.1.y + i = y
        · rw [if_pos h1, if_pos (by omega)]
        · rw [if_neg h1, if_neg (by omega)]
    · rw [range_none _ _ fun i hi => (hv i).trans (if_neg (by omega)), if_neg]
      simp only [Bool.and_eq_true, decide_eq_true_eq, not_and]
      omega
  · have hv : ∀ i, (vx y ∘ adv s.1) i = none := fun i => by simp only [Function.comp, vx, adv, hd]
    rw [range_none _ _ fun i _ => hv i, if_neg]
    simp [Dir.dx]; omega
  · have hv : ∀ i : Nat, (vx y ∘ adv s.1) i = if s.1.y - i = y + 1 then some s.1.x else none := fun i => by
      simp only [Function.comp, vx, adv, hd, Dir.dx, Dir.dy]
      have e1 : s.1.y + (i : Int) * -1 = s.1.y - i := by omega
      rw [e1, Int.mul_zero, Int.add_zero]
    have e1 : ∀ n : Nat, s.1.y + (n : Int) * Dir.S.dy = s.1.y - n := fun n => by simp [Dir.dy]; omega
    rw [e1]
    simp only [Dir.dx, Int.mul_zero, Int.add_zero]
    by_cases hy : s.1.y - s.2 ≤ y ∧ y < s.1.y
    · rw [range_one _ s.1.x s.2 (s.1.y - 1 - y).toNat fun i _ => (hv i).trans ?_, if_pos (by omega), if_pos]
      · have h1 : min s.1.y (s.1.y - s.2) ≤ y := by omega
        have h2 : y < max s.1.y (s.1.y - s.2) := by omega
        simp [h1, h2]
      · by_cases h1 : s.1.y - i = y + 1
        · rw [if_pos h1, if_pos (by omega)]
        · rw [if_neg h1, if_neg (by omega)]
    · rw [range_none _ _ fun i hi => (hv i).trans (if_neg (by omega)), if_neg]
      simp only [Bool.and_eq_true, decide_eq_true_eq, not_and]
      omega
/-- What is known of a border's points. -/
structure RowL (I : Sq) (e : Ed) (n : Nat) (l : List (Int × Int)) : Prop where
  len : 4 ≤ l.length
  ax : ∀ s ∈ nxp e.p l, (s.1.1 = s.2.1) ≠ (s.1.2 = s.2.2)
  crs : ∀ y, ((nxp e.p l).filter (crs2 y)).map (·.1.1) = (walk I n e).filterMap (vx y)
  pts : ∀ p ∈ l, ∃ f, isB I f ∧ f.p = p
theorem Str.pos : ∀ {sl : List Sd} {z : Ed}, Str I sl z → ∀ s ∈ sl, 0 < s.2 ∧ isC I s.1 = true
  | s :: r, z, ⟨h0, h1, _, _, h4⟩, t, ht => by
    rcases List.mem_cons.1 ht with rfl | ht
    · exact ⟨h0, h1⟩
    · exact Str.pos h4 t ht
theorem str_cross (y : Int) : ∀ {sl : List Sd} {z : Ed}, Str I sl z → ((sl.map fun s => (s.1.p, (adv s.1 s.2).p)).filter (crs2 y)).map (·.1.1) = (sl.flatMap unit).filterMap (vx y)
  | [], _, _ => rfl
  | s :: r, z, ⟨h0, _, _, _, h4⟩ => by
    rw [List.map_cons, List.filter_cons, List.flatMap_cons, List.filterMap_append, ← str_cross y h4, vx_unit y s h0]
    by_cases hc : crs2 y (s.1.p, (adv s.1 s.2).p) = true
    · rw [if_pos hc, if_pos hc]; rfl
    · rw [if_neg hc, if_neg hc]; rfl
def sumd (f : Ed → Int) : List Ed → Int
  | [] => 0
  | e :: l => f e + sumd f l
theorem walk_sum : ∀ (n : Nat) (e : Ed), sumd (fun e => e.d.dx) (walk I n e) = (it I n e).x - e.x ∧ sumd (fun e => e.d.dy) (walk I n e) = (it I n e).y - e.y
  | 0, e => ⟨by simp [walk, sumd, it], by simp [walk, sumd, it]⟩
  | n + 1, e => by
    obtain ⟨h1, h2⟩ := walk_sum n (sc I e)
    have h3 := sc_p (I := I) e
    have h4 : (sc I e).x = e.x + e.d.dx := congrArg Prod.fst h3
    have h5 : (sc I e).y = e.y + e.d.dy := congrArg Prod.snd h3
    simp only [walk, sumd, it]
    constructor
    · rw [h1]; omega
    · rw [h2]; omega
theorem sumd_neg {f : Ed → Int} : ∀ {l : List Ed}, (∀ e ∈ l, f e ≤ 0) → (∃ e ∈ l, f e < 0) → sumd f l < 0
  | [], _, ⟨_, h, _⟩ => by cases h
  | e :: l, h, ⟨e', h1, h2⟩ => by
    have hall : ∀ {l : List Ed}, (∀ e ∈ l, f e ≤ 0) → sumd f l ≤ 0 := by
      intro l
      induction l with
      | nil => intro _; exact Int.le_refl _
      | cons a l ih =>
        intro h
        have := ih fun e he => h e (by simp [he])
        have := h a (by simp)
        simp only [sumd]; omega
    have h3 := h e (by simp)
    have h4 := hall (l := l) fun e he => h e (by simp [he])
    simp only [sumd]
    rcases List.mem_cons.1 h1 with rfl | h1
    · omega
    · have := sumd_neg (l := l) (fun e he => h e (by simp [he])) ⟨e', h1, h2⟩
      omega
theorem sumd_opp (f : Ed → Int) : ∀ l : List Ed, sumd (fun e => - f e) l = - sumd f l
  | [] => rfl
  | e :: l => by simp only [sumd]; rw [sumd_opp f l]; omega
/-- A closed walk that goes one way goes back, too. -/
theorem goes_back {n : Nat} {e : Ed} (h : it I n e = e) {f : Ed} (hf : f ∈ walk I n e) : ∃ g ∈ walk I n e, g.d = f.d.left.left := by
  obtain ⟨s1, s2⟩ := walk_sum (I := I) n e
  rw [h] at s1 s2
  have key : ∀ F : Ed → Int, sumd F (walk I n e) = 0 → F f < 0 → ∃ g ∈ walk I n e, 0 < F g := fun F hF hFf => by
    cases Classical.em (∃ g ∈ walk I n e, 0 < F g) with
    | inl h => exact h
    | inr hno =>
      have := sumd_neg (f := F) (l := walk I n e) (fun g hg => by
        have : ¬ 0 < F g := fun hh => hno ⟨g, hg, hh⟩
        omega) ⟨f, hf, hFf⟩
      omega
  have s1' : sumd (fun e => e.d.dx) (walk I n e) = 0 := by omega
  have s2' : sumd (fun e => e.d.dy) (walk I n e) = 0 := by omega
  have o1 : sumd (fun e => - e.d.dx) (walk I n e) = 0 := by rw [sumd_opp]; omega
  have o2 : sumd (fun e => - e.d.dy) (walk I n e) = 0 := by rw [sumd_opp]; omega
  cases hd : f.d
  · obtain ⟨g, hg, hp⟩ := key (fun e => - e.d.dx) o1 (by show - f.d.dx < 0; rw [hd]; decide)
    refine ⟨g, hg, ?_⟩
    have hp : 0 < - g.d.dx := hp
    cases hgd : g.d <;> rw [hgd] at hp <;> first | rfl | (simp [Dir.dx] at hp)
  · obtain ⟨g, hg, hp⟩ := key (fun e => - e.d.dy) o2 (by show - f.d.dy < 0; rw [hd]; decide)
    refine ⟨g, hg, ?_⟩
    have hp : 0 < - g.d.dy := hp
    cases hgd : g.d <;> rw [hgd] at hp <;> first | rfl | (simp [Dir.dy] at hp)
  · obtain ⟨g, hg, hp⟩ := key (fun e => e.d.dx) s1' (by show f.d.dx < 0; rw [hd]; decide)
    refine ⟨g, hg, ?_⟩
    have hp : 0 < g.d.dx := hp
    cases hgd : g.d <;> rw [hgd] at hp <;> first | rfl | (simp [Dir.dx] at hp)
  · obtain ⟨g, hg, hp⟩ := key (fun e => e.d.dy) s2' (by show f.d.dy < 0; rw [hd]; decide)
    refine ⟨g, hg, ?_⟩
    have hp : 0 < g.d.dy := hp
    cases hgd : g.d <;> rw [hgd] at hp <;> first | rfl | (simp [Dir.dy] at hp)
theorem pd_mem {n : Nat} {e : Ed} (he : isB I e) (h : Per I e n) : pd I e ∈ walk I n e := by
  refine walk_mem.2 ⟨n - 1, by have := h.1; omega, ?_⟩
  have h1 : sc I (it I (n - 1) e) = e := by rw [← it_succ, show n - 1 + 1 = n from by have := h.1; omega, h.2.1]
  have h2 := pd_sc (it_isB he (n - 1))
  rw [h1] at h2; exact h2.symm
theorem four_dirs {l : List Dir} (h : ∀ d : Dir, d ∈ l) : 4 ≤ l.length := by
  have := nodup_len (l := [Dir.E, .N, .W, .S]) (m := l) (by decide) fun d _ => h d
  simpa using this
theorem row_ok {B : List Ed} (hB : Fin_ I B) {e : Ed} (he : Lst I e) {n : Nat} (hn : Per I e n) : RowL I e n (crn I n e) := by
  obtain ⟨sl, s1, s2, s3, s4⟩ := stretches I n e he.1 (he.corner hB) (by rw [hn.2.1]; exact he.corner hB)
  rw [hn.2.1] at s1
  have hnx : nxp e.p (crn I n e) = sl.map fun s => (s.1.p, (adv s.1 s.2).p) := by rw [← s3]; exact nxp_str s1
  have hdirs : ∀ d : Dir, d ∈ sl.map fun s => s.1.d := by
    have mem : ∀ f ∈ walk I n e, f.d ∈ sl.map fun s => s.1.d := fun f hf => by
      rw [s4] at hf
      obtain ⟨s, hs, hf⟩ := List.mem_flatMap.1 hf
      unfold unit at hf
      obtain ⟨i, _, rfl⟩ := List.mem_map.1 hf
      exact List.mem_map.2 ⟨s, hs, rfl⟩
    have m1 : e ∈ walk I n e := walk_mem.2 ⟨0, hn.1, rfl⟩
    have m2 := pd_mem he.1 hn
    obtain ⟨g1, k1, k2⟩ := goes_back hn.2.1 m1
    obtain ⟨g2, k3, k4⟩ := goes_back hn.2.1 m2
    have q1 := mem _ m1
    have q2 := mem _ m2
    have q3 := mem _ k1
    have q4 := mem _ k3
    rw [k2] at q3
    rw [k4] at q4
    rcases he.ways hB with ⟨w1, w2⟩ | ⟨w1, w2⟩ <;> rw [w1] at q1 q3 <;> rw [w2] at q2 q4 <;> intro d <;> cases d <;> assumption
  refine ⟨?_, fun s hs => ?_, fun y => ?_, fun p hp => ?_⟩
  · have := four_dirs hdirs
    rw [List.length_map] at this
    rw [← s3, List.length_map]; exact this
  · rw [hnx] at hs
    obtain ⟨t, ht, rfl⟩ := List.mem_map.1 hs
    have h0 := (s1.pos t ht).1
    show (t.1.x = t.1.x + t.2 * t.1.d.dx) ≠ (t.1.y = t.1.y + t.2 * t.1.d.dy)
    cases t.1.d <;> simp only [Dir.dx, Dir.dy] <;> intro hh
    · have : t.1.x = t.1.x + (t.2 : Int) * 1 := by rw [hh]; omega
      omega
    · have : t.1.y = t.1.y + (t.2 : Int) * 1 := by rw [← hh]; omega
      omega
    · have : t.1.x = t.1.x + (t.2 : Int) * -1 := by rw [hh]; omega
      omega
    · have : t.1.y = t.1.y + (t.2 : Int) * -1 := by rw [← hh]; omega
      omega
  · rw [hnx, str_cross y s1, ← s4]
  · unfold crn at hp
    obtain ⟨f, hf, rfl⟩ := List.mem_map.1 hp
    obtain ⟨i, _, rfl⟩ := walk_mem.1 (List.mem_filter.1 hf).1
    exact ⟨_, it_isB he.1 i, rfl⟩
end
end Go.Proofs.YtcjeebkoafonpaaGreatDoor.PX
namespace Go.Proofs.YtcjeebkoafonpaaGreatDoor.PX
section
variable {I : Sq}
/-- How many numbers lie at or before one. -/
def cl (x : Int) (l : List Int) : Nat := (l.filter fun z => decide (z ≤ x)).length
theorem cl_append (x : Int) (l m : List Int) : cl x (l ++ m) = cl x l + cl x m := by unfold cl; rw [List.filter_append, List.length_append]
theorem cl_succ {l : List Int} (hn : l.Nodup) (x : Int) : cl (x + 1) l = cl x l + if x + 1 ∈ l then 1 else 0 := by
  induction l with
  | nil => rfl
  | cons a l ih =>
    obtain ⟨h1, h2⟩ := List.nodup_cons.1 hn
    have hc : ∀ z, cl z (a :: l) = (if a ≤ z then 1 else 0) + cl z l := fun z => by
      unfold cl
      rw [List.filter_cons]
      by_cases h : a ≤ z
      · rw [if_pos (decide_eq_true h), if_pos h, List.length_cons]; omega
      · rw [if_neg (by simpa using h), if_neg h]; omega
    rw [hc, hc, ih h2]
    by_cases ha : a = x + 1
    · subst ha
      rw [if_pos (Int.le_refl _), if_neg (show ¬ x + 1 ≤ x by omega), if_neg h1, if_pos (List.mem_cons_self)]; omega
    · have : (x + 1 ∈ a :: l) ↔ x + 1 ∈ l := by rw [List.mem_cons]; exact ⟨fun h => h.resolve_left (fun h => ha h.symm), .inr⟩
      simp only [this]
      by_cases h3 : a ≤ x
      · rw [if_pos h3, if_pos (by omega)]; omega
      · rw [if_neg h3, if_neg (by omega)]; omega
/-- Where a row changes tells what it holds. -/
theorem parity {f : Int → Bool} {V : List Int} (hn : V.Nodup) (hV : ∀ x, x ∈ V ↔ f (x - 1) ≠ f x) {lo : Int} (hlo : ∀ x, x ≤ lo → f x = false) : ∀ x, (cl x V % 2 = 1) ↔ f x = true := by
  have base : ∀ x, x ≤ lo → cl x V = 0 := fun x hx => by
    unfold cl
    rw [List.filter_eq_nil_iff.2]; rfl
    intro v hv
    have h1 := (hV v).1 hv
    simp only [decide_eq_true_eq]
    intro h2
    exact h1 (by rw [hlo v (by omega), hlo (v - 1) (by omega)])
  have step : ∀ k : Nat, (cl (lo + k) V % 2 = 1) ↔ f (lo + k) = true := by
    intro k
    induction k with
    | zero => rw [base _ (by omega), hlo _ (by omega)]; simp
    | succ k ih =>
      have e1 : lo + ((k + 1 : Nat) : Int) = lo + k + 1 := by omega
      rw [e1, cl_succ hn]
      have h1 := hV (lo + k + 1)
      rw [show lo + (k : Int) + 1 - 1 = lo + k from by omega] at h1
      by_cases h2 : lo + (k : Int) + 1 ∈ V
      · rw [if_pos h2]
        have h3 := h1.1 h2
        cases ha : f (lo + k) <;> cases hb : f (lo + k + 1) <;> simp only [ha, hb] at ih h3 ⊢ <;> simp at ih h3 ⊢ <;> omega
      · rw [if_neg h2, Nat.add_zero, ih]
        have h3 : f (lo + k) = f (lo + k + 1) := by
          cases Classical.em (f (lo + k) = f (lo + k + 1)) with
          | inl h => exact h
          | inr h => exact absurd (h1.2 h) h2
        rw [h3]
  intro x
  by_cases hx : x ≤ lo
  · rw [base x hx, hlo x hx]; simp
  · have := step (x - lo).toNat
    rw [show lo + ((x - lo).toNat : Int) = x from by omega] at this
    exact this
/-- The steps that cross a row, as numbers: where it changes. -/
theorem vx_iff {y x : Int} : (∃ e, isB I e ∧ vx y e = some x) ↔ I (x - 1) y ≠ I x y := by
  constructor
  · rintro ⟨⟨a, b, d⟩, ⟨h1, h2⟩, h3⟩
    unfold vx at h3
    cases d <;> simp only at h3 h1 h2
    · cases h3
    · split at h3
      · rename_i hb
        have := Option.some.inj h3
        subst this; subst hb
        simp only [lq, Dir.right] at h1 h2
        rw [h1, h2]; simp
      · cases h3
    · cases h3
    · split at h3
      · rename_i hb
        have := Option.some.inj h3
        subst this; subst hb
        simp only [lq, Dir.right] at h1 h2
        rw [show y + 1 - 1 = y from by omega] at h1 h2
        rw [h1, h2]; simp
      · cases h3
  · intro h
    cases h1 : I x y
    · cases h2 : I (x - 1) y
      · rw [h1, h2] at h; exact absurd rfl h
      · exact ⟨⟨x, y, .N⟩, ⟨h2, h1⟩, by simp [vx]⟩
    · cases h2 : I (x - 1) y
      · refine ⟨⟨x, y + 1, .S⟩, ⟨?_, ?_⟩, by simp [vx]⟩
        · show I x (y + 1 - 1) = true
          rw [show y + 1 - 1 = y from by omega]; exact h1
        · show I (x - 1) (y + 1 - 1) = false
          rw [show y + 1 - 1 = y from by omega]; exact h2
      · rw [h1, h2] at h; exact absurd rfl h
theorem vx_inj {y x : Int} {e f : Ed} (he : isB I e) (hf : isB I f) (h1 : vx y e = some x) (h2 : vx y f = some x) : e = f := by
  obtain ⟨a, b, d⟩ := e
  obtain ⟨a', b', d'⟩ := f
  obtain ⟨e1, e2⟩ := he
  obtain ⟨f1, f2⟩ := hf
  unfold vx at h1 h2
  cases d <;> cases d' <;> simp only at h1 h2 e1 e2 f1 f2
  all_goals first | (cases h1; done) | (cases h2; done) | skip
  all_goals
    split at h1
    case isFalse => cases h1
    split at h2
    case isFalse => cases h2
    rename_i hb hb'
    have g1 := Option.some.inj h1
    have g2 := Option.some.inj h2
    subst g1
    subst g2
    first
    | (have : b = b' := by omega
       subst this; rfl)
    | (exfalso
       subst hb; subst hb'
       simp only [lq, Dir.right] at e1 e2 f1 f2
       simp only [Int.add_sub_cancel] at e1 e2 f1 f2
       rw [e1] at f2; cases f2)
theorem nodup_filterMap {α β : Type} {f : α → Option β} : ∀ {l : List α}, l.Nodup → (∀ a ∈ l, ∀ b ∈ l, ∀ x, f a = some x → f b = some x → a = b) → (l.filterMap f).Nodup
  | [], _, _ => by simp
  | a :: l, hn, h => by
    obtain ⟨h1, h2⟩ := List.nodup_cons.1 hn
    have ih := nodup_filterMap h2 fun x hx y hy => h x (by simp [hx]) y (by simp [hy])
    rw [List.filterMap_cons]
    cases hf : f a with
    | none => exact ih
    | some x =>
      refine List.nodup_cons.2 ⟨fun hx => ?_, ih⟩
      obtain ⟨b, hb, hbx⟩ := List.mem_filterMap.1 hx
      have := h a (by simp) b (by simp [hb]) x hf hbx
      subst this
      exact h1 hb
/-- The walks of all borders: each step of the border once. -/
theorem Outs.steps {B : List Ed} (hB : Fin_ I B) : ∀ {ls : List (List (Int × Int))}, (∀ l ∈ ls, ∃ e, Lst I e ∧ Otl I e l) → (ls.Pairwise fun a b => pl (a.headD (0, 0)) (b.headD (0, 0))) →
    ∃ ws : List (List Ed), ws.length = ls.length ∧ ws.flatten.Nodup ∧ (∀ (i : Nat) (l : List (Int × Int)) (w : List Ed), ls[i]? = some l → ws[i]? = some w → ∃ e n, Lst I e ∧ Per I e n ∧ l = crn I n e ∧ w = walk I n e ∧ RowL I e n l) ∧
      (∀ f ∈ ws.flatten, ∃ l ∈ ls, ∃ e n, Lst I e ∧ Per I e n ∧ l = crn I n e ∧ f ∈ walk I n e) ∧ ∀ l ∈ ls, ∀ e n, Lst I e → Per I e n → l = crn I n e → ∀ f ∈ walk I n e, f ∈ ws.flatten
  | [], _, _ => ⟨[], rfl, by simp, fun i l w h => by simp at h, fun f hf => by simp at hf, fun l hl => by cases hl⟩
  | l :: ls, h, hp => by
    obtain ⟨p1, p2⟩ := List.pairwise_cons.1 hp
    obtain ⟨ws, w1, w2, w3, w4, w5⟩ := Outs.steps hB (ls := ls) (fun l hl => h l (by simp [hl])) p2
    obtain ⟨e, he, n, hn, hl⟩ := h l (by simp)
    have head : ∀ {e n} {l : List (Int × Int)}, Lst I e → Per I e n → l = crn I n e → l.headD (0, 0) = e.p := fun he hn hl => Otl.headD hB he ⟨_, hn, hl⟩
    refine ⟨walk I n e :: ws, by simp [w1], ?_, fun i l' w hi hw => ?_, fun f hf => ?_, fun l' hl' e' n' he' hn' hle f hf => ?_⟩
    · rw [List.flatten_cons]
      refine List.nodup_append.2 ⟨hn.nodup he.1, w2, fun a ha b hb hab => ?_⟩
      subst hab
      obtain ⟨l', hl', e', n', he', hn', hle, hf⟩ := w4 a hb
      obtain ⟨i, hi, rfl⟩ := walk_mem.1 ha
      obtain ⟨j, hj, hij⟩ := walk_mem.1 hf
      have g1 : it I (i + (n' - j)) e = e' := by
        rw [Nat.add_comm, it_add, ← hij, ← it_add, show n' - j + j = n' from by omega, hn'.2.1]
      have g2 : it I (j + (n - i)) e' = e := by
        rw [Nat.add_comm, it_add, hij, ← it_add, show n - i + i = n from by omega, hn.2.1]
      have hpe : e.p = e'.p := by
        have q1 := he.2 (i + (n' - j))
        rw [g1] at q1
        have q2 := he'.2 (j + (n - i))
        rw [g2] at q2
        rcases pl_total e.p e'.p with h5 | h5 | h5
        · exact absurd h5 q2
        · exact h5
        · exact absurd h5 q1
      have := p1 l' hl'
      rw [head he hn hl, head he' hn' hle, hpe] at this
      exact pl_irrefl _ this
    · cases i with
      | zero =>
        simp at hi hw
        subst hi; subst hw
        exact ⟨e, n, he, hn, hl, rfl, by rw [hl]; exact row_ok hB he hn⟩
      | succ i =>
        simp at hi hw
        exact w3 i l' w hi hw
    · rw [List.flatten_cons] at hf
      rcases List.mem_append.1 hf with hf | hf
      · exact ⟨l, by simp, e, n, he, hn, hl, hf⟩
      · obtain ⟨l', hl', r⟩ := w4 f hf
        exact ⟨l', by simp [hl'], r⟩
    · rw [List.flatten_cons]
      rcases List.mem_cons.1 hl' with rfl | hl'
      · have q1 := head he hn hl
        have q2 := head he' hn' hle
        have := Lst.uniq hB he he' (by rw [← q1, ← q2])
        subst this
        rw [hn.uniq hn']
        exact List.mem_append_left _ hf
      · exact List.mem_append_right _ (w5 l' hl' e' n' he' hn' hle f hf)
/-- The points of a border, closed, by the sides that cross a row. -/
def crx (y : Int) (l : List (Int × Int)) : List Int := ((nxp (l.headD (0, 0)) l).filter (crs2 y)).map (·.1.1)
theorem Outs.cross {B : List Ed} (hB : Fin_ I B) {ls : List (List (Int × Int))} (h : Outs I ls) (hfin : ∀ y, ∃ lo, ∀ x, x ≤ lo → I x y = false) (x y : Int) : (cl x (ls.flatMap (crx y)) % 2 = 1) ↔ I x y = true := by
  obtain ⟨ws, w1, w2, w3, w4, w5⟩ := Outs.steps hB h.is h.ord
  have e1 : ls.flatMap (crx y) = ws.flatten.filterMap (vx y) := by
    rw [List.filterMap_flatten]
    have : ls.map (crx y) = ws.map (List.filterMap (vx y)) := by
      apply List.ext_getElem?
      intro i
      rw [List.getElem?_map, List.getElem?_map]
      by_cases hi : i < ls.length
      · have hi' : i < ws.length := by omega
        rw [List.getElem?_eq_getElem hi, List.getElem?_eq_getElem hi']
        obtain ⟨e, n, he, hn, hl, hw, hr⟩ := w3 i _ _ (List.getElem?_eq_getElem hi) (List.getElem?_eq_getElem hi')
        simp only [Option.map_some]
        congr 1
        rw [hw, ← hr.crs y]
        unfold crx
        rw [Otl.headD hB he ⟨n, hn, hl⟩]
      · rw [List.getElem?_eq_none (by omega), List.getElem?_eq_none (by omega)]; rfl
    rw [List.flatMap_def, this]
  rw [e1]
  have hall : ∀ f, isB I f ↔ f ∈ ws.flatten := fun f => ⟨fun hf => by
    obtain ⟨n, hn⟩ := per hB hf
    obtain ⟨j, hj, hl⟩ := has_lst hf hn
    obtain ⟨l, hl1, m, hm, hl2⟩ := h.has _ hl
    refine w5 l hl1 _ m hl hm hl2 f (walk_mem.2 ⟨(n - j) % n, ?_, ?_⟩)
    · have := (hn.shift hf j).uniq hm
      rw [← this]; exact Nat.mod_lt _ hn.1
    · rw [← (hn.shift hf j).mod, ← it_add, show n - j + j = n from by omega, hn.2.1], fun hf => by
    obtain ⟨l, _, e, n, he, _, _, hf⟩ := w4 f hf
    obtain ⟨i, _, rfl⟩ := walk_mem.1 hf
    exact it_isB he.1 i⟩
  obtain ⟨lo, hlo⟩ := hfin y
  refine parity (f := fun x => I x y) (nodup_filterMap w2 fun a ha b hb z h1 h2 => vx_inj ((hall a).2 ha) ((hall b).2 hb) h1 h2) (fun z => ?_) hlo x
  rw [List.mem_filterMap, ← vx_iff]
  exact ⟨fun ⟨e, he, hz⟩ => ⟨e, (hall e).2 he, hz⟩, fun ⟨e, he, hz⟩ => ⟨e, (hall e).1 he, hz⟩⟩
end
end Go.Proofs.YtcjeebkoafonpaaGreatDoor.PX
namespace Go.Proofs.YtcjeebkoafonpaaGreatDoor
open PX
def toPt (p : Int × Int) : TPoint := ⟨p.1, p.2⟩
def ofPt (p : TPoint) : Int × Int := (p.X, p.Y)
theorem ofPt_to (p : Int × Int) : ofPt (toPt p) = p := rfl
theorem toPt_of (p : TPoint) : toPt (ofPt p) = p := rfl
/-- The point behind a side. -/
def endP (s : Sd) : Int × Int := (adv s.1 s.2).p
def toS (s : Sd) : TSide := ⟨toPt s.1.p, toPt (endP s)⟩
def dirT (d : Dir) : TPoint := ⟨d.dx, d.dy⟩
theorem dirT_inj {d e : Dir} (h : dirT d = dirT e) : d = e := by
  have h1 := congrArg TPoint.X h
  have h2 := congrArg TPoint.Y h
  cases d <;> cases e <;> first | rfl | (simp [dirT, Dir.dx] at h1; done) | (simp [dirT, Dir.dy] at h2; done) | (simp [dirT, Dir.dx, Dir.dy] at h1 h2)
/-- Coordinates within limits. -/
def Lim (p : Int × Int) : Prop := (-1000000000 ≤ p.1 ∧ p.1 ≤ 1000000000) ∧ (-1000000000 ≤ p.2 ∧ p.2 ≤ 1000000000)
structure LimS (L : List Sd) : Prop where
  len : L.length ≤ 100000000
  pts : ∀ s ∈ L, Lim s.1.p ∧ Lim (endP s)
theorem sgn1 {n : Nat} (h : 0 < n) : min 1 (max (-1) ((n : Int) * 1)) = 1 := by omega
theorem sgn2 {n : Nat} (h : 0 < n) : min 1 (max (-1) ((n : Int) * -1)) = -1 := by omega
theorem dir_ok {s : Sd} (h : 0 < s.2) (hl : Lim s.1.p ∧ Lim (endP s)) : F_shape_side__direction (toS s) = some (dirT s.1.d) := by
  obtain ⟨⟨l1, l2⟩, l3, l4⟩ := hl
  have ex : (endP s).1 = s.1.x + s.2 * s.1.d.dx := rfl
  have ey : (endP s).2 = s.1.y + s.2 * s.1.d.dy := rfl
  have e1 : (toS s).to_.X - (toS s).from_.X = s.2 * s.1.d.dx := by show (endP s).1 - s.1.x = _; rw [ex]; omega
  have e2 : (toS s).to_.Y - (toS s).from_.Y = s.2 * s.1.d.dy := by show (endP s).2 - s.1.y = _; rw [ey]; omega
  have hx : s.1.p.1 = s.1.x := rfl
  have hy : s.1.p.2 = s.1.y := rfl
  unfold F_shape_side__direction F_shape_side__direction_1
  rw [e1, e2, w64_id (by omega) (by omega), w64_id (by omega) (by omega), Option.bind_some, Option.bind_some]
  congr 1
  unfold dirT
  cases hd : s.1.d <;> simp only [Dir.dx, Dir.dy, Int.mul_zero] <;> first | rw [sgn1 h]; rfl | rw [sgn2 h]; rfl
theorem less_ok (p q : Int × Int) : F_shape_less (toPt p) (toPt q) = some (decide (pl p q)) := by
  unfold F_shape_less
  congr 1
  rw [Bool.eq_iff_iff, decide_eq_true_eq]
  unfold pl toPt
  simp
theorem eqPt (p q : Int × Int) : eqTPoint (toPt p) (toPt q) = decide (p = q) := by
  rw [Bool.eq_iff_iff, eqTPoint_iff]
  unfold toPt
  simp [Prod.ext_iff]
theorem eqDir (d e : Dir) : eqTPoint (dirT d) (dirT e) = decide (d = e) := by
  rw [Bool.eq_iff_iff, eqTPoint_iff, decide_eq_true_eq]
  exact ⟨dirT_inj, fun h => by rw [h]⟩
/-! The corners of a row. -/
theorem cns_append (L : List Sd) : ∀ (q r : List Nat) (d : Dir), cns L d (q ++ r) = cns L d q ++ cns L ((q.map fun a => (sdAt L a).1.d).getLastD d) r
  | [], r, d => rfl
  | a :: q, r, d => by
    simp only [List.cons_append, cns]
    have hl : ((a :: q).map fun a => (sdAt L a).1.d).getLastD d = (q.map fun a => (sdAt L a).1.d).getLastD (sdAt L a).1.d := by cases q <;> rfl
    rw [hl]
    split
    · rw [cns_append L q r]; rfl
    · exact cns_append L q r _
theorem cns_len (L : List Sd) : ∀ (q : List Nat) (d : Dir), (cns L d q).length ≤ q.length
  | [], _ => Nat.le_refl _
  | a :: q, d => by
    have := cns_len L q (sdAt L a).1.d
    simp only [cns]
    split <;> simp only [List.length_cons] <;> omega
theorem cns_snoc (L : List Sd) (q : List Nat) (a : Nat) (d : Dir) : cns L d (q ++ [a]) = cns L d q ++ (if ((q.map fun a => (sdAt L a).1.d).getLastD d) ≠ (sdAt L a).1.d then [(sdAt L a).1.p] else []) := by
  rw [cns_append]
  congr 1
theorem fl_lt : ∀ (l : List (Int × Int)) (b : Nat × (Int × Int)) (i n : Nat), b.1 < n → i + l.length ≤ n → fl l b i < n
  | [], b, i, n, h, _ => h
  | p :: l, b, i, n, h, h' => by
    simp only [List.length_cons] at h'
    unfold fl
    split
    · exact fl_lt l (i, p) (i + 1) n (by show i < n; omega) (by omega)
    · exact fl_lt l b (i + 1) n h (by omega)
/-- What the loop for the least corner does behind it. -/
def rotK (c : List TPoint) (k : Nat) : Option (List TPoint) :=
  (cut c (k : Int) (c.length : Int)).bind fun l138 => (Proofs.YtcjeebkoafonpaaGreatDoor.pre c (k : Int)).bind fun l139 => (F_slices_Concat_Point [l138, l139]).bind fun y143 => some y143
theorem least_loop (c : List (Int × Int)) (hc : c.length ≤ 100000000) : ∀ (suf q : List (Int × Int)) (m : Nat) (p : Int × Int), c = q ++ suf → c[m]? = some p → F_shape_corners_L2 (c.map toPt) (suf.map toPt) q.length (m : Int) = rotK (c.map toPt) (fl suf (m, p) q.length)
  | [], q, m, p, h, hm => by
    show F_shape_corners_L2 _ [] _ _ = _
    rw [F_shape_corners_L2.eq_1]; rfl
  | x :: suf, q, m, p, h, hm => by
    show F_shape_corners_L2 _ (toPt x :: suf.map toPt) _ _ = _
    have hid : idx (c.map toPt) (m : Int) = some (toPt p) := by
      unfold idx
      rw [if_pos (by omega), Int.toNat_natCast, List.getElem?_map, hm]; rfl
    have hx : c[q.length]? = some x := by rw [h]; simp
    have e1 := least_loop c hc suf (q ++ [x]) q.length x (by rw [h]; simp) hx
    have e2 := least_loop c hc suf (q ++ [x]) m p (by rw [h]; simp) hm
    rw [List.length_append] at e1 e2
    rw [F_shape_corners_L2.eq_2, hid, Option.bind_some, less_ok, Option.bind_some]
    unfold fl
    by_cases hp : pl x p
    · rw [if_pos (by simpa using hp), if_pos hp]; exact e1
    · rw [if_neg (by simpa using hp), if_neg hp]; exact e2
theorem concat2 {a b : List TPoint} (h : a.length + b.length ≤ 100000000) : F_slices_Concat_Point [a, b] = some (a ++ b) := by
  unfold F_slices_Concat_Point
  have e1 : w64 (0 + (a.length : Int)) = a.length := by rw [w64_id (by omega) (by omega)]; omega
  have e2 : w64 ((a.length : Int) + (b.length : Int)) = (a.length : Int) + b.length := w64_id (by omega) (by omega)
  rw [F_slices_Concat_Point_L1.eq_2, e1, if_neg (by simp), F_slices_Concat_Point_L1.eq_2, e2, if_neg (by simp; omega), F_slices_Concat_Point_L1.eq_1]
  have e3 : (grN ((a.length : Int) + b.length) : Option (List TPoint)) = some [] := if_pos ⟨by omega, by omega⟩
  rw [e3, Option.bind_some, F_slices_Concat_Point_L2.eq_2, apd_ok (by simp; omega), Option.bind_some, F_slices_Concat_Point_L2.eq_2, apd_ok (by simp; omega), Option.bind_some, F_slices_Concat_Point_L2.eq_1]
  simp
theorem rotK_ok {c : List TPoint} {k : Nat} (hc : c.length ≤ 100000000) (hk : k ≤ c.length) : rotK c k = some (c.drop k ++ c.take k) := by
  unfold rotK
  have e1 : cut c (k : Int) (c.length : Int) = some (c.drop k) := by
    unfold cut
    rw [if_pos (by omega)]
    simp
  have e2 : Proofs.YtcjeebkoafonpaaGreatDoor.pre c (k : Int) = some (c.take k) := by
    unfold Proofs.YtcjeebkoafonpaaGreatDoor.pre
    rw [if_pos (by omega)]
    simp
  rw [e1, e2, Option.bind_some, Option.bind_some, concat2 (by simp; omega)]; rfl
/-- The corners of a row of sides: as far as the turns go. -/
theorem turns_loop {I : Sq} {L : List Sd} (hL : SysB I L) (hb : LimS L) (row : List Nat) (hr : ∀ a ∈ row, a < L.length) (hlen : row.length ≤ 100000000) : ∀ (suf q : List Nat), row = q ++ suf →
    F_shape_corners_L1 (row.map fun a => toS (sdAt L a)) (suf.map fun a => toS (sdAt L a)) q.length ((cns L (sdAt L (row.getLastD 0)).1.d q).map toPt) = F_shape_corners_L2 ((cns L (sdAt L (row.getLastD 0)).1.d row).map toPt) ((cns L (sdAt L (row.getLastD 0)).1.d row).map toPt) 0 0
  | [], q, h => by
    rw [List.append_nil] at h
    subst h
    show F_shape_corners_L1 _ [] _ _ = _
    rw [F_shape_corners_L1.eq_1]
  | a :: suf, q, h => by
    have hdir : ∀ b ∈ row, F_shape_side__direction (toS (sdAt L b)) = some (dirT (sdAt L b).1.d) := fun b hb' => by
      have hg := sd_get (hr b hb')
      have hm := List.mem_of_getElem? hg
      exact dir_ok (hL.pos _ hm) (hb.pts _ hm)
    have hql : q.length ≤ 100000000 := by rw [h] at hlen; simp at hlen; omega
    have hn : 0 < row.length := by rw [h]; simp; omega
    -- the side before
    have hprev : ∃ b ∈ row, (md (w64 ((w64 ((q.length : Int) + ((row.map fun a => toS (sdAt L a)).length : Int))) - 1)) ((row.map fun a => toS (sdAt L a)).length : Int)).bind (fun q150 => idx (row.map fun a => toS (sdAt L a)) q150) = some (toS (sdAt L b)) ∧ (sdAt L b).1.d = (q.map fun a => (sdAt L a).1.d).getLastD (sdAt L (row.getLastD 0)).1.d := by
      rw [List.length_map, w64_id (x := (q.length : Int) + row.length) (by omega) (by omega), w64_id (by omega) (by omega)]
      have hmd : md ((q.length : Int) + row.length - 1) row.length = some (Int.tmod ((q.length : Int) + row.length - 1) row.length) := by unfold md; rw [if_neg (by omega)]
      rw [hmd, Option.bind_some]
      rcases List.eq_nil_or_concat q with hq | ⟨q', b, hq⟩
      · subst hq
        have e1 : Int.tmod ((([] : List Nat).length : Int) + row.length - 1) row.length = ((row.length - 1 : Nat) : Int) := by
          rw [Int.tmod_eq_emod_of_nonneg (by simp; omega), List.length_nil, Int.emod_eq_of_lt (by omega) (by omega)]; omega
        have hne : row ≠ [] := by rw [h]; simp
        have hlast : row[row.length - 1]? = some (row.getLastD 0) := by
          rw [List.getLastD_eq_getLast?, List.getLast?_eq_getElem?]
          rw [List.getElem?_eq_getElem (by omega)]; rfl
        refine ⟨row.getLastD 0, List.mem_of_getElem? hlast, ?_, rfl⟩
        rw [e1]
        unfold idx
        rw [if_pos (by omega), Int.toNat_natCast, List.getElem?_map, hlast]; rfl
      · rw [List.concat_eq_append] at hq
        subst hq
        have e1 : Int.tmod (((q' ++ [b]).length : Int) + row.length - 1) row.length = (q'.length : Int) := by
          have : ((q' ++ [b]).length : Int) + row.length - 1 = (q'.length : Int) + row.length := by simp; omega
          rw [this, Int.tmod_eq_emod_of_nonneg (by omega), Int.add_emod_right, Int.emod_eq_of_lt (by omega) (by rw [h]; simp; omega)]
        have hb2 : row[q'.length]? = some b := by rw [h]; simp
        refine ⟨b, List.mem_of_getElem? hb2, ?_, by simp⟩
        rw [e1]
        unfold idx
        rw [if_pos (by omega), Int.toNat_natCast, List.getElem?_map, hb2]; rfl
    obtain ⟨b, hb1, hb2, hb3⟩ := hprev
    have ih := turns_loop hL hb row hr hlen suf (q ++ [a]) (by rw [h]; simp)
    rw [List.length_append, cns_snoc] at ih
    show F_shape_corners_L1 _ (toS (sdAt L a) :: suf.map _) _ _ = _
    rw [F_shape_corners_L1.eq_2, hdir a (by rw [h]; simp), Option.bind_some]
    obtain ⟨q150, hq1, hq2⟩ := Option.bind_eq_some_iff.1 hb2
    rw [hq1, Option.bind_some, hq2, Option.bind_some, hdir b hb1, Option.bind_some, eqDir, hb3]
    have hcl := cns_len L q (sdAt L (row.getLastD 0)).1.d
    generalize (q.map fun a => (sdAt L a).1.d).getLastD (sdAt L (row.getLastD 0)).1.d = dp at ih ⊢
    generalize cns L (sdAt L (row.getLastD 0)).1.d q = cq at ih hcl ⊢
    by_cases hd : dp = (sdAt L a).1.d
    · rw [if_neg (by simp [hd])]
      rw [if_neg (by simpa using hd), List.append_nil] at ih
      exact ih
    · rw [if_pos (by simp; exact fun hh => hd hh.symm)]
      rw [if_pos hd, List.map_append] at ih
      rw [apd_ok (by rw [List.length_map]; simp; omega), Option.bind_some]
      exact ih
theorem corners_ok {I : Sq} {L : List Sd} (hL : SysB I L) (hb : LimS L) {row : List Nat} (hr : ∀ a ∈ row, a < L.length) (hlen : row.length ≤ 100000000) (hne : cns L (sdAt L (row.getLastD 0)).1.d row ≠ []) : F_shape_corners (row.map fun a => toS (sdAt L a)) = some ((rowOut L row).map toPt) := by
  unfold F_shape_corners
  have h1 := turns_loop hL hb row hr hlen row [] rfl
  rw [List.length_nil] at h1
  have h0 : (cns L (sdAt L (row.getLastD 0)).1.d []).map toPt = [] := rfl
  rw [h0] at h1
  rw [h1]
  unfold rowOut lr
  have hcl := cns_len L row (sdAt L (row.getLastD 0)).1.d
  generalize cns L (sdAt L (row.getLastD 0)).1.d row = c at hne hcl
  obtain ⟨p, r, rfl⟩ := List.exists_cons_of_ne_nil hne
  have h2 := least_loop (p :: r) (by omega) (p :: r) [] 0 p rfl rfl
  rw [List.length_nil] at h2
  have e0 : ((0 : Nat) : Int) = 0 := rfl
  rw [e0] at h2
  rw [h2]
  have hk := fl_lt (p :: r) (0, p) 0 (p :: r).length (by simp) (by simp)
  rw [rotK_ok (by rw [List.length_map]; omega) (by rw [List.length_map]; omega)]
  simp only [List.headD_cons, List.map_append, List.map_drop, List.map_take]
end Go.Proofs.YtcjeebkoafonpaaGreatDoor
namespace Go.Proofs.YtcjeebkoafonpaaGreatDoor
open PX
/-! Which side goes on. -/
/-- Two steps of the border from one point, of which one follows a step: it goes left. -/
theorem two_out {I : Sq} {f e : Ed} (hf : isB I f) (he : isB I e) (hx : e.x = f.tx) (hy : e.y = f.ty) (hne : e ≠ sc I f) : (sc I f).d = f.d.left := by
  obtain ⟨g1, g2⟩ := Ed.at_to I f
  have f1 : lq I f.tx f.ty f.d.left = true := g1.trans hf.1
  have f2 : lq I f.tx f.ty f.d.left.left = false := g2.trans hf.2
  obtain ⟨e1, e2⟩ := he
  rw [hx, hy] at e1 e2
  rcases sc_cases hf with ⟨_, h2⟩ | ⟨h1, h2, h3⟩ | ⟨h1, h2, h3⟩
  · rw [h2]
  · exfalso
    have hd : e.d = f.d := by
      generalize f.d = d at f1 f2 h1 h2
      generalize e.d = d' at e1 e2
      cases d <;> cases d' <;> simp only [Dir.left, Dir.right] at * <;> first | rfl | (rw [e1] at f2; cases f2) | (rw [e2] at f1; cases f1) | (rw [e2] at h1; cases h1) | (rw [e1] at h2; cases h2)
    exact hne (by rw [h3]; exact Ed.ext' hx hy hd)
  · exfalso
    have hd : e.d = f.d.right := by
      generalize f.d = d at f1 f2 h1 h2
      generalize e.d = d' at e1 e2
      cases d <;> cases d' <;> simp only [Dir.left, Dir.right] at * <;> first | rfl | (rw [e1] at f2; cases f2) | (rw [e2] at f1; cases f1) | (rw [e2] at h1; cases h1) | (rw [e2] at h2; cases h2)
    exact hne (by rw [h3]; exact Ed.ext' hx hy hd)
theorem left_sc {I : Sq} {f e : Ed} (he : isB I e) (hx : e.x = f.tx) (hy : e.y = f.ty) (hd : e.d = f.d.left) : e = sc I f := by
  have h2 := he.2
  rw [hx, hy, hd, Dir.lr] at h2
  rw [sc_l h2]
  exact Ed.ext' hx hy hd
theorem lst_to {s : Sd} (h : 0 < s.2) : (lstE s).tx = (endP s).1 ∧ (lstE s).ty = (endP s).2 ∧ (lstE s).d = s.1.d := by
  obtain ⟨t1, t2⟩ := adv_to s.1 (s.2 - 1)
  have e : s.2 - 1 + 1 = s.2 := by omega
  rw [e] at t1 t2
  exact ⟨t1, t2, rfl⟩
/-- The sides that begin at a point. -/
def idxs (L : List Sd) (v : Int × Int) : List Int := ((List.range L.length).filter fun a => decide ((sdAt L a).1.p = v)).map fun a : Nat => (a : Int)
theorem idxs_mem {L : List Sd} {v : Int × Int} {j : Int} : j ∈ idxs L v ↔ ∃ a, a < L.length ∧ (sdAt L a).1.p = v ∧ j = (a : Int) := by
  unfold idxs
  simp only [List.mem_map, List.mem_filter, List.mem_range, decide_eq_true_eq]
  exact ⟨fun ⟨a, ⟨h1, h2⟩, h3⟩ => ⟨a, h1, h2, h3.symm⟩, fun ⟨a, h1, h2, h3⟩ => ⟨a, ⟨h1, h2⟩, h3.symm⟩⟩
theorem idxs_nodup (L : List Sd) (v : Int × Int) : (idxs L v).Nodup := by
  unfold idxs
  rw [List.Nodup, List.pairwise_map]
  exact (List.nodup_range.filter _).imp fun h hh => h (by omega)
section
variable {I : Sq} {L : List Sd}
theorem nx_from (h : SysB I L) {a b : Nat} (hn : Nx I L a b) : (sdAt L b).1.p = endP (sdAt L a) := by
  obtain ⟨s, t, h1, h2, h3⟩ := hn
  rw [sdAt_eq h1, sdAt_eq h2, h3, sc_p]
  have hp := h.pos s (List.mem_of_getElem? h1)
  exact Prod.ext (lst_to hp).1 (lst_to hp).2.1
/-- A side goes on along another one, that begins at its end, just if none else begins there, or it goes left. -/
theorem goes_on (h : SysB I L) {a b : Nat} (ha : a < L.length) (hb : b < L.length) (hv : (sdAt L b).1.p = endP (sdAt L a)) : (Nx I L a b ↔ (idxs L (endP (sdAt L a))).length = 1 ∨ (sdAt L b).1.d = (sdAt L a).1.d.left) := by
  have ga := sd_get ha
  have gb := sd_get hb
  have ma := List.mem_of_getElem? ga
  have mb := List.mem_of_getElem? gb
  obtain ⟨t1, t2, t3⟩ := lst_to (h.pos _ ma)
  have hl := (h.last ma).1
  have hx : (sdAt L b).1.x = (lstE (sdAt L a)).tx := (congrArg Prod.fst hv).trans t1.symm
  have hy : (sdAt L b).1.y = (lstE (sdAt L a)).ty := (congrArg Prod.snd hv).trans t2.symm
  have fb := h.fst mb
  obtain ⟨b', hb', hn⟩ := h.next ha
  have hm' : (b' : Int) ∈ idxs L (endP (sdAt L a)) := idxs_mem.2 ⟨b', hb', nx_from h hn, rfl⟩
  have hm : (b : Int) ∈ idxs L (endP (sdAt L a)) := idxs_mem.2 ⟨b, hb, hv, rfl⟩
  constructor
  · intro hab
    have := h.nx_r hab hn
    subst this
    cases Classical.em ((sdAt L b).1.d = (sdAt L a).1.d.left) with
    | inl hh => exact .inr hh
    | inr hh =>
      left
      -- any other side that begins there would make it go left
      have hall : ∀ j ∈ idxs L (endP (sdAt L a)), j = (b : Int) := fun j hj => by
        obtain ⟨c, hc, hcv, rfl⟩ := idxs_mem.1 hj
        have gc := sd_get hc
        have mc := List.mem_of_getElem? gc
        obtain ⟨s, t, k1, k2, k3⟩ := hab
        rw [ga] at k1
        rw [gb] at k2
        have k1 := Option.some.inj k1
        have k2 := Option.some.inj k2
        subst k1; subst k2
        cases Classical.em ((sdAt L c).1 = sc I (lstE (sdAt L a))) with
        | inl he =>
          have := h.nx_r ⟨_, _, ga, gc, he⟩ ⟨_, _, ga, gb, k3⟩
          rw [this]
        | inr he =>
          exfalso
          have := two_out hl (h.fst mc) ((congrArg Prod.fst hcv).trans t1.symm) ((congrArg Prod.snd hcv).trans t2.symm) he
          rw [← k3, t3] at this
          exact hh this
      have hnd := idxs_nodup L (endP (sdAt L a))
      match hq : idxs L (endP (sdAt L a)), hm, hall, hnd with
      | [x], _, _, _ => rfl
      | x :: y :: r, _, hall, hnd =>
        exfalso
        have e1 := hall x (by simp)
        have e2 := hall y (by simp)
        rw [e1, e2] at hnd
        simp at hnd
  · intro hor
    rcases hor with h1 | h1
    · obtain ⟨x, hx1⟩ := List.length_eq_one_iff.1 h1
      rw [hx1] at hm hm'
      simp at hm hm'
      have : b = b' := by omega
      rw [this]; exact hn
    · exact ⟨_, _, ga, gb, left_sc fb hx hy (by rw [t3]; exact h1)⟩
/-! The map of sides by the points where they begin. -/
theorem kmget_put {κ α : Type} [DecidableEq κ] (k : κ) (l : List α) (k' : κ) : ∀ m : List (κ × List α), kmget (kmput m k l) k' = if k = k' then l else kmget m k'
  | [] => by simp [kmput, kmget]
  | p :: m => by
    unfold kmput
    by_cases h : p.1 = k
    · rw [if_pos h]
      by_cases h' : k = k'
      · simp [kmget, h']
      · simp [kmget, h, h']
    · rw [if_neg h]
      simp only [kmget]
      rw [kmget_put k l k' m]
      by_cases h' : k = k'
      · subst h'; simp [h]
      · simp [h']
theorem okP_lim {p : Int × Int} (h : Lim p) : okP p = true := by
  obtain ⟨⟨h1, h2⟩, h3, h4⟩ := h
  unfold okP inR
  simp; omega
theorem map_loop (hb : LimS L) (N : Nat) : ∀ (suf q : List Sd) (m : List ((Int × Int) × List Int)), L = q ++ suf → (∀ v, kmget m v = ((List.range q.length).filter fun a => decide ((sdAt L a).1.p = v)).map fun a : Nat => (a : Int)) →
    ∃ m', (∀ v, kmget m' v = idxs L v) ∧ F_shape_Set__Borders_L1 N (L.map toS) (suf.map toS) q.length m = (mkl false ((L.map toS).length : Int)).bind fun l126 => F_shape_Set__Borders_L8 N (L.map toS) m' (L.map toS) 0 l126 []
  | [], q, m, h, hm => by
    rw [List.append_nil] at h
    subst h
    refine ⟨m, hm, ?_⟩
    show F_shape_Set__Borders_L1 _ _ [] _ _ = _
    rw [F_shape_Set__Borders_L1.eq_1]
  | s :: suf, q, m, h, hm => by
    have hg : L[q.length]? = some s := by rw [h]; simp
    have hs := sdAt_eq hg
    have hlim := (hb.pts s (List.mem_of_getElem? hg)).1
    have hlen := hb.len
    have hql : q.length ≤ 100000000 := by rw [h] at hlen; simp at hlen; omega
    obtain ⟨m', h1, h2⟩ := map_loop hb N suf (q ++ [s]) (kmput m s.1.p (kmget m s.1.p ++ [(q.length : Int)])) (by rw [h]; simp) (fun v => by
      rw [kmget_put, List.length_append, List.length_singleton, List.range_succ, List.filter_append, List.map_append, hm v]
      by_cases hv : s.1.p = v
      · subst hv
        rw [if_pos rfl, hm]
        simp [hs]
      · rw [if_neg hv]
        simp [hs, hv])
    refine ⟨m', h1, ?_⟩
    rw [List.length_append] at h2
    show F_shape_Set__Borders_L1 _ _ (toS s :: suf.map toS) _ _ = _
    have e1 : kmgetO okP m ((toS s).from_.X, (toS s).from_.Y) = some (kmget m s.1.p) := if_pos (okP_lim hlim)
    have hkl : (kmget m s.1.p).length ≤ q.length := by rw [hm, List.length_map]; exact Nat.le_trans (List.length_filter_le _ _) (Nat.le_of_eq List.length_range)
    rw [F_shape_Set__Borders_L1.eq_2, e1, Option.bind_some, apd_ok (by simp; omega), Option.bind_some]
    exact h2
theorem left_ok {s : Sd} (h : 0 < s.2) (hl : Lim s.1.p ∧ Lim (endP s)) : F_shape_Set__Borders_1 (toS s) = some (dirT s.1.d.left) := by
  unfold F_shape_Set__Borders_1
  rw [dir_ok h hl, Option.bind_some]
  congr 1
  unfold dirT
  cases s.1.d <;> simp only [Dir.dx, Dir.dy, Dir.left] <;> rfl
variable {m : List ((Int × Int) × List Int)}
theorem get_end (hm : ∀ v, kmget m v = idxs L v) {s : Sd} (h : Lim (endP s)) : kmgetO okP m ((toS s).to_.X, (toS s).to_.Y) = some (idxs L (endP s)) := by
  show kmgetO okP m (endP s) = _
  unfold kmgetO
  rw [if_pos (okP_lim h), hm]
theorem closes_ok (h : SysB I L) (hb : LimS L) (hm : ∀ v, kmget m v = idxs L v) {a b : Nat} (ha : a < L.length) (hb' : b < L.length) (hv : (sdAt L b).1.p = endP (sdAt L a)) :
    ∃ g, F_shape_Set__Borders_2__Borders_1 (toS (sdAt L a)) (toS (sdAt L b)) m = some g ∧ (g = true ↔ Nx I L a b) := by
  have ma := List.mem_of_getElem? (sd_get ha)
  have mb := List.mem_of_getElem? (sd_get hb')
  have e1 : kmgetO okP m ((toS (sdAt L a)).to_.X, (toS (sdAt L a)).to_.Y) = some (idxs L (endP (sdAt L a))) := get_end hm (hb.pts _ ma).2
  unfold F_shape_Set__Borders_2__Borders_1
  rw [e1, Option.bind_some, dir_ok (h.pos _ mb) (hb.pts _ mb), left_ok (h.pos _ ma) (hb.pts _ ma)]
  simp only [Option.bind_some, eqDir]
  rw [goes_on h ha hb' hv]
  by_cases h1 : (idxs L (endP (sdAt L a))).length = 1
  · rw [if_pos (by simp; omega)]
    exact ⟨true, rfl, by simp [h1]⟩
  · rw [if_neg (by simp; omega)]
    exact ⟨_, rfl, by simp [h1]⟩
theorem next_loop (h : SysB I L) (hb : LimS L) (hm : ∀ v, kmget m v = idxs L v) {a b : Nat} (ha : a < L.length) (hn : Nx I L a b) {u : List Bool} (hu : u.length = L.length) (hub : u[b]? = some false) : ∀ (l : List Int) (i : Nat), (∀ j ∈ l, j ∈ idxs L (endP (sdAt L a))) → (b : Int) ∈ l →
    F_shape_Set__Borders_3__Borders_2__Borders_1_L1 (toS (sdAt L a)) u (L.map toS) m l i = some (b : Int)
  | j :: l, i, hl, hbl => by
    obtain ⟨c, hc, hcv, rfl⟩ := idxs_mem.1 (hl j (by simp))
    obtain ⟨g, g1, g2⟩ := closes_ok h hb hm ha hc hcv
    have hid : idx u (c : Int) = some u[c] := idx_nat (by omega)
    have hid2 : idx (L.map toS) (c : Int) = some (toS (sdAt L c)) := by
      unfold idx
      rw [if_pos (by omega), Int.toNat_natCast, List.getElem?_map, sd_get hc]; rfl
    rw [F_shape_Set__Borders_3__Borders_2__Borders_1_L1.eq_2, hid, Option.bind_some, hid2, Option.bind_some, g1, Option.bind_some]
    by_cases hcb : c = b
    · subst hcb
      have hf : u[c] = false := by
        have := List.getElem?_eq_getElem (l := u) (i := c) (by omega)
        rw [hub] at this; exact (Option.some.inj this).symm
      rw [hf, if_pos (by rfl), Option.bind_some, if_pos (g2.2 hn)]
    · have hg : g = false := by
        cases hg : g with
        | false => rfl
        | true => exact absurd (h.nx_r (g2.1 hg) hn) hcb
      have hres : ∀ z : Bool, (if (!z) = true then some g else some false) = some false := fun z => by cases z <;> simp [hg]
      rw [hres, Option.bind_some, if_neg (by simp)]
      refine next_loop h hb hm ha hn hu hub l (i + 1) (fun j hj => hl j (by simp [hj])) ?_
      rcases List.mem_cons.1 hbl with hbl | hbl
      · exact absurd (by omega) hcb
      · exact hbl
theorem nextB_ok (h : SysB I L) (hb : LimS L) (hm : ∀ v, kmget m v = idxs L v) {a b : Nat} (ha : a < L.length) (hn : Nx I L a b) {u : List Bool} (hu : u.length = L.length) (hub : u[b]? = some false) : F_shape_Set__Borders_3__Borders_2__Borders_1 (toS (sdAt L a)) m u (L.map toS) m = some (b : Int) := by
  have ma := List.mem_of_getElem? (sd_get ha)
  have e1 : kmgetO okP m ((toS (sdAt L a)).to_.X, (toS (sdAt L a)).to_.Y) = some (idxs L (endP (sdAt L a))) := get_end hm (hb.pts _ ma).2
  unfold F_shape_Set__Borders_3__Borders_2__Borders_1
  rw [e1, Option.bind_some]
  exact next_loop h hb hm ha hn hu hub _ 0 (fun _ hj => hj) (idxs_mem.2 ⟨b, hn.lt.2, nx_from h hn, rfl⟩)
end
end Go.Proofs.YtcjeebkoafonpaaGreatDoor
namespace Go.Proofs.YtcjeebkoafonpaaGreatDoor
open PX Go.Sort
section
variable {I : Sq} {L : List Sd}
theorem cn_snoc : ∀ {q : List Nat} {a c : Nat}, Cn I L a q → Nx I L (q.getLastD a) c → Cn I L a (q ++ [c])
  | [], a, c, _, h => ⟨h, trivial⟩
  | b :: q, a, c, ⟨h1, h2⟩, h => ⟨h1, cn_snoc h2 (by cases q <;> exact h)⟩
theorem lastD_mem : ∀ {q : List Nat} {a : Nat}, q.getLastD a ∈ a :: q
  | [], a => by simp
  | b :: q, a => by
    have : (b :: q).getLastD a = q.getLastD b := by cases q <;> rfl
    rw [this]
    exact List.mem_cons_of_mem _ lastD_mem
theorem cn_back : ∀ {q : List Nat} {a : Nat}, Cn I L a q → (a :: q).Nodup → ∀ c ∈ q, ∃ p ∈ a :: q, Nx I L p c ∧ p ≠ q.getLastD a
  | b :: q, a, ⟨h1, h2⟩, hn, c, hc => by
    have e : (b :: q).getLastD a = q.getLastD b := by cases q <;> rfl
    rw [e]
    obtain ⟨n1, n2⟩ := List.nodup_cons.1 hn
    rcases List.mem_cons.1 hc with rfl | hc
    · exact ⟨a, by simp, h1, fun hh => n1 (by rw [hh]; exact lastD_mem)⟩
    · obtain ⟨p, p1, p2, p3⟩ := cn_back h2 n2 c hc
      exact ⟨p, List.mem_cons_of_mem _ p1, p2, p3⟩
theorem rowB_back (h : SysB I L) {r : List Nat} (hr : RowB I L r) {a b : Nat} (hb : b ∈ r) (hn : Nx I L a b) : a ∈ r := by
  obtain ⟨i, q, rfl, h1, h2, h3⟩ := hr
  rcases List.mem_cons.1 hb with rfl | hb
  · rw [h.nx_l hn h2]; exact lastD_mem
  · obtain ⟨p, p1, p2, _⟩ := cn_back h1 h3 b hb
    rw [h.nx_l hn p2]; exact p1
/-- Which sides are used up: those of the rows. -/
structure InvB (I : Sq) (L : List Sd) (u : List Bool) (rs : List (List Nat)) : Prop where
  len : u.length = L.length
  use : ∀ a, u[a]? = some true ↔ ∃ r ∈ rs, a ∈ r
  row : ∀ r ∈ rs, RowB I L r
  once : rs.Pairwise fun r r' => ∀ a ∈ r, a ∉ r'
theorem nodup_le : ∀ {n : Nat} {l : List Nat}, l.Nodup → (∀ a ∈ l, a < n) → l.length ≤ n
  | 0, [], _, _ => Nat.le_refl _
  | 0, a :: l, _, h => absurd (h a (by simp)) (Nat.not_lt_zero _)
  | n + 1, l, hn, h => by
    have ih := nodup_le (n := n) (l := l.erase n) (hn.erase n) fun a ha => by
      obtain ⟨h1, h2⟩ := hn.mem_erase_iff.1 ha
      have := h a h2
      omega
    rw [List.length_erase] at ih
    split at ih <;> omega
theorem not_true {u : List Bool} {a : Nat} (h : a < u.length) (hn : ¬ u[a]? = some true) : u[a]? = some false := by
  rw [List.getElem?_eq_getElem h] at hn ⊢
  cases hu : u[a] with
  | true => exact absurd (congrArg some hu) hn
  | false => rfl
theorem count_set : ∀ {u : List Bool} {b : Nat}, u[b]? = some false → (u.set b true).count false + 1 = u.count false
  | [], b, h => by simp at h
  | x :: u, 0, h => by simp at h; subst h; simp
  | x :: u, b + 1, h => by
    have := count_set (u := u) (b := b) (by simpa using h)
    simp only [List.set_cons_succ, List.count_cons]
    omega
variable {m : List ((Int × Int) × List Int)}
theorem idx_sd {b : Nat} (h : b < L.length) : idx (L.map toS) (b : Int) = some (toS (sdAt L b)) := by
  unfold idx
  rw [if_pos (by omega), Int.toNat_natCast, List.getElem?_map, sd_get h]; rfl
theorem row_loop (h : SysB I L) (hb : LimS L) (hm : ∀ v, kmget m v = idxs L v) {i : Nat} {rs : List (List Nat)} (hrs : ∀ r ∈ rs, RowB I L r) (hir : ∀ r ∈ rs, i ∉ r) (out : List (List TPoint)) (k : List Bool → List (List TPoint) → Option (List (List TPoint))) :
    ∀ (fuel : Nat) (q : List Nat) (b : Nat) (u : List Bool) (t : List Nat), q ++ [b] = i :: t → Cn I L i t → (i :: t).Nodup → (∀ a ∈ i :: t, ∀ r ∈ rs, a ∉ r) → b < L.length → (∀ a ∈ q, a < L.length) → u.length = L.length → (∀ a, u[a]? = some true ↔ (∃ r ∈ rs, a ∈ r) ∨ a ∈ q) → u.count false < fuel →
    ∃ (r : List Nat) (u' : List Bool), RowB I L r ∧ i ∈ r ∧ (∀ a ∈ r, ∀ r' ∈ rs, a ∉ r') ∧ (∀ a ∈ r, a < L.length) ∧ u'.length = L.length ∧ (∀ a, u'[a]? = some true ↔ (∃ r' ∈ rs, a ∈ r') ∨ a ∈ r) ∧ r.length ≤ L.length ∧
      F_shape_Set__Borders_L11 (L.map toS) m out k (toS (sdAt L i)) fuel u (q.map fun a => toS (sdAt L a)) (b : Int) = F_shape_Set__Borders_J10 out k u' (r.map fun a => toS (sdAt L a))
  | 0, _, _, u, _, _, _, _, _, _, _, _, _, hf => absurd hf (Nat.not_lt_zero _)
  | fuel + 1, q, b, u, t, ht, hcn, hnd, hfree, hbl, hql, hu, huse, hf => by
    have hlast : t.getLastD i = b := by
      have e1 : (q ++ [b]).getLastD 0 = b := by simp
      rw [ht] at e1
      have e2 : (i :: t).getLastD 0 = t.getLastD i := by cases t <;> rfl
      rw [← e2, e1]
    have hbm : b ∈ i :: t := by rw [← ht]; simp
    have him : i ∈ q ++ [b] := by rw [ht]; simp
    have hil : i < L.length := by
      rcases List.mem_append.1 him with h1 | h1
      · exact hql i h1
      · rw [List.mem_singleton.1 h1]; exact hbl
    have hbq : b ∉ q := by
      rw [← ht] at hnd
      intro hh
      exact (List.nodup_append.1 hnd).2.2 b hh b (by simp) rfl
    have hub : u[b]? = some false := not_true (by omega) fun hh => by
      rcases (huse b).1 hh with ⟨r, h1, h2⟩ | h1
      · exact hfree b hbm r h1 h2
      · exact hbq h1
    have hid : idx u (b : Int) = some false := by
      unfold idx
      rw [if_pos (by omega), Int.toNat_natCast, hub]
    have hset : sets u (b : Int) true = some (u.set b true) := by
      unfold sets
      rw [if_pos (by omega), Int.toNat_natCast]
    have huse' : ∀ a, (u.set b true)[a]? = some true ↔ (∃ r ∈ rs, a ∈ r) ∨ a ∈ q ++ [b] := fun a => by
      rw [List.getElem?_set]
      by_cases hab : b = a
      · subst hab
        rw [if_pos rfl, if_pos (by omega)]
        simp
      · rw [if_neg hab, huse a]
        have : a ∈ q ++ [b] ↔ a ∈ q := by simp; exact fun hh => absurd hh.symm hab
        rw [this]
    have hql' : ∀ a ∈ q ++ [b], a < L.length := fun a ha => by
      rcases List.mem_append.1 ha with h1 | h1
      · exact hql a h1
      · rw [List.mem_singleton.1 h1]; exact hbl
    have hqn : q.length ≤ L.length := nodup_le (by rw [← ht] at hnd; exact (List.nodup_append.1 hnd).1) hql
    have hqn' : (q ++ [b]).length ≤ L.length := nodup_le (by rw [ht]; exact hnd) hql'
    have hlen := hb.len
    rw [F_shape_Set__Borders_L11.eq_2, if_pos (by simp), hid, Option.bind_some, hset, Option.bind_some, idx_sd hbl, Option.bind_some, apd_ok (by rw [List.length_map]; simp; omega), Option.bind_some, Option.bind_some]
    have hg : ∃ g, (if (eqTPoint (toS (sdAt L b)).to_ (toS (sdAt L i)).from_) then ((some (toS (sdAt L b))).bind fun x505 => (F_shape_Set__Borders_2__Borders_1 x505 (toS (sdAt L i)) m).bind fun y506 => some y506) else some false) = some g ∧ (g = true ↔ Nx I L b i) := by
      have e1 : eqTPoint (toS (sdAt L b)).to_ (toS (sdAt L i)).from_ = decide (endP (sdAt L b) = (sdAt L i).1.p) := eqPt _ _
      rw [e1]
      by_cases hp : endP (sdAt L b) = (sdAt L i).1.p
      · rw [if_pos (by simpa using hp)]
        obtain ⟨g, g1, g2⟩ := closes_ok h hb hm hbl hil hp.symm
        refine ⟨g, ?_, g2⟩
        rw [Option.bind_some, g1]; rfl
      · rw [if_neg (by simpa using hp)]
        exact ⟨false, rfl, ⟨fun hh => (nomatch hh), fun hn => absurd (nx_from h hn).symm hp⟩⟩
    obtain ⟨g, g1, g2⟩ := hg
    have hmapq : (q.map fun a => toS (sdAt L a)) ++ [toS (sdAt L b)] = (q ++ [b]).map fun a => toS (sdAt L a) := by simp
    rw [g1, Option.bind_some, hmapq]
    by_cases hgt : g = true
    · rw [if_pos hgt]
      refine ⟨q ++ [b], u.set b true, ?_, him, fun a ha => hfree a (by rw [← ht]; exact ha), hql', by rw [List.length_set]; exact hu, huse', hqn', rfl⟩
      rw [ht]
      exact ⟨i, t, rfl, hcn, by rw [hlast]; exact g2.1 hgt, hnd⟩
    · rw [if_neg hgt]
      obtain ⟨c, hc, hn⟩ := h.next hbl
      have hcr : ∀ r ∈ rs, c ∉ r := fun r hr hh => hfree b hbm r hr (rowB_back h (hrs r hr) hh hn)
      have hcq : c ∉ i :: t := fun hh => by
        rcases List.mem_cons.1 hh with rfl | hh
        · exact hgt (g2.2 hn)
        · obtain ⟨p, p1, p2, p3⟩ := cn_back hcn hnd c hh
          rw [hlast] at p3
          exact p3 (h.nx_l p2 hn)
      have huc : (u.set b true)[c]? = some false := not_true (by rw [List.length_set]; omega) fun hh => by
        rcases (huse' c).1 hh with ⟨r, h1, h2⟩ | h1
        · exact hcr r h1 h2
        · rw [ht] at h1; exact hcq h1
      rw [Option.bind_some, nextB_ok h hb hm hbl hn (by rw [List.length_set]; exact hu) huc, Option.bind_some]
      have hcnt := count_set hub
      exact row_loop h hb hm hrs hir out k fuel (q ++ [b]) c (u.set b true) (t ++ [c]) (by rw [ht]; rfl) (cn_snoc hcn (by rw [hlast]; exact hn))
        (by rw [← List.cons_append]; exact List.nodup_append.2 ⟨hnd, by simp, fun x hx y hy => by rw [List.mem_singleton.1 hy]; exact fun e => hcq (e ▸ hx)⟩)
        (fun a ha r hr hh => by
          rw [← List.cons_append] at ha
          rcases List.mem_append.1 ha with h1 | h1
          · exact hfree a h1 r hr hh
          · rw [List.mem_singleton.1 h1] at hh; exact hcr r hr hh) hc hql' (by rw [List.length_set]; exact hu) huse' (by omega)
theorem cns_some (h : SysB I L) {r : List Nat} (hr : RowB I L r) : cns L (sdAt L (r.getLastD 0)).1.d r ≠ [] := fun hh => by
  obtain ⟨B, hB⟩ := h.fin
  obtain ⟨e, e1, e2, _⟩ := rowOut_ok h hr
  obtain ⟨t, ht⟩ := e2.head hB e1
  unfold rowOut at ht
  rw [hh] at ht
  cases ht
/-- What is told, before it is sorted. -/
def told (L : List Sd) (rs : List (List Nat)) : List (List TPoint) := (rs.map (rowOut L)).map (List.map toPt)
theorem bor_loop (h : SysB I L) (hb : LimS L) (hm : ∀ v, kmget m v = idxs L v) {N : Nat} (hN : L.length < N) : ∀ (suf q : List Sd) (u : List Bool) (rs : List (List Nat)), L = q ++ suf → InvB I L u rs → (∀ a, a < q.length → ∃ r ∈ rs, a ∈ r) → rs.length ≤ q.length →
    ∃ rs', RowsB I L rs' ∧ F_shape_Set__Borders_L8 N (L.map toS) m (suf.map toS) q.length u (told L rs) = srtU (told L rs') F_shape_Set__Borders_4
  | [], q, u, rs, hL, inv, hall, _ => by
    rw [List.append_nil] at hL
    subst hL
    refine ⟨rs, ⟨inv.row, hall, inv.once⟩, ?_⟩
    show F_shape_Set__Borders_L8 _ _ _ [] _ _ _ = _
    rw [F_shape_Set__Borders_L8.eq_1]
    show (srtU (told L rs) F_shape_Set__Borders_4).bind some = _
    cases srtU (told L rs) F_shape_Set__Borders_4 <;> rfl
  | s :: suf, q, u, rs, hL, inv, hall, hrs => by
    have hg : L[q.length]? = some s := by rw [hL]; simp
    have hil := (List.getElem?_eq_some_iff.1 hg).1
    have hlen := hb.len
    have hu := inv.len
    rw [List.map_cons, F_shape_Set__Borders_L8.eq_2, idx_nat (l := u) (i := q.length) (by omega), Option.bind_some]
    by_cases hx : u[q.length] = true
    · rw [if_pos hx]
      obtain ⟨rs', h1, h2⟩ := bor_loop h hb hm hN suf (q ++ [s]) u rs (by rw [hL]; simp) inv (fun a ha => by
        rw [List.length_append, List.length_singleton] at ha
        rcases Nat.lt_or_ge a q.length with h3 | h3
        · exact hall a h3
        · have : a = q.length := by omega
          subst this
          exact (inv.use _).1 (by rw [List.getElem?_eq_getElem (by omega), hx])) (by simp; omega)
      rw [List.length_append] at h2
      exact ⟨rs', h1, h2⟩
    · rw [if_neg hx]
      have hir : ∀ r ∈ rs, q.length ∉ r := fun r hr hh => by
        have := (inv.use q.length).2 ⟨r, hr, hh⟩
        rw [List.getElem?_eq_getElem (by omega)] at this
        exact hx (Option.some.inj this)
      have hcl : u.count false ≤ u.length := List.count_le_length
      obtain ⟨r, u', r1, r2, r3, r4, r5, r6, r7, r8⟩ := row_loop h hb hm inv.row hir (told L rs) (F_shape_Set__Borders_L8 N (L.map toS) m (suf.map toS) (q.length + 1)) N [] q.length u [] rfl trivial (by simp) (fun a ha r hr => by
        rw [List.mem_singleton.1 ha]; exact hir r hr) hil (fun a ha => (nomatch ha)) hu (fun a => by rw [inv.use a]; simp) (by omega)
      have e1 : sdAt L q.length = s := sdAt_eq hg
      rw [e1] at r8
      rw [List.map_nil] at r8
      rw [r8]
      unfold F_shape_Set__Borders_J10
      have hout : (rs.map (rowOut L)).map (List.map toPt) ++ [(rowOut L r).map toPt] = told L (rs ++ [r]) := by unfold told; simp
      rw [corners_ok h hb r4 (by omega) (cns_some h r1), Option.bind_some, apd_ok (by unfold told; simp; omega), Option.bind_some]
      show ∃ rs', _ ∧ F_shape_Set__Borders_L8 N (L.map toS) m (suf.map toS) (q.length + 1) u' ((rs.map (rowOut L)).map (List.map toPt) ++ [(rowOut L r).map toPt]) = _
      rw [hout]
      obtain ⟨rs', h1, h2⟩ := bor_loop h hb hm hN suf (q ++ [s]) u' (rs ++ [r]) (by rw [hL]; simp) ⟨r5, fun a => by
          rw [r6 a]
          constructor
          · rintro (⟨r', g1, g2⟩ | g1)
            · exact ⟨r', by simp [g1], g2⟩
            · exact ⟨r, by simp, g1⟩
          · rintro ⟨r', g1, g2⟩
            rcases List.mem_append.1 g1 with g1 | g1
            · exact .inl ⟨r', g1, g2⟩
            · rw [List.mem_singleton.1 g1] at g2; exact .inr g2, fun r' hr' => by
          rcases List.mem_append.1 hr' with g1 | g1
          · exact inv.row r' g1
          · rw [List.mem_singleton.1 g1]; exact r1, List.pairwise_append.2 ⟨inv.once, by simp, fun x hx y hy a ha hh => by
          rw [List.mem_singleton.1 hy] at hh
          exact r3 a hh x hx ha⟩⟩ (fun a ha => by
        rw [List.length_append, List.length_singleton] at ha
        rcases Nat.lt_or_ge a q.length with h3 | h3
        · obtain ⟨r', g1, g2⟩ := hall a h3
          exact ⟨r', by simp [g1], g2⟩
        · have : a = q.length := by omega
          subst this
          exact ⟨r, by simp, r2⟩) (by simp; omega)
      rw [List.length_append] at h2
      exact ⟨rs', h1, h2⟩
/-! The order in which they are told. -/
theorem cmp_ok {l m : List (Int × Int)} {p q p1 q1 : Int × Int} {r s : List (Int × Int)} (hl : l = p :: p1 :: r) (hm : m = q :: q1 :: s) (hne : p = q → l = m) : F_shape_Set__Borders_4 (l.map toPt) (m.map toPt) = some (if pl p q then -1 else 1) := by
  subst hl; subst hm
  unfold F_shape_Set__Borders_4
  have i0 : ∀ (a b : TPoint) (t : List TPoint), idx (a :: b :: t) 0 = some a := fun a b t => by unfold idx; simp
  have i1 : ∀ (a b : TPoint) (t : List TPoint), idx (a :: b :: t) 1 = some b := fun a b t => by unfold idx; simp
  simp only [List.map_cons, i0, i1, Option.bind_some, less_ok, eqPt]
  by_cases h1 : pl p q
  · simp [h1, F_shape_Set__Borders_4_J1]
  · simp only [h1, decide_false, Bool.false_eq_true, if_false]
    by_cases h2 : p = q
    · have h3 := hne h2
      simp only [List.cons.injEq] at h3
      obtain ⟨_, h4, _⟩ := h3
      subst h4
      simp [h2, pl_irrefl, F_shape_Set__Borders_4_J1]
    · simp [h2, F_shape_Set__Borders_4_J1]
theorem pw_inj {α β : Type} {f : α → β} : ∀ {l : List α}, l.Pairwise (fun a b => f a ≠ f b) → ∀ a ∈ l, ∀ b ∈ l, f a = f b → a = b
  | x :: l, h, a, ha, b, hb, e => by
    obtain ⟨h1, h2⟩ := List.pairwise_cons.1 h
    rcases List.mem_cons.1 ha with ea | ea
    · rcases List.mem_cons.1 hb with eb | eb
      · rw [ea, eb]
      · rw [ea] at e; exact absurd e (h1 b eb)
    · rcases List.mem_cons.1 hb with eb | eb
      · rw [eb] at e; exact absurd e.symm (h1 a ea)
      · exact pw_inj h2 a ea b eb e
theorem two_of {l : List (Int × Int)} (h : 4 ≤ l.length) : ∃ q r, l = l.headD (0, 0) :: q :: r := by
  match l, h with
  | p :: q :: r, _ => exact ⟨q, r, rfl⟩
theorem ltC_iff {β : Type} {c : β → β → Option Int} {x y : β} {k : Int} (h : c x y = some k) : ltC c x y = decide (k < 0) := by unfold ltC; rw [h]; rfl
theorem sort_ok {lo : List (List (Int × Int))} (hlen : lo.length ≤ 100000000) (h4 : ∀ l ∈ lo, 4 ≤ l.length) (hh : lo.Pairwise fun a b => a.headD (0, 0) ≠ b.headD (0, 0)) :
    ∃ ls : List (List (Int × Int)), ls.Perm lo ∧ (ls.Pairwise fun a b => pl (a.headD (0, 0)) (b.headD (0, 0))) ∧ srtU (lo.map (List.map toPt)) F_shape_Set__Borders_4 = some (ls.map (List.map toPt)) := by
  have hc : ∀ a ∈ lo, ∀ b ∈ lo, F_shape_Set__Borders_4 (a.map toPt) (b.map toPt) = some (if pl (a.headD (0, 0)) (b.headD (0, 0)) then -1 else 1) := fun a ha b hb => by
    obtain ⟨q, r, e1⟩ := two_of (h4 a ha)
    obtain ⟨q', r', e2⟩ := two_of (h4 b hb)
    exact cmp_ok e1 e2 (pw_inj hh a ha b hb)
  have hlt : ∀ a ∈ lo, ∀ b ∈ lo, ltC F_shape_Set__Borders_4 (a.map toPt) (b.map toPt) = decide (pl (a.headD (0, 0)) (b.headD (0, 0))) := fun a ha b hb => by
    rw [ltC_iff (hc a ha b hb)]
    by_cases hp : pl (a.headD (0, 0)) (b.headD (0, 0))
    · rw [if_pos hp, decide_eq_true hp]; rfl
    · rw [if_neg hp, decide_eq_false hp]; rfl
  have hmm : ∀ {x}, x ∈ lo.map (List.map toPt) → ∃ a ∈ lo, a.map toPt = x := fun hx => by
    obtain ⟨a, h1, h2⟩ := List.mem_map.1 hx; exact ⟨a, h1, h2⟩
  have hok : SortOk F_shape_Set__Borders_4 (lo.map (List.map toPt)) := by
    refine ⟨by rw [List.length_map]; omega, fun x hx y hy => ?_, fun x hx => ?_, fun x hx y hy z hz g1 g2 => ?_, fun x hx y hy z hz g1 g2 => ?_⟩
    · obtain ⟨a, ha, rfl⟩ := hmm hx
      obtain ⟨b, hb, rfl⟩ := hmm hy
      exact ⟨_, hc a ha b hb⟩
    · obtain ⟨a, ha, rfl⟩ := hmm hx
      rw [hlt a ha a ha]
      exact decide_eq_false (pl_irrefl _)
    · obtain ⟨a, ha, rfl⟩ := hmm hx
      obtain ⟨b, hb, rfl⟩ := hmm hy
      obtain ⟨c, hc', rfl⟩ := hmm hz
      rw [hlt a ha b hb] at g1
      rw [hlt b hb c hc'] at g2
      rw [hlt a ha c hc']
      exact decide_eq_true (pl_trans (of_decide_eq_true g1) (of_decide_eq_true g2))
    · obtain ⟨a, ha, rfl⟩ := hmm hx
      obtain ⟨b, hb, rfl⟩ := hmm hy
      obtain ⟨c, hc', rfl⟩ := hmm hz
      rw [hlt a ha b hb] at g1
      rw [hlt b hb c hc'] at g2
      rw [hlt a ha c hc']
      have g1 := of_decide_eq_false g1
      have g2 := of_decide_eq_false g2
      refine decide_eq_false fun g3 => ?_
      rcases pl_total (b.headD (0, 0)) (c.headD (0, 0)) with h5 | h5 | h5
      · exact g2 h5
      · rw [← h5] at g3; exact g1 g3
      · exact g1 (pl_trans g3 h5)
  have hap : Apart F_shape_Set__Borders_4 (lo.map (List.map toPt)) := fun x hx y hy g1 g2 => by
    obtain ⟨a, ha, rfl⟩ := hmm hx
    obtain ⟨b, hb, rfl⟩ := hmm hy
    rw [hlt a ha b hb] at g1
    rw [hlt b hb a ha] at g2
    have g1 := of_decide_eq_false g1
    have g2 := of_decide_eq_false g2
    rcases pl_total (a.headD (0, 0)) (b.headD (0, 0)) with h5 | h5 | h5
    · exact absurd h5 g1
    · rw [pw_inj hh a ha b hb h5]
    · exact absurd h5 g2
  obtain ⟨r, hr⟩ := srtU_ok hok hap
  obtain ⟨_, _, hp, hs⟩ := srtU_some hr
  have hback : ∀ l : List (Int × Int), (l.map toPt).map ofPt = l := fun l => by rw [List.map_map]; exact List.map_id _
  have hforth : ∀ l : List TPoint, (l.map ofPt).map toPt = l := fun l => by rw [List.map_map]; exact List.map_id _
  have hrr : (r.map (List.map ofPt)).map (List.map toPt) = r := by
    rw [List.map_map]
    have : (List.map toPt ∘ List.map ofPt) = id := funext hforth
    rw [this, List.map_id]
  have hperm : (r.map (List.map ofPt)).Perm lo := by
    have := hp.map (List.map ofPt)
    rw [List.map_map] at this
    have e : (List.map ofPt ∘ List.map toPt) = id := funext hback
    rwa [e, List.map_id] at this
  refine ⟨r.map (List.map ofPt), hperm, ?_, by rw [hrr]; exact hr⟩
  rw [← hrr, List.pairwise_map] at hs
  have hd : (r.map (List.map ofPt)).Pairwise fun a b => a.headD (0, 0) ≠ b.headD (0, 0) := hperm.symm.pairwise hh fun {a b} g e => g e.symm
  refine (hs.and hd).imp_of_mem fun {a b} ha hb ⟨g1, g2⟩ => ?_
  rw [hlt b (hperm.mem_iff.1 hb) a (hperm.mem_iff.1 ha)] at g1
  have g1 := of_decide_eq_false g1
  rcases pl_total (a.headD (0, 0)) (b.headD (0, 0)) with h5 | h5 | h5
  · exact h5
  · exact absurd h5 g2
  · exact absurd h5 g1
theorem told_four (h : SysB I L) {rs : List (List Nat)} (hr : ∀ r ∈ rs, RowB I L r) : ∀ l ∈ rs.map (rowOut L), 4 ≤ l.length := fun l hl => by
  obtain ⟨B, hB⟩ := h.fin
  obtain ⟨r, h1, rfl⟩ := List.mem_map.1 hl
  obtain ⟨e, e1, ⟨n, e2, e3⟩, _⟩ := rowOut_ok h (hr r h1)
  rw [e3]
  exact (row_ok hB e1 e2).len
theorem rows_len (h : SysB I L) {rs : List (List Nat)} (hr : RowsB I L rs) : rs.length ≤ L.length := by
  have h1 : (rs.map fun r => r.headD 0).Nodup := by
    rw [List.Nodup, List.pairwise_map]
    refine List.Pairwise.imp_of_mem (R := fun r r' => ∀ a ∈ r, a ∉ r') (fun {r r'} h1 h2 hd he => ?_) hr.once
    obtain ⟨a, q, rfl, _⟩ := hr.row r h1
    obtain ⟨b, q', rfl, _⟩ := hr.row r' h2
    exact hd a (by simp) (by have : a = b := he; rw [this]; simp)
  have h2 := nodup_le (n := L.length) h1 fun a ha => by
    obtain ⟨r, g1, rfl⟩ := List.mem_map.1 ha
    obtain ⟨b, q, rfl, _, hn, _⟩ := hr.row r g1
    exact hn.lt.2
  rwa [List.length_map] at h2
theorem cn_fwd : ∀ {q : List Nat} {a : Nat}, Cn I L a q → ∀ p ∈ a :: q, p = q.getLastD a ∨ ∃ c ∈ q, Nx I L p c
  | [], a, _, p, hp => .inl (by simpa using hp)
  | b :: q, a, ⟨h1, h2⟩, p, hp => by
    rcases List.mem_cons.1 hp with rfl | hp
    · exact .inr ⟨b, by simp, h1⟩
    · have e : (b :: q).getLastD a = q.getLastD b := by cases q <;> rfl
      rw [e]
      rcases cn_fwd h2 p hp with h3 | ⟨c, h3, h4⟩
      · exact .inl h3
      · exact .inr ⟨c, by simp [h3], h4⟩
theorem rowOut_len (r : List Nat) : (rowOut L r).length ≤ r.length := by
  unfold rowOut lr
  have h1 := cns_len L r (sdAt L (r.getLastD 0)).1.d
  rw [List.length_append, List.length_drop, List.length_take]
  omega
theorem rows_pts (h : SysB I L) {rs : List (List Nat)} (hr : RowsB I L rs) : (rs.map (rowOut L)).flatten.length ≤ L.length := by
  have h1 : rs.flatten.Nodup := by
    rw [List.Nodup, List.pairwise_flatten]
    refine ⟨fun r hrm => ?_, hr.once.imp (fun {r r'} (hd : ∀ a ∈ r, a ∉ r') x hx y hy (e : x = y) => hd x hx (by rw [e]; exact hy))⟩
    obtain ⟨a, q, rfl, _, _, hn⟩ := hr.row r hrm
    exact hn
  have h2 := nodup_le (n := L.length) h1 fun a ha => by
    obtain ⟨r, hrm, har⟩ := List.mem_flatten.1 ha
    obtain ⟨i, q, rfl, hc, hn, _⟩ := hr.row r hrm
    rcases cn_fwd hc a har with e | ⟨c, _, hx⟩
    · rw [e]; exact hn.lt.1
    · exact hx.lt.1
  have h3 : ∀ rs : List (List Nat), (rs.map (rowOut L)).flatten.length ≤ rs.flatten.length := by
    intro rs
    induction rs with
    | nil => exact Nat.le_refl _
    | cons r rs ih =>
      have := rowOut_len (L := L) r
      rw [List.map_cons, List.flatten_cons, List.flatten_cons, List.length_append, List.length_append]
      omega
  exact Nat.le_trans (h3 rs) h2
/-- What the program makes of the sides of a set: all its borders, in order. -/
theorem borders_ok (h : SysB I L) (hb : LimS L) {N : Nat} (hN : L.length < N) : ∃ ls, Outs I ls ∧ ls.length ≤ L.length ∧ ls.flatten.length ≤ L.length ∧ F_shape_Set__Borders_L1 N (L.map toS) (L.map toS) 0 [] = some (ls.map (List.map toPt)) := by
  obtain ⟨m', h1, h2⟩ := map_loop hb N L [] [] rfl (fun v => by simp [kmget])
  have hlen := hb.len
  rw [List.length_nil] at h2
  rw [h2]
  have hmk : (mkl false ((L.map toS).length : Int)) = some (List.replicate L.length false) := by
    unfold mkl
    rw [if_pos (by simp; omega)]
    simp
  rw [hmk, Option.bind_some]
  obtain ⟨rs, r1, r2⟩ := bor_loop h hb h1 hN L [] (List.replicate L.length false) [] rfl ⟨by simp, fun a => by simp [List.getElem?_replicate], fun r hr => (nomatch hr), .nil⟩ (fun a ha => (nomatch ha)) (Nat.le_refl _)
  rw [List.length_nil] at r2
  have e0 : told L [] = [] := rfl
  rw [e0] at r2
  rw [r2]
  have hrl := rows_len h r1
  obtain ⟨ls, l1, l2, l3⟩ := sort_ok (lo := rs.map (rowOut L)) (by rw [List.length_map]; omega) (told_four h r1.row) (r1.heads h)
  exact ⟨ls, r1.outs h l1 l2, by rw [l1.length_eq, List.length_map]; exact hrl, by rw [l1.flatten.length_eq]; exact rows_pts h r1, l3⟩
end
end Go.Proofs.YtcjeebkoafonpaaGreatDoor
namespace Go.Proofs.YtcjeebkoafonpaaGreatDoor
theorem compact_mem (zs : List Int) (x : Int) : x ∈ Lib.compact zs ↔ x ∈ zs := by
  unfold Lib.compact Lib.compactUpTo
  constructor
  · intro h
    obtain ⟨j, hj, rfl⟩ := List.mem_map.1 h
    have hj := List.mem_range.1 (List.mem_filter.1 hj).1
    show zs.toArray[j]! ∈ zs
    rw [getElem!_pos zs.toArray j (by simpa using hj)]
    simp
  · intro h
    have key : ∀ (j : Nat), (hj : j < zs.length) → ∃ i, i < zs.length ∧ Lib.keeps zs.toArray i = true ∧ zs.toArray[i]! = zs[j] := by
      intro j
      induction j with
      | zero => intro hj; exact ⟨0, hj, Lib.keeps_lt_one _ 0 (by omega), by rw [getElem!_pos zs.toArray 0 (by simpa using hj)]; simp⟩
      | succ j ih =>
        intro hj
        by_cases hk : Lib.keeps zs.toArray (j + 1) = true
        · exact ⟨j + 1, hj, hk, by rw [getElem!_pos zs.toArray (j + 1) (by simpa using hj)]; simp⟩
        · have he : zs.toArray[j + 1]! = zs.toArray[j]! := by
            unfold Lib.keeps at hk
            simp at hk
            simpa using hk
          rw [getElem!_pos zs.toArray (j + 1) (by simpa using hj), getElem!_pos zs.toArray j (by simp; omega)] at he
          simp at he
          obtain ⟨i, h1, h2, h3⟩ := ih (by omega)
          exact ⟨i, h1, h2, by rw [h3, he]⟩
    obtain ⟨j, hj, rfl⟩ := List.mem_iff_getElem.1 h
    obtain ⟨i, h1, h2, h3⟩ := key j hj
    exact List.mem_map.2 ⟨i, List.mem_filter.2 ⟨List.mem_range.2 h1, h2⟩, h3⟩
theorem compact_strict {zs : List Int} (h : zs.Pairwise fun x y => x ≤ y) : (Lib.compact zs).Pairwise fun x y => x < y := by
  unfold Lib.compact Lib.compactUpTo
  rw [List.pairwise_map]
  have hr : ((List.range zs.length).filter (Lib.keeps zs.toArray)).Pairwise (fun i j => i < j) := (List.pairwise_lt_range).filter _
  refine List.Pairwise.imp_of_mem (fun {i j} hi hj hij => ?_) hr
  have hj1 := List.mem_range.1 (List.mem_filter.1 hj).1
  have hj2 := (List.mem_filter.1 hj).2
  show zs.toArray[i]! < zs.toArray[j]!
  unfold Lib.keeps at hj2
  simp at hj2
  have hne : zs.toArray[j]! ≠ zs.toArray[j - 1]! := by
    rcases hj2 with h0 | h0
    · omega
    · simpa using h0
  rw [getElem!_pos zs.toArray j (by simpa using hj1), getElem!_pos zs.toArray (j - 1) (by simp; omega)] at hne
  rw [getElem!_pos zs.toArray j (by simpa using hj1), getElem!_pos zs.toArray i (by simp; omega)]
  simp at hne ⊢
  rw [List.pairwise_iff_getElem] at h
  have a1 : zs[j - 1] ≤ zs[j] := h (j - 1) j (by omega) hj1 (by omega)
  have a2 : zs[i] ≤ zs[j - 1] := by
    rcases Nat.lt_or_eq_of_le (show i ≤ j - 1 by omega) with hlt | heq
    · exact h i (j - 1) (by omega) (by omega) hlt
    · subst heq; exact Int.le_refl _
  omega
/-- Sorted, each once. -/
def srtd (l : List Int) : List Int := Lib.compact (l.mergeSort fun x y => decide (x ≤ y))
theorem srtd_mem (l : List Int) (x : Int) : x ∈ srtd l ↔ x ∈ l := by
  unfold srtd
  rw [compact_mem]
  exact (List.mergeSort_perm l _).mem_iff
theorem srtd_strict (l : List Int) : (srtd l).Pairwise fun x y => x < y := by
  unfold srtd
  refine compact_strict ?_
  have := List.pairwise_mergeSort (le := fun x y : Int => decide (x ≤ y)) (fun a b c h1 h2 => by simp at *; omega) (fun a b => by simp; omega) l
  exact this.imp (by simp)
theorem srtd_ok {l : List Int} (h : l.length < 4611686018427387904) : ((srtI l).bind fun y => cpI y) = some (srtd l) := by
  unfold srtI cpI srtd
  rw [if_pos h]; rfl
theorem srtI_ok {l : List Int} (h : l.length < 4611686018427387904) : srtI l = some (l.mergeSort fun x y => decide (x ≤ y)) := if_pos h
end Go.Proofs.YtcjeebkoafonpaaGreatDoor
namespace Go.Proofs.YtcjeebkoafonpaaGreatDoor
/-- Stretches behind a number, in order, none touching another one. -/
def Can : Int → List (Int × Int) → Prop
  | _, [] => True
  | lo, p :: l => lo < p.1 ∧ p.1 < p.2 ∧ Can p.2 l
def InS (x : Int) (l : List (Int × Int)) : Prop := ∃ p ∈ l, p.1 ≤ x ∧ x < p.2
theorem InS_cons {x : Int} {p : Int × Int} {l : List (Int × Int)} : InS x (p :: l) ↔ (p.1 ≤ x ∧ x < p.2) ∨ InS x l := by unfold InS; simp
theorem InS_nil {x : Int} : ¬ InS x [] := by unfold InS; simp
theorem InS_append {x : Int} {l m : List (Int × Int)} : InS x (l ++ m) ↔ InS x l ∨ InS x m := by
  unfold InS
  constructor
  · rintro ⟨p, hp, h⟩
    rcases List.mem_append.1 hp with hp | hp
    · exact .inl ⟨p, hp, h⟩
    · exact .inr ⟨p, hp, h⟩
  · rintro (⟨p, hp, h⟩ | ⟨p, hp, h⟩)
    · exact ⟨p, List.mem_append_left _ hp, h⟩
    · exact ⟨p, List.mem_append_right _ hp, h⟩
theorem Can.lt : ∀ {l : List (Int × Int)} {lo x : Int}, Can lo l → InS x l → lo < x
  | [], _, _, _, h => absurd h InS_nil
  | p :: l, lo, x, h, hx => by
    obtain ⟨h1, h2, h3⟩ := h
    rcases InS_cons.1 hx with hx | hx
    · omega
    · have := h3.lt hx; omega
theorem Can.mono {l : List (Int × Int)} {lo lo' : Int} (h : Can lo l) (hl : lo' ≤ lo) : Can lo' l := by
  cases l with
  | nil => trivial
  | cons p l => exact ⟨by have := h.1; omega, h.2⟩
/-- The form is one. -/
theorem Can.uniq : ∀ {l m : List (Int × Int)} {lo lo' : Int}, Can lo l → Can lo' m → (∀ x, InS x l ↔ InS x m) → l = m
  | [], [], _, _, _, _, _ => rfl
  | [], p :: m, _, _, _, h2, h => absurd ((h p.1).2 (InS_cons.2 (.inl ⟨Int.le_refl _, h2.2.1⟩))) InS_nil
  | p :: l, [], _, _, h1, _, h => absurd ((h p.1).1 (InS_cons.2 (.inl ⟨Int.le_refl _, h1.2.1⟩))) InS_nil
  | p :: l, q :: m, lo, lo', h1, h2, h => by
    obtain ⟨a1, a2, a3⟩ := h1
    obtain ⟨b1, b2, b3⟩ := h2
    have c1 : q.1 ≤ p.1 := by
      rcases InS_cons.1 ((h p.1).1 (InS_cons.2 (.inl ⟨Int.le_refl _, a2⟩))) with hx | hx
      · exact hx.1
      · have := b3.lt hx; omega
    have c2 : p.1 ≤ q.1 := by
      rcases InS_cons.1 ((h q.1).2 (InS_cons.2 (.inl ⟨Int.le_refl _, b2⟩))) with hx | hx
      · exact hx.1
      · have := a3.lt hx; omega
    have c3 : ¬ p.2 < q.2 := fun hlt => by
      rcases InS_cons.1 ((h p.2).2 (InS_cons.2 (.inl ⟨by omega, hlt⟩))) with hx | hx
      · omega
      · have := a3.lt hx; omega
    have c4 : ¬ q.2 < p.2 := fun hlt => by
      rcases InS_cons.1 ((h q.2).1 (InS_cons.2 (.inl ⟨by omega, hlt⟩))) with hx | hx
      · omega
      · have := b3.lt hx; omega
    have hpq : p = q := by obtain ⟨a, b⟩ := p; obtain ⟨c, d⟩ := q; simp only at *; congr 1 <;> omega
    subst hpq
    have hlm : l = m := a3.uniq b3 fun x => by
      constructor
      · intro hx
        have hlt := a3.lt hx
        rcases InS_cons.1 ((h x).1 (InS_cons.2 (.inr hx))) with h' | h'
        · omega
        · exact h'
      · intro hx
        have hlt := b3.lt hx
        rcases InS_cons.1 ((h x).2 (InS_cons.2 (.inr hx))) with h' | h'
        · omega
        · exact h'
    rw [hlm]
/-- Stretches that begin with init and end with one more. -/
theorem Can.snoc : ∀ {l : List (Int × Int)} {lo : Int} {p : Int × Int}, Can lo l → (∀ q ∈ l, q.2 < p.1) → lo < p.1 → p.1 < p.2 → Can lo (l ++ [p])
  | [], _, _, _, _, h1, h2 => ⟨h1, h2, trivial⟩
  | q :: l, lo, p, h, hq, h1, h2 => ⟨h.1, h.2.1, h.2.2.snoc (fun r hr => hq r (by simp [hr])) (hq q (by simp)) h2⟩
theorem Can.init : ∀ {l : List (Int × Int)} {lo : Int} {p : Int × Int}, Can lo (l ++ [p]) → Can lo l ∧ (∀ q ∈ l, q.2 < p.1) ∧ lo < p.1 ∧ p.1 < p.2
  | [], _, _, h => ⟨trivial, by simp, h.1, h.2.1⟩
  | q :: l, lo, p, h => by
    obtain ⟨i1, i2, i3, i4⟩ := Can.init (l := l) h.2.2
    have := h.1; have := h.2.1
    refine ⟨⟨h.1, h.2.1, i1⟩, fun r hr => ?_, by omega, i4⟩
    rcases List.mem_cons.1 hr with rfl | hr
    · exact i3
    · exact i2 r hr
/-- All numbers of stretches, one behind the other. -/
def flatS (l : List (Int × Int)) : List Int := l.flatMap fun p => [p.1, p.2]
theorem flatS_nil : flatS [] = [] := rfl
theorem flatS_cons (p : Int × Int) (l : List (Int × Int)) : flatS (p :: l) = p.1 :: p.2 :: flatS l := rfl
theorem flatS_append (l m : List (Int × Int)) : flatS (l ++ m) = flatS l ++ flatS m := by unfold flatS; rw [List.flatMap_append]
theorem flatS_len : ∀ l : List (Int × Int), (flatS l).length = 2 * l.length
  | [] => rfl
  | p :: l => by rw [flatS_cons, List.length_cons, List.length_cons, flatS_len l, List.length_cons]; omega
theorem flatS_inj : ∀ {l m : List (Int × Int)}, flatS l = flatS m → l = m
  | [], [], _ => rfl
  | [], q :: m, h => by rw [flatS_nil, flatS_cons] at h; cases h
  | p :: l, [], h => by rw [flatS_nil, flatS_cons] at h; cases h
  | p :: l, q :: m, h => by
    rw [flatS_cons, flatS_cons] at h
    injection h with h1 h
    injection h with h2 h
    rw [flatS_inj h]
    congr 1
    obtain ⟨a, b⟩ := p; obtain ⟨c, d⟩ := q
    simp only at h1 h2
    rw [h1, h2]
/-- One stretch more, that begins no sooner than the last one. -/
def ext1 (l : List (Int × Int)) (p : Int × Int) : List (Int × Int) :=
  match l.getLast? with
  | none => [p]
  | some q => if p.1 ≤ q.2 then l.dropLast ++ [(q.1, max q.2 p.2)] else l ++ [p]
theorem ext1_nil (p : Int × Int) : ext1 [] p = [p] := rfl
theorem ext1_snoc (l : List (Int × Int)) (q p : Int × Int) : ext1 (l ++ [q]) p = if p.1 ≤ q.2 then l ++ [(q.1, max q.2 p.2)] else l ++ [q] ++ [p] := by
  unfold ext1
  simp
theorem ext1_ok {lo : Int} {l done : List (Int × Int)} {p : Int × Int} (hc : Can lo l) (hm : ∀ x, InS x l ↔ InS x done) (hlast : ∀ q ∈ l, q.1 ≤ p.1) (hlo : lo < p.1) (hp : p.1 < p.2) :
    Can lo (ext1 l p) ∧ (∀ x, InS x (ext1 l p) ↔ InS x (done ++ [p])) ∧ ∀ q ∈ ext1 l p, q.1 ≤ p.1 := by
  have hsplit : l = [] ∨ ∃ i q, l = i ++ [q] := by
    rcases List.eq_nil_or_concat l with h | ⟨i, q, h⟩
    · exact .inl h
    · exact .inr ⟨i, q, by simpa using h⟩
  rcases hsplit with rfl | ⟨i, q, rfl⟩
  · rw [ext1_nil]
    refine ⟨⟨hlo, hp, trivial⟩, fun x => ?_, by simp⟩
    rw [InS_append, ← hm x]
    exact ⟨fun h => .inr h, fun h => h.resolve_left InS_nil⟩
  · obtain ⟨c1, c2, c3, c4⟩ := hc.init
    have hq := hlast q (by simp)
    rw [ext1_snoc]
    by_cases hle : p.1 ≤ q.2
    · rw [if_pos hle]
      refine ⟨c1.snoc (p := (q.1, max q.2 p.2)) c2 c3 (by show q.1 < max q.2 p.2; omega), fun x => ?_, fun r hr => ?_⟩
      · rw [InS_append, InS_append (l := done), ← hm x, InS_append]
        have e1 : InS x [(q.1, max q.2 p.2)] ↔ (q.1 ≤ x ∧ x < max q.2 p.2) := by unfold InS; simp
        have e2 : InS x [q] ↔ (q.1 ≤ x ∧ x < q.2) := by unfold InS; simp
        have e3 : InS x [p] ↔ (p.1 ≤ x ∧ x < p.2) := by unfold InS; simp
        rw [e1, e2, e3]
        constructor
        · rintro (h | h)
          · exact .inl (.inl h)
          · by_cases hx : x < q.2
            · exact .inl (.inr ⟨h.1, hx⟩)
            · exact .inr ⟨by omega, by omega⟩
        · rintro ((h | h) | h)
          · exact .inl h
          · exact .inr ⟨h.1, by omega⟩
          · exact .inr ⟨by omega, by omega⟩
      · rcases List.mem_append.1 hr with hr | hr
        · have := c2 r hr; exact hlast r (by simp [hr])
        · simp at hr; subst hr; exact hq
    · rw [if_neg hle]
      refine ⟨hc.snoc (fun r hr => ?_) hlo hp, fun x => ?_, fun r hr => ?_⟩
      · rcases List.mem_append.1 hr with hr | hr
        · have := c2 r hr; omega
        · simp at hr; subst hr; omega
      · rw [InS_append, InS_append (l := done), hm x]
      · rcases List.mem_append.1 hr with hr | hr
        · exact hlast r hr
        · simp at hr; subst hr; exact Int.le_refl _
/-- The stretches of many, sorted by where they begin. -/
theorem ext_all {lo : Int} : ∀ (suf : List (Int × Int)) (l done : List (Int × Int)), Can lo l → (∀ x, InS x l ↔ InS x done) → (∀ p ∈ suf, ∀ q ∈ l, q.1 ≤ p.1) → suf.Pairwise (fun p q => p.1 ≤ q.1) → (∀ p ∈ suf, lo < p.1 ∧ p.1 < p.2) →
    Can lo (suf.foldl ext1 l) ∧ ∀ x, InS x (suf.foldl ext1 l) ↔ InS x (done ++ suf)
  | [], l, done, h1, h2, _, _, _ => ⟨h1, by simpa using h2⟩
  | p :: suf, l, done, h1, h2, h3, h4, h5 => by
    obtain ⟨s1, s2, s3⟩ := ext1_ok h1 h2 (h3 p (by simp)) (h5 p (by simp)).1 (h5 p (by simp)).2
    rw [List.pairwise_cons] at h4
    have := ext_all suf (ext1 l p) (done ++ [p]) s1 s2 (fun r hr q hq => Int.le_trans (s3 q hq) (h4.1 r hr)) h4.2 (fun r hr => h5 r (by simp [hr]))
    simpa using this
/-- One stretch more, wherever it lies: those before it, what it joins, those behind it. -/
def joinGo : Int → Int → List (Int × Int) → List (Int × Int)
  | a, b, [] => [(a, b)]
  | a, b, q :: l => if q.1 ≤ b then joinGo (min a q.1) (max b q.2) l else (a, b) :: q :: l
def join1 : List (Int × Int) → Int × Int → List (Int × Int)
  | [], p => [p]
  | q :: l, p => if q.2 < p.1 then q :: join1 l p else joinGo p.1 p.2 (q :: l)
theorem joinGo_ok : ∀ {l : List (Int × Int)} {lo a b : Int}, lo < a → a < b → (∀ q ∈ l, lo < q.1) → (∀ q ∈ l, a ≤ q.2) → (∃ lo', Can lo' l) → Can lo (joinGo a b l) ∧ ∀ x, InS x (joinGo a b l) ↔ (a ≤ x ∧ x < b) ∨ InS x l
  | [], lo, a, b, h1, h2, _, _, _ => ⟨⟨h1, h2, trivial⟩, fun x => by unfold joinGo; rw [InS_cons]⟩
  | q :: l, lo, a, b, h1, h2, h3, h5, ⟨lo', h4⟩ => by
    have hq := h3 q (by simp)
    have hov := h5 q (by simp)
    have hq2 := h4.2.1
    unfold joinGo
    by_cases hle : q.1 ≤ b
    · rw [if_pos hle]
      obtain ⟨i1, i2⟩ := joinGo_ok (l := l) (lo := lo) (a := min a q.1) (b := max b q.2) (by omega) (by omega) (fun r hr => h3 r (by simp [hr])) (fun r hr => by have := h5 r (by simp [hr]); omega) ⟨q.2, h4.2.2⟩
      refine ⟨i1, fun x => ?_⟩
      rw [i2, InS_cons]
      constructor
      · rintro (h | h)
        · by_cases h' : a ≤ x ∧ x < b
          · exact .inl h'
          · exact .inr (.inl ⟨by omega, by omega⟩)
        · exact .inr (.inr h)
      · rintro (h | h | h)
        · exact .inl ⟨by omega, by omega⟩
        · exact .inl ⟨by omega, by omega⟩
        · exact .inr h
    · rw [if_neg hle]
      refine ⟨⟨h1, h2, by omega, hq2, h4.2.2⟩, fun x => ?_⟩
      rw [InS_cons]
theorem Can.mem : ∀ {l : List (Int × Int)} {lo : Int}, Can lo l → ∀ q ∈ l, lo < q.1 ∧ q.1 < q.2
  | [], _, _, q, h => by simp at h
  | p :: l, lo, h, q, hq => by
    rcases List.mem_cons.1 hq with rfl | hq
    · exact ⟨h.1, h.2.1⟩
    · have := h.2.2.mem q hq
      have := h.1; have := h.2.1
      omega
theorem join1_ok : ∀ {l : List (Int × Int)} {lo : Int} {p : Int × Int}, Can lo l → lo < p.1 → p.1 < p.2 → Can lo (join1 l p) ∧ ∀ x, InS x (join1 l p) ↔ InS x (l ++ [p])
  | [], lo, p, _, h1, h2 => ⟨⟨h1, h2, trivial⟩, fun x => Iff.rfl⟩
  | q :: l, lo, p, h, h1, h2 => by
    unfold join1
    by_cases hlt : q.2 < p.1
    · rw [if_pos hlt]
      obtain ⟨i1, i2⟩ := join1_ok (l := l) (lo := q.2) (p := p) h.2.2 hlt h2
      refine ⟨⟨h.1, h.2.1, i1⟩, fun x => ?_⟩
      rw [InS_cons, i2, List.cons_append, InS_cons]
    · rw [if_neg hlt]
      obtain ⟨i1, i2⟩ := joinGo_ok (l := q :: l) (lo := lo) (a := p.1) (b := p.2) h1 h2 (fun r hr => (h.mem r hr).1) (fun r hr => by
        rcases List.mem_cons.1 hr with rfl | hr
        · omega
        · have := h.2.2.mem r hr; omega) ⟨lo, h⟩
      refine ⟨i1, fun x => ?_⟩
      rw [i2, InS_append]
      have e : InS x [p] ↔ (p.1 ≤ x ∧ x < p.2) := by unfold InS; simp
      rw [e]
      exact or_comm
theorem join_all {lo : Int} : ∀ (suf : List (Int × Int)) (l done : List (Int × Int)), Can lo l → (∀ x, InS x l ↔ InS x done) → (∀ p ∈ suf, lo < p.1 ∧ p.1 < p.2) →
    Can lo (suf.foldl join1 l) ∧ ∀ x, InS x (suf.foldl join1 l) ↔ InS x (done ++ suf)
  | [], l, done, h1, h2, _ => ⟨h1, by simpa using h2⟩
  | p :: suf, l, done, h1, h2, h5 => by
    obtain ⟨s1, s2⟩ := join1_ok h1 (h5 p (by simp)).1 (h5 p (by simp)).2
    have := join_all suf (join1 l p) (done ++ [p]) s1 (fun x => by rw [s2, InS_append, InS_append, h2]) (fun r hr => h5 r (by simp [hr]))
    simpa using this
/-- The one form of what stretches cover together. -/
def covS (l : List (Int × Int)) : List (Int × Int) := l.foldl join1 []
theorem covS_ok {lo : Int} {l : List (Int × Int)} (h : ∀ p ∈ l, lo < p.1 ∧ p.1 < p.2) : Can lo (covS l) ∧ ∀ x, InS x (covS l) ↔ InS x l := by
  have := join_all l [] [] (lo := lo) trivial (fun x => Iff.rfl) h
  rw [List.nil_append] at this
  exact this
/-- Built up in order, in whatever order they lay. -/
theorem ext_cov {lo : Int} {l m : List (Int × Int)} (hp : m.Perm l) (hs : m.Pairwise (fun p q => p.1 ≤ q.1)) (h : ∀ p ∈ l, lo < p.1 ∧ p.1 < p.2) : m.foldl ext1 [] = covS l := by
  obtain ⟨a1, a2⟩ := ext_all m [] [] (lo := lo) trivial (fun x => Iff.rfl) (by simp) hs (fun p hq => h p (hp.subset hq))
  obtain ⟨b1, b2⟩ := covS_ok h
  refine a1.uniq b1 fun x => ?_
  rw [a2, b2, List.nil_append]
  unfold InS
  constructor
  · rintro ⟨p, hq, h⟩; exact ⟨p, hp.subset hq, h⟩
  · rintro ⟨p, hq, h⟩; exact ⟨p, hp.symm.subset hq, h⟩
theorem covS_congr {lo : Int} {l m : List (Int × Int)} (hl : ∀ p ∈ l, lo < p.1 ∧ p.1 < p.2) (hm : ∀ p ∈ m, lo < p.1 ∧ p.1 < p.2) (h : ∀ x, InS x l ↔ InS x m) : covS l = covS m := by
  obtain ⟨a1, a2⟩ := covS_ok hl
  obtain ⟨b1, b2⟩ := covS_ok hm
  exact a1.uniq b1 fun x => by rw [a2, b2, h]
theorem joinGo_len : ∀ (l : List (Int × Int)) (a b : Int), (joinGo a b l).length ≤ l.length + 1
  | [], _, _ => by simp [joinGo]
  | q :: l, a, b => by
    unfold joinGo
    split
    · have := joinGo_len l (min a q.1) (max b q.2); simp; omega
    · simp
theorem join1_len : ∀ (l : List (Int × Int)) (p : Int × Int), (join1 l p).length ≤ l.length + 1
  | [], _ => by simp [join1]
  | q :: l, p => by
    unfold join1
    split
    · have := join1_len l p; simp; omega
    · exact joinGo_len _ _ _
theorem covS_len : ∀ (l m : List (Int × Int)), (l.foldl join1 m).length ≤ m.length + l.length
  | [], m => by simp
  | p :: l, m => by
    have := covS_len l (join1 m p); have := join1_len m p
    rw [List.foldl_cons, List.length_cons]; omega
end Go.Proofs.YtcjeebkoafonpaaGreatDoor
