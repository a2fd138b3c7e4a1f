/- Rules of the walks, or plain laws about the plain functions. Conditions: none beyond each theorem's own. -/
import Derived.Test.YtcjeebkoafonpaaGreatDoorJ2
import Derived.Test.YtcjeebkoafonpaaGreatDoorXF
import Derived.Lib.ItoaLen
namespace Go.Proofs.YtcjeebkoafonpaaGreatDoor.ST
variable {α : Type} (K : α → Int)
def SR (l : List α) (a b : Nat) : Prop := ∀ i j x y, a ≤ i → i ≤ j → j < b → l[i]? = some x → l[j]? = some y → K x ≤ K y
structure Mg (l l' : List α) (a b : Nat) : Prop where
 len : l'.length = l.length
 out : ∀ k, k < a ∨ b ≤ k → l'[k]? = l[k]?
 inn : ∀ k, a ≤ k → k < b → ∃ j, a ≤ j ∧ j < b ∧ l'[k]? = l[j]?
 eqv : ∀ v : Int, l'.filter (fun x => decide (K x = v)) = l.filter (fun x => decide (K x = v))
variable {K}
theorem Mg.rfl {l : List α} {a b : Nat} : Mg K l l a b := ⟨by rfl, fun _ _ => by rfl, fun k h h2 => ⟨k, h, h2, by rfl⟩, fun _ => by rfl⟩
theorem Mg.trans {l l' l'' : List α} {a b : Nat} (h : Mg K l l' a b) (h2 : Mg K l' l'' a b) : Mg K l l'' a b :=
 ⟨h2.len.trans h.len, fun k hk => (h2.out k hk).trans (h.out k hk), fun k ha hb => by
  obtain ⟨j, hj, hj2, he⟩ := h2.inn k ha hb
  obtain ⟨i, hi, hi2, he2⟩ := h.inn j hj hj2
  exact ⟨i, hi, hi2, he.trans he2⟩, fun v => (h2.eqv v).trans (h.eqv v)⟩
theorem Mg.mono {l l' : List α} {a b c d : Nat} (h : Mg K l l' a b) (hc : c ≤ a) (hd : b ≤ d) : Mg K l l' c d :=
 ⟨h.len, fun k hk => h.out k (by omega), fun k hk hk2 => by
  by_cases h1 : a ≤ k ∧ k < b
  ·obtain ⟨j, hj, hj2, he⟩ := h.inn k h1.1 h1.2
   exact ⟨j, by omega, by omega, he⟩
  ·exact ⟨k, hk, hk2, h.out k (by omega)⟩, h.eqv⟩
theorem SR.xH {l l' : List α} {a b c d : Nat} (h : Mg K l l' a b) (hs : SR K l c d) (hd : d ≤ a ∨ b ≤ c) : SR K l' c d := by
 intro i j x y hi hij hj hx hy
 rw [h.out i (by omega)] at hx
 rw [h.out j (by omega)] at hy
 exact hs i j x y hi hij hj hx hy
theorem SR.sub {l : List α} {a b c d : Nat} (hs : SR K l a b) (hc : a ≤ c) (hd : d ≤ b) : SR K l c d :=
 fun i j x y hi hij hj => hs i j x y (by omega) hij (by omega)
theorem SR.one {l : List α} {a b : Nat} (h : b ≤ a + 1) : SR K l a b := by
 intro i j x y hi hij hj hx hy
 have : i = j := by omega
 subst this
 rw [hx] at hy
 cases hy
 exact Int.le_refl _
theorem SR.join {l : List α} {a m b : Nat} (h1 : SR K l a m) (h2 : SR K l m b) (h : ∀ i j x y, a ≤ i → i < m → m ≤ j → j < b → l[i]? = some x → l[j]? = some y → K x ≤ K y) : SR K l a b := by
 intro i j x y hi hij hj hx hy
 by_cases hjm : j < m
 ·exact h1 i j x y hi hij hjm hx hy
 ·by_cases him : i < m
  ·exact h i j x y hi him (by omega) hj hx hy
  ·exact h2 i j x y (by omega) hij hj hx hy
theorem between {l l' l'' : List α} {a m b : Nat} (h1 : Mg K l l' a m) (h2 : Mg K l' l'' m b) (h : ∀ i j x y, a ≤ i → i < m → m ≤ j → j < b → l[i]? = some x → l[j]? = some y → K x ≤ K y) :
  ∀ i j x y, a ≤ i → i < m → m ≤ j → j < b → l''[i]? = some x → l''[j]? = some y → K x ≤ K y := by
 intro i j x y hi him hj hjb hx hy
 rw [h2.out i (by omega)] at hx
 obtain ⟨i', ha, hb, he⟩ := h1.inn i hi him
 obtain ⟨j', ha', hb', he'⟩ := h2.inn j hj hjb
 rw [he] at hx
 rw [he', h1.out j' (by omega)] at hy
 exact h i' j' x y ha hb ha' hb' hx hy
theorem Jn {U V : List α} (h : ∀ x ∈ U, ∀ y ∈ V, K y ≠ K x) (v : Int) : (U ++ V).filter (fun x => decide (K x = v)) = (V ++ U).filter (fun x => decide (K x = v)) := by
 rw [List.filter_append, List.filter_append]
 by_cases hU : U.filter (fun x => decide (K x = v)) = []
 ·rw [hU]; simp
 ·have hV : V.filter (fun x => decide (K x = v)) = [] := by
   rw [List.filter_eq_nil_iff]
   intro y hy hv
   obtain ⟨x, hx⟩ := List.exists_mem_of_ne_nil _ hU
   rw [List.mem_filter] at hx
   have e1 := of_decide_eq_true hv
   have e2 := of_decide_eq_true hx.2
   exact h x hx.1 y hy (e1.trans e2.symm)
  rw [hV]; simp
theorem M6 (l : List α) {a m b : Nat} (ham : a ≤ m) (hmb : m ≤ b) (hb : b ≤ l.length) : l = l.take a ++ ((l.drop a).take (m - a) ++ (l.drop m).take (b - m)) ++ l.drop b := by
 have e1 : l.drop a = (l.drop a).take (m - a) ++ l.drop m := by
  conv => lhs; rw [← List.take_append_drop (m - a) (l.drop a)]
  rw [List.drop_drop, Nat.add_sub_cancel' ham]
 have e2 : l.drop m = (l.drop m).take (b - m) ++ l.drop b := by
  conv => lhs; rw [← List.take_append_drop (b - m) (l.drop m)]
  rw [List.drop_drop, Nat.add_sub_cancel' hmb]
 conv => lhs; rw [← List.take_append_drop a l, e1, e2]
 simp only [List.append_assoc]
def Nt (l l' : List α) (a m b : Nat) : Prop := l'.length = l.length ∧ ∀ k, l'[k]? = if a ≤ k ∧ k < a + (b - m) then l[k + (m - a)]? else if a + (b - m) ≤ k ∧ k < b then l[k - (b - m)]? else l[k]?
theorem Nt.eq {l l' : List α} {a m b : Nat} (h : Nt l l' a m b) (ham : a ≤ m) (hmb : m ≤ b) (hb : b ≤ l.length) : l' = l.take a ++ ((l.drop m).take (b - m) ++ (l.drop a).take (m - a)) ++ l.drop b := by
 apply List.ext_getElem?
 intro k
 rw [h.2 k]
 have l1 : (l.take a).length = a := by rw [List.length_take]; omega
 have l2 : ((l.drop m).take (b - m)).length = b - m := by rw [List.length_take, List.length_drop]; omega
 have l3 : ((l.drop a).take (m - a)).length = m - a := by rw [List.length_take, List.length_drop]; omega
 by_cases c1 : k < a
 ·rw [if_neg (by omega), if_neg (by omega), List.append_assoc, List.getElem?_append_left (by omega), List.getElem?_take_of_lt c1]
 ·by_cases c2 : k < a + (b - m)
  ·rw [if_pos ⟨by omega, c2⟩, List.append_assoc, List.getElem?_append_right (by omega), l1, List.append_assoc, List.getElem?_append_left (by omega), List.getElem?_take_of_lt (by omega), List.getElem?_drop]
   congr 1; omega
  ·by_cases c3 : k < b
   ·rw [if_neg (by omega), if_pos ⟨by omega, c3⟩, List.append_assoc, List.getElem?_append_right (by omega), l1, List.append_assoc, List.getElem?_append_right (by omega), l2, List.getElem?_append_left (by omega), List.getElem?_take_of_lt (by omega), List.getElem?_drop]
    congr 1; omega
   ·rw [if_neg (by omega), if_neg (by omega), List.getElem?_append_right (by simp only [List.length_append]; omega), List.getElem?_drop]
    congr 1; simp only [List.length_append]; omega
theorem Nt.mg {l l' : List α} {a m b : Nat} (h : Nt l l' a m b) (ham : a ≤ m) (hmb : m ≤ b) (hb : b ≤ l.length)
  (hk : ∀ i j x y, a ≤ i → i < m → m ≤ j → j < b → l[i]? = some x → l[j]? = some y → K y < K x) : Mg K l l' a b := by
 refine ⟨h.1, fun k hk => ?_, fun k h1 h2 => ?_, fun v => ?_⟩
 ·rw [h.2 k, if_neg (by omega), if_neg (by omega)]
 ·rw [h.2 k]
  by_cases c : k < a + (b - m)
  ·rw [if_pos ⟨h1, c⟩]; exact ⟨_, by omega, by omega, rfl⟩
  ·rw [if_neg (by omega), if_pos ⟨by omega, h2⟩]; exact ⟨_, by omega, by omega, rfl⟩
 ·have e := M6 l ham hmb hb
  rw [h.eq ham hmb hb]
  conv => rhs; rw [e]
  rw [List.filter_append, List.filter_append, List.filter_append (l.take a ++ _), List.filter_append (l.take a)]
  rw [Jn (U := (l.drop m).take (b - m)) (V := (l.drop a).take (m - a))]
  intro y hy x hx
  obtain ⟨i, hi⟩ := List.mem_iff_getElem?.1 hx
  obtain ⟨j, hj⟩ := List.mem_iff_getElem?.1 hy
  have hi' : i < m - a := by
   have := (List.getElem?_eq_some_iff.1 hi).1; rw [List.length_take] at this; omega
  have hj' : j < b - m := by
   have := (List.getElem?_eq_some_iff.1 hj).1; rw [List.length_take] at this; omega
  rw [List.getElem?_take_of_lt hi', List.getElem?_drop] at hi
  rw [List.getElem?_take_of_lt hj', List.getElem?_drop] at hj
  have := hk (a + i) (m + j) x y (by omega) (by omega) (by omega) (by omega) hi hj
  omega
theorem Qm {l : List α} {i : Nat} {x y : α} (hx : l[i]? = some x) (hy : l[i + 1]? = some y) (h : K y < K x) : Mg K l ((l.set i y).set (i + 1) x) i (i + 2) := by
 have hl := (List.getElem?_eq_some_iff.1 hy).1
 have hr : Nt l ((l.set i y).set (i + 1) x) i (i + 1) (i + 2) := by
  refine ⟨by simp, fun k => ?_⟩
  have e1 : i + (i + 2 - (i + 1)) = i + 1 := by omega
  have e2 : i + 2 - (i + 1) = 1 := by omega
  rw [e2]
  rw [List.getElem?_set, List.getElem?_set, List.length_set]
  by_cases c1 : i + 1 = k
  ·subst c1
   rw [if_pos rfl, if_pos hl, if_neg (by omega), if_pos ⟨by omega, by omega⟩, Nat.add_sub_cancel, hx]
  ·by_cases c2 : i = k
   ·subst c2
    rw [if_neg (by omega), if_pos rfl, if_pos (by omega), if_pos ⟨by omega, by omega⟩]
    rw [show i + (i + 1 - i) = i + 1 by omega, hy]
   ·rw [if_neg c1, if_neg c2, if_neg (by omega), if_neg (by omega)]
 refine hr.mg (by omega) (by omega) (by omega) ?_
 intro p q u v h1 h2 h3 h4 hu hv
 have : p = i := by omega
 subst this
 have : q = p + 1 := by omega
 subst this
 rw [hx] at hu; rw [hy] at hv
 cases hu; cases hv
 exact h
theorem zT : ∀ {l l' : List α}, l.Pairwise (fun x y => K x ≤ K y) → l'.Pairwise (fun x y => K x ≤ K y) →
  (∀ v : Int, l'.filter (fun x => decide (K x = v)) = l.filter (fun x => decide (K x = v))) → l' = l
 | [], l', _, _, he => by
  cases l' with
  | nil => rfl
  | cons x t => have := he (K x); simp at this
 | x :: t, [], _, _, he => by have := he (K x); simp at this
 | x :: t, y :: s, h, h', he => by
  have hx : x ∈ y :: s := by
   have := he (K x)
   have hm : x ∈ (x :: t).filter (fun z => decide (K z = K x)) := List.mem_filter.2 ⟨List.mem_cons_self, by simp⟩
   rw [← this] at hm
   exact (List.mem_filter.1 hm).1
  have hy : y ∈ x :: t := by
   have := he (K y)
   have hm : y ∈ (y :: s).filter (fun z => decide (K z = K y)) := List.mem_filter.2 ⟨List.mem_cons_self, by simp⟩
   rw [this] at hm
   exact (List.mem_filter.1 hm).1
  have k1 : K y ≤ K x := by
   rcases List.mem_cons.1 hx with h1 | h1
   ·rw [h1]; exact Int.le_refl _
   ·exact (List.pairwise_cons.1 h').1 x h1
  have k2 : K x ≤ K y := by
   rcases List.mem_cons.1 hy with h1 | h1
   ·rw [h1]; exact Int.le_refl _
   ·exact (List.pairwise_cons.1 h).1 y h1
  have kk : K y = K x := by omega
  have e := he (K x)
  rw [List.filter_cons_of_pos (by simp [kk]), List.filter_cons_of_pos (by simp)] at e
  have exy : y = x := (List.cons.inj e).1
  subst exy
  have := zT (List.pairwise_cons.1 h).2 (List.pairwise_cons.1 h').2 (fun v => by
   have ev := he v
   by_cases c : K y = v
   ·rw [List.filter_cons_of_pos (by simp [c]), List.filter_cons_of_pos (by simp [c])] at ev
    exact (List.cons.inj ev).2
   ·rw [List.filter_cons_of_neg (by simp [c]), List.filter_cons_of_neg (by simp [c])] at ev
    exact ev)
  rw [this]
theorem SR.pairwise {l : List α} (h : SR K l 0 l.length) : l.Pairwise (fun x y => K x ≤ K y) := by
 rw [List.pairwise_iff_getElem]
 intro i j hi hj hij
 exact h i j _ _ (by omega) (by omega) hj (List.getElem?_eq_getElem hi) (List.getElem?_eq_getElem hj)
theorem parted {l l1 : List α} {a m b mid start : Nat} (ham : a < m) (hmb : m < b) (hb : b ≤ l.length) (hmid : mid = (a + b) / 2)
  (s1 : SR K l a m) (s2 : SR K l m b)
  (hs0 : a ≤ start) (hs1 : start ≤ m) (hs2 : mid + m ≤ start + b) (hs3 : start ≤ mid)
  (hlow : ∀ x y, a < start → mid + m < start + b → l[start - 1]? = some x → l[mid + m - start]? = some y → K x ≤ K y)
  (hup : ∀ x y, start < m → start < mid → l[start]? = some x → l[mid + m - start - 1]? = some y → K y < K x)
  (hr : Nt l l1 start m (mid + m - start)) :
  Mg K l l1 a b ∧ SR K l1 a start ∧ SR K l1 start mid ∧ SR K l1 mid (mid + m - start) ∧ SR K l1 (mid + m - start) b ∧
   ∀ i j x y, a ≤ i → i < mid → mid ≤ j → j < b → l1[i]? = some x → l1[j]? = some y → K x ≤ K y := by
 generalize hE : mid + m - start = e at *
 have he1 : m ≤ e := by omega
 have he2 : e ≤ b := by omega
 have hcross : ∀ i j x y, start ≤ i → i < m → m ≤ j → j < e → l[i]? = some x → l[j]? = some y → K y < K x := by
  intro i j x y h1 h2 h3 h4 hx hy
  have hi : start < l.length := by omega
  have hj : e - 1 < l.length := by omega
  have k := hup _ _ (by omega) (by omega) (List.getElem?_eq_getElem hi) (List.getElem?_eq_getElem hj)
  have k1 := s1 start i _ x hs0 h1 h2 (List.getElem?_eq_getElem hi) hx
  have k2 := s2 j (e - 1) y _ h3 (by omega) (by omega) hy (List.getElem?_eq_getElem hj)
  omega
 have g1 : ∀ k, k < start → l1[k]? = l[k]? := fun k hk => by rw [hr.2 k, if_neg (by omega), if_neg (by omega)]
 have g2 : ∀ k, start ≤ k → k < mid → l1[k]? = l[k + (m - start)]? := fun k hk hk2 => by rw [hr.2 k, if_pos ⟨hk, by omega⟩]
 have g3 : ∀ k, mid ≤ k → k < e → l1[k]? = l[k - (e - m)]? := fun k hk hk2 => by rw [hr.2 k, if_neg (by omega), if_pos ⟨by omega, by omega⟩]
 have g4 : ∀ k, e ≤ k → l1[k]? = l[k]? := fun k hk => by rw [hr.2 k, if_neg (by omega), if_neg (by omega)]
 refine ⟨(hr.mg hs1 he1 (by omega) hcross).mono hs0 he2, ?_, ?_, ?_, ?_, ?_⟩
 ·intro i j x y h1 h2 h3 hx hy
  rw [g1 i (by omega)] at hx; rw [g1 j (by omega)] at hy
  exact s1 i j x y h1 h2 (by omega) hx hy
 ·intro i j x y h1 h2 h3 hx hy
  rw [g2 i (by omega) (by omega)] at hx; rw [g2 j (by omega) (by omega)] at hy
  exact s2 _ _ x y (by omega) (by omega) (by omega) hx hy
 ·intro i j x y h1 h2 h3 hx hy
  rw [g3 i (by omega) (by omega)] at hx; rw [g3 j (by omega) (by omega)] at hy
  exact s1 _ _ x y (by omega) (by omega) (by omega) hx hy
 ·intro i j x y h1 h2 h3 hx hy
  rw [g4 i (by omega)] at hx; rw [g4 j (by omega)] at hy
  exact s2 _ _ x y (by omega) (by omega) (by omega) hx hy
 ·intro i j x y h1 h2 h3 h4 hx hy
  by_cases ci : i < start
  ·rw [g1 i ci] at hx
   by_cases cj : j < e
   ·rw [g3 j h3 cj] at hy
    exact s1 _ _ x y h1 (by omega) (by omega) hx hy
   ·rw [g4 j (by omega)] at hy
    have hi : start - 1 < l.length := by omega
    have hj : e < l.length := by omega
    have k := hlow _ _ (by omega) (by omega) (List.getElem?_eq_getElem hi) (List.getElem?_eq_getElem hj)
    have k1 := s1 i (start - 1) x _ h1 (by omega) (by omega) hx (List.getElem?_eq_getElem hi)
    have k2 := s2 e j _ y (by omega) (by omega) h4 (List.getElem?_eq_getElem hj) hy
    omega
  ·rw [g2 i (by omega) h2] at hx
   by_cases cj : j < e
   ·rw [g3 j h3 cj] at hy
    have := hcross (j - (e - m)) (i + (m - start)) y x (by omega) (by omega) (by omega) (by omega) hy hx
    omega
   ·rw [g4 j (by omega)] at hy
    exact s2 _ _ x y (by omega) (by omega) (by omega) hx hy
end Go.Proofs.YtcjeebkoafonpaaGreatDoor.ST
namespace Go.Proofs.YtcjeebkoafonpaaGreatDoor
theorem bU {x : Int} (h1 : -4611686018427387904 ≤ x) (h2 : x ≤ 4611686018427387904) : bG x = x := Gv (by omega) (by omega)
theorem jE {α : Type} (pre suf : List α) (x : α) : idx (pre ++ x :: suf) (pre.length : Int) = some x := by
 unfold idx
 rw [if_pos (by omega)]
 simp
theorem Hq {α : Type} {l : List α} {i : Nat} (h : i < l.length) : idx l (i : Int) = some l[i] := by
 unfold idx
 rw [if_pos (by omega)]
 simp [h]
theorem Hf {α : Type} (pre suf : List α) (x : α) : decide ((pre.length : Int) < ((pre ++ x :: suf).length : Int)) = true := decide_eq_true (by simp; omega)
theorem Oz {α : Type} (pre : List α) : decide ((pre.length : Int) < ((pre ++ []).length : Int)) = false := decide_eq_false (by simp)
theorem Gw {α : Type} (pre : List α) (x : α) (h : pre.length ≤ 4611686018427387903) : bG ((pre.length : Int) + 1) = ((pre ++ [x]).length : Int) := by
 rw [bU (by omega) (by omega)]; simp
theorem AV {α : Type} (pre suf : List α) (x : α) : pre ++ x :: suf = (pre ++ [x]) ++ suf := by simp
theorem lU {α : Type} {l m : List α} (h : l.length + m.length ≤ 4294967296) : yX l m = some (l ++ m) := if_pos h
def within (n lo hi : Int) : Bool := decide (lo ≤ n) && decide (n ≤ hi)
theorem within_iff {n lo hi : Int} : within n lo hi = true ↔ lo ≤ n ∧ n ≤ hi := by simp [within]
def BZ {α : Type} (g : α → Bool) : List α → Int → Int
 | [], _ => -1
 | x :: l, i => if g x then i else BZ g l (i + 1)
theorem Er {α : Type} (g : α → Bool) : ∀ (l : List α) (i : Int), 0 ≤ i → decide (0 ≤ BZ g l i) = l.any g
 | [], _, _ => by simp [BZ]
 | x :: l, i, hi => by
  unfold BZ
  rw [List.any_cons]
  cases g x
  ·simp [Er g l (i + 1) (by omega)]
  ·simp [hi]
end Go.Proofs.YtcjeebkoafonpaaGreatDoor
namespace Go.Proofs.YtcjeebkoafonpaaGreatDoor.ST
def KR (x : dK) : Int := - max x.area (bG (0 - x.area))
theorem cf (x y : dK) : ∃ c, jV x y = some c ∧ (c < 0 ↔ KR x < KR y) := by
 unfold jV um qa pG KR
 simp only [Option.bind_some, bne_self_eq_false, Bool.false_eq_true, if_false, decide_eq_true_eq]
 split
 ·exact ⟨_, rfl, by constructor <;> intro _ <;> omega⟩
 ·split
  ·exact ⟨_, rfl, by constructor <;> intro _ <;> omega⟩
  ·exact ⟨_, rfl, by constructor <;> intro _ <;> omega⟩
theorem ix {α : Type} {l : List α} {i : Int} {k : Nat} {x : α} (e : i = (k : Int)) (h : l[k]? = some x) : idx l i = some x := by
 subst e
 unfold idx
 rw [if_pos (by omega), Int.toNat_natCast, h]
theorem st {α : Type} {l : List α} {i : Int} {k : Nat} (x : α) (e : i = (k : Int)) (h : k < l.length) : sets l i x = some (l.set k x) := by
 subst e
 unfold sets
 rw [if_pos ⟨by omega, by rw [Int.toNat_natCast]; exact h⟩, Int.toNat_natCast]
theorem gt {α : Type} {l : List α} {k : Nat} (h : k < l.length) : ∃ x, l[k]? = some x := ⟨l[k], List.getElem?_eq_getElem h⟩
theorem GA {α : Type} {l : List α} {i j : Nat} {x y : α} (hx : l[i]? = some x) (hy : l[j]? = some y) (hij : i ≠ j) (k : Nat) : ((l.set i y).set j x)[k]? = if k = i then l[j]? else if k = j then l[i]? else l[k]? := by
 have h1 := (List.getElem?_eq_some_iff.1 hx).1
 have h2 := (List.getElem?_eq_some_iff.1 hy).1
 rw [List.getElem?_set, List.getElem?_set, List.length_set, hx, hy]
 by_cases c1 : j = k
 ·subst c1
  rw [if_pos rfl, if_pos h2, if_neg (by omega), if_pos rfl]
 ·rw [if_neg c1]
  by_cases c2 : i = k
  ·subst c2; rw [if_pos rfl, if_pos h1, if_pos rfl]
  ·rw [if_neg c2, if_neg (by omega), if_neg (by omega)]
theorem OL (a i : Nat) (k : List dK → Int → Option (List dK)) (hi : i ≤ 1000000000) : ∀ (m : Nat) (l : List dK) (j : Nat), j < m → a ≤ j → j ≤ i → i < l.length →
  SR KR l a j → SR KR l j (i + 1) → (∀ p q x y, a ≤ p → p < j → j + 1 ≤ q → q < i + 1 → l[p]? = some x → l[q]? = some y → KR x ≤ KR y) →
  ∃ l', Mg KR l l' a (i + 1) ∧ SR KR l' a (i + 1) ∧ cK (a : Int) (i : Int) k m l (j : Int) = k l' ((i : Int) + 1)
 | 0, _, _, hm, _, _, _, _, _, _ => absurd hm (Nat.not_lt_zero _)
 | m + 1, l, j, hm, haj, hji, hil, s1, s2, hc => by
  unfold cK
  by_cases hj : a < j
  ·obtain ⟨x, hx⟩ := gt (l := l) (k := j) (by omega)
   obtain ⟨y, hy⟩ := gt (l := l) (k := j - 1) (by omega)
   have e1 : bG ((j : Int) - 1) = ((j - 1 : Nat) : Int) := by rw [bU (by omega) (by omega)]; omega
   obtain ⟨c, hcf, hlt⟩ := cf x y
   rw [if_pos (decide_eq_true (by omega : (a : Int) < (j : Int))), e1, ix rfl hx, Option.bind_some, ix rfl hy, Option.bind_some, hcf, Option.bind_some, Option.bind_some]
   by_cases hk : c < 0
   ·rw [if_pos (decide_eq_true hk)]
    have hK := hlt.1 hk
    rw [Option.bind_some, Option.bind_some, Option.bind_some, st y rfl (by omega : j < l.length), Option.bind_some]
    obtain ⟨z, hz⟩ := gt (l := l.set j y) (k := j - 1) (by rw [List.length_set]; omega)
    rw [ix rfl hz, Option.bind_some, st x rfl (by rw [List.length_set]; omega), Option.bind_some]
    have hcomm : (l.set j y).set (j - 1) x = (l.set (j - 1) x).set j y := List.set_comm _ _ (by omega)
    rw [hcomm]
    have hy' : l[j - 1 + 1]? = some x := by rw [Nat.sub_add_cancel (by omega)]; exact hx
    have hm1 := Qm (K := KR) hy hy' hK
    rw [Nat.sub_add_cancel (by omega : 1 ≤ j)] at hm1
    have hg := GA hy hx (by omega : j - 1 ≠ j)
    generalize (l.set (j - 1) x).set j y = l1 at hm1 hg
    obtain ⟨l', h1, h2, h3⟩ := OL a i k hi m l1 (j - 1) (by omega) (by omega) (by omega) (by rw [hm1.len]; exact hil)
     (SR.xH hm1 (s1.sub (Nat.le_refl _) (Nat.sub_le _ _)) (.inl (by omega)))
     (fun p q u v hp hpq hq hu hv => by
      rw [hg p] at hu; rw [hg q] at hv
      by_cases cp : p = j - 1
      ·rw [if_pos cp, hx] at hu
       cases hu
       by_cases cq : q = j - 1
       ·rw [if_pos cq, hx] at hv; cases hv; exact Int.le_refl _
       ·rw [if_neg cq] at hv
        by_cases cq2 : q = j
        ·rw [if_pos cq2, hy] at hv; cases hv; omega
        ·rw [if_neg cq2] at hv
         exact s2 j q _ _ (Nat.le_refl _) (by omega) hq hx hv
      ·rw [if_neg cp] at hu
       rw [if_neg (by omega)] at hv
       by_cases cp2 : p = j
       ·rw [if_pos cp2, hy] at hu
        cases hu
        by_cases cq2 : q = j
        ·rw [if_pos cq2, hy] at hv; cases hv; exact Int.le_refl _
        ·rw [if_neg cq2] at hv
         exact hc (j - 1) q _ _ (by omega) (by omega) (by omega) hq hy hv
       ·rw [if_neg cp2] at hu
        rw [if_neg (by omega)] at hv
        exact s2 p q _ _ (by omega) hpq hq hu hv)
     (fun p q u v hp hpj hq hqi hu hv => by
      rw [hg p, if_neg (by omega), if_neg (by omega)] at hu
      rw [hg q, if_neg (by omega)] at hv
      by_cases cq : q = j
      ·rw [if_pos cq, hy] at hv
       cases hv
       exact s1 p (j - 1) _ _ hp (by omega) (by omega) hu hy
      ·rw [if_neg cq] at hv
       exact hc p q _ _ hp (by omega) (by omega) hqi hu hv)
    exact ⟨l', (hm1.mono (by omega) (by omega)).trans h1, h2, h3⟩
   ·rw [if_neg (by rw [decide_eq_true_eq]; exact hk), bU (by omega) (by omega)]
    refine ⟨l, .rfl, s1.join s2 fun p q u v hp hpj hq hqi hu hv => ?_, rfl⟩
    have k1 := s1 p (j - 1) _ _ hp (by omega) (by omega) hu hy
    have k2 := s2 j q _ _ (Nat.le_refl _) hq hqi hx hv
    have k3 : ¬ KR x < KR y := fun h => hk (hlt.2 h)
    omega
  ·have : j = a := by omega
   subst this
   rw [if_neg (by rw [decide_eq_true_eq]; omega), Option.bind_some, if_neg (by decide), bU (by omega) (by omega)]
   exact ⟨l, .rfl, s2, rfl⟩
theorem LU (N a b : Nat) (hN : 10000000000 ≤ N) (hb : b ≤ 1000000000) : ∀ (m : Nat) (l : List dK) (i : Nat), b < m + i ∧ a + 1 < m + i → a ≤ i → (i ≤ b ∨ i ≤ a + 1) → b ≤ l.length → SR KR l a i →
  ∃ l', Mg KR l l' a b ∧ SR KR l' a b ∧ bB N (a : Int) (b : Int) m l (i : Int) = some l'
 | 0, l, i, hm, hai, hib, hbl, s => by omega
 | m + 1, l, i, hm, hai, hib, hbl, s => by
  unfold bB
  by_cases hi : i < b
  ·rw [if_pos (decide_eq_true (by omega : (i : Int) < (b : Int)))]
   obtain ⟨l1, h1, h2, h3⟩ := OL a i (bB N (a : Int) (b : Int) m) (by omega) N l i (by omega) hai (Nat.le_refl _) (by omega) s (SR.one (by omega)) (fun p q u v _ _ h3 h4 _ _ => by omega)
   rw [h3]
   obtain ⟨l', h4, h5, h6⟩ := LU N a b hN hb m l1 (i + 1) (by omega) (by omega) (by omega) (by rw [h1.len]; exact hbl) h2
   exact ⟨l', (h1.mono (Nat.le_refl _) (by omega)).trans h4, h5, by rw [← h6]; norm_cast⟩
  ·rw [if_neg (by rw [decide_eq_true_eq]; omega)]
   exact ⟨l, .rfl, s.sub (Nat.le_refl _) (by omega), rfl⟩
theorem OJ {N a b : Nat} (hN : 10000000000 ≤ N) (hb : b ≤ 1000000000) {l : List dK} (hbl : b ≤ l.length) (hab : a ≤ b) :
  ∃ l', Mg KR l l' a b ∧ SR KR l' a b ∧ dN N l (a : Int) (b : Int) = some l' := by
 unfold dN
 rw [bU (by omega) (by omega), show (a : Int) + 1 = ((a + 1 : Nat) : Int) by omega]
 exact LU N a b hN hb N l (a + 1) (by omega) (by omega) (by omega) hbl (SR.one (Nat.le_refl _))
def Vy {α : Type} (l l' : List α) (a b n : Nat) : Prop := l'.length = l.length ∧ ∀ k, l'[k]? = if a ≤ k ∧ k < a + n then l[k - a + b]? else if b ≤ k ∧ k < b + n then l[k - b + a]? else l[k]?
theorem Ir (a b n : Nat) (hab : a + n ≤ b) (hb : b + n ≤ 1000000000) (l0 : List dK) (hl : b + n ≤ l0.length) : ∀ (m : Nat) (l : List dK) (i : Nat), n < m + i → i ≤ n → Vy l0 l a b i →
  ∃ l', Vy l0 l' a b n ∧ dw (a : Int) (b : Int) (n : Int) m l (i : Int) = some l'
 | 0, l, i, hm, hi, h => by omega
 | m + 1, l, i, hm, hi, h => by
  unfold dw
  by_cases c : i < n
  ·rw [if_pos (decide_eq_true (by omega : (i : Int) < (n : Int)))]
   have e1 : bG ((b : Int) + (i : Int)) = ((b + i : Nat) : Int) := by rw [bU (by omega) (by omega)]; omega
   have e2 : bG ((a : Int) + (i : Int)) = ((a + i : Nat) : Int) := by rw [bU (by omega) (by omega)]; omega
   have hll := h.1
   obtain ⟨y, hy⟩ := gt (l := l) (k := b + i) (by omega)
   obtain ⟨x, hx⟩ := gt (l := l) (k := a + i) (by omega)
   rw [e1, e2, ix rfl hy, Option.bind_some, ix rfl hx, Option.bind_some, Option.bind_some, st y rfl (by omega), Option.bind_some]
   obtain ⟨z, hz⟩ := gt (l := l.set (a + i) y) (k := b + i) (by rw [List.length_set]; omega)
   rw [ix rfl hz, Option.bind_some, st x rfl (by rw [List.length_set]; omega), Option.bind_some]
   have hg := GA hx hy (by omega : a + i ≠ b + i)
   have hlen : ((l.set (a + i) y).set (b + i) x).length = l.length := by simp
   generalize (l.set (a + i) y).set (b + i) x = l1 at hg hlen
   rw [show bG ((i : Int) + 1) = ((i + 1 : Nat) : Int) by rw [bU (by omega) (by omega)]; omega]
   refine Ir a b n hab hb l0 hl m l1 (i + 1) (by omega) (by omega) ⟨by omega, fun k => ?_⟩
   rw [hg k]
   simp only [h.2]
   repeat' split
   all_goals first
    | (exfalso; omega)
    | rfl
    | (congr 1; omega)
  ·rw [if_neg (by rw [decide_eq_true_eq]; omega)]
   have : i = n := by omega
   subst this
   exact ⟨l, h, rfl⟩
theorem JY {N a b n : Nat} (hN : 10000000000 ≤ N) (hab : a + n ≤ b) (hb : b + n ≤ 1000000000) {l : List dK} (hl : b + n ≤ l.length) :
  ∃ l', Vy l l' a b n ∧ ed N l (a : Int) (b : Int) (n : Int) = some l' :=
 Ir a b n hab hb l hl N l 0 (by omega) (by omega) ⟨rfl, fun k => by rw [if_neg (by omega), if_neg (by omega)]⟩
theorem Ea {N : Nat} (hN : 10000000000 ≤ N) (p : Nat) : ∀ (m : Nat) (l : List dK) (i j : Nat), i + j < m → 0 < i → 0 < j → i ≤ p → p + j ≤ l.length → l.length ≤ 1000000000 →
  ∃ l', Nt l l' (p - i) p (p + j) ∧ dh N (p : Int) m l (i : Int) (j : Int) = some l'
 | 0, _, _, _, hm, _, _, _, _, _ => absurd hm (Nat.not_lt_zero _)
 | m + 1, l, i, j, hm, hi, hj, hip, hl, hlen => by
  unfold dh
  have e1 : bG ((p : Int) - (i : Int)) = ((p - i : Nat) : Int) := by rw [bU (by omega) (by omega)]; omega
  by_cases c : i = j
  ·subst c
   rw [if_neg (by simp), e1]
   obtain ⟨l1, h1, h2⟩ := JY (N := N) (a := p - i) (b := p) (n := i) hN (by omega) (by omega) (l := l) (by omega)
   rw [h2, Option.bind_some]
   refine ⟨l1, ⟨h1.1, fun k => ?_⟩, rfl⟩
   rw [h1.2 k]
   repeat' split
   all_goals first
    | (exfalso; omega)
    | rfl
    | (congr 1; omega)
  ·rw [if_pos (by simp; omega)]
   by_cases d : j < i
   ·rw [if_pos (decide_eq_true (by omega : (j : Int) < (i : Int))), e1]
    obtain ⟨l1, h1, h2⟩ := JY (N := N) (a := p - i) (b := p) (n := j) hN (by omega) (by omega) (l := l) (by omega)
    rw [h2, Option.bind_some, show bG ((i : Int) - (j : Int)) = ((i - j : Nat) : Int) by rw [bU (by omega) (by omega)]; omega]
    have hl1 := h1.1
    obtain ⟨l', h3, h4⟩ := Ea hN p m l1 (i - j) j (by omega) (by omega) hj (by omega) (by omega) (by omega)
    refine ⟨l', ⟨h3.1.trans h1.1, fun k => ?_⟩, h4⟩
    rw [h3.2 k]
    simp only [h1.2]
    repeat' split
    all_goals first
     | (exfalso; omega)
     | rfl
     | (congr 1; omega)
   ·rw [if_neg (by rw [decide_eq_true_eq]; omega), e1]
    have e2 : bG ((bG ((p : Int) + (j : Int))) - (i : Int)) = ((p + j - i : Nat) : Int) := by rw [bU (x := (p : Int) + (j : Int)) (by omega) (by omega), bU (by omega) (by omega)]; omega
    obtain ⟨l1, h1, h2⟩ := JY (N := N) (a := p - i) (b := p + j - i) (n := i) hN (by omega) (by omega) (l := l) (by omega)
    rw [e2, h2, Option.bind_some, show bG ((j : Int) - (i : Int)) = ((j - i : Nat) : Int) by rw [bU (by omega) (by omega)]; omega]
    have hl1 := h1.1
    obtain ⟨l', h3, h4⟩ := Ea hN p m l1 i (j - i) (by omega) hi (by omega) hip (by omega) (by omega)
    refine ⟨l', ⟨h3.1.trans h1.1, fun k => ?_⟩, h4⟩
    rw [h3.2 k]
    simp only [h1.2]
    repeat' split
    all_goals first
     | (exfalso; omega)
     | rfl
     | (congr 1; omega)
theorem Sw {N a p b : Nat} (hN : 10000000000 ≤ N) (h1 : a < p) (h2 : p < b) {l : List dK} (hb : b ≤ l.length) (hl : l.length ≤ 1000000000) :
  ∃ l', Nt l l' a p b ∧ gp N l (a : Int) (p : Int) (b : Int) = some l' := by
 unfold gp
 have e1 : bG ((p : Int) - (a : Int)) = ((p - a : Nat) : Int) := by rw [bU (by omega) (by omega)]; omega
 have e2 : bG ((b : Int) - (p : Int)) = ((b - p : Nat) : Int) := by rw [bU (by omega) (by omega)]; omega
 obtain ⟨l', h3, h4⟩ := Ea hN p N l (p - a) (b - p) (by omega) (by omega) (by omega) (by omega) (by omega) hl
 rw [e1, e2]
 refine ⟨l', ?_, h4⟩
 rw [show p - (p - a) = a by omega, show p + (b - p) = b by omega] at h3
 exact h3
end Go.Proofs.YtcjeebkoafonpaaGreatDoor.ST
namespace Go.Proofs.YtcjeebkoafonpaaGreatDoor.ST
theorem uo {x : Int} {k : Nat} (e : x = (k : Int)) (h : k ≤ 4000000000) : uO x = some (k : Int) := by
 subst e
 unfold uO
 rw [if_pos ⟨by omega, by omega⟩]
theorem half {i j : Nat} (hi : i ≤ 1000000000) (hj : j ≤ 1000000000) {β : Type} (f : Int → Option β) : ((uO (bG ((i : Int) + (j : Int)))).bind fun q => (uO (q / 2)).bind fun q2 => f q2) = f (((i + j) / 2 : Nat) : Int) := by
 rw [uo (k := i + j) (by rw [bU (by omega) (by omega)]; omega) (by omega), Option.bind_some, uo (k := (i + j) / 2) (by omega) (by omega), Option.bind_some]
theorem I7 (a i : Nat) (hi : i ≤ 1000000000) (l0 : List dK) (hl : i ≤ l0.length) : ∀ (m : Nat) (l : List dK) (k : Nat), i < m + k → a ≤ k → k < i → Nt l0 l a (a + 1) (k + 1) →
  ∃ l', Nt l0 l' a (a + 1) i ∧ cu (i : Int) m l (k : Int) = some l'
 | 0, _, _, hm, _, _, _ => by omega
 | m + 1, l, k, hm, hak, hki, h => by
  unfold cu
  rw [bU (by omega) (by omega)]
  by_cases c : k + 1 < i
  ·rw [if_pos (decide_eq_true (by omega : (k : Int) < (i : Int) - 1))]
   have e1 : bG ((k : Int) + 1) = ((k + 1 : Nat) : Int) := by rw [bU (by omega) (by omega)]; omega
   have hll := h.1
   obtain ⟨y, hy⟩ := gt (l := l) (k := k + 1) (by omega)
   obtain ⟨x, hx⟩ := gt (l := l) (k := k) (by omega)
   rw [e1, ix rfl hy, Option.bind_some, ix rfl hx, Option.bind_some, Option.bind_some, st y rfl (by omega), Option.bind_some]
   obtain ⟨z, hz⟩ := gt (l := l.set k y) (k := k + 1) (by rw [List.length_set]; omega)
   rw [ix rfl hz, Option.bind_some, st x rfl (by rw [List.length_set]; omega), Option.bind_some]
   have hg := GA hx hy (by omega : k ≠ k + 1)
   have hlen : ((l.set k y).set (k + 1) x).length = l.length := by simp
   generalize (l.set k y).set (k + 1) x = l1 at hg hlen
   refine I7 a i hi l0 hl m l1 (k + 1) (by omega) (by omega) c ⟨by omega, fun q => ?_⟩
   rw [hg q]
   simp only [h.2]
   repeat' split
   all_goals first
    | (exfalso; omega)
    | exact congrArg (fun n => l0[n]?) (by omega)
  ·rw [if_neg (by rw [decide_eq_true_eq]; omega)]
   have : k + 1 = i := by omega
   subst this
   exact ⟨l, h, rfl⟩
theorem LD (i p : Nat) (hp : p ≤ 1000000000) (l0 : List dK) (hl : p < l0.length) : ∀ (m : Nat) (l : List dK) (k : Nat), k < m + i → i ≤ k → k ≤ p → Nt l0 l k p (p + 1) →
  ∃ l', Nt l0 l' i p (p + 1) ∧ bY (i : Int) m l (k : Int) = some l'
 | 0, _, _, hm, _, _, _ => by omega
 | m + 1, l, k, hm, hak, hki, h => by
  unfold bY
  by_cases c : i < k
  ·rw [if_pos (decide_eq_true (by omega : (i : Int) < (k : Int)))]
   have e1 : bG ((k : Int) - 1) = ((k - 1 : Nat) : Int) := by rw [bU (by omega) (by omega)]; omega
   have hll := h.1
   obtain ⟨y, hy⟩ := gt (l := l) (k := k - 1) (by omega)
   obtain ⟨x, hx⟩ := gt (l := l) (k := k) (by omega)
   rw [e1, ix rfl hy, Option.bind_some, ix rfl hx, Option.bind_some, Option.bind_some, st y rfl (by omega), Option.bind_some]
   obtain ⟨z, hz⟩ := gt (l := l.set k y) (k := k - 1) (by rw [List.length_set]; omega)
   rw [ix rfl hz, Option.bind_some, st x rfl (by rw [List.length_set]; omega), Option.bind_some]
   have hg := GA hx hy (by omega : k ≠ k - 1)
   have hlen : ((l.set k y).set (k - 1) x).length = l.length := by simp
   generalize (l.set k y).set (k - 1) x = l1 at hg hlen
   refine LD i p hp l0 hl m l1 (k - 1) (by omega) (by omega) (by omega) ⟨by omega, fun q => ?_⟩
   rw [hg q]
   simp only [h.2]
   repeat' split
   all_goals first
    | (exfalso; omega)
    | exact congrArg (fun n => l0[n]?) (by omega)
  ·rw [if_neg (by rw [decide_eq_true_eq]; omega)]
   have : k = i := by omega
   subst this
   exact ⟨l, h, rfl⟩
theorem Ak {N : Nat} {l : List dK} {a b : Nat} {x : dK} (hx : l[a]? = some x) (hb : b ≤ l.length) (hl : l.length ≤ 1000000000) (s : SR KR l (a + 1) b) : ∀ (m i j : Nat), j < m + i → a + 1 ≤ i → i ≤ j → j ≤ b →
  (∀ k y, a + 1 ≤ k → k < i → l[k]? = some y → KR y < KR x) → (∀ k y, j ≤ k → k < b → l[k]? = some y → KR x ≤ KR y) →
  ∃ q : Nat, a + 1 ≤ q ∧ q ≤ b ∧ (∀ k y, a + 1 ≤ k → k < q → l[k]? = some y → KR y < KR x) ∧ (∀ k y, q ≤ k → k < b → l[k]? = some y → KR x ≤ KR y) ∧
   cz N l (a : Int) m (i : Int) (j : Int) = cu (q : Int) N l (a : Int)
 | 0, _, _, hm, _, _, _, _, _ => by omega
 | m + 1, i, j, hm, hai, hij, hjb, h1, h2 => by
  unfold cz
  by_cases c : i < j
  ·rw [if_pos (decide_eq_true (by omega : (i : Int) < (j : Int))), half (by omega) (by omega)]
   generalize hh : (i + j) / 2 = h
   obtain ⟨y, hy⟩ := gt (l := l) (k := h) (by omega)
   obtain ⟨cc, hcf, hlt⟩ := cf y x
   rw [ix rfl hy, Option.bind_some, ix rfl hx, Option.bind_some, hcf, Option.bind_some]
   by_cases d : cc < 0
   ·rw [if_pos (decide_eq_true d), show bG ((h : Int) + 1) = ((h + 1 : Nat) : Int) by rw [bU (by omega) (by omega)]; omega]
    refine Ak hx hb hl s m (h + 1) j (by omega) (by omega) (by omega) hjb (fun k z hk hk2 hz => ?_) h2
    have := s k h z y hk (by omega) (by omega) hz hy
    have := hlt.1 d
    omega
   ·rw [if_neg (by rw [decide_eq_true_eq]; exact d)]
    refine Ak hx hb hl s m i h (by omega) hai (by omega) (by omega) h1 (fun k z hk hk2 hz => ?_)
    have := s h k y z (by omega) hk hk2 hy hz
    have : ¬ KR y < KR x := fun g => d (hlt.2 g)
    omega
  ·rw [if_neg (by rw [decide_eq_true_eq]; omega)]
   have : i = j := by omega
   subst this
   exact ⟨i, hai, hjb, h1, h2, rfl⟩
theorem Cc {N : Nat} {l : List dK} {a p : Nat} {x : dK} (hx : l[p]? = some x) (hl : l.length ≤ 1000000000) (s : SR KR l a p) : ∀ (m i j : Nat), j < m + i → a ≤ i → i ≤ j → j ≤ p →
  (∀ k y, a ≤ k → k < i → l[k]? = some y → KR y ≤ KR x) → (∀ k y, j ≤ k → k < p → l[k]? = some y → KR x < KR y) →
  ∃ q : Nat, a ≤ q ∧ q ≤ p ∧ (∀ k y, a ≤ k → k < q → l[k]? = some y → KR y ≤ KR x) ∧ (∀ k y, q ≤ k → k < p → l[k]? = some y → KR x < KR y) ∧
   bZ N l (p : Int) m (i : Int) (j : Int) = bY (q : Int) N l (p : Int)
 | 0, _, _, hm, _, _, _, _, _ => by omega
 | m + 1, i, j, hm, hai, hij, hjb, h1, h2 => by
  have hpl := (List.getElem?_eq_some_iff.1 hx).1
  unfold bZ
  by_cases c : i < j
  ·rw [if_pos (decide_eq_true (by omega : (i : Int) < (j : Int))), half (by omega) (by omega)]
   generalize hh : (i + j) / 2 = h
   obtain ⟨y, hy⟩ := gt (l := l) (k := h) (by omega)
   obtain ⟨cc, hcf, hlt⟩ := cf x y
   rw [ix rfl hx, Option.bind_some, ix rfl hy, Option.bind_some, hcf, Option.bind_some]
   by_cases d : cc < 0
   ·rw [if_neg (by simp [d])]
    refine Cc hx hl s m i h (by omega) hai (by omega) (by omega) h1 (fun k z hk hk2 hz => ?_)
    have := s h k y z (by omega) hk hk2 hy hz
    have := hlt.1 d
    omega
   ·rw [if_pos (by simp [d]), show bG ((h : Int) + 1) = ((h + 1 : Nat) : Int) by rw [bU (by omega) (by omega)]; omega]
    refine Cc hx hl s m (h + 1) j (by omega) (by omega) (by omega) hjb (fun k z hk hk2 hz => ?_) h2
    have := s k h z y hk (by omega) (by omega) hz hy
    have : ¬ KR x < KR y := fun g => d (hlt.2 g)
    omega
  ·rw [if_neg (by rw [decide_eq_true_eq]; omega)]
   have : i = j := by omega
   subst this
   exact ⟨i, hai, hjb, h1, h2, rfl⟩
theorem EC {N : Nat} {l : List dK} {a p b mid : Nat} (rec : List dK → Int → Int → Int → Option (List dK)) (hap : a < p) (hpb : p < b) (hb : b ≤ l.length) (hl : l.length ≤ 1000000000) (hmid : mid = (a + b) / 2) (s1 : SR KR l a p) (s2 : SR KR l p b)
  (lo hi : Nat) (hlo : lo = max a (mid + p - b)) (hhi : hi = min p mid) : ∀ (m i j : Nat), j < m + i → lo ≤ i → i ≤ j → j ≤ hi →
  (∀ x y, lo < i → l[i - 1]? = some x → l[mid + p - i]? = some y → KR x ≤ KR y) → (∀ x y, j < hi → l[j]? = some x → l[mid + p - j - 1]? = some y → KR y < KR x) →
  ∃ q : Nat, lo ≤ q ∧ q ≤ hi ∧ (∀ x y, lo < q → l[q - 1]? = some x → l[mid + p - q]? = some y → KR x ≤ KR y) ∧ (∀ x y, q < hi → l[q]? = some x → l[mid + p - q - 1]? = some y → KR y < KR x) ∧
   bC N l (a : Int) (p : Int) (b : Int) rec (mid : Int) m (i : Int) (j : Int) = bC N l (a : Int) (p : Int) (b : Int) rec (mid : Int) 1 (q : Int) (q : Int)
 | 0, _, _, hm, _, _, _, _, _ => by omega
 | m + 1, i, j, hm, hai, hij, hjb, h1, h2 => by
  by_cases c : i < j
  ·unfold bC
   rw [if_pos (decide_eq_true (by omega : (i : Int) < (j : Int))), half (by omega) (by omega)]
   generalize hh : (i + j) / 2 = h
   obtain ⟨y, hy⟩ := gt (l := l) (k := mid + p - 1 - h) (by omega)
   obtain ⟨x, hx⟩ := gt (l := l) (k := h) (by omega)
   obtain ⟨cc, hcf, hlt⟩ := cf y x
   have e : bG ((bG ((bG ((mid : Int) + (p : Int))) - 1)) - (h : Int)) = ((mid + p - 1 - h : Nat) : Int) := by
    rw [bU (x := (mid : Int) + (p : Int)) (by omega) (by omega), bU (x := (mid : Int) + (p : Int) - 1) (by omega) (by omega), bU (by omega) (by omega)]; omega
   rw [e, ix rfl hy, Option.bind_some, ix rfl hx, Option.bind_some, hcf, Option.bind_some]
   by_cases d : cc < 0
   ·rw [if_neg (by simp [d])]
    refine EC rec hap hpb hb hl hmid s1 s2 lo hi hlo hhi m i h (by omega) hai (by omega) (by omega) h1 (fun u v hk hu hv => ?_)
    rw [show mid + p - h - 1 = mid + p - 1 - h by omega, hy] at hv
    rw [hx] at hu
    cases hu; cases hv
    exact hlt.1 d
   ·rw [if_pos (by simp [d]), show bG ((h : Int) + 1) = ((h + 1 : Nat) : Int) by rw [bU (by omega) (by omega)]; omega]
    refine EC rec hap hpb hb hl hmid s1 s2 lo hi hlo hhi m (h + 1) j (by omega) (by omega) (by omega) hjb (fun u v hk hu hv => ?_) h2
    rw [show mid + p - (h + 1) = mid + p - 1 - h by omega, hy] at hv
    rw [show h + 1 - 1 = h by omega, hx] at hu
    cases hu; cases hv
    have : ¬ KR y < KR x := fun g => d (hlt.2 g)
    omega
  ·have : i = j := by omega
   subst this
   refine ⟨i, hai, hjb, h1, h2, ?_⟩
   unfold bC
   simp only [show ¬ ((i : Int) < (i : Int)) by omega, decide_false, Bool.false_eq_true, if_false]
end Go.Proofs.YtcjeebkoafonpaaGreatDoor.ST
namespace Go.Proofs.YtcjeebkoafonpaaGreatDoor.ST
theorem vY {s a c : Nat} (ha : s ∣ a) (hc : s ∣ c) (h : a < c) : a + s ≤ c := by
 obtain ⟨u, rfl⟩ := ha
 obtain ⟨v, rfl⟩ := hc
 have : u < v := Nat.lt_of_mul_lt_mul_left h
 have := Nat.mul_le_mul_left s this
 rw [Nat.mul_succ] at this
 omega
theorem Gz : ∀ (d N : Nat) (l : List dK) (a p b : Nat), 10000000000 + d ≤ N → b ≤ a + d → a < p → p < b → b ≤ l.length → l.length ≤ 1000000000 → SR KR l a p → SR KR l p b →
  ∃ l', Mg KR l l' a b ∧ SR KR l' a b ∧ bI N l (a : Int) (p : Int) (b : Int) = some l'
 | 0, _, _, _, _, _, _, hd, h1, h2, _, _, _, _ => by omega
 | d + 1, 0, _, _, _, _, hN, _, _, _, _, _, _, _ => by omega
 | d + 1, N + 1, l, a, p, b, hN, hd, hap, hpb, hb, hl, s1, s2 => by
  unfold bI gP
  rw [bU (x := (p : Int) - (a : Int)) (by omega) (by omega)]
  by_cases c1 : p = a + 1
  ·subst c1
   rw [if_pos (by simp; omega)]
   obtain ⟨x, hx⟩ := gt (l := l) (k := a) (by omega)
   obtain ⟨q, hq1, hq2, hq3, hq4, Ur⟩ := Ak (N := N) hx hb hl s2 N (a + 1) b (by omega) (Nat.le_refl _) (by omega) (Nat.le_refl _) (fun k y h h2 => by omega) (fun k y h h2 => by omega)
   obtain ⟨l', hr, hf⟩ := I7 a q (by omega) l (by omega) N l a (by omega) (Nat.le_refl _) (by omega) ⟨rfl, fun k => by
    repeat' split
    all_goals first
     | (exfalso; omega)
     | exact congrArg (fun n => l[n]?) (by omega)
     | rfl⟩
   rw [Ur, hf]
   have hm := (hr.mg (K := KR) (by omega) hq1 (by omega) fun i j u v h1 h2 h3 h4 hu hv => by
    have : i = a := by omega
    subst this
    rw [hx] at hu; cases hu
    exact hq3 j v h3 h4 hv).mono (Nat.le_refl a) hq2
   refine ⟨l', hm, ?_, rfl⟩
   intro i j u v h1 h2 h3 hu hv
   rw [hr.2 i] at hu
   rw [hr.2 j] at hv
   by_cases ci : i + 1 < q
   ·rw [if_pos ⟨h1, by omega⟩, show i + (a + 1 - a) = i + 1 by omega] at hu
    by_cases cj : j + 1 < q
    ·rw [if_pos ⟨by omega, by omega⟩, show j + (a + 1 - a) = j + 1 by omega] at hv
     exact s2 _ _ u v (by omega) (by omega) (by omega) hu hv
    ·rw [if_neg (by omega)] at hv
     have k1 := hq3 _ u (by omega) ci hu
     by_cases cj2 : j < q
     ·rw [if_pos ⟨by omega, cj2⟩, show j - (q - (a + 1)) = a by omega, hx] at hv
      cases hv; omega
     ·rw [if_neg (by omega)] at hv
      have := hq4 j v (by omega) h3 hv
      omega
   ·rw [if_neg (by omega)] at hu
    rw [if_neg (by omega)] at hv
    by_cases ci2 : i < q
    ·rw [if_pos ⟨by omega, ci2⟩, show i - (q - (a + 1)) = a by omega, hx] at hu
     cases hu
     by_cases cj2 : j < q
     ·rw [if_pos ⟨by omega, cj2⟩, show j - (q - (a + 1)) = a by omega, hx] at hv
      cases hv; exact Int.le_refl _
     ·rw [if_neg (by omega)] at hv
      exact hq4 j v (by omega) h3 hv
    ·rw [if_neg (by omega)] at hu
     rw [if_neg (by omega)] at hv
     exact s2 i j u v (by omega) h2 h3 hu hv
  ·rw [if_neg (by simp; omega), bU (x := (b : Int) - (p : Int)) (by omega) (by omega)]
   by_cases c2 : b = p + 1
   ·subst c2
    rw [if_pos (by simp; omega)]
    obtain ⟨x, hx⟩ := gt (l := l) (k := p) (by omega)
    obtain ⟨q, hq1, hq2, hq3, hq4, Ur⟩ := Cc (N := N) hx hl s1 N a p (by omega) (Nat.le_refl _) (by omega) (Nat.le_refl _) (fun k y h h2 => by omega) (fun k y h h2 => by omega)
    obtain ⟨l', hr, hf⟩ := LD q p (by omega) l (by omega) N l p (by omega) hq2 (Nat.le_refl _) ⟨rfl, fun k => by
     repeat' split
     all_goals first
      | (exfalso; omega)
      | exact congrArg (fun n => l[n]?) (by omega)
      | rfl⟩
    rw [Ur, hf]
    have hm := (hr.mg (K := KR) hq2 (by omega) (by omega) fun i j u v h1 h2 h3 h4 hu hv => by
     have : j = p := by omega
     subst this
     rw [hx] at hv; cases hv
     exact hq4 i u h1 h2 hu).mono hq1 (Nat.le_refl _)
    refine ⟨l', hm, ?_, rfl⟩
    intro i j u v h1 h2 h3 hu hv
    rw [hr.2 i] at hu
    rw [hr.2 j] at hv
    by_cases cj : j < q
    ·rw [if_neg (by omega), if_neg (by omega)] at hu hv
     exact s1 i j u v h1 h2 (by omega) hu hv
    ·by_cases cj2 : j = q
     ·rw [if_pos ⟨by omega, by omega⟩, show j + (p - q) = p by omega, hx] at hv
      cases hv
      by_cases ci : i < q
      ·rw [if_neg (by omega), if_neg (by omega)] at hu
       exact hq3 i u h1 ci hu
      ·rw [if_pos ⟨by omega, by omega⟩, show i + (p - q) = p by omega, hx] at hu
       cases hu; exact Int.le_refl _
     ·rw [if_neg (by omega), if_pos ⟨by omega, by omega⟩] at hv
      by_cases ci : i < q
      ·rw [if_neg (by omega), if_neg (by omega)] at hu
       exact s1 i _ u v h1 (by omega) (by omega) hu hv
      ·by_cases ci2 : i = q
       ·rw [if_pos ⟨by omega, by omega⟩, show i + (p - q) = p by omega, hx] at hu
        cases hu
        have := hq4 _ v (by omega) (by omega) hv
        omega
       ·rw [if_neg (by omega), if_pos ⟨by omega, by omega⟩] at hu
        exact s1 _ _ u v (by omega) (by omega) (by omega) hu hv
   ·rw [if_neg (by simp; omega), half (by omega) (by omega)]
    generalize hmid : (a + b) / 2 = mid
    have key : ∀ lo hi : Nat, lo = max a (mid + p - b) → hi = min p mid → lo ≤ hi → ∃ l', Mg KR l l' a b ∧ SR KR l' a b ∧ dz N l (a : Int) (p : Int) (b : Int) (bI N) (mid : Int) (lo : Int) (hi : Int) = some l' := by
     intro lo hi hlo hhi hlh
     unfold dz
     obtain ⟨q, hq1, hq2, hq3, hq4, Ur⟩ := EC (N := N) (bI N) hap hpb hb hl hmid.symm s1 s2 lo hi hlo hhi N lo hi (by omega) (Nat.le_refl _) hlh (Nat.le_refl _) (fun x y h => by omega) (fun x y h => by omega)
     rw [Ur]
     unfold bC
     have e : bG ((bG ((mid : Int) + (p : Int))) - (q : Int)) = ((mid + p - q : Nat) : Int) := by
      rw [bU (x := (mid : Int) + (p : Int)) (by omega) (by omega), bU (by omega) (by omega)]; omega
     rw [if_neg (by rw [decide_eq_true_eq]; omega), e]
     have fin : ∀ l1, Nt l l1 q p (mid + p - q) → ∃ l', Mg KR l l' a b ∧ SR KR l' a b ∧ dA (a : Int) (p : Int) (b : Int) (bI N) (mid : Int) (q : Int) l1 = some l' := by
      intro l1 hr
      obtain ⟨m1, r1, r2, r3, r4, r5⟩ := parted (K := KR) hap hpb hb hmid.symm s1 s2 (by omega) (by omega) (by omega) (by omega)
       (fun x y h h2 hx hy => hq3 x y (by omega) hx hy) (fun x y h h2 hx hy => hq4 x y (by omega) hx hy) hr
      have hl1 := m1.len
      have second : ∀ l2, Mg KR l1 l2 a mid → SR KR l2 a mid → ∃ l', Mg KR l l' a b ∧ SR KR l' a b ∧ dB (p : Int) (b : Int) (bI N) (mid : Int) (q : Int) l2 = some l' := by
       intro l2 m2 t2
       have hl2 := m2.len
       unfold dB
       rw [e]
       have done : ∀ l3, Mg KR l2 l3 mid b → SR KR l3 mid b → Mg KR l l3 a b ∧ SR KR l3 a b := fun l3 m3 t3 =>
        ⟨(m1.trans (m2.mono (Nat.le_refl _) (by omega))).trans (m3.mono (by omega) (Nat.le_refl _)),
         (SR.xH m3 t2 (.inl (Nat.le_refl _))).join t3 (between m2 m3 r5)⟩
       have q3 := SR.xH m2 r3 (.inr (Nat.le_refl _))
       have q4 := SR.xH m2 r4 (.inr (by omega))
       by_cases c : mid < mid + p - q ∧ mid + p - q < b
       ·rw [if_pos (by simp only [Bool.and_eq_true, decide_eq_true_eq]; omega)]
        obtain ⟨l3, m3, t3, h3⟩ := Gz d N l2 mid (mid + p - q) b (by omega) (by omega) c.1 c.2 (by omega) (by omega) q3 q4
        rw [h3, Option.bind_some]
        exact ⟨l3, (done l3 m3 t3).1, (done l3 m3 t3).2, rfl⟩
       ·rw [if_neg (by simp only [Bool.and_eq_true, decide_eq_true_eq]; omega)]
        have t3 : SR KR l2 mid b := by
         by_cases c' : mid < mid + p - q
         ·have : mid + p - q = b := by omega
          rw [this] at q3; exact q3
         ·have : mid + p - q = mid := by omega
          rw [this] at q4; exact q4
        exact ⟨l2, (done l2 .rfl t3).1, (done l2 .rfl t3).2, rfl⟩
      unfold dA
      by_cases c : a < q ∧ q < mid
      ·rw [if_pos (by simp only [Bool.and_eq_true, decide_eq_true_eq]; omega)]
       obtain ⟨l2, m2, t2, h2⟩ := Gz d N l1 a q mid (by omega) (by omega) c.1 c.2 (by omega) (by omega) r1 r2
       rw [h2, Option.bind_some]
       exact second l2 m2 t2
      ·rw [if_neg (by simp only [Bool.and_eq_true, decide_eq_true_eq]; omega)]
       refine second l1 .rfl ?_
       by_cases c' : a < q
       ·have : q = mid := by omega
        rw [← this]; exact r1
       ·have : q = a := by omega
        rw [← this]; exact r2
     by_cases c : q < p ∧ p < mid + p - q
     ·rw [if_pos (by simp only [Bool.and_eq_true, decide_eq_true_eq]; omega)]
      obtain ⟨l1, hr, hf⟩ := Sw (N := N) (by omega) c.1 c.2 (l := l) (by omega) hl
      rw [hf, Option.bind_some]
      exact fin l1 hr
     ·rw [if_neg (by simp only [Bool.and_eq_true, decide_eq_true_eq]; omega)]
      refine fin l ⟨rfl, fun k => ?_⟩
      repeat' split
      all_goals first
       | (exfalso; omega)
       | exact congrArg (fun n => l[n]?) (by omega)
       | rfl
    by_cases c3 : mid < p
    ·rw [if_pos (decide_eq_true (by omega : (mid : Int) < (p : Int)))]
     have e : bG ((bG ((mid : Int) + (p : Int))) - (b : Int)) = ((mid + p - b : Nat) : Int) := by
      rw [bU (x := (mid : Int) + (p : Int)) (by omega) (by omega), bU (by omega) (by omega)]; omega
     rw [e]
     exact key (mid + p - b) mid (by omega) (by omega) (by omega)
    ·rw [if_neg (by rw [decide_eq_true_eq]; omega)]
     exact key a p (by omega) (by omega) (by omega)
end Go.Proofs.YtcjeebkoafonpaaGreatDoor.ST
namespace Go.Proofs.YtcjeebkoafonpaaGreatDoor.ST
def VB (l : List dK) (s n : Nat) : Prop := ∀ c, s ∣ c → SR KR l c (min (c + s) n)
theorem blocks {N : Nat} (hN : 20000000000 ≤ N) (l0 : List dK) (hl : l0.length ≤ 1000000000) (s : Nat) (hs : 0 < s) (hsl : s ≤ 1000000000) (k : List dK → Int → Option (List dK)) : ∀ (m : Nat) (l : List dK) (a : Nat), l0.length < m + a → 2 * s ∣ a → a ≤ l0.length → Mg KR l0 l 0 l0.length →
  (∀ c, 2 * s ∣ c → c < a → SR KR l c (c + 2 * s)) → (∀ c, s ∣ c → a ≤ c → SR KR l c (min (c + s) l0.length)) →
  ∃ l', Mg KR l0 l' 0 l0.length ∧ VB l' (2 * s) l0.length ∧ dF N (l0.length : Int) (s : Int) k m l (a : Int) ((a + 2 * s : Nat) : Int) = k l' ((2 * s : Nat) : Int)
 | 0, _, _, hm, _, _, _, _, _ => by omega
 | m + 1, l, a, hm, hd, hal, h, h1, h2 => by
  have hll := h.len
  have hsa : s ∣ a := Nat.dvd_trans ⟨2, by omega⟩ hd
  unfold dF
  have e1 : bG ((a : Int) + (s : Int)) = ((a + s : Nat) : Int) := by rw [bU (by omega) (by omega)]; omega
  rw [e1]
  by_cases c : a + 2 * s ≤ l0.length
  ·rw [if_pos (decide_eq_true (by omega : ((a + 2 * s : Nat) : Int) ≤ (l0.length : Int)))]
   have t1 := h2 a hsa (Nat.le_refl _)
   have t2 := h2 (a + s) (Nat.dvd_add hsa (Nat.dvd_refl _)) (by omega)
   rw [Nat.min_eq_left (by omega)] at t1 t2
   obtain ⟨l1, m1, u1, f1⟩ := Gz (2 * s) N l a (a + s) (a + 2 * s) (by omega) (by omega) (by omega) (by omega) (by omega) (by omega) t1 (by rw [show a + 2 * s = a + s + s by omega]; exact t2)
   rw [f1, Option.bind_some]
   have e2 : bG (((a + 2 * s : Nat) : Int) + bG (2 * (s : Int))) = ((a + 2 * s + 2 * s : Nat) : Int) := by rw [bU (x := 2 * (s : Int)) (by omega) (by omega), bU (by omega) (by omega)]; omega
   rw [e2]
   refine blocks hN l0 hl s hs hsl k m l1 (a + 2 * s) (by omega) (Nat.dvd_add hd (Nat.dvd_refl _)) c (h.trans (m1.mono (Nat.zero_le _) c)) (fun c' hc hca => ?_) (fun c' hc hca => ?_)
   ·by_cases hlt : c' < a
    ·have := vY hc hd hlt
     exact SR.xH m1 (h1 c' hc hlt) (.inl (by omega))
    ·by_cases heq : c' = a
     ·subst heq; exact u1
     ·have := vY hd hc (by omega)
      omega
   ·exact SR.xH m1 (h2 c' hc (by omega)) (.inr hca)
  ·rw [if_neg (by rw [decide_eq_true_eq]; omega)]
   have fin : ∀ l', Mg KR l l' a l0.length → SR KR l' a l0.length → VB l' (2 * s) l0.length := fun l' m1 u1 c' hc => by
    by_cases hlt : c' < a
    ·have := vY hc hd hlt
     rw [Nat.min_eq_left (by omega)]
     exact SR.xH m1 (h1 c' hc hlt) (.inl (by omega))
    ·by_cases heq : c' = a
     ·subst heq; rw [Nat.min_eq_right (by omega)]; exact u1
     ·have := vY hd hc (by omega)
      exact SR.one (by omega)
   have e3 : bG ((s : Int) * 2) = ((2 * s : Nat) : Int) := by rw [bU (by omega) (by omega)]; omega
   by_cases d : a + s < l0.length
   ·rw [if_pos (decide_eq_true (by omega : ((a + s : Nat) : Int) < (l0.length : Int)))]
    have t1 := h2 a hsa (Nat.le_refl _)
    have t2 := h2 (a + s) (Nat.dvd_add hsa (Nat.dvd_refl _)) (by omega)
    rw [Nat.min_eq_left (by omega)] at t1
    rw [Nat.min_eq_right (by omega)] at t2
    obtain ⟨l1, m1, u1, f1⟩ := Gz (2 * s) N l a (a + s) l0.length (by omega) (by omega) (by omega) d (by omega) (by omega) t1 t2
    rw [f1, Option.bind_some]
    unfold dH
    rw [e3]
    exact ⟨l1, h.trans (m1.mono (Nat.zero_le _) (Nat.le_refl _)), fin l1 m1 u1, rfl⟩
   ·rw [if_neg (by rw [decide_eq_true_eq]; omega)]
    unfold dH
    rw [e3]
    refine ⟨l, h, fin l .rfl ?_, rfl⟩
    have t1 := h2 a hsa (Nat.le_refl _)
    rw [Nat.min_eq_right (by omega)] at t1
    exact t1
theorem doubles {N : Nat} (hN : 20000000000 ≤ N) (l0 : List dK) (hl : l0.length ≤ 1000000000) : ∀ (m : Nat) (l : List dK) (s : Nat), 0 < m ∧ l0.length < m + s → 0 < s → s ≤ 2000000000 → Mg KR l0 l 0 l0.length → VB l s l0.length →
  ∃ l', Mg KR l0 l' 0 l0.length ∧ SR KR l' 0 l0.length ∧ bA N (l0.length : Int) m l (s : Int) = some l'
 | 0, l, s, hm, hs, hs2, h, hb => absurd hm.1 (Nat.lt_irrefl 0)
 | m + 1, l, s, hm, hs, hs2, h, hb => by
  unfold bA
  by_cases c : s < l0.length
  ·rw [if_pos (decide_eq_true (by omega : (s : Int) < (l0.length : Int)))]
   have e : bG (2 * (s : Int)) = ((0 + 2 * s : Nat) : Int) := by rw [bU (by omega) (by omega)]; omega
   obtain ⟨l1, m1, b1, f1⟩ := blocks hN l0 hl s hs (by omega) (bA N (l0.length : Int) m) N l 0 (by omega) (Nat.dvd_zero _) (Nat.zero_le _) h (fun c _ hc => by omega) (fun c hc _ => hb c hc)
   rw [e]
   rw [show (0 : Int) = ((0 : Nat) : Int) from rfl, f1]
   exact doubles hN l0 hl m l1 (2 * s) (by omega) (by omega) (by omega) m1 b1
  ·rw [if_neg (by rw [decide_eq_true_eq]; omega)]
   have := hb 0 (Nat.dvd_zero _)
   rw [Nat.zero_add, Nat.min_eq_right (by omega)] at this
   exact ⟨l, h, this, rfl⟩
theorem O3 {N : Nat} (hN : 20000000000 ≤ N) (l0 : List dK) (hl : l0.length ≤ 1000000000) : ∀ (m : Nat) (l : List dK) (a : Nat), l0.length < m + a → 20 ∣ a → a ≤ l0.length → Mg KR l0 l 0 l0.length → (∀ c, 20 ∣ c → c < a → SR KR l c (c + 20)) →
  ∃ l', Mg KR l0 l' 0 l0.length ∧ SR KR l' 0 l0.length ∧ dG N (l0.length : Int) m l (a : Int) ((a + 20 : Nat) : Int) = some l'
 | 0, _, _, hm, _, _, _, _ => by omega
 | m + 1, l, a, hm, hd, hal, h, h1 => by
  have hll := h.len
  unfold dG
  by_cases c : a + 20 ≤ l0.length
  ·rw [if_pos (decide_eq_true (by omega : ((a + 20 : Nat) : Int) ≤ (l0.length : Int)))]
   obtain ⟨l1, m1, u1, f1⟩ := OJ (N := N) (a := a) (b := a + 20) (by omega) (by omega) (l := l) (by omega) (by omega)
   rw [f1, Option.bind_some, show bG (((a + 20 : Nat) : Int) + 20) = ((a + 20 + 20 : Nat) : Int) by rw [bU (by omega) (by omega)]; omega]
   refine O3 hN l0 hl m l1 (a + 20) (by omega) (Nat.dvd_add hd (Nat.dvd_refl _)) c (h.trans (m1.mono (Nat.zero_le _) c)) (fun c' hc hca => ?_)
   by_cases hlt : c' < a
   ·have := vY hc hd hlt
    exact SR.xH m1 (h1 c' hc hlt) (.inl (by omega))
   ·by_cases heq : c' = a
    ·subst heq; exact u1
    ·have := vY hd hc (by omega)
     omega
  ·rw [if_neg (by rw [decide_eq_true_eq]; omega)]
   obtain ⟨l1, m1, u1, f1⟩ := OJ (N := N) (a := a) (b := l0.length) (by omega) (by omega) (l := l) (by omega) hal
   rw [f1, Option.bind_some]
   refine doubles hN l0 hl N l1 20 (by omega) (by omega) (by omega) (h.trans (m1.mono (Nat.zero_le _) (Nat.le_refl _))) (fun c' hc => ?_)
   by_cases hlt : c' < a
   ·have := vY hc hd hlt
    rw [Nat.min_eq_left (by omega)]
    exact SR.xH m1 (h1 c' hc hlt) (.inl (by omega))
   ·by_cases heq : c' = a
    ·subst heq; rw [Nat.min_eq_right (by omega)]; exact u1
    ·have := vY hd hc (by omega)
     exact SR.one (by omega)
theorem MW {N : Nat} (hN : 20000000000 ≤ N) {l : List dK} (hl : l.length ≤ 1000000000) :
  ∃ l', eY N l = some l' ∧ l'.Pairwise (fun x y => KR x ≤ KR y) ∧ ∀ v : Int, l'.filter (fun x => decide (KR x = v)) = l.filter (fun x => decide (KR x = v)) := by
 obtain ⟨l', m, s, f⟩ := O3 hN l hl N l 0 (by omega) (Nat.dvd_zero _) (Nat.zero_le _) .rfl (fun c _ h => by omega)
 unfold eY ik
 refine ⟨l', ?_, SR.pairwise (by rw [m.len]; exact s), m.eqv⟩
 rw [show (0 : Int) = ((0 : Nat) : Int) from rfl, show (20 : Int) = ((0 + 20 : Nat) : Int) from rfl, f, Option.bind_some]
end Go.Proofs.YtcjeebkoafonpaaGreatDoor.ST
namespace Go.Proofs.YtcjeebkoafonpaaGreatDoor
theorem AP {α : Type} (pre : List α) (x : α) (h : pre.length < 9223372036854775807) : bG ((pre.length : Int) + 1) = ((pre ++ [x]).length : Int) := by
 rw [Gv (by omega) (by omega)]; simp
def O1 (n u : Int) : Bool := decide (-(1000000 / u) ≤ n) && decide (n ≤ 1000000 / u)
theorem LQ {n u : Int} (hu : 1 ≤ u ∧ u ≤ 1000) : rG n u = some (O1 n u) := by
 have h0 : 0 ≤ 1000000 / u := Int.ediv_nonneg (by omega) (by omega)
 have h1 : 1000000 / u ≤ 1000000 := Int.ediv_le_self _ (by omega)
 have e1 : (1000000 : Int).tdiv u = 1000000 / u := Int.tdiv_eq_ediv_of_nonneg (by omega)
 have e2 : (-1000000 : Int).tdiv u = -(1000000 / u) := by rw [show (-1000000 : Int) = -(1000000) from rfl, Int.neg_tdiv, e1]
 unfold rG dv
 rw [if_neg (by omega), if_neg (by omega), Option.bind_some, Option.bind_some, e1, e2, bU (by omega) (by omega), bU (by omega) (by omega)]
 rfl
def EB (p : au) (u : Int) : Bool := O1 p.X u && O1 p.Y u
theorem Aj {p : au} {u : Int} (hu : 1 ≤ u ∧ u ≤ 1000) : lI p u = some (EB p u) := by
 unfold lI EB
 rw [LQ hu, Option.bind_some]
 cases O1 p.X u
 ·rfl
 ·rw [if_pos rfl, LQ hu]; simp
def Fe (l : List au) : List au → Nat → Bool
 | [], _ => true
 | x :: r, i => if ((x.X == (l.getD ((i + 1) % l.length) ⟨0, 0⟩).X) == (x.Y == (l.getD ((i + 1) % l.length) ⟨0, 0⟩).Y)) then false else Fe l r (i + 1)
theorem QF {l : List au} {i : Nat} (h : i < l.length) (hl : l.length ≤ 9223372036854775807) : ((md (bG ((i : Int) + 1)) (l.length : Int)).bind fun q => idx l q) = some (l.getD ((i + 1) % l.length) ⟨0, 0⟩) := by
 have hm : (i + 1) % l.length < l.length := Nat.mod_lt _ (by omega)
 unfold md
 rw [Gv (by omega) (by omega), if_neg (by omega), Option.bind_some, Int.tmod_eq_emod_of_nonneg (by omega)]
 rw [show ((i : Int) + 1) % (l.length : Int) = (((i + 1) % l.length : Nat) : Int) by simp]
 rw [Hq hm]
 simp [List.getD, hm]
theorem Ei {β : Type} {l : List au} {i : Nat} (h : i < l.length) (hl : l.length ≤ 9223372036854775807) (k : au → Option β) :
  ((md (bG ((i : Int) + 1)) (l.length : Int)).bind fun q => (idx l q).bind k) = k (l.getD ((i + 1) % l.length) ⟨0, 0⟩) := by
 have := QF h hl
 cases hq : md (bG ((i : Int) + 1)) (l.length : Int) with
 | none => rw [hq] at this; simp at this
 | some q =>
  rw [hq] at this
  simp only [Option.bind_some] at this ⊢
  rw [this, Option.bind_some]
theorem EZ {l : List au} (hl : l.length ≤ 9223372036854775807) : ∀ (suf : List au) (i : Nat), i + suf.length = l.length → kJ l suf i = some (Fe l suf i)
 | [], _, _ => rfl
 | x :: r, i, h => by
  simp at h
  rw [kJ, Fe, Ei (by omega) hl, EZ hl r (i + 1) (by omega)]
  split <;> rfl
theorem P6 {l : List au} (hl : l.length ≤ 9223372036854775807) : nQ l = some (if (l.length : Int) < 4 then false else Fe l l 0) := by
 unfold nQ
 rw [EZ hl l 0 (by omega)]
 split
 ·rename_i h; rw [if_pos (by simpa using h)]
 ·rename_i h; rw [if_neg (by simpa using h)]
theorem CE {p : gu} {l : List au} (hu : 1 ≤ p.Unit ∧ p.Unit ≤ 1000) : dC l (fun z0 => iI z0 p) = some (l.any (fun q => !EB q p.Unit)) := by
 have key : ∀ (l : List au) (i : Nat), dY (fun z0 => iI z0 p) l i = some (BZ (fun q => !EB q p.Unit) l (i : Int)) := by
  intro l
  induction l with
  | nil => intro i; rfl
  | cons x r ih =>
   intro i
   rw [dY, BZ, ih]
   have e : iI x p = some (!EB x p.Unit) := by
    unfold iI
    rw [Aj hu]; rfl
   rw [e, Option.bind_some]
   split <;> rfl
 unfold dC ko
 rw [key, Option.bind_some]
 exact congrArg some (Er _ l 0 (by omega))
def Qc (l : List au) : List au → Nat → Int → Int
 | [], _, x => x
 | p :: t, i, x => Qc l t (i + 1) (bG (x + bG (bG (p.X * (l.getD ((i + 1) % l.length) ⟨0, 0⟩).Y) - bG ((l.getD ((i + 1) % l.length) ⟨0, 0⟩).X * p.Y))))
def rowOf (l : List au) : dK := ⟨l, Qc l l 0 0⟩
def KP (l : List au) : Int := ST.KR (rowOf l)
def nY (l : List au) : av := ⟨7, ⟨#[]⟩, ⟨0, 0⟩, l, 0, 0, []⟩
def qG (k : Int) : av := ⟨k, ⟨#[]⟩, ⟨0, 0⟩, [], 0, 0, []⟩
def mQ (l : List au) : Int := if Qc l l 0 0 < 0 then 2 else 1
def jr : List (List au) → Int → List av
 | [], _ => []
 | l :: t, d => if mQ l = d then nY l :: jr t d else qG (mQ l) :: nY l :: jr t (mQ l)
theorem tO : ∀ (l : List (List au)) (d : Int), (jr l d).length ≤ 2 * l.length
 | [], _ => by simp [jr]
 | x :: t, d => by
  unfold jr
  split
  ·have := tO t d
   simp only [List.length_cons]; omega
  ·have := tO t (mQ x)
   simp only [List.length_cons]; omega
theorem I6 {SN : List dK} (k : List dK → Option (gu × Int)) {l : List au} (hl : l.length ≤ 9223372036854775807) (hc : SN.length < 1000000000) : ∀ (suf : List au) (i : Nat) (x : Int), i + suf.length = l.length →
  lv SN k l suf i x = k (SN ++ [⟨l, Qc l suf i x⟩])
 | [], i, x, _ => by
  unfold lv Qc
  rw [lU (by simp; omega), Option.bind_some]
 | p :: t, i, x, h => by
  simp only [List.length_cons] at h
  unfold lv Qc
  rw [Ei (by omega) hl, I6 k hl hc t (i + 1) _ (by omega)]
theorem G5 : ∀ (o : List (List au)) (i : Nat) (out : List av) (d : Int), out.length + 2 * o.length ≤ 1000000000 →
  iM (o.map rowOf) i out d = some (⟨1, [], out ++ jr o d⟩, 0)
 | [], i, out, d, _ => by
  show some ((gu.mk 1 [] out), (0 : Int)) = _
  rw [show jr [] d = [] from rfl, List.append_nil]
 | l :: t, i, out, d, h => by
  simp only [List.length_cons] at h
  have key : ∀ k : Int, mQ l = k → nS out d (iM (t.map rowOf) (i + 1)) (rowOf l) k = some (⟨1, [], out ++ jr (l :: t) d⟩, 0) := by
   intro k hk
   unfold nS qD jr
   rw [hk]
   by_cases c : k = d
   ·subst c
    rw [if_neg (by simp), if_pos rfl, lU (by simp; omega), Option.bind_some]
    rw [G5 t (i + 1) _ k (by simp only [List.length_append, List.length_cons, List.length_nil]; omega), List.append_assoc]
    rfl
   ·rw [if_pos (by simp [c]), if_neg c, lU (by simp; omega), Option.bind_some, lU (by simp; omega), Option.bind_some]
    rw [G5 t (i + 1) _ k (by simp only [List.length_append, List.length_cons, List.length_nil]; omega), List.append_assoc, List.append_assoc]
    rfl
  show iM (rowOf l :: t.map rowOf) i out d = _
  unfold iM
  by_cases c : (rowOf l).area < 0
  ·rw [if_pos (decide_eq_true c)]
   exact key 2 (if_pos c)
  ·rw [if_neg (by rw [decide_eq_true_eq]; exact c)]
   exact key 1 (if_neg c)
theorem Lv {N : Nat} {res : List dK → Option (gu × Int)} (hres : ∀ i l, kz N [] i l = res l) : ∀ (ls : List (List au)) (i : Nat) (out : List dK), out.length + ls.length < 1000000000 → (∀ l ∈ ls, l.length ≤ 9223372036854775807) →
  kz N ls i out = res (out ++ ls.map rowOf)
 | [], i, out, _, _ => by rw [hres]; simp
 | l :: t, i, out, h, hl => by
  simp only [List.length_cons] at h
  unfold kz
  rw [I6 _ (hl l List.mem_cons_self) (by omega) l 0 0 (by omega)]
  rw [Lv hres t (i + 1) _ (by simp; omega) (fun l h => hl l (List.mem_cons_of_mem _ h)), List.append_assoc]
  rfl
theorem ED (o : List (List au)) (v : Int) : (o.map rowOf).filter (fun x => decide (ST.KR x = v)) = (o.filter fun l => decide (KP l = v)).map rowOf := by
 rw [List.filter_map]; rfl
theorem Qv {l m : List au} (h : rowOf l = rowOf m) : l = m := by
 have := congrArg dK.points h
 exact this
def uB (ls o : List (List au)) : Prop := o.Pairwise (fun x y => KP x ≤ KP y) ∧ ∀ v : Int, o.filter (fun l => decide (KP l = v)) = ls.filter fun l => decide (KP l = v)
theorem uB.uniq {ls o o' : List (List au)} (h : uB ls o) (h' : uB ls o') : o' = o := ST.zT h.1 h'.1 (fun v => (h'.2 v).trans (h.2 v).symm)
theorem uB.mem {ls o : List (List au)} (h : uB ls o) (x : List au) : x ∈ o ↔ x ∈ ls := by
 have := congrArg (x ∈ ·) (h.2 (KP x))
 simp only [List.mem_filter, decide_true, and_true, eq_iff_iff] at this
 exact this
theorem uB.len {ls o : List (List au)} (h : uB ls o) : o.Perm ls := by
 classical
 rw [List.perm_iff_count]
 intro x
 have := congrArg (List.count x) (h.2 (KP x))
 rwa [List.count_filter (by simp), List.count_filter (by simp)] at this
theorem PV {N : Nat} (hN : 20000000000 ≤ N) {ls : List (List au)} (hls : ls.length ≤ 100000000) (hl : ∀ l ∈ ls, l.length ≤ 100000000) : ∃ o, uB ls o ∧ kz N ls 0 [] = some (⟨1, [], jr o 1⟩, 0) := by
 obtain ⟨l', h1, h2, h3⟩ := ST.MW hN (l := ls.map rowOf) (by rw [List.length_map]; omega)
 have hmem : ∀ x ∈ l', ∃ l ∈ ls, rowOf l = x := by
  intro x hx
  have : x ∈ l'.filter (fun y => decide (ST.KR y = ST.KR x)) := List.mem_filter.2 ⟨hx, by simp⟩
  rw [h3] at this
  exact List.mem_map.1 (List.mem_filter.1 this).1
 have e : (l'.map (·.points)).map rowOf = l' := by
  rw [List.map_map]
  conv => rhs; rw [← List.map_id l']
  apply List.map_congr_left
  intro x hx
  obtain ⟨l, _, rfl⟩ := hmem x hx
  rfl
 have hB : uB ls (l'.map (·.points)) := by
  constructor
  ·rw [← e] at h2
   have := (List.pairwise_map (f := rowOf) (R := fun x y => ST.KR x ≤ ST.KR y)).1 h2
   exact this
  ·intro v
   have := h3 v
   rw [← e, ED, ED] at this
   exact (List.map_inj_right (fun _ _ => Qv)).1 this
 refine ⟨l'.map (·.points), hB, ?_⟩
 have hlen := hB.len.length_eq
 rw [Lv (N := N) (res := fun l => (eY N l).bind fun U3 => iM U3 0 ([] : List av) 1) (fun _ _ => rfl) ls 0 [] (by simp; omega) (fun l h => by have := hl l h; omega), List.nil_append]
 rw [h1, Option.bind_some]
 conv => lhs; rw [← e]
 rw [G5 _ 0 [] 1 (by rw [hlen]; simp; omega), List.nil_append]
mutual
def z8 : av → Nat
 | ⟨_, n, _, ps, _, _, l⟩ => 1 + n.size + ps.length + nA l
def nA : List av → Nat
 | [] => 0
 | x :: l => z8 x + nA l
end
mutual
def SI : av → Nat
 | ⟨_, _, _, _, _, _, l⟩ => 1 + LC l
def LC : List av → Nat
 | [] => 0
 | x :: l => SI x + LC l
end
theorem zm (x : av) : z8 x = 1 + x.Name.size + x.Points.length + nA x.Steps := by cases x; rw [z8]
theorem yF : nA [] = 0 := by rw [nA]
theorem rJ (x : av) (l : List av) : nA (x :: l) = z8 x + nA l := by rw [nA]
theorem Ct {x : av} : ∀ {l : List av}, x ∈ l → z8 x ≤ nA l
 | y :: l, h => by
  rw [rJ]
  rcases List.mem_cons.1 h with h | h
  ·subst h; omega
  ·have := Ct h; omega
theorem Cu : ∀ (l : List av), l.length ≤ nA l
 | [] => by simp
 | x :: l => by
  have := Cu l
  have := zm x
  rw [rJ, List.length_cons]; omega
def MH (n : Int) : Prop := -9223372036854775808 ≤ n ∧ n ≤ 9223372036854775807
mutual
def Nc : av → Prop
 | ⟨_, n, a, ps, nx, ny, l⟩ => n.size ≤ 9223372036854775807 ∧ (MH a.X ∧ MH a.Y) ∧ (ps.length ≤ 9223372036854775807 ∧ ∀ q ∈ ps, MH q.X ∧ MH q.Y) ∧ (MH nx ∧ MH ny) ∧ l.length ≤ 9223372036854775807 ∧ BV l
def BV : List av → Prop
 | [] => True
 | x :: l => Nc x ∧ BV l
end
theorem LM (x : av) : Nc x ↔ x.Name.size ≤ 9223372036854775807 ∧ (MH x.At.X ∧ MH x.At.Y) ∧ (x.Points.length ≤ 9223372036854775807 ∧ ∀ q ∈ x.Points, MH q.X ∧ MH q.Y) ∧ (MH x.NX ∧ MH x.NY) ∧ x.Steps.length ≤ 9223372036854775807 ∧ BV x.Steps := by cases x; rw [Nc]
theorem FY (x : av) (l : List av) : BV (x :: l) ↔ Nc x ∧ BV l := by rw [BV]
theorem Jb {x : av} : ∀ {l : List av}, BV l → x ∈ l → Nc x
 | y :: l, h, hm => by
  rw [FY] at h
  rcases List.mem_cons.1 hm with e | e
  ·subst e; exact h.1
  ·exact Jb h.2 e
theorem QK {l : List av} (h : ∀ x ∈ l, Nc x) : BV l := by
 induction l with
 | nil => rw [BV]; trivial
 | cons x l ih => rw [FY]; exact ⟨h x List.mem_cons_self, ih (fun y hy => h y (List.mem_cons_of_mem _ hy))⟩
end Go.Proofs.YtcjeebkoafonpaaGreatDoor
namespace Go.Proofs.YtcjeebkoafonpaaGreatDoor.PX
inductive Dir where
 | E | N | W | S
namespace Dir
def left : Dir → Dir | E => N | N => W | W => S | S => E
def right : Dir → Dir | E => S | N => E | W => N | S => W
def dx : Dir → Int | E => 1 | N => 0 | W => -1 | S => 0
def dy : Dir → Int | E => 0 | N => 1 | W => 0 | S => -1
instance : DecidableEq Dir := fun a b => by
 cases a <;> cases b <;> first | exact isTrue rfl | exact isFalse (fun h => nomatch h)
end Dir
structure Ed where
 x : Int
 y : Int
 d : Dir
instance : DecidableEq Ed := fun a b => by
 obtain ⟨x, y, d⟩ := a
 obtain ⟨x', y', d'⟩ := b
 exact if h : x = x' ∧ y = y' ∧ d = d' then isTrue (by obtain ⟨rfl, rfl, rfl⟩ := h; rfl) else isFalse (fun e => h (by cases e; exact ⟨rfl, rfl, rfl⟩))
abbrev Sq := Int → Int → Bool
def lq (I : Sq) (x y : Int) : Dir → Bool
 | .E => I x y
 | .N => I (x - 1) y
 | .W => I (x - 1) (y - 1)
 | .S => I x (y - 1)
def sF (I : Sq) (e : Ed) : Prop := lq I e.x e.y e.d = true ∧ lq I e.x e.y e.d.right = false
def Ed.tx (e : Ed) : Int := e.x + e.d.dx
def Ed.ty (e : Ed) : Int := e.y + e.d.dy
def sc (I : Sq) (e : Ed) : Ed :=
 if lq I e.tx e.ty e.d = false then ⟨e.tx, e.ty, e.d.left⟩ else if lq I e.tx e.ty e.d.right = false then ⟨e.tx, e.ty, e.d⟩ else ⟨e.tx, e.ty, e.d.right⟩
def pd (I : Sq) (e : Ed) : Ed :=
 if lq I e.x e.y e.d.left = false then ⟨e.x - e.d.right.dx, e.y - e.d.right.dy, e.d.right⟩ else if lq I e.x e.y e.d.left.left = false then ⟨e.x - e.d.dx, e.y - e.d.dy, e.d⟩ else ⟨e.x - e.d.left.dx, e.y - e.d.left.dy, e.d.left⟩
theorem wh (I : Sq) (x y : Int) (d : Dir) : lq I (x + d.dx) (y + d.dy) d.left = lq I x y d ∧ lq I (x + d.dx) (y + d.dy) d.left.left = lq I x y d.right := by
 cases d <;> simp only [Dir.left, Dir.right, Dir.dx, Dir.dy, lq] <;> refine ⟨?_, ?_⟩ <;> congr 1 <;> omega
theorem H6 (I : Sq) (x y : Int) (d : Dir) : lq I (x - d.dx) (y - d.dy) d = lq I x y d.left ∧ lq I (x - d.dx) (y - d.dy) d.right = lq I x y d.left.left := by
 have h := wh I (x - d.dx) (y - d.dy) d
 have e1 : x - d.dx + d.dx = x := by omega
 have e2 : y - d.dy + d.dy = y := by omega
 rw [e1, e2] at h
 exact ⟨h.1.symm, h.2.symm⟩
theorem Dir.lr (d : Dir) : d.left.right = d := by cases d <;> rfl
theorem Dir.rl (d : Dir) : d.right.left = d := by cases d <;> rfl
theorem Dir.rr (d : Dir) : d.right.right = d.left.left := by cases d <;> rfl
theorem Dir.VF (d : Dir) : d.left.left.left = d.right := by cases d <;> rfl
theorem Sm {I : Sq} {e : Ed} (h : lq I e.tx e.ty e.d = false) : sc I e = ⟨e.tx, e.ty, e.d.left⟩ := if_pos h
theorem Uc {I : Sq} {e : Ed} (h : lq I e.tx e.ty e.d = true) (h' : lq I e.tx e.ty e.d.right = false) : sc I e = ⟨e.tx, e.ty, e.d⟩ := (if_neg (by rw [h]; simp)).trans (if_pos h')
theorem Ve {I : Sq} {e : Ed} (h : lq I e.tx e.ty e.d = true) (h' : lq I e.tx e.ty e.d.right = true) : sc I e = ⟨e.tx, e.ty, e.d.right⟩ := (if_neg (by rw [h]; simp)).trans (if_neg (by rw [h']; simp))
theorem Ui {I : Sq} {e : Ed} (h : lq I e.x e.y e.d.left = false) : pd I e = ⟨e.x - e.d.right.dx, e.y - e.d.right.dy, e.d.right⟩ := if_pos h
theorem Ug {I : Sq} {e : Ed} (h : lq I e.x e.y e.d.left = true) (h' : lq I e.x e.y e.d.left.left = false) : pd I e = ⟨e.x - e.d.dx, e.y - e.d.dy, e.d⟩ := (if_neg (by rw [h]; simp)).trans (if_pos h')
theorem Uh {I : Sq} {e : Ed} (h : lq I e.x e.y e.d.left = true) (h' : lq I e.x e.y e.d.left.left = true) : pd I e = ⟨e.x - e.d.left.dx, e.y - e.d.left.dy, e.d.left⟩ := (if_neg (by rw [h]; simp)).trans (if_neg (by rw [h']; simp))
theorem bc {b : Bool} : b = false ∨ b = true := by cases b; exact .inl rfl; exact .inr rfl
theorem wJ {I : Sq} {e : Ed} (_ : sF I e) : (lq I e.tx e.ty e.d = false ∧ sc I e = ⟨e.tx, e.ty, e.d.left⟩) ∨ (lq I e.tx e.ty e.d = true ∧ lq I e.tx e.ty e.d.right = false ∧ sc I e = ⟨e.tx, e.ty, e.d⟩) ∨
  (lq I e.tx e.ty e.d = true ∧ lq I e.tx e.ty e.d.right = true ∧ sc I e = ⟨e.tx, e.ty, e.d.right⟩) := by
 rcases bc (b := lq I e.tx e.ty e.d) with h1 | h1
 ·exact .inl ⟨h1, Sm h1⟩
 ·rcases bc (b := lq I e.tx e.ty e.d.right) with h2 | h2
  ·exact .inr (.inl ⟨h1, h2, Uc h1 h2⟩)
  ·exact .inr (.inr ⟨h1, h2, Ve h1 h2⟩)
theorem Ed.wh (I : Sq) (e : Ed) : lq I e.tx e.ty e.d.left = lq I e.x e.y e.d ∧ lq I e.tx e.ty e.d.left.left = lq I e.x e.y e.d.right := PX.wh I e.x e.y e.d
theorem GJ {I : Sq} {e : Ed} (h : sF I e) : sF I (sc I e) := by
 obtain ⟨g1, g2⟩ := Ed.wh I e
 rcases wJ h with ⟨h1, h2⟩ | ⟨h1, h2, h3⟩ | ⟨h1, h2, h3⟩
 ·rw [h2]; exact ⟨g1.trans h.1, by simp only [Dir.lr]; exact h1⟩
 ·rw [h3]; exact ⟨h1, h2⟩
 ·rw [h3]; exact ⟨h2, by simp only [Dir.rr]; exact g2.trans h.2⟩
theorem Ed.ext' {e f : Ed} (h1 : e.x = f.x) (h2 : e.y = f.y) (h3 : e.d = f.d) : e = f := by cases e; cases f; cases h1; cases h2; cases h3; rfl
theorem Bg {I : Sq} {e : Ed} (h : sF I e) : pd I (sc I e) = e := by
 obtain ⟨g1, g2⟩ := Ed.wh I e
 have a1 : e.tx - e.d.dx = e.x := by unfold Ed.tx; omega
 have a2 : e.ty - e.d.dy = e.y := by unfold Ed.ty; omega
 rcases wJ h with ⟨h1, h2⟩ | ⟨h1, h2, h3⟩ | ⟨h1, h2, h3⟩
 ·rw [h2, Ui (g2.trans h.2)]; exact Ed.ext' (by simp only [Dir.lr]; exact a1) (by simp only [Dir.lr]; exact a2) (Dir.lr _)
 ·rw [h3, Ug (g1.trans h.1) (g2.trans h.2)]; exact Ed.ext' a1 a2 rfl
 ·rw [h3, Uh (by simp only [Dir.rl]; exact h1) (by simp only [Dir.rl]; exact g1.trans h.1)]; exact Ed.ext' (by simp only [Dir.rl]; exact a1) (by simp only [Dir.rl]; exact a2) (Dir.rl _)
theorem Ef {I : Sq} {e : Ed} (_ : sF I e) : (lq I e.x e.y e.d.left = false ∧ pd I e = ⟨e.x - e.d.right.dx, e.y - e.d.right.dy, e.d.right⟩) ∨ (lq I e.x e.y e.d.left = true ∧ lq I e.x e.y e.d.left.left = false ∧ pd I e = ⟨e.x - e.d.dx, e.y - e.d.dy, e.d⟩) ∨
  (lq I e.x e.y e.d.left = true ∧ lq I e.x e.y e.d.left.left = true ∧ pd I e = ⟨e.x - e.d.left.dx, e.y - e.d.left.dy, e.d.left⟩) := by
 rcases bc (b := lq I e.x e.y e.d.left) with h1 | h1
 ·exact .inl ⟨h1, Ui h1⟩
 ·rcases bc (b := lq I e.x e.y e.d.left.left) with h2 | h2
  ·exact .inr (.inl ⟨h1, h2, Ug h1 h2⟩)
  ·exact .inr (.inr ⟨h1, h2, Uh h1 h2⟩)
theorem IY {I : Sq} {e : Ed} (h : sF I e) : (pd I e).tx = e.x ∧ (pd I e).ty = e.y := by
 rcases Ef h with ⟨_, h2⟩ | ⟨_, _, h2⟩ | ⟨_, _, h2⟩ <;> rw [h2] <;> exact ⟨by simp only [Ed.tx]; omega, by simp only [Ed.ty]; omega⟩
theorem Ot {I : Sq} {e : Ed} (h : sF I e) : sF I (pd I e) := by
 rcases Ef h with ⟨h1, h2⟩ | ⟨h1, h2, h3⟩ | ⟨h1, h2, h3⟩
 ·obtain ⟨g1, g2⟩ := H6 I e.x e.y e.d.right
  rw [h2]; exact ⟨g1.trans (by rw [Dir.rl]; exact h.1), g2.trans (by rw [Dir.rl]; exact h1)⟩
 ·obtain ⟨g1, g2⟩ := H6 I e.x e.y e.d
  rw [h3]; exact ⟨g1.trans h1, g2.trans h2⟩
 ·obtain ⟨g1, g2⟩ := H6 I e.x e.y e.d.left
  rw [h3]; exact ⟨g1.trans h2, g2.trans (by rw [Dir.VF]; exact h.2)⟩
def Fa (I : Sq) (e : Ed) : Bool := decide ((pd I e).d ≠ e.d)
def it (I : Sq) : Nat → Ed → Ed
 | 0, e => e
 | k + 1, e => it I k (sc I e)
theorem sZ (I : Sq) (k : Nat) (e : Ed) : it I (k + 1) e = sc I (it I k e) := by
 induction k generalizing e with
 | zero => rfl
 | succ k ih => exact ih (sc I e)
theorem kR (I : Sq) (j k : Nat) (e : Ed) : it I (j + k) e = it I j (it I k e) := by
 induction k generalizing e with
 | zero => rfl
 | succ k ih => exact ih (sc I e)
theorem qJ {I : Sq} {e : Ed} (h : sF I e) : ∀ k, sF I (it I k e)
 | 0 => h
 | k + 1 => by rw [sZ]; exact GJ (qJ h k)
theorem GK {I : Sq} {e f : Ed} (he : sF I e) (hf : sF I f) (h : sc I e = sc I f) : e = f := by rw [← Bg he, h, Bg hf]
theorem Eu {I : Sq} {e f : Ed} (he : sF I e) (hf : sF I f) : ∀ k, it I k e = it I k f → e = f
 | 0, h => h
 | k + 1, h => GK he hf (Eu (GJ he) (GJ hf) k h)
def vK (I : Sq) (B : List Ed) : Prop := ∀ e, sF I e → e ∈ B
theorem BS {α : Type} [DecidableEq α] : ∀ {l m : List α}, l.Nodup → (∀ x ∈ l, x ∈ m) → l.length ≤ m.length
 | [], _, _, _ => Nat.zero_le _
 | x :: l, m, hn, h => by
  obtain ⟨h1, h2⟩ := List.nodup_cons.1 hn
  have hx := h x (by simp)
  have : l.length ≤ (m.erase x).length := BS h2 fun y hy => (List.mem_erase_of_ne (fun (e : y = x) => h1 (e ▸ hy))).2 (h y (by simp [hy]))
  rw [List.length_erase_of_mem hx] at this
  have := List.length_pos_of_mem hx
  simp only [List.length_cons]
  omega
def walk (I : Sq) : Nat → Ed → List Ed
 | 0, _ => []
 | k + 1, e => e :: walk I k (sc I e)
theorem qO (I : Sq) : ∀ (k : Nat) (e : Ed), (walk I k e).length = k
 | 0, _ => rfl
 | k + 1, e => by simp [walk, qO I k]
theorem tF (I : Sq) : ∀ (k : Nat) (e : Ed) (i : Nat), i < k → (walk I k e)[i]? = some (it I i e)
 | 0, _, _, h => absurd h (Nat.not_lt_zero _)
 | k + 1, e, 0, _ => rfl
 | k + 1, e, i + 1, h => by
  simp only [walk, List.getElem?_cons_succ]
  exact tF I k (sc I e) i (by omega)
theorem kE {I : Sq} {k : Nat} {e f : Ed} : f ∈ walk I k e ↔ ∃ i, i < k ∧ it I i e = f := by
 constructor
 ·intro h
  obtain ⟨i, hi⟩ := List.mem_iff_getElem?.1 h
  have hlt : i < k := by
   have := (List.getElem?_eq_some_iff.1 hi).1
   rwa [qO] at this
  rw [tF I k e i hlt] at hi
  exact ⟨i, hlt, by simpa using hi⟩
 ·rintro ⟨i, hi, rfl⟩
  exact List.mem_iff_getElem?.2 ⟨i, tF I k e i hi⟩
theorem yB (I : Sq) : ∀ (j k : Nat) (e : Ed), walk I (j + k) e = walk I j e ++ walk I k (it I j e)
 | 0, k, e => by simp [walk, it]
 | j + 1, k, e => by
  have : j + 1 + k = (j + k) + 1 := by omega
  rw [this]
  simp only [walk, List.cons_append, it]
  rw [yB I j k (sc I e)]
theorem back {I : Sq} {B : List Ed} (hB : vK I B) {e : Ed} (he : sF I e) : ∃ n, 0 < n ∧ it I n e = e := by
 cases Classical.em (∃ n, 0 < n ∧ it I n e = e) with
 | inl h => exact h
 | inr h =>
  have hne : ∀ i j, i < j → it I i e ≠ it I j e := fun i j hij hh => by
   refine h ⟨j - i, by omega, ?_⟩
   have : it I j e = it I i (it I (j - i) e) := by rw [← kR]; congr 1; omega
   rw [this] at hh
   exact (Eu he (qJ he _) i hh).symm
  have hnd : (walk I (B.length + 1) e).Nodup := by
   rw [List.Nodup, List.pairwise_iff_getElem]
   intro i j hi hj hij
   rw [qO] at hi hj
   have h1 := tF I (B.length + 1) e i hi
   have h2 := tF I (B.length + 1) e j hj
   rw [List.getElem?_eq_getElem (by rw [qO]; exact hi)] at h1
   rw [List.getElem?_eq_getElem (by rw [qO]; exact hj)] at h2
   rw [Option.some.inj h1, Option.some.inj h2]
   exact hne i j hij
  have := BS hnd (fun f hf => by
   obtain ⟨i, _, rfl⟩ := kE.1 hf
   exact hB _ (qJ he i))
  rw [qO] at this
  omega
theorem FZ {p : Nat → Prop} : ∀ n, p n → ∃ m, p m ∧ ∀ k, k < m → ¬ p k := by
 intro n
 induction n using Nat.strongRecOn with
 | _ n ih =>
  intro hp
  cases Classical.em (∃ k, k < n ∧ p k) with
  | inl h => obtain ⟨k, h1, h2⟩ := h; exact ih k h1 h2
  | inr h => exact ⟨n, hp, fun k hk hpk => h ⟨k, hk, hpk⟩⟩
def Co (I : Sq) (e : Ed) (n : Nat) : Prop := 0 < n ∧ it I n e = e ∧ ∀ k, 0 < k → k < n → it I k e ≠ e
theorem per {I : Sq} {B : List Ed} (hB : vK I B) {e : Ed} (he : sF I e) : ∃ n, Co I e n := by
 obtain ⟨n, h1, h2⟩ := back hB he
 obtain ⟨m, ⟨h3, h4⟩, h5⟩ := FZ (p := fun n => 0 < n ∧ it I n e = e) n ⟨h1, h2⟩
 exact ⟨m, h3, h4, fun k h6 h7 h8 => h5 k h7 ⟨h6, h8⟩⟩
theorem Co.uniq {I : Sq} {e : Ed} {n m : Nat} (h : Co I e n) (k : Co I e m) : n = m := by
 rcases Nat.lt_trichotomy n m with h1 | h1 | h1
 ·exact absurd h.2.1 (k.2.2 n h.1 h1)
 ·exact h1
 ·exact absurd k.2.1 (h.2.2 m k.1 h1)
theorem Co.nodup {I : Sq} {e : Ed} {n : Nat} (he : sF I e) (h : Co I e n) : (walk I n e).Nodup := by
 rw [List.Nodup, List.pairwise_iff_getElem]
 intro i j hi hj hij
 rw [qO] at hi hj
 have h1 := tF I n e i hi
 have h2 := tF I n e j hj
 rw [List.getElem?_eq_getElem (by rw [qO]; exact hi)] at h1
 rw [List.getElem?_eq_getElem (by rw [qO]; exact hj)] at h2
 rw [Option.some.inj h1, Option.some.inj h2]
 intro hh
 have e1 : it I j e = it I i (it I (j - i) e) := by rw [← kR]; congr 1; omega
 rw [e1] at hh
 exact h.2.2 (j - i) (by omega) (by omega) (Eu he (qJ he _) i hh).symm
theorem Co.mod {I : Sq} {e : Ed} {n : Nat} (h : Co I e n) : ∀ k, it I k e = it I (k % n) e := by
 intro k
 induction k using Nat.strongRecOn with
 | _ k ih =>
  by_cases hk : k < n
  ·rw [Nat.mod_eq_of_lt hk]
  ·have h1 : k = (k - n) + n := by omega
   have h2 : k % n = (k - n) % n := by rw [h1, Nat.add_mod_right]; congr 1; omega
   have h3 : it I k e = it I (k - n) e := by
    conv => lhs; rw [h1]
    rw [kR, h.2.1]
   rw [h3, h2]
   exact ih (k - n) (by have := h.1; omega)
theorem Co.shift {I : Sq} {e : Ed} {n : Nat} (he : sF I e) (h : Co I e n) (j : Nat) : Co I (it I j e) n := by
 refine ⟨h.1, ?_, fun k h1 h2 h3 => ?_⟩
 ·rw [← kR, Nat.add_comm, kR, h.2.1]
 ·rw [← kR, Nat.add_comm, kR] at h3
  exact h.2.2 k h1 h2 (Eu (qJ he k) he j h3)
end Go.Proofs.YtcjeebkoafonpaaGreatDoor.PX
namespace Go.Proofs.YtcjeebkoafonpaaGreatDoor.PX
def pl (a b : Int × Int) : Prop := a.2 < b.2 ∨ (a.2 = b.2 ∧ a.1 < b.1)
instance (a b : Int × Int) : Decidable (pl a b) := inferInstanceAs (Decidable (_ ∨ _))
theorem pJ (a : Int × Int) : ¬ pl a a := by unfold pl; omega
theorem Bf {a b c : Int × Int} (h : pl a b) (k : pl b c) : pl a c := by unfold pl at *; omega
theorem wM (a b : Int × Int) : pl a b ∨ a = b ∨ pl b a := by
 obtain ⟨a1, a2⟩ := a
 obtain ⟨b1, b2⟩ := b
 unfold pl
 simp only [Prod.mk.injEq]
 omega
def Ed.p (e : Ed) : Int × Int := (e.x, e.y)
def zN (I : Sq) (e : Ed) : Prop := sF I e ∧ ∀ k, ¬ pl (it I k e).p e.p
theorem SK {I : Sq} {e : Ed} {n : Nat} (h : Co I e n) : ∀ m, m ≤ n → 0 < m → ∃ j, j < m ∧ ∀ k, k < m → ¬ pl (it I k e).p (it I j e).p := by
  intro m
  induction m with
  | zero => intro _ h; omega
  | succ m ih =>
    intro hm _
    by_cases h0 : m = 0
    · subst h0
      exact ⟨0, by omega, fun k hk => by have : k = 0 := by omega
                                         subst this; exact pJ _⟩
    · obtain ⟨j, h1, h2⟩ := ih (by omega) (by omega)
      by_cases h3 : pl (it I m e).p (it I j e).p
      · refine ⟨m, by omega, fun k hk h4 => ?_⟩
        rcases Nat.lt_or_ge k m with h5 | h5
        · exact h2 k h5 (Bf h4 h3)
        · have : k = m := by omega
          subst this; exact pJ _ h4
      · refine ⟨j, by omega, fun k hk => ?_⟩
        rcases Nat.lt_or_ge k m with h5 | h5
        · exact h2 k h5
        · have : k = m := by omega
          subst this; exact h3
theorem LZ {I : Sq} {e : Ed} {n : Nat} (he : sF I e) (h : Co I e n) : ∃ j, j < n ∧ zN I (it I j e) := by
 obtain ⟨j, h1, h2⟩ := SK h n (Nat.le_refl _) h.1
 refine ⟨j, h1, qJ he j, fun k => ?_⟩
 rw [← kR, h.mod]
 exact h2 _ (Nat.mod_lt _ h.1)
theorem zN.pd {I : Sq} {B : List Ed} (hB : vK I B) {e : Ed} (h : zN I e) : ¬ pl (PX.pd I e).p e.p := by
 obtain ⟨n, hn⟩ := per hB h.1
 have : it I (n - 1) e = PX.pd I e := by
  have h1 : sc I (it I (n - 1) e) = e := by rw [← sZ, show n - 1 + 1 = n from by have := hn.1; omega, hn.2.1]
  have h2 := Bg (qJ h.1 (n - 1))
  rw [h1] at h2; exact h2.symm
 rw [← this]
 exact h.2 _
theorem zN.ways {I : Sq} {B : List Ed} (hB : vK I B) {e : Ed} (h : zN I e) : (e.d = .E ∧ (PX.pd I e).d = .S) ∨ (e.d = .N ∧ (PX.pd I e).d = .W) := by
 have h1 := h.pd hB
 have h2 := h.2 1
 have h3 : (sc I e).p = (e.tx, e.ty) := by
  rcases wJ h.1 with ⟨_, h2⟩ | ⟨_, _, h2⟩ | ⟨_, _, h2⟩ <;> rw [h2] <;> rfl
 have h4 := IY h.1
 simp only [it] at h2
 rw [h3] at h2
 have h5 : ¬ pl ((PX.pd I e).x, (PX.pd I e).y) e.p := h1
 unfold Ed.tx at h4 h2
 unfold Ed.ty at h4 h2
 unfold Ed.p at *
 unfold pl at h5 h2
 simp only at h5 h2
 rcases Ef h.1 with ⟨_, g⟩ | ⟨_, _, g⟩ | ⟨_, _, g⟩
 all_goals
  rw [g] at h4 h5 ⊢
  cases hd : e.d <;> rw [hd] at h2 h5 h4 <;> simp only [Dir.dx, Dir.dy, Dir.left, Dir.right] at h2 h4 h5 ⊢
  all_goals first | omega | simp
theorem zN.uniq {I : Sq} {B : List Ed} (hB : vK I B) {e f : Ed} (he : zN I e) (hf : zN I f) (h : e.p = f.p) : e = f := by
 have hx : e.x = f.x := congrArg Prod.fst h
 have hy : e.y = f.y := congrArg Prod.snd h
 refine Ed.ext' hx hy ?_
 have h1 := Ot he.1
 have h2 := Ot hf.1
 have k1 := Ed.wh I (PX.pd I e)
 have k2 := Ed.wh I (PX.pd I f)
 rw [(IY he.1).1, (IY he.1).2] at k1
 rw [(IY hf.1).1, (IY hf.1).2] at k2
 have a1 := he.1
 have a2 := hf.1
 unfold sF at h1 h2 a1 a2
 rcases he.ways hB with ⟨g1, g2⟩ | ⟨g1, g2⟩ <;> rcases hf.ways hB with ⟨g3, g4⟩ | ⟨g3, g4⟩
 ·rw [g1, g3]
 ·exfalso
  rw [g4] at k2 h2
  rw [g3] at a2
  rw [g2] at k1 h1
  rw [g1] at a1
  rw [hx, hy] at a1 k1
  simp only [Dir.left, Dir.right] at *
  rw [← k1.1] at h1
  have := a2.2
  rw [a1.1] at this
  cases this
 ·exfalso
  rw [g4] at k2 h2
  rw [g3] at a2
  rw [g2] at k1 h1
  rw [g1] at a1
  rw [hx, hy] at a1 k1
  simp only [Dir.left, Dir.right] at *
  have := a1.2
  rw [a2.1] at this
  cases this
 ·rw [g1, g3]
theorem zN.Qi {I : Sq} {B : List Ed} (hB : vK I B) {e : Ed} (h : zN I e) {k : Nat} (hp : (it I k e).p = e.p) : it I k e = e := by
 refine zN.uniq hB ⟨qJ h.1 k, fun j => ?_⟩ h hp
 rw [← kR, hp]
 exact h.2 _
theorem zN.EI {I : Sq} {B : List Ed} (hB : vK I B) {e : Ed} (h : zN I e) : Fa I e = true := by
 unfold Fa
 rcases h.ways hB with ⟨g1, g2⟩ | ⟨g1, g2⟩ <;> rw [g1, g2] <;> rfl
def zL (I : Sq) (k : Nat) (e : Ed) : List (Int × Int) := ((walk I k e).filter (Fa I)).map Ed.p
theorem Dh (I : Sq) (j k : Nat) (e : Ed) : zL I (j + k) e = zL I j e ++ zL I k (it I j e) := by unfold zL; rw [yB, List.filter_append, List.map_append]
def fl : List (Int × Int) → Nat × (Int × Int) → Nat → Nat
 | [], b, _ => b.1
 | p :: l, b, i => if pl p b.2 then fl l (i, p) (i + 1) else fl l b (i + 1)
def lr (l : List (Int × Int)) : List (Int × Int) := let k := fl l (0, l.headD (0, 0)) 0; l.drop k ++ l.take k
theorem Hy : ∀ (l : List (Int × Int)) (b : Nat × (Int × Int)) (i : Nat), (∀ p ∈ l, ¬ pl p b.2) → fl l b i = b.1
 | [], _, _, _ => rfl
 | p :: l, b, i, h => by
  unfold fl
  rw [if_neg (h p (by simp))]
  exact Hy l b (i + 1) fun q hq => h q (by simp [hq])
theorem OZ : ∀ (A : List (Int × Int)) (m : Int × Int) (B : List (Int × Int)) (b : Nat × (Int × Int)) (i : Nat), (∀ p ∈ A, pl m p) → (∀ p ∈ B, ¬ pl p m) → pl m b.2 → fl (A ++ m :: B) b i = i + A.length
 | [], m, B, b, i, _, h2, h3 => by
  show fl (m :: B) b i = _
  unfold fl
  rw [if_pos h3, Hy _ _ _ h2]; rfl
 | p :: A, m, B, b, i, h1, h2, h3 => by
  show fl (p :: (A ++ m :: B)) b i = _
  unfold fl
  have hp := h1 p (by simp)
  have hA : ∀ q ∈ A, pl m q := fun q hq => h1 q (by simp [hq])
  split
  ·rw [OZ A m B (i, p) (i + 1) hA h2 hp]; simp only [List.length_cons]; omega
  ·rw [OZ A m B b (i + 1) hA h2 h3]; simp only [List.length_cons]; omega
theorem Un {A B : List (Int × Int)} {m : Int × Int} (h1 : ∀ p ∈ A, pl m p) (h2 : ∀ p ∈ B, ¬ pl p m) : lr (A ++ m :: B) = m :: B ++ A := by
 have hk : fl (A ++ m :: B) (0, (A ++ m :: B).headD (0, 0)) 0 = A.length := by
  cases A with
  | nil =>
   show fl (m :: B) (0, m) 0 = 0
   rw [Hy]
   intro p hp
   rcases List.mem_cons.1 hp with rfl | hp
   ·exact pJ _
   ·exact h2 p hp
  | cons a A =>
   have := OZ (a :: A) m B (0, a) 0 h1 h2 (h1 a (by simp))
   simpa using this
 unfold lr
 simp only [hk]
 rw [List.drop_left, List.take_left]
theorem SL {I : Sq} {B : List Ed} (hB : vK I B) {e : Ed} {n : Nat} (he : sF I e) (h : Co I e n) {j : Nat} (hj : j < n) (hl : zN I (it I j e)) : lr (zL I n e) = zL I n (it I j e) := by
 have e1 : zL I n e = zL I j e ++ zL I (n - j) (it I j e) := by rw [← Dh]; congr 1; omega
 have e2 : zL I n (it I j e) = zL I (n - j) (it I j e) ++ zL I j e := by
  have : it I (n - j) (it I j e) = e := by rw [← kR, show n - j + j = n from by omega, h.2.1]
  have h3 := Dh I (n - j) j (it I j e)
  rw [this, show n - j + j = n from by omega] at h3
  exact h3
 obtain ⟨k, hk⟩ : ∃ k, n - j = k + 1 := ⟨n - j - 1, by omega⟩
 have e3 : zL I (n - j) (it I j e) = (it I j e).p :: zL I k (sc I (it I j e)) := by
  rw [hk]
  unfold zL
  simp only [walk, List.filter_cons, hl.EI hB, if_true, List.map_cons]
 have all : ∀ i, ¬ pl (it I i e).p (it I j e).p := fun i => by
  have h4 : it I i e = it I (i + (n - j)) (it I j e) := by
   rw [← kR, show i + (n - j) + j = i + n from by omega, kR, h.2.1]
  rw [h4]; exact hl.2 _
 rw [e1, e2, e3]
 refine Un (fun p hp => ?_) (fun p hp => ?_)
 ·obtain ⟨f, hf, rfl⟩ := List.mem_map.1 hp
  obtain ⟨i, hi, rfl⟩ := kE.1 (List.mem_filter.1 hf).1
  rcases wM (it I j e).p (it I i e).p with h5 | h5 | h5
  ·exact h5
  ·exfalso
   have h6 : it I i e = it I (i + (n - j)) (it I j e) := by
    rw [← kR, show i + (n - j) + j = i + n from by omega, kR, h.2.1]
   have h7 := hl.Qi hB (k := i + (n - j)) (by rw [← h6]; exact h5.symm)
   rw [← h6] at h7
   have h8 : it I j e = it I i (it I (j - i) e) := by rw [← kR]; congr 1; omega
   rw [h8] at h7
   exact h.2.2 (j - i) (by omega) (by omega) (Eu he (qJ he _) i h7).symm
  ·exact absurd h5 (all i)
 ·obtain ⟨f, hf, rfl⟩ := List.mem_map.1 hp
  obtain ⟨i, hi, rfl⟩ := kE.1 (List.mem_filter.1 hf).1
  have : it I i (sc I (it I j e)) = it I (i + 1) (it I j e) := rfl
  rw [this]
  exact hl.2 _
end Go.Proofs.YtcjeebkoafonpaaGreatDoor.PX
namespace Go.Proofs.YtcjeebkoafonpaaGreatDoor.PX
abbrev Sd := Ed × Nat
def qm (e : Ed) (i : Nat) : Ed := ⟨e.x + i * e.d.dx, e.y + i * e.d.dy, e.d⟩
theorem rT (e : Ed) : qm e 0 = e := Ed.ext' (by simp [qm]) (by simp [qm]) rfl
theorem MB {e : Ed} {i j : Nat} (h : qm e i = qm e j) : i = j := by
 have h1 := congrArg Ed.x h
 have h2 := congrArg Ed.y h
 simp only [qm] at h1 h2
 cases hd : e.d <;> rw [hd] at h1 h2 <;> simp only [Dir.dx, Dir.dy] at h1 h2 <;> omega
theorem H9 (e : Ed) (i : Nat) : (qm e i).tx = (qm e (i + 1)).x ∧ (qm e i).ty = (qm e (i + 1)).y := by
 unfold Ed.tx Ed.ty qm
 simp only
 cases e.d <;> simp only [Dir.dx, Dir.dy] <;> omega
theorem J9 {I : Sq} {e : Ed} {i : Nat} (h : sF I (qm e (i + 1))) : sc I (qm e i) = qm e (i + 1) := by
 obtain ⟨t1, t2⟩ := H9 e i
 rw [Uc (e := qm e i) (by rw [t1, t2]; exact h.1) (by rw [t1, t2]; exact h.2)]
 exact Ed.ext' t1 t2 rfl
structure nP (I : Sq) (L : List Sd) : Prop where
 pos : ∀ s ∈ L, 0 < s.2
 bor : ∀ s ∈ L, ∀ i, i < s.2 → sF I (qm s.1 i)
 all : ∀ e, sF I e → ∃ s ∈ L, ∃ i, i < s.2 ∧ qm s.1 i = e
 once : ∀ (a b : Nat) (s t : Sd), L[a]? = some s → L[b]? = some t → ∀ i j : Nat, i < s.2 → j < t.2 → qm s.1 i = qm t.1 j → a = b
section
variable {I : Sq} {L : List Sd}
theorem nP.fst (h : nP I L) {s : Sd} (hs : s ∈ L) : sF I s.1 := by have := h.bor s hs 0 (h.pos s hs); rwa [rT] at this
theorem nP.Ev (h : nP I L) {s : Sd} (hs : s ∈ L) : ∀ i, i < s.2 → it I i s.1 = qm s.1 i
 | 0, _ => (rT s.1).symm
 | i + 1, hi => by rw [sZ, h.Ev hs i (by omega)]; exact J9 (h.bor s hs (i + 1) hi)
def Ej (s : Sd) : Ed := qm s.1 (s.2 - 1)
theorem nP.last (h : nP I L) {s : Sd} (hs : s ∈ L) : sF I (Ej s) ∧ it I s.2 s.1 = sc I (Ej s) := by
 have hp := h.pos s hs
 refine ⟨h.bor s hs _ (by omega), ?_⟩
 have : s.2 = (s.2 - 1) + 1 := by omega
 rw [this, sZ, h.Ev hs _ (by omega)]; rfl
theorem nP.fin (h : nP I L) : ∃ B, vK I B := ⟨L.flatMap fun s => (List.range s.2).map fun i => qm s.1 i, fun e he => by
 obtain ⟨s, hs, i, hi, rfl⟩ := h.all e he
 exact List.mem_flatMap.2 ⟨s, hs, List.mem_map.2 ⟨i, List.mem_range.2 hi, rfl⟩⟩⟩
def Nx (I : Sq) (L : List Sd) (a b : Nat) : Prop := ∃ s t, L[a]? = some s ∧ L[b]? = some t ∧ t.1 = sc I (Ej s)
theorem nP.next (h : nP I L) {a : Nat} (ha : a < L.length) : ∃ b, b < L.length ∧ Nx I L a b := by
 have hs : L[a]? = some L[a] := List.getElem?_eq_getElem ha
 have hm : L[a] ∈ L := List.getElem_mem ha
 obtain ⟨h1, h2⟩ := h.last hm
 obtain ⟨t, ht, i, hi, he⟩ := h.all _ (GJ h1)
 obtain ⟨b, hb⟩ := List.mem_iff_getElem?.1 ht
 refine ⟨b, (List.getElem?_eq_some_iff.1 hb).1, L[a], t, hs, hb, ?_⟩
 cases i with
 | zero => rw [rT] at he; exact he
 | succ i =>
  exfalso
  have h3 := h.bor t ht i (by omega)
  have h4 : sc I (qm t.1 i) = qm t.1 (i + 1) := J9 (h.bor t ht (i + 1) hi)
  have h5 : qm t.1 i = Ej L[a] := GK h3 h1 (h4.trans he)
  have hp := h.pos _ hm
  have h6 := h.once b a t L[a] hb hs i (L[a].2 - 1) (by omega) (by omega) h5
  subst h6
  rw [hs] at hb
  have := Option.some.inj hb
  subst this
  have := MB h5
  omega
theorem Nx.lt {a b : Nat} (h : Nx I L a b) : a < L.length ∧ b < L.length := by
 obtain ⟨s, t, h1, h2, _⟩ := h
 exact ⟨(List.getElem?_eq_some_iff.1 h1).1, (List.getElem?_eq_some_iff.1 h2).1⟩
theorem nP.SG (h : nP I L) {a b b' : Nat} (h1 : Nx I L a b) (h2 : Nx I L a b') : b = b' := by
 obtain ⟨s, t, g1, g2, g3⟩ := h1
 obtain ⟨s', t', k1, k2, k3⟩ := h2
 rw [g1] at k1
 have := Option.some.inj k1
 subst this
 exact h.once b b' t t' g2 k2 0 0 (h.pos t (List.mem_of_getElem? g2)) (h.pos t' (List.mem_of_getElem? k2)) (by rw [rT, rT, g3, k3])
theorem nP.SH (h : nP I L) {a a' b : Nat} (h1 : Nx I L a b) (h2 : Nx I L a' b) : a = a' := by
 obtain ⟨s, t, g1, g2, g3⟩ := h1
 obtain ⟨s', t', k1, k2, k3⟩ := h2
 rw [g2] at k2
 have := Option.some.inj k2
 subst this
 have p1 := h.pos s (List.mem_of_getElem? g1)
 have p2 := h.pos s' (List.mem_of_getElem? k1)
 exact h.once a a' s s' g1 k1 (s.2 - 1) (s'.2 - 1) (by omega) (by omega) (GK (h.last (List.mem_of_getElem? g1)).1 (h.last (List.mem_of_getElem? k1)).1 (g3.symm.trans k3))
def Cn (I : Sq) (L : List Sd) : Nat → List Nat → Prop
 | _, [] => True
 | a, b :: r => Nx I L a b ∧ Cn I L b r
def Ie (I : Sq) (L : List Sd) (r : List Nat) : Prop := ∃ a q, r = a :: q ∧ Cn I L a q ∧ Nx I L (q.getLastD a) a ∧ r.Nodup
def fT (L : List Sd) (a : Nat) : Sd := L.getD a (⟨0, 0, .E⟩, 0)
theorem lJ {a : Nat} {s : Sd} (h : L[a]? = some s) : fT L a = s := by unfold fT; rw [List.getD_eq_getElem?_getD, h]; rfl
def BH (L : List Sd) : List Nat → Nat
 | [] => 0
 | a :: r => (fT L a).2 + BH L r
def Dl (L : List Sd) : Dir → List Nat → List (Int × Int)
 | _, [] => []
 | d, a :: r => if d ≠ (fT L a).1.d then (fT L a).1.p :: Dl L (fT L a).1.d r else Dl L (fT L a).1.d r
theorem Js (h : nP I L) {s : Sd} (hs : s ∈ L) : zL I s.2 s.1 = if Fa I s.1 = true then [s.1.p] else [] := by
 obtain ⟨k, hk⟩ : ∃ k, s.2 = k + 1 := ⟨s.2 - 1, by have := h.pos s hs; omega⟩
 have h0 : ∀ f ∈ walk I k (sc I s.1), Fa I f = false := fun f hf => by
  obtain ⟨i, hi, rfl⟩ := kE.1 hf
  have h1 : it I i (sc I s.1) = qm s.1 (i + 1) := h.Ev hs (i + 1) (by omega)
  have h2 : pd I (qm s.1 (i + 1)) = qm s.1 i := by
   rw [← J9 (h.bor s hs (i + 1) (by omega))]
   exact Bg (h.bor s hs i (by omega))
  rw [h1]
  unfold Fa
  rw [h2]
  exact decide_eq_false (fun hh => hh rfl)
 have h1 : (walk I k (sc I s.1)).filter (Fa I) = [] := List.filter_eq_nil_iff.2 fun f hf => by rw [h0 f hf]; simp
 unfold zL
 rw [hk]
 simp only [walk, List.filter_cons, h1]
 by_cases hc : Fa I s.1 = true
 ·rw [if_pos hc, if_pos hc]; rfl
 ·rw [if_neg hc, if_neg hc]; rfl
theorem KN (h : nP I L) : ∀ (q : List Nat) (a : Nat) (s : Sd), L[a]? = some s → Cn I L a q → Dl L (pd I s.1).d (a :: q) = zL I (BH L (a :: q)) s.1 ∧ it I (BH L (a :: q)) s.1 = sc I (Ej (fT L (q.getLastD a)))
 | [], a, s, hs, _ => by
  have hm := List.mem_of_getElem? hs
  simp only [BH, Dl, lJ hs, Nat.add_zero, List.getLastD_nil]
  refine ⟨?_, (h.last hm).2⟩
  rw [Js h hm]
  unfold Fa
  simp only [decide_eq_true_eq]
 | b :: q, a, s, hs, hc => by
  have hm := List.mem_of_getElem? hs
  obtain ⟨⟨s', t, g1, g2, g3⟩, hc2⟩ := hc
  rw [hs] at g1
  have := Option.some.inj g1
  subst this
  have hl := h.last hm
  have hit : it I s.2 s.1 = t.1 := hl.2.trans g3.symm
  have hpd : (pd I t.1).d = s.1.d := by rw [g3, Bg hl.1]; rfl
  obtain ⟨i1, i2⟩ := KN h q b t g2 hc2
  have e1 : BH L (a :: b :: q) = s.2 + BH L (b :: q) := by simp only [BH, lJ hs]
  have e2 : Dl L (pd I s.1).d (a :: b :: q) = (if Fa I s.1 = true then [s.1.p] else []) ++ Dl L s.1.d (b :: q) := by
   simp only [Dl, lJ hs]
   unfold Fa
   simp only [decide_eq_true_eq]
   by_cases hd : (pd I s.1).d ≠ s.1.d
   ·rw [if_pos hd, if_pos hd]; rfl
   ·rw [if_neg hd, if_neg hd]; rfl
  refine ⟨?_, ?_⟩
  ·rw [e2, e1, Dh, Js h hm, hit, ← i1, hpd]
  ·rw [e1, Nat.add_comm, kR, hit, i2]
   cases q <;> rfl
theorem Cn.mem : ∀ {q : List Nat} {a : Nat}, Cn I L a q → ∀ b ∈ q, b < L.length
 | c :: q, a, h, b, hb => by
  rcases List.mem_cons.1 hb with rfl | hb
  ·exact h.1.lt.2
  ·exact Cn.mem h.2 b hb
theorem BM (h : nP I L) : ∀ (q : List Nat) (a : Nat) (s : Sd), L[a]? = some s → Cn I L a q → ∀ k, k < BH L (a :: q) → ∃ b t i, b ∈ a :: q ∧ L[b]? = some t ∧ i < t.2 ∧ it I k s.1 = qm t.1 i ∧ (b = a → (a :: q).Nodup → k = i)
 | q, a, s, hs, hc, k, hk => by
  have hm := List.mem_of_getElem? hs
  by_cases h1 : k < s.2
  ·exact ⟨a, s, k, by simp, hs, h1, h.Ev hm k h1, fun _ _ => rfl⟩
  ·cases q with
   | nil => simp only [BH, lJ hs] at hk; omega
   | cons b q =>
    obtain ⟨⟨s', t, g1, g2, g3⟩, hc2⟩ := hc
    rw [hs] at g1
    have := Option.some.inj g1
    subst this
    have hit : it I s.2 s.1 = t.1 := (h.last hm).2.trans g3.symm
    have e1 : BH L (a :: b :: q) = s.2 + BH L (b :: q) := by simp only [BH, lJ hs]
    obtain ⟨c, u, i, j1, j2, j3, j4, j5⟩ := BM h q b t g2 hc2 (k - s.2) (by omega)
    refine ⟨c, u, i, List.mem_cons_of_mem _ j1, j2, j3, ?_, fun e hn => ?_⟩
    ·rw [← j4, ← hit, ← kR]; congr 1; omega
    ·subst e
     exact absurd j1 (List.nodup_cons.1 hn).1
theorem GN (h : nP I L) : ∀ (q : List Nat) (a : Nat) (s : Sd), L[a]? = some s → Cn I L a q → ∀ b ∈ a :: q, ∀ i, i < (fT L b).2 → ∃ k, k < BH L (a :: q) ∧ it I k s.1 = qm (fT L b).1 i
 | q, a, s, hs, hc, b, hb, i, hi => by
  have hm := List.mem_of_getElem? hs
  rcases List.mem_cons.1 hb with rfl | hb
  ·rw [lJ hs] at hi ⊢
   exact ⟨i, by simp only [BH, lJ hs]; omega, h.Ev hm i hi⟩
  ·cases q with
   | nil => cases hb
   | cons c q =>
    obtain ⟨⟨s', t, g1, g2, g3⟩, hc2⟩ := hc
    rw [hs] at g1
    have := Option.some.inj g1
    subst this
    have hit : it I s.2 s.1 = t.1 := (h.last hm).2.trans g3.symm
    have e1 : BH L (a :: c :: q) = s.2 + BH L (c :: q) := by simp only [BH, lJ hs]
    obtain ⟨k, k1, k2⟩ := GN h q c t g2 hc2 b hb i hi
    exact ⟨k + s.2, by omega, by rw [kR, hit, k2]⟩
theorem Lm (h : nP I L) {a : Nat} {q : List Nat} {s : Sd} (hs : L[a]? = some s) (hc : Cn I L a q) (hn : Nx I L (q.getLastD a) a) (hd : (a :: q).Nodup) : Co I s.1 (BH L (a :: q)) := by
 obtain ⟨_, h2⟩ := KN h q a s hs hc
 obtain ⟨u, t, g1, g2, g3⟩ := hn
 rw [hs] at g2
 have := Option.some.inj g2
 subst this
 rw [lJ g1, ← g3] at h2
 refine ⟨?_, h2, fun k k1 k2 k3 => ?_⟩
 ·have := h.pos s (List.mem_of_getElem? hs)
  simp only [BH, lJ hs]; omega
 ·obtain ⟨b, t, i, j1, j2, j3, j4, j5⟩ := BM h q a s hs hc k k2
  rw [k3] at j4
  have h6 := h.once a b s t hs j2 0 i (h.pos s (List.mem_of_getElem? hs)) j3 (by rw [rT]; exact j4)
  subst h6
  rw [hs] at j2
  have := Option.some.inj j2
  subst this
  have := j5 rfl hd
  subst this
  rw [← rT s.1] at j4
  have := MB (e := s.1) (i := 0) (j := k) (by rw [rT] at j4 ⊢; exact j4)
  omega
def JS (I : Sq) (e : Ed) (l : List (Int × Int)) : Prop := ∃ n, Co I e n ∧ l = zL I n e
theorem JS.uniq {e : Ed} {l m : List (Int × Int)} (h : JS I e l) (k : JS I e m) : l = m := by
 obtain ⟨n, h1, rfl⟩ := h
 obtain ⟨n', h2, rfl⟩ := k
 rw [h1.uniq h2]
def nN (L : List Sd) (r : List Nat) : List (Int × Int) := lr (Dl L (fT L (r.getLastD 0)).1.d r)
theorem uQ (h : nP I L) {r : List Nat} (hr : Ie I L r) : ∃ e, zN I e ∧ JS I e (nN L r) ∧ ∃ b ∈ r, ∃ i, i < (fT L b).2 ∧ e = qm (fT L b).1 i := by
 obtain ⟨a, q, rfl, hc, hn, hd⟩ := hr
 obtain ⟨B, hB⟩ := h.fin
 have ha := hn.lt.2
 have hs : L[a]? = some L[a] := List.getElem?_eq_getElem ha
 have hm : L[a] ∈ L := List.getElem_mem ha
 have hp := Lm h hs hc hn hd
 obtain ⟨h1, _⟩ := KN h q a _ hs hc
 obtain ⟨j, hj, hl⟩ := LZ (h.fst hm) hp
 have hlast : (fT L ((a :: q).getLastD 0)).1.d = (pd I L[a].1).d := by
  obtain ⟨u, t, g1, g2, g3⟩ := hn
  rw [hs] at g2
  have := Option.some.inj g2
  have e1 : (a :: q).getLastD 0 = q.getLastD a := by cases q <;> rfl
  rw [e1, lJ g1]
  rw [← this] at g3
  rw [g3, Bg (h.last (List.mem_of_getElem? g1)).1]; rfl
 refine ⟨it I j L[a].1, hl, ⟨_, hp.shift (h.fst hm) j, ?_⟩, ?_⟩
 ·unfold nN
  rw [hlast, h1]
  exact SL hB (h.fst hm) hp hj hl
 ·obtain ⟨b, t, i, j1, j2, j3, j4, _⟩ := BM h q a _ hs hc j hj
  exact ⟨b, j1, i, by rw [lJ j2]; exact j3, by rw [lJ j2]; exact j4⟩
theorem M4 (h : nP I L) {r : List Nat} (hr : Ie I L r) {e : Ed} (he : zN I e) {b : Nat} (hb : b ∈ r) {i : Nat} (hi : i < (fT L b).2) (hbe : e = qm (fT L b).1 i) : JS I e (nN L r) := by
 obtain ⟨B, hB⟩ := h.fin
 obtain ⟨f, f1, f2, c, c1, k, c2, c3⟩ := uQ h hr
 obtain ⟨a, q, rfl, hc, hn, hd⟩ := hr
 have ha := hn.lt.2
 have hs : L[a]? = some L[a] := List.getElem?_eq_getElem ha
 obtain ⟨j, j1, j2⟩ := GN h q a _ hs hc b hb i hi
 obtain ⟨j', j1', j2'⟩ := GN h q a _ hs hc c c1 k c2
 have hp := Lm h hs hc hn hd
 have hm : L[a] ∈ L := List.getElem_mem ha
 have g1 : e = it I (j + (BH L (a :: q) - j')) f := by
  rw [c3, ← j2', ← kR, show j + (BH L (a :: q) - j') + j' = j + BH L (a :: q) from by omega, kR, hp.2.1, j2, hbe]
 have g2 : f = it I (j' + (BH L (a :: q) - j)) e := by
  rw [hbe, ← j2, ← kR, show j' + (BH L (a :: q) - j) + j = j' + BH L (a :: q) from by omega, kR, hp.2.1, j2', c3]
 have g3 : e.p = f.p := by
  have n1 := f1.2 (j + (BH L (a :: q) - j'))
  rw [← g1] at n1
  have n2 := he.2 (j' + (BH L (a :: q) - j))
  rw [← g2] at n2
  rcases wM e.p f.p with h5 | h5 | h5
  ·exact absurd h5 n1
  ·exact h5
  ·exact absurd h5 n2
 rw [zN.uniq hB he f1 g3]
 exact f2
end
end Go.Proofs.YtcjeebkoafonpaaGreatDoor.PX
namespace Go.Proofs.YtcjeebkoafonpaaGreatDoor.PX
section
variable {I : Sq} {L : List Sd}
structure yl (I : Sq) (ls : List (List (Int × Int))) : Prop where
 is : ∀ l ∈ ls, ∃ e, zN I e ∧ JS I e l
 has : ∀ e, zN I e → ∃ l ∈ ls, JS I e l
 ord : ls.Pairwise fun a b => pl (a.headD (0, 0)) (b.headD (0, 0))
theorem JS.head {B : List Ed} (hB : vK I B) {e : Ed} {l : List (Int × Int)} (he : zN I e) (h : JS I e l) : ∃ r, l = e.p :: r := by
 obtain ⟨n, h1, rfl⟩ := h
 obtain ⟨k, rfl⟩ : ∃ k, n = k + 1 := ⟨n - 1, by have := h1.1; omega⟩
 unfold zL
 simp only [walk, List.filter_cons, he.EI hB, if_true, List.map_cons]
 exact ⟨_, rfl⟩
theorem JS.headD {B : List Ed} (hB : vK I B) {e : Ed} {l : List (Int × Int)} (he : zN I e) (h : JS I e l) : l.headD (0, 0) = e.p := by
 obtain ⟨r, rfl⟩ := h.head hB he; rfl
theorem yK : ∀ {a b : List (List (Int × Int))}, a.Pairwise (fun x y => pl (x.headD (0, 0)) (y.headD (0, 0))) → b.Pairwise (fun x y => pl (x.headD (0, 0)) (y.headD (0, 0))) → (∀ x, x ∈ a ↔ x ∈ b) → a = b
 | [], [], _, _, _ => rfl
 | [], y :: b, _, _, h => by have := (h y).2 (by simp); cases this
 | x :: a, [], _, _, h => by have := (h x).1 (by simp); cases this
 | x :: a, y :: b, ha, hb, h => by
  obtain ⟨a1, a2⟩ := List.pairwise_cons.1 ha
  obtain ⟨b1, b2⟩ := List.pairwise_cons.1 hb
  have hxy : x = y := by
   rcases List.mem_cons.1 ((h x).1 (by simp)) with h1 | h1
   ·exact h1
   ·rcases List.mem_cons.1 ((h y).2 (by simp)) with h2 | h2
    ·exact h2.symm
    ·exact absurd (Bf (a1 y h2) (b1 x h1)) (pJ _)
  subst hxy
  congr 1
  refine yK a2 b2 fun z => ⟨fun hz => ?_, fun hz => ?_⟩
  ·rcases List.mem_cons.1 ((h z).1 (by simp [hz])) with h1 | h1
   ·subst h1; exact absurd (a1 z hz) (pJ _)
   ·exact h1
  ·rcases List.mem_cons.1 ((h z).2 (by simp [hz])) with h1 | h1
   ·subst h1; exact absurd (b1 z hz) (pJ _)
   ·exact h1
theorem yl.uniq {a b : List (List (Int × Int))} (ha : yl I a) (hb : yl I b) : a = b := by
 refine yK ha.ord hb.ord fun l => ⟨fun h => ?_, fun h => ?_⟩
 ·obtain ⟨e, h1, h2⟩ := ha.is l h
  obtain ⟨m, h3, h4⟩ := hb.has e h1
  rw [h2.uniq h4]; exact h3
 ·obtain ⟨e, h1, h2⟩ := hb.is l h
  obtain ⟨m, h3, h4⟩ := ha.has e h1
  rw [h2.uniq h4]; exact h3
structure y7 (I : Sq) (L : List Sd) (rs : List (List Nat)) : Prop where
 row : ∀ r ∈ rs, Ie I L r
 all : ∀ a, a < L.length → ∃ r ∈ rs, a ∈ r
 once : rs.Pairwise fun r r' => ∀ a ∈ r, a ∉ r'
theorem Ry {b i : Nat} (h : i < (fT L b).2) : b < L.length := by
 rcases Nat.lt_or_ge b L.length with h1 | h1
 ·exact h1
 ·have : fT L b = (⟨0, 0, .E⟩, 0) := by unfold fT; rw [List.getD_eq_getElem?_getD, List.getElem?_eq_none h1]; rfl
  rw [this] at h; cases h
theorem uW {b : Nat} (h : b < L.length) : L[b]? = some (fT L b) := by
 rw [lJ (List.getElem?_eq_getElem h)]; exact List.getElem?_eq_getElem h
theorem y7.heads {rs : List (List Nat)} (hL : nP I L) (h : y7 I L rs) : (rs.map (nN L)).Pairwise fun a b => a.headD (0, 0) ≠ b.headD (0, 0) := by
 obtain ⟨B, hB⟩ := hL.fin
 rw [List.pairwise_map]
 refine List.Pairwise.imp_of_mem (R := fun r r' => ∀ a ∈ r, a ∉ r') (fun {r r'} hr hr' hd heq => ?_) h.once
 obtain ⟨e, e1, e2, b, b1, i, b2, b3⟩ := uQ hL (h.row r hr)
 obtain ⟨f, f1, f2, c, c1, j, c2, c3⟩ := uQ hL (h.row r' hr')
 rw [e2.headD hB e1, f2.headD hB f1] at heq
 have := zN.uniq hB e1 f1 heq
 subst this
 rw [b3] at c3
 have := hL.once b c _ _ (uW (Ry b2)) (uW (Ry c2)) i j b2 c2 c3
 subst this
 exact hd b b1 c1
theorem y7.is {rs : List (List Nat)} (hL : nP I L) (h : y7 I L rs) : ∀ l ∈ rs.map (nN L), ∃ e, zN I e ∧ JS I e l := fun l hl => by
 obtain ⟨r, hr, rfl⟩ := List.mem_map.1 hl
 obtain ⟨e, e1, e2, _⟩ := uQ hL (h.row r hr)
 exact ⟨e, e1, e2⟩
theorem y7.has {rs : List (List Nat)} (hL : nP I L) (h : y7 I L rs) : ∀ e, zN I e → ∃ l ∈ rs.map (nN L), JS I e l := fun e he => by
 obtain ⟨s, hs, i, hi, hse⟩ := hL.all e he.1
 obtain ⟨b, hb⟩ := List.mem_iff_getElem?.1 hs
 obtain ⟨r, hr, hbr⟩ := h.all b (List.getElem?_eq_some_iff.1 hb).1
 exact ⟨_, List.mem_map.2 ⟨r, hr, rfl⟩, M4 hL (h.row r hr) he hbr (i := i) (by rw [lJ hb]; exact hi) (by rw [lJ hb]; exact hse.symm)⟩
theorem y7.outs {rs : List (List Nat)} {ls : List (List (Int × Int))} (hL : nP I L) (h : y7 I L rs) (hp : ls.Perm (rs.map (nN L))) (ho : ls.Pairwise fun a b => pl (a.headD (0, 0)) (b.headD (0, 0))) : yl I ls :=
 ⟨fun l hl => h.is hL l (hp.mem_iff.1 hl), fun e he => by obtain ⟨l, h1, h2⟩ := h.has hL e he; exact ⟨l, hp.mem_iff.2 h1, h2⟩, ho⟩
theorem M0 (e : Ed) : (sc I e).p = (e.tx, e.ty) := by
 unfold sc
 by_cases h1 : lq I e.tx e.ty e.d = false
 ·rw [if_pos h1]; rfl
 ·rw [if_neg h1]
  by_cases h2 : lq I e.tx e.ty e.d.right = false
  ·rw [if_pos h2]; rfl
  ·rw [if_neg h2]; rfl
def Str (I : Sq) : List Sd → Ed → Prop
 | [], _ => True
 | s :: r, z => 0 < s.2 ∧ Fa I s.1 = true ∧ (∀ i, i < s.2 → it I i s.1 = qm s.1 i) ∧ it I s.2 s.1 = (match r with | [] => z | t :: _ => t.1) ∧ Str I r z
def unit (s : Sd) : List Ed := (List.range s.2).map (qm s.1)
theorem MN {s : Sd} (h : ∀ i, i < s.2 → it I i s.1 = qm s.1 i) : walk I s.2 s.1 = unit s := by
 apply List.ext_getElem?
 intro i
 by_cases hi : i < s.2
 ·rw [tF I s.2 s.1 i hi, h i hi]
  unfold unit
  rw [List.getElem?_map, List.getElem?_range hi]; rfl
 ·rw [List.getElem?_eq_none (by rw [qO]; omega), List.getElem?_eq_none (by unfold unit; simp; omega)]
theorem Q6 {s : Sd} (h0 : 0 < s.2) (hb : sF I s.1) (hc : Fa I s.1 = true) (h : ∀ i, i < s.2 → it I i s.1 = qm s.1 i) : zL I s.2 s.1 = [s.1.p] := by
 obtain ⟨k, hk⟩ : ∃ k, s.2 = k + 1 := ⟨s.2 - 1, by omega⟩
 have h1 : (walk I k (sc I s.1)).filter (Fa I) = [] := List.filter_eq_nil_iff.2 fun f hf => by
  obtain ⟨i, hi, rfl⟩ := kE.1 hf
  have h1 : it I i (sc I s.1) = qm s.1 (i + 1) := h (i + 1) (by omega)
  have h2 : pd I (qm s.1 (i + 1)) = qm s.1 i := by
   rw [← h (i + 1) (by omega), ← h i (by omega), sZ]
   exact Bg (qJ hb i)
  rw [h1]
  unfold Fa
  rw [h2]
  simp [qm]
 unfold zL
 rw [hk]
 simp only [walk, List.filter_cons, h1, hc, if_true]; rfl
theorem stretches (I : Sq) : ∀ (k : Nat) (e : Ed), sF I e → Fa I e = true → Fa I (it I k e) = true → ∃ sl : List Sd, Str I sl (it I k e) ∧ (0 < k → ∃ m r, sl = (e, m) :: r) ∧ sl.map (fun s => s.1.p) = zL I k e ∧ walk I k e = sl.flatMap unit := by
 intro k
 induction k using Nat.strongRecOn with
 | _ k ih =>
  intro e he hc hz
  by_cases h0 : k = 0
  ·subst h0
   exact ⟨[], trivial, fun h => absurd h (Nat.lt_irrefl 0), rfl, rfl⟩
  ·obtain ⟨m, ⟨m1, m2⟩, m3⟩ := FZ (p := fun n => 0 < n ∧ Fa I (it I n e) = true) k ⟨by omega, hz⟩
   have mk : m ≤ k := by
    rcases Nat.lt_or_ge k m with h | h
    ·exact absurd ⟨by omega, hz⟩ (m3 k h)
    ·exact h
   have hstr : ∀ i, i < m → it I i e = qm e i := by
    intro i
    induction i with
    | zero => intro _; exact (rT e).symm
    | succ i ihi =>
     intro hi
     have h1 := ihi (by omega)
     have h2 : Fa I (it I (i + 1) e) = false := by
      cases hh : Fa I (it I (i + 1) e) with
      | false => rfl
      | true => exact absurd ⟨by omega, hh⟩ (m3 (i + 1) hi)
     have hbi := qJ he i
     have h3 : (sc I (it I i e)).d = (it I i e).d := by
      unfold Fa at h2
      rw [sZ, Bg hbi] at h2
      simp only [decide_eq_false_iff_not, ne_eq, Decidable.not_not] at h2
      exact h2.symm
     rw [sZ]
     have h4 := M0 (I := I) (it I i e)
     rw [h1] at h3 h4 ⊢
     obtain ⟨t1, t2⟩ := H9 e i
     exact Ed.ext' ((congrArg Prod.fst h4).trans t1) ((congrArg Prod.snd h4).trans t2) h3
   obtain ⟨sl, s1, s2, s3, s4⟩ := ih (k - m) (by omega) (it I m e) (qJ he m) m2 (by rw [← kR, show k - m + m = k from by omega]; exact hz)
   rw [← kR, show k - m + m = k from by omega] at s1
   have ek : k = m + (k - m) := by omega
   refine ⟨(e, m) :: sl, ⟨m1, hc, hstr, ?_, s1⟩, fun _ => ⟨m, sl, rfl⟩, ?_, ?_⟩
   ·by_cases hkm : 0 < k - m
    ·obtain ⟨m', r, rfl⟩ := s2 hkm; rfl
    ·have : k = m := by omega
     subst this
     cases sl with
     | nil => rfl
     | cons s r =>
      exfalso
      rw [Nat.sub_self] at s3
      cases s3
   ·rw [ek, Dh, List.map_cons, s3, Q6 (s := (e, m)) m1 he hc hstr]; rfl
   ·rw [ek, yB, s4, MN (s := (e, m)) hstr]; rfl
end
end Go.Proofs.YtcjeebkoafonpaaGreatDoor.PX
namespace Go.Proofs.YtcjeebkoafonpaaGreatDoor.PX
section
variable {I : Sq}
def FT (z : Int × Int) : List (Int × Int) → List ((Int × Int) × (Int × Int))
 | [] => []
 | x :: r => (x, r.headD z) :: FT z r
theorem SV {s : Sd} (h0 : 0 < s.2) (h : ∀ i, i < s.2 → it I i s.1 = qm s.1 i) : (it I s.2 s.1).p = (qm s.1 s.2).p := by
 obtain ⟨k, hk⟩ : ∃ k, s.2 = k + 1 := ⟨s.2 - 1, by omega⟩
 rw [hk, sZ, M0, h k (by omega)]
 obtain ⟨t1, t2⟩ := H9 s.1 k
 rw [t1, t2]; rfl
theorem G7 : ∀ {sl : List Sd} {z : Ed}, Str I sl z → FT z.p (sl.map fun s => s.1.p) = sl.map fun s => (s.1.p, (qm s.1 s.2).p)
 | [], _, _ => rfl
 | s :: r, z, ⟨h0, _, h2, h3, h4⟩ => by
  rw [List.map_cons, List.map_cons]
  unfold FT
  rw [G7 h4]
  congr 1
  rw [Prod.mk.injEq]
  refine ⟨rfl, ?_⟩
  rw [← SV h0 h2, h3]
  cases r with
  | nil => rfl
  | cons t r => rfl
def vx (y : Int) (e : Ed) : Option Int :=
 match e.d with
 | .N => if e.y = y then some e.x else none
 | .S => if e.y = y + 1 then some e.x else none
 | _ => none
def Nj (y : Int) (s : (Int × Int) × (Int × Int)) : Bool := decide (s.1.1 = s.2.1) && (decide (min s.1.2 s.2.2 ≤ y) && decide (y < max s.1.2 s.2.2))
theorem BP (f : Nat → Option Int) (v : Int) : ∀ (m j : Nat), (∀ i, i < m → f i = if i = j then some v else none) → (List.range m).filterMap f = if j < m then [v] else []
 | 0, j, _ => by simp
 | m + 1, j, h => by
  rw [List.range_succ, List.filterMap_append, BP f v m j fun i hi => h i (by omega)]
  have hm := h m (by omega)
  by_cases h1 : j < m
  ·rw [if_pos h1, if_pos (by omega)]
   rw [if_neg (by omega)] at hm
   simp [hm]
  ·rw [if_neg h1]
   by_cases h2 : m = j
   ·subst h2
    rw [if_pos rfl] at hm
    simp [hm]
   ·rw [if_neg h2] at hm
    rw [if_neg (by omega)]
    simp [hm]
theorem xE (f : Nat → Option Int) (m : Nat) (h : ∀ i, i < m → f i = none) : (List.range m).filterMap f = [] := by
 rw [List.filterMap_eq_nil_iff]
 intro i hi
 exact h i (List.mem_range.1 hi)
theorem Qh (y : Int) (s : Sd) (h0 : 0 < s.2) : (unit s).filterMap (vx y) = if Nj y (s.1.p, (qm s.1 s.2).p) = true then [s.1.x] else [] := by
 unfold unit
 rw [List.filterMap_map]
 have hc : Nj y (s.1.p, (qm s.1 s.2).p) = (decide (s.1.x = s.1.x + s.2 * s.1.d.dx) && (decide (min s.1.y (s.1.y + s.2 * s.1.d.dy) ≤ y) && decide (y < max s.1.y (s.1.y + s.2 * s.1.d.dy)))) := rfl
 rw [hc]
 cases hd : s.1.d
 ·have hv : ∀ i, (vx y ∘ qm s.1) i = none := fun i => by simp only [Function.comp, vx, qm, hd]
  rw [xE _ _ fun i _ => hv i, if_neg]
  simp [Dir.dx]; omega
 ·have hv : ∀ i : Nat, (vx y ∘ qm s.1) i = if s.1.y + i = y then some s.1.x else none := fun i => by
   simp only [Function.comp, vx, qm, hd, Dir.dx, Dir.dy]
   rw [Int.mul_one, Int.mul_zero, Int.add_zero]
  simp only [Dir.dx, Dir.dy, Int.mul_zero, Int.add_zero, Int.mul_one]
  by_cases hy : s.1.y ≤ y ∧ y < s.1.y + s.2
  ·rw [BP _ s.1.x s.2 (y - s.1.y).toNat fun i _ => (hv i).trans ?_, if_pos (by omega), if_pos]
   ·have h1 : min s.1.y (s.1.y + s.2) ≤ y := by omega
    have h2 : y < max s.1.y (s.1.y + s.2) := by omega
    simp [h1, h2]
   ·by_cases h1 : s.1.y + i = y
    ·rw [if_pos h1, if_pos (by omega)]
    ·rw [if_neg h1, if_neg (by omega)]
  ·rw [xE _ _ fun i hi => (hv i).trans (if_neg (by omega)), if_neg]
   simp only [Bool.and_eq_true, decide_eq_true_eq, not_and]
   omega
 ·have hv : ∀ i, (vx y ∘ qm s.1) i = none := fun i => by simp only [Function.comp, vx, qm, hd]
  rw [xE _ _ fun i _ => hv i, if_neg]
  simp [Dir.dx]; omega
 ·have hv : ∀ i : Nat, (vx y ∘ qm s.1) i = if s.1.y - i = y + 1 then some s.1.x else none := fun i => by
   simp only [Function.comp, vx, qm, hd, Dir.dx, Dir.dy]
   have e1 : s.1.y + (i : Int) * -1 = s.1.y - i := by omega
   rw [e1, Int.mul_zero, Int.add_zero]
  have e1 : ∀ n : Nat, s.1.y + (n : Int) * Dir.S.dy = s.1.y - n := fun n => by simp [Dir.dy]; omega
  rw [e1]
  simp only [Dir.dx, Int.mul_zero, Int.add_zero]
  by_cases hy : s.1.y - s.2 ≤ y ∧ y < s.1.y
  ·rw [BP _ s.1.x s.2 (s.1.y - 1 - y).toNat fun i _ => (hv i).trans ?_, if_pos (by omega), if_pos]
   ·have h1 : min s.1.y (s.1.y - s.2) ≤ y := by omega
    have h2 : y < max s.1.y (s.1.y - s.2) := by omega
    simp [h1, h2]
   ·by_cases h1 : s.1.y - i = y + 1
    ·rw [if_pos h1, if_pos (by omega)]
    ·rw [if_neg h1, if_neg (by omega)]
  ·rw [xE _ _ fun i hi => (hv i).trans (if_neg (by omega)), if_neg]
   simp only [Bool.and_eq_true, decide_eq_true_eq, not_and]
   omega
structure Tz (I : Sq) (e : Ed) (n : Nat) (l : List (Int × Int)) : Prop where
 len : 4 ≤ l.length
 ax : ∀ s ∈ FT e.p l, (s.1.1 = s.2.1) ≠ (s.1.2 = s.2.2)
 crs : ∀ y, ((FT e.p l).filter (Nj y)).map (·.1.1) = (walk I n e).filterMap (vx y)
 pts : ∀ p ∈ l, ∃ f, sF I f ∧ f.p = p
theorem Str.pos : ∀ {sl : List Sd} {z : Ed}, Str I sl z → ∀ s ∈ sl, 0 < s.2 ∧ Fa I s.1 = true
 | s :: r, z, ⟨h0, h1, _, _, h4⟩, t, ht => by
  rcases List.mem_cons.1 ht with rfl | ht
  ·exact ⟨h0, h1⟩
  ·exact Str.pos h4 t ht
theorem FB (y : Int) : ∀ {sl : List Sd} {z : Ed}, Str I sl z → ((sl.map fun s => (s.1.p, (qm s.1 s.2).p)).filter (Nj y)).map (·.1.1) = (sl.flatMap unit).filterMap (vx y)
 | [], _, _ => rfl
 | s :: r, z, ⟨h0, _, _, _, h4⟩ => by
  rw [List.map_cons, List.filter_cons, List.flatMap_cons, List.filterMap_append, ← FB y h4, Qh y s h0]
  by_cases hc : Nj y (s.1.p, (qm s.1 s.2).p) = true
  ·rw [if_pos hc, if_pos hc]; rfl
  ·rw [if_neg hc, if_neg hc]; rfl
def jo (f : Ed → Int) : List Ed → Int
 | [] => 0
 | e :: l => f e + jo f l
theorem Dv : ∀ (n : Nat) (e : Ed), jo (fun e => e.d.dx) (walk I n e) = (it I n e).x - e.x ∧ jo (fun e => e.d.dy) (walk I n e) = (it I n e).y - e.y
 | 0, e => ⟨by simp [walk, jo, it], by simp [walk, jo, it]⟩
 | n + 1, e => by
  obtain ⟨h1, h2⟩ := Dv n (sc I e)
  have h3 := M0 (I := I) e
  have h4 : (sc I e).x = e.x + e.d.dx := congrArg Prod.fst h3
  have h5 : (sc I e).y = e.y + e.d.dy := congrArg Prod.snd h3
  simp only [walk, jo, it]
  constructor
  ·rw [h1]; omega
  ·rw [h2]; omega
theorem Iu {f : Ed → Int} : ∀ {l : List Ed}, (∀ e ∈ l, f e ≤ 0) → (∃ e ∈ l, f e < 0) → jo f l < 0
 | [], _, ⟨_, h, _⟩ => by cases h
 | e :: l, h, ⟨e', h1, h2⟩ => by
  have hall : ∀ {l : List Ed}, (∀ e ∈ l, f e ≤ 0) → jo f l ≤ 0 := by
   intro l
   induction l with
   | nil => intro _; exact Int.le_refl _
   | cons a l ih =>
    intro h
    have := ih fun e he => h e (by simp [he])
    have := h a (by simp)
    simp only [jo]; omega
  have h3 := h e (by simp)
  have h4 := hall (l := l) fun e he => h e (by simp [he])
  simp only [jo]
  rcases List.mem_cons.1 h1 with rfl | h1
  ·omega
  ·have := Iu (l := l) (fun e he => h e (by simp [he])) ⟨e', h1, h2⟩
   omega
theorem DF (f : Ed → Int) : ∀ l : List Ed, jo (fun e => - f e) l = - jo f l
 | [] => rfl
 | e :: l => by simp only [jo]; rw [DF f l]; omega
theorem F7 {n : Nat} {e : Ed} (h : it I n e = e) {f : Ed} (hf : f ∈ walk I n e) : ∃ g ∈ walk I n e, g.d = f.d.left.left := by
 obtain ⟨s1, s2⟩ := Dv (I := I) n e
 rw [h] at s1 s2
 have key : ∀ F : Ed → Int, jo F (walk I n e) = 0 → F f < 0 → ∃ g ∈ walk I n e, 0 < F g := fun F hF hFf => by
  cases Classical.em (∃ g ∈ walk I n e, 0 < F g) with
  | inl h => exact h
  | inr hno =>
   have := Iu (f := F) (l := walk I n e) (fun g hg => by
    have : ¬ 0 < F g := fun hh => hno ⟨g, hg, hh⟩
    omega) ⟨f, hf, hFf⟩
   omega
 have s1' : jo (fun e => e.d.dx) (walk I n e) = 0 := by omega
 have s2' : jo (fun e => e.d.dy) (walk I n e) = 0 := by omega
 have o1 : jo (fun e => - e.d.dx) (walk I n e) = 0 := by rw [DF]; omega
 have o2 : jo (fun e => - e.d.dy) (walk I n e) = 0 := by rw [DF]; omega
 cases hd : f.d
 ·obtain ⟨g, hg, hp⟩ := key (fun e => - e.d.dx) o1 (by show - f.d.dx < 0; rw [hd]; decide)
  refine ⟨g, hg, ?_⟩
  have hp : 0 < - g.d.dx := hp
  cases hgd : g.d <;> rw [hgd] at hp <;> first | rfl | (simp [Dir.dx] at hp)
 ·obtain ⟨g, hg, hp⟩ := key (fun e => - e.d.dy) o2 (by show - f.d.dy < 0; rw [hd]; decide)
  refine ⟨g, hg, ?_⟩
  have hp : 0 < - g.d.dy := hp
  cases hgd : g.d <;> rw [hgd] at hp <;> first | rfl | (simp [Dir.dy] at hp)
 ·obtain ⟨g, hg, hp⟩ := key (fun e => e.d.dx) s1' (by show f.d.dx < 0; rw [hd]; decide)
  refine ⟨g, hg, ?_⟩
  have hp : 0 < g.d.dx := hp
  cases hgd : g.d <;> rw [hgd] at hp <;> first | rfl | (simp [Dir.dx] at hp)
 ·obtain ⟨g, hg, hp⟩ := key (fun e => e.d.dy) s2' (by show f.d.dy < 0; rw [hd]; decide)
  refine ⟨g, hg, ?_⟩
  have hp : 0 < g.d.dy := hp
  cases hgd : g.d <;> rw [hgd] at hp <;> first | rfl | (simp [Dir.dy] at hp)
theorem SB {n : Nat} {e : Ed} (he : sF I e) (h : Co I e n) : pd I e ∈ walk I n e := by
 refine kE.2 ⟨n - 1, by have := h.1; omega, ?_⟩
 have h1 : sc I (it I (n - 1) e) = e := by rw [← sZ, show n - 1 + 1 = n from by have := h.1; omega, h.2.1]
 have h2 := Bg (qJ he (n - 1))
 rw [h1] at h2; exact h2.symm
theorem Nh {l : List Dir} (h : ∀ d : Dir, d ∈ l) : 4 ≤ l.length := by
 have := BS (l := [Dir.E, .N, .W, .S]) (m := l) (by decide) fun d _ => h d
 simpa using this
theorem Ke {B : List Ed} (hB : vK I B) {e : Ed} (he : zN I e) {n : Nat} (hn : Co I e n) : Tz I e n (zL I n e) := by
 obtain ⟨sl, s1, s2, s3, s4⟩ := stretches I n e he.1 (he.EI hB) (by rw [hn.2.1]; exact he.EI hB)
 rw [hn.2.1] at s1
 have hnx : FT e.p (zL I n e) = sl.map fun s => (s.1.p, (qm s.1 s.2).p) := by rw [← s3]; exact G7 s1
 have hdirs : ∀ d : Dir, d ∈ sl.map fun s => s.1.d := by
  have mem : ∀ f ∈ walk I n e, f.d ∈ sl.map fun s => s.1.d := fun f hf => by
   rw [s4] at hf
   obtain ⟨s, hs, hf⟩ := List.mem_flatMap.1 hf
   unfold unit at hf
   obtain ⟨i, _, rfl⟩ := List.mem_map.1 hf
   exact List.mem_map.2 ⟨s, hs, rfl⟩
  have m1 : e ∈ walk I n e := kE.2 ⟨0, hn.1, rfl⟩
  have m2 := SB he.1 hn
  obtain ⟨g1, k1, k2⟩ := F7 hn.2.1 m1
  obtain ⟨g2, k3, k4⟩ := F7 hn.2.1 m2
  have q1 := mem _ m1
  have q2 := mem _ m2
  have q3 := mem _ k1
  have q4 := mem _ k3
  rw [k2] at q3
  rw [k4] at q4
  rcases he.ways hB with ⟨w1, w2⟩ | ⟨w1, w2⟩ <;> rw [w1] at q1 q3 <;> rw [w2] at q2 q4 <;> intro d <;> cases d <;> assumption
 refine ⟨?_, fun s hs => ?_, fun y => ?_, fun p hp => ?_⟩
 ·have := Nh hdirs
  rw [List.length_map] at this
  rw [← s3, List.length_map]; exact this
 ·rw [hnx] at hs
  obtain ⟨t, ht, rfl⟩ := List.mem_map.1 hs
  have h0 := (s1.pos t ht).1
  show (t.1.x = t.1.x + t.2 * t.1.d.dx) ≠ (t.1.y = t.1.y + t.2 * t.1.d.dy)
  cases t.1.d <;> simp only [Dir.dx, Dir.dy] <;> intro hh
  ·have : t.1.x = t.1.x + (t.2 : Int) * 1 := by rw [hh]; omega
   omega
  ·have : t.1.y = t.1.y + (t.2 : Int) * 1 := by rw [← hh]; omega
   omega
  ·have : t.1.x = t.1.x + (t.2 : Int) * -1 := by rw [hh]; omega
   omega
  ·have : t.1.y = t.1.y + (t.2 : Int) * -1 := by rw [← hh]; omega
   omega
 ·rw [hnx, FB y s1, ← s4]
 ·unfold zL at hp
  obtain ⟨f, hf, rfl⟩ := List.mem_map.1 hp
  obtain ⟨i, _, rfl⟩ := kE.1 (List.mem_filter.1 hf).1
  exact ⟨_, qJ he.1 i, rfl⟩
end
end Go.Proofs.YtcjeebkoafonpaaGreatDoor.PX
namespace Go.Proofs.YtcjeebkoafonpaaGreatDoor.PX
section
variable {I : Sq}
def cl (x : Int) (l : List Int) : Nat := (l.filter fun z => decide (z ≤ x)).length
theorem yl.steps {B : List Ed} (hB : vK I B) : ∀ {ls : List (List (Int × Int))}, (∀ l ∈ ls, ∃ e, zN I e ∧ JS I e l) → (ls.Pairwise fun a b => pl (a.headD (0, 0)) (b.headD (0, 0))) →
  ∃ ws : List (List Ed), ws.length = ls.length ∧ ws.flatten.Nodup ∧ (∀ (i : Nat) (l : List (Int × Int)) (w : List Ed), ls[i]? = some l → ws[i]? = some w → ∃ e n, zN I e ∧ Co I e n ∧ l = zL I n e ∧ w = walk I n e ∧ Tz I e n l) ∧
   (∀ f ∈ ws.flatten, ∃ l ∈ ls, ∃ e n, zN I e ∧ Co I e n ∧ l = zL I n e ∧ f ∈ walk I n e) ∧ ∀ l ∈ ls, ∀ e n, zN I e → Co I e n → l = zL I n e → ∀ f ∈ walk I n e, f ∈ ws.flatten
 | [], _, _ => ⟨[], rfl, by simp, fun i l w h => by simp at h, fun f hf => by simp at hf, fun l hl => by cases hl⟩
 | l :: ls, h, hp => by
  obtain ⟨p1, p2⟩ := List.pairwise_cons.1 hp
  obtain ⟨ws, w1, w2, w3, w4, w5⟩ := yl.steps hB (ls := ls) (fun l hl => h l (by simp [hl])) p2
  obtain ⟨e, he, n, hn, hl⟩ := h l (by simp)
  have head : ∀ {e n} {l : List (Int × Int)}, zN I e → Co I e n → l = zL I n e → l.headD (0, 0) = e.p := fun he hn hl => JS.headD hB he ⟨_, hn, hl⟩
  refine ⟨walk I n e :: ws, by simp [w1], ?_, fun i l' w hi hw => ?_, fun f hf => ?_, fun l' hl' e' n' he' hn' hle f hf => ?_⟩
  ·rw [List.flatten_cons]
   refine List.nodup_append.2 ⟨hn.nodup he.1, w2, fun a ha b hb hab => ?_⟩
   subst hab
   obtain ⟨l', hl', e', n', he', hn', hle, hf⟩ := w4 a hb
   obtain ⟨i, hi, rfl⟩ := kE.1 ha
   obtain ⟨j, hj, hij⟩ := kE.1 hf
   have g1 : it I (i + (n' - j)) e = e' := by
    rw [Nat.add_comm, kR, ← hij, ← kR, show n' - j + j = n' from by omega, hn'.2.1]
   have g2 : it I (j + (n - i)) e' = e := by
    rw [Nat.add_comm, kR, hij, ← kR, show n - i + i = n from by omega, hn.2.1]
   have hpe : e.p = e'.p := by
    have q1 := he.2 (i + (n' - j))
    rw [g1] at q1
    have q2 := he'.2 (j + (n - i))
    rw [g2] at q2
    rcases wM e.p e'.p with h5 | h5 | h5
    ·exact absurd h5 q2
    ·exact h5
    ·exact absurd h5 q1
   have := p1 l' hl'
   rw [head he hn hl, head he' hn' hle, hpe] at this
   exact pJ _ this
  ·cases i with
   | zero =>
    simp at hi hw
    subst hi; subst hw
    exact ⟨e, n, he, hn, hl, rfl, by rw [hl]; exact Ke hB he hn⟩
   | succ i =>
    simp at hi hw
    exact w3 i l' w hi hw
  ·rw [List.flatten_cons] at hf
   rcases List.mem_append.1 hf with hf | hf
   ·exact ⟨l, by simp, e, n, he, hn, hl, hf⟩
   ·obtain ⟨l', hl', r⟩ := w4 f hf
    exact ⟨l', by simp [hl'], r⟩
  ·rw [List.flatten_cons]
   rcases List.mem_cons.1 hl' with rfl | hl'
   ·have q1 := head he hn hl
    have q2 := head he' hn' hle
    have := zN.uniq hB he he' (by rw [← q1, ← q2])
    subst this
    rw [hn.uniq hn']
    exact List.mem_append_left _ hf
   ·exact List.mem_append_right _ (w5 l' hl' e' n' he' hn' hle f hf)
def Ux (y : Int) (l : List (Int × Int)) : List Int := ((FT (l.headD (0, 0)) l).filter (Nj y)).map (·.1.1)
end
end Go.Proofs.YtcjeebkoafonpaaGreatDoor.PX
namespace Go.Proofs.YtcjeebkoafonpaaGreatDoor
open PX
def ig (p : Int × Int) : au := ⟨p.1, p.2⟩
def GZ (p : au) : Int × Int := (p.X, p.Y)
def qR (s : Sd) : Int × Int := (qm s.1 s.2).p
def toS (s : Sd) : fE := ⟨ig s.1.p, ig (qR s)⟩
def CL (d : Dir) : au := ⟨d.dx, d.dy⟩
theorem O7 {d e : Dir} (h : CL d = CL e) : d = e := by
 have h1 := congrArg au.X h
 have h2 := congrArg au.Y h
 cases d <;> cases e <;> first | rfl | (simp [CL, Dir.dx] at h1; done) | (simp [CL, Dir.dy] at h2; done) | (simp [CL, Dir.dx, Dir.dy] at h1 h2)
def RS (p : Int × Int) : Prop := (-1000000000 ≤ p.1 ∧ p.1 ≤ 1000000000) ∧ (-1000000000 ≤ p.2 ∧ p.2 ≤ 1000000000)
structure Fv (L : List Sd) : Prop where
 len : L.length ≤ 100000000
 pts : ∀ s ∈ L, RS s.1.p ∧ RS (qR s)
theorem Vd {n : Nat} (h : 0 < n) : min 1 (max (-1) ((n : Int) * 1)) = 1 := by omega
theorem Vb {n : Nat} (h : 0 < n) : min 1 (max (-1) ((n : Int) * -1)) = -1 := by omega
theorem KI {s : Sd} (h : 0 < s.2) (hl : RS s.1.p ∧ RS (qR s)) : gB (toS s) = some (CL s.1.d) := by
 obtain ⟨⟨l1, l2⟩, l3, l4⟩ := hl
 have ex : (qR s).1 = s.1.x + s.2 * s.1.d.dx := rfl
 have ey : (qR s).2 = s.1.y + s.2 * s.1.d.dy := rfl
 have e1 : (toS s).to_.X - (toS s).from_.X = s.2 * s.1.d.dx := by show (qR s).1 - s.1.x = _; rw [ex]; omega
 have e2 : (toS s).to_.Y - (toS s).from_.Y = s.2 * s.1.d.dy := by show (qR s).2 - s.1.y = _; rw [ey]; omega
 have hx : s.1.p.1 = s.1.x := rfl
 have hy : s.1.p.2 = s.1.y := rfl
 unfold gB jN
 rw [e1, e2, bU (by omega) (by omega), bU (by omega) (by omega), Option.bind_some, Option.bind_some]
 congr 1
 unfold CL
 cases hd : s.1.d <;> simp only [Dir.dx, Dir.dy, Int.mul_zero] <;> first | rw [Vd h]; rfl | rw [Vb h]; rfl
theorem LK (p q : Int × Int) : oN (ig p) (ig q) = some (decide (pl p q)) := by
 unfold oN
 congr 1
 rw [Bool.eq_iff_iff, decide_eq_true_eq]
 unfold pl ig
 simp
theorem Uu (p q : Int × Int) : gz (ig p) (ig q) = decide (p = q) := by
 rw [Bool.eq_iff_iff, qC]
 unfold ig
 simp [Prod.ext_iff]
theorem RJ (d e : Dir) : gz (CL d) (CL e) = decide (d = e) := by
 rw [Bool.eq_iff_iff, qC, decide_eq_true_eq]
 exact ⟨O7, fun h => by rw [h]⟩
theorem Ap (L : List Sd) : ∀ (q r : List Nat) (d : Dir), Dl L d (q ++ r) = Dl L d q ++ Dl L ((q.map fun a => (fT L a).1.d).getLastD d) r
 | [], r, d => rfl
 | a :: q, r, d => by
  simp only [List.cons_append, Dl]
  have hl : ((a :: q).map fun a => (fT L a).1.d).getLastD d = (q.map fun a => (fT L a).1.d).getLastD (fT L a).1.d := by cases q <;> rfl
  rw [hl]
  split
  ·rw [Ap L q r]; rfl
  ·exact Ap L q r _
theorem Dk (L : List Sd) : ∀ (q : List Nat) (d : Dir), (Dl L d q).length ≤ q.length
 | [], _ => Nat.le_refl _
 | a :: q, d => by
  have := Dk L q (fT L a).1.d
  simp only [Dl]
  split <;> simp only [List.length_cons] <;> omega
theorem Pd (L : List Sd) (q : List Nat) (a : Nat) (d : Dir) : Dl L d (q ++ [a]) = Dl L d q ++ (if ((q.map fun a => (fT L a).1.d).getLastD d) ≠ (fT L a).1.d then [(fT L a).1.p] else []) := by
 rw [Ap]
 congr 1
theorem O0 : ∀ (l : List (Int × Int)) (b : Nat × (Int × Int)) (i n : Nat), b.1 < n → i + l.length ≤ n → fl l b i < n
 | [], b, i, n, h, _ => h
 | p :: l, b, i, n, h, h' => by
  simp only [List.length_cons] at h'
  unfold fl
  split
  ·exact O0 l (i, p) (i + 1) n (by show i < n; omega) (by omega)
  ·exact O0 l b (i + 1) n h (by omega)
def Sy (c : List au) (k : Nat) : Option (List au) :=
 (cut c (k : Int) (c.length : Int)).bind fun Vk => (Proofs.YtcjeebkoafonpaaGreatDoor.pre c (k : Int)).bind fun Vj => (jX [Vk, Vj]).bind fun U4 => some U4
theorem Ah (c : List (Int × Int)) (hc : c.length ≤ 100000000) : ∀ (suf q : List (Int × Int)) (m : Nat) (p : Int × Int), c = q ++ suf → c[m]? = some p → fU (c.map ig) (suf.map ig) q.length (m : Int) = Sy (c.map ig) (fl suf (m, p) q.length)
 | [], q, m, p, h, hm => by
  show fU _ [] _ _ = _
  rw [fU.eq_1]; rfl
 | x :: suf, q, m, p, h, hm => by
  show fU _ (ig x :: suf.map ig) _ _ = _
  have hid : idx (c.map ig) (m : Int) = some (ig p) := by
   unfold idx
   rw [if_pos (by omega), Int.toNat_natCast, List.getElem?_map, hm]; rfl
  have hx : c[q.length]? = some x := by rw [h]; simp
  have e1 := Ah c hc suf (q ++ [x]) q.length x (by rw [h]; simp) hx
  have e2 := Ah c hc suf (q ++ [x]) m p (by rw [h]; simp) hm
  rw [List.length_append] at e1 e2
  rw [fU.eq_2, hid, Option.bind_some, LK, Option.bind_some]
  unfold fl
  by_cases hp : pl x p
  ·rw [if_pos (by simpa using hp), if_pos hp]; exact e1
  ·rw [if_neg (by simpa using hp), if_neg hp]; exact e2
theorem Q7 {a b : List au} (h : a.length + b.length ≤ 100000000) : jX [a, b] = some (a ++ b) := by
 unfold jX
 have e1 : bG (0 + (a.length : Int)) = a.length := by rw [bU (by omega) (by omega)]; omega
 have e2 : bG ((a.length : Int) + (b.length : Int)) = (a.length : Int) + b.length := bU (by omega) (by omega)
 rw [fZ.eq_2, e1, if_neg (by simp), fZ.eq_2, e2, if_neg (by simp; omega), fZ.eq_1]
 have e3 : (Ut ((a.length : Int) + b.length) : Option (List au)) = some [] := if_pos ⟨by omega, by omega⟩
 rw [e3, Option.bind_some, fV.eq_2, lU (by simp; omega), Option.bind_some, fV.eq_2, lU (by simp; omega), Option.bind_some, fV.eq_1]
 simp
theorem Qw {c : List au} {k : Nat} (hc : c.length ≤ 100000000) (hk : k ≤ c.length) : Sy c k = some (c.drop k ++ c.take k) := by
 unfold Sy
 have e1 : cut c (k : Int) (c.length : Int) = some (c.drop k) := by
  unfold cut
  rw [if_pos (by omega)]
  simp
 have e2 : Proofs.YtcjeebkoafonpaaGreatDoor.pre c (k : Int) = some (c.take k) := by
  unfold Proofs.YtcjeebkoafonpaaGreatDoor.pre
  rw [if_pos (by omega)]
  simp
 rw [e1, e2, Option.bind_some, Option.bind_some, Q7 (by simp; omega)]; rfl
theorem Dz {I : Sq} {L : List Sd} (hL : nP I L) (hb : Fv L) (row : List Nat) (hr : ∀ a ∈ row, a < L.length) (hlen : row.length ≤ 100000000) : ∀ (suf q : List Nat), row = q ++ suf →
  gF (row.map fun a => toS (fT L a)) (suf.map fun a => toS (fT L a)) q.length ((Dl L (fT L (row.getLastD 0)).1.d q).map ig) = fU ((Dl L (fT L (row.getLastD 0)).1.d row).map ig) ((Dl L (fT L (row.getLastD 0)).1.d row).map ig) 0 0
 | [], q, h => by
  rw [List.append_nil] at h
  subst h
  show gF _ [] _ _ = _
  rw [gF.eq_1]
 | a :: suf, q, h => by
  have hdir : ∀ b ∈ row, gB (toS (fT L b)) = some (CL (fT L b).1.d) := fun b hb' => by
   have hg := uW (hr b hb')
   have hm := List.mem_of_getElem? hg
   exact KI (hL.pos _ hm) (hb.pts _ hm)
  have hql : q.length ≤ 100000000 := by rw [h] at hlen; simp at hlen; omega
  have hn : 0 < row.length := by rw [h]; simp; omega
  have hprev : ∃ b ∈ row, (md (bG ((bG ((q.length : Int) + ((row.map fun a => toS (fT L a)).length : Int))) - 1)) ((row.map fun a => toS (fT L a)).length : Int)).bind (fun q150 => idx (row.map fun a => toS (fT L a)) q150) = some (toS (fT L b)) ∧ (fT L b).1.d = (q.map fun a => (fT L a).1.d).getLastD (fT L (row.getLastD 0)).1.d := by
   rw [List.length_map, bU (x := (q.length : Int) + row.length) (by omega) (by omega), bU (by omega) (by omega)]
   have hmd : md ((q.length : Int) + row.length - 1) row.length = some (Int.tmod ((q.length : Int) + row.length - 1) row.length) := by unfold md; rw [if_neg (by omega)]
   rw [hmd, Option.bind_some]
   rcases List.eq_nil_or_concat q with hq | ⟨q', b, hq⟩
   ·subst hq
    have e1 : Int.tmod ((([] : List Nat).length : Int) + row.length - 1) row.length = ((row.length - 1 : Nat) : Int) := by
     rw [Int.tmod_eq_emod_of_nonneg (by simp; omega), List.length_nil, Int.emod_eq_of_lt (by omega) (by omega)]; omega
    have hne : row ≠ [] := by rw [h]; simp
    have hlast : row[row.length - 1]? = some (row.getLastD 0) := by
     rw [List.getLastD_eq_getLast?, List.getLast?_eq_getElem?]
     rw [List.getElem?_eq_getElem (by omega)]; rfl
    refine ⟨row.getLastD 0, List.mem_of_getElem? hlast, ?_, rfl⟩
    rw [e1]
    unfold idx
    rw [if_pos (by omega), Int.toNat_natCast, List.getElem?_map, hlast]; rfl
   ·rw [List.concat_eq_append] at hq
    subst hq
    have e1 : Int.tmod (((q' ++ [b]).length : Int) + row.length - 1) row.length = (q'.length : Int) := by
     have : ((q' ++ [b]).length : Int) + row.length - 1 = (q'.length : Int) + row.length := by simp; omega
     rw [this, Int.tmod_eq_emod_of_nonneg (by omega), Int.add_emod_right, Int.emod_eq_of_lt (by omega) (by rw [h]; simp; omega)]
    have hb2 : row[q'.length]? = some b := by rw [h]; simp
    refine ⟨b, List.mem_of_getElem? hb2, ?_, by simp⟩
    rw [e1]
    unfold idx
    rw [if_pos (by omega), Int.toNat_natCast, List.getElem?_map, hb2]; rfl
  obtain ⟨b, hb1, hb2, hb3⟩ := hprev
  have ih := Dz hL hb row hr hlen suf (q ++ [a]) (by rw [h]; simp)
  rw [List.length_append, Pd] at ih
  show gF _ (toS (fT L a) :: suf.map _) _ _ = _
  rw [gF.eq_2, hdir a (by rw [h]; simp), Option.bind_some]
  obtain ⟨q150, hq1, hq2⟩ := Option.bind_eq_some_iff.1 hb2
  rw [hq1, Option.bind_some, hq2, Option.bind_some, hdir b hb1, Option.bind_some, RJ, hb3]
  have hcl := Dk L q (fT L (row.getLastD 0)).1.d
  generalize (q.map fun a => (fT L a).1.d).getLastD (fT L (row.getLastD 0)).1.d = dp at ih ⊢
  generalize Dl L (fT L (row.getLastD 0)).1.d q = cq at ih hcl ⊢
  by_cases hd : dp = (fT L a).1.d
  ·rw [if_neg (by simp [hd])]
   rw [if_neg (by simpa using hd), List.append_nil] at ih
   exact ih
  ·rw [if_pos (by simp; exact fun hh => hd hh.symm)]
   rw [if_pos hd, List.map_append] at ih
   rw [lU (by rw [List.length_map]; simp; omega), Option.bind_some]
   exact ih
theorem KM {I : Sq} {L : List Sd} (hL : nP I L) (hb : Fv L) {row : List Nat} (hr : ∀ a ∈ row, a < L.length) (hlen : row.length ≤ 100000000) (hne : Dl L (fT L (row.getLastD 0)).1.d row ≠ []) : pg (row.map fun a => toS (fT L a)) = some ((nN L row).map ig) := by
 unfold pg
 have h1 := Dz hL hb row hr hlen row [] rfl
 rw [List.length_nil] at h1
 have h0 : (Dl L (fT L (row.getLastD 0)).1.d []).map ig = [] := rfl
 rw [h0] at h1
 rw [h1]
 unfold nN lr
 have hcl := Dk L row (fT L (row.getLastD 0)).1.d
 generalize Dl L (fT L (row.getLastD 0)).1.d row = c at hne hcl
 obtain ⟨p, r, rfl⟩ := List.exists_cons_of_ne_nil hne
 have h2 := Ah (p :: r) (by omega) (p :: r) [] 0 p rfl rfl
 rw [List.length_nil] at h2
 have e0 : ((0 : Nat) : Int) = 0 := rfl
 rw [e0] at h2
 rw [h2]
 have hk := O0 (p :: r) (0, p) 0 (p :: r).length (by simp) (by simp)
 rw [Qw (by rw [List.length_map]; omega) (by rw [List.length_map]; omega)]
 simp only [List.headD_cons, List.map_append, List.map_drop, List.map_take]
open PX
theorem Qj {I : Sq} {f e : Ed} (hf : sF I f) (he : sF I e) (hx : e.x = f.tx) (hy : e.y = f.ty) (hne : e ≠ sc I f) : (sc I f).d = f.d.left := by
 obtain ⟨g1, g2⟩ := Ed.wh I f
 have f1 : lq I f.tx f.ty f.d.left = true := g1.trans hf.1
 have f2 : lq I f.tx f.ty f.d.left.left = false := g2.trans hf.2
 obtain ⟨e1, e2⟩ := he
 rw [hx, hy] at e1 e2
 rcases wJ hf with ⟨_, h2⟩ | ⟨h1, h2, h3⟩ | ⟨h1, h2, h3⟩
 ·rw [h2]
 ·exfalso
  have hd : e.d = f.d := by
   generalize f.d = d at f1 f2 h1 h2
   generalize e.d = d' at e1 e2
   cases d <;> cases d' <;> simp only [Dir.left, Dir.right] at * <;> first | rfl | (rw [e1] at f2; cases f2) | (rw [e2] at f1; cases f1) | (rw [e2] at h1; cases h1) | (rw [e1] at h2; cases h2)
  exact hne (by rw [h3]; exact Ed.ext' hx hy hd)
 ·exfalso
  have hd : e.d = f.d.right := by
   generalize f.d = d at f1 f2 h1 h2
   generalize e.d = d' at e1 e2
   cases d <;> cases d' <;> simp only [Dir.left, Dir.right] at * <;> first | rfl | (rw [e1] at f2; cases f2) | (rw [e2] at f1; cases f1) | (rw [e2] at h1; cases h1) | (rw [e2] at h2; cases h2)
  exact hne (by rw [h3]; exact Ed.ext' hx hy hd)
theorem QL {I : Sq} {f e : Ed} (he : sF I e) (hx : e.x = f.tx) (hy : e.y = f.ty) (hd : e.d = f.d.left) : e = sc I f := by
 have h2 := he.2
 rw [hx, hy, hd, Dir.lr] at h2
 rw [Sm h2]
 exact Ed.ext' hx hy hd
theorem Hg {s : Sd} (h : 0 < s.2) : (Ej s).tx = (qR s).1 ∧ (Ej s).ty = (qR s).2 ∧ (Ej s).d = s.1.d := by
 obtain ⟨t1, t2⟩ := H9 s.1 (s.2 - 1)
 have e : s.2 - 1 + 1 = s.2 := by omega
 rw [e] at t1 t2
 exact ⟨t1, t2, rfl⟩
def wB (L : List Sd) (v : Int × Int) : List Int := ((List.range L.length).filter fun a => decide ((fT L a).1.p = v)).map fun a : Nat => (a : Int)
theorem yP {L : List Sd} {v : Int × Int} {j : Int} : j ∈ wB L v ↔ ∃ a, a < L.length ∧ (fT L a).1.p = v ∧ j = (a : Int) := by
 unfold wB
 simp only [List.mem_map, List.mem_filter, List.mem_range, decide_eq_true_eq]
 exact ⟨fun ⟨a, ⟨h1, h2⟩, h3⟩ => ⟨a, h1, h2, h3.symm⟩, fun ⟨a, h1, h2, h3⟩ => ⟨a, ⟨h1, h2⟩, h3.symm⟩⟩
theorem KA (L : List Sd) (v : Int × Int) : (wB L v).Nodup := by
 unfold wB
 rw [List.Nodup, List.pairwise_map]
 exact (List.nodup_range.filter _).imp fun h hh => h (by omega)
section
variable {I : Sq} {L : List Sd}
theorem G8 (h : nP I L) {a b : Nat} (hn : Nx I L a b) : (fT L b).1.p = qR (fT L a) := by
 obtain ⟨s, t, h1, h2, h3⟩ := hn
 rw [lJ h1, lJ h2, h3, M0]
 have hp := h.pos s (List.mem_of_getElem? h1)
 exact Prod.ext (Hg hp).1 (Hg hp).2.1
theorem QR (h : nP I L) {a b : Nat} (ha : a < L.length) (hb : b < L.length) (hv : (fT L b).1.p = qR (fT L a)) : (Nx I L a b ↔ (wB L (qR (fT L a))).length = 1 ∨ (fT L b).1.d = (fT L a).1.d.left) := by
 have ga := uW ha
 have gb := uW hb
 have ma := List.mem_of_getElem? ga
 have mb := List.mem_of_getElem? gb
 obtain ⟨t1, t2, t3⟩ := Hg (h.pos _ ma)
 have hl := (h.last ma).1
 have hx : (fT L b).1.x = (Ej (fT L a)).tx := (congrArg Prod.fst hv).trans t1.symm
 have hy : (fT L b).1.y = (Ej (fT L a)).ty := (congrArg Prod.snd hv).trans t2.symm
 have fb := h.fst mb
 obtain ⟨b', hb', hn⟩ := h.next ha
 have hm' : (b' : Int) ∈ wB L (qR (fT L a)) := yP.2 ⟨b', hb', G8 h hn, rfl⟩
 have hm : (b : Int) ∈ wB L (qR (fT L a)) := yP.2 ⟨b, hb, hv, rfl⟩
 constructor
 ·intro hab
  have := h.SG hab hn
  subst this
  cases Classical.em ((fT L b).1.d = (fT L a).1.d.left) with
  | inl hh => exact .inr hh
  | inr hh =>
   left
   have hall : ∀ j ∈ wB L (qR (fT L a)), j = (b : Int) := fun j hj => by
    obtain ⟨c, hc, hcv, rfl⟩ := yP.1 hj
    have gc := uW hc
    have mc := List.mem_of_getElem? gc
    obtain ⟨s, t, k1, k2, k3⟩ := hab
    rw [ga] at k1
    rw [gb] at k2
    have k1 := Option.some.inj k1
    have k2 := Option.some.inj k2
    subst k1; subst k2
    cases Classical.em ((fT L c).1 = sc I (Ej (fT L a))) with
    | inl he =>
     have := h.SG ⟨_, _, ga, gc, he⟩ ⟨_, _, ga, gb, k3⟩
     rw [this]
    | inr he =>
     exfalso
     have := Qj hl (h.fst mc) ((congrArg Prod.fst hcv).trans t1.symm) ((congrArg Prod.snd hcv).trans t2.symm) he
     rw [← k3, t3] at this
     exact hh this
   have hnd := KA L (qR (fT L a))
   match hq : wB L (qR (fT L a)), hm, hall, hnd with
   | [x], _, _, _ => rfl
   | x :: y :: r, _, hall, hnd =>
    exfalso
    have e1 := hall x (by simp)
    have e2 := hall y (by simp)
    rw [e1, e2] at hnd
    simp at hnd
 ·intro hor
  rcases hor with h1 | h1
  ·obtain ⟨x, hx1⟩ := List.length_eq_one_iff.1 h1
   rw [hx1] at hm hm'
   simp at hm hm'
   have : b = b' := by omega
   rw [this]; exact hn
  ·exact ⟨_, _, ga, gb, QL fb hx hy (by rw [t3]; exact h1)⟩
theorem F3 {κ α : Type} [DecidableEq κ] (k : κ) (l : List α) (k' : κ) : ∀ m : List (κ × List α), oQ (vW m k l) k' = if k = k' then l else oQ m k'
 | [] => by simp [vW, oQ]
 | p :: m => by
  unfold vW
  by_cases h : p.1 = k
  ·rw [if_pos h]
   by_cases h' : k = k'
   ·simp [oQ, h']
   ·simp [oQ, h, h']
  ·rw [if_neg h]
   simp only [oQ]
   rw [F3 k l k' m]
   by_cases h' : k = k'
   ·subst h'; simp [h]
   ·simp [h']
theorem Lu {p : Int × Int} (h : RS p) : Ij p = true := by
 obtain ⟨⟨h1, h2⟩, h3, h4⟩ := h
 unfold Ij Uq
 simp; omega
theorem I9 (hb : Fv L) (N : Nat) : ∀ (suf q : List Sd) (m : List ((Int × Int) × List Int)), L = q ++ suf → (∀ v, oQ m v = ((List.range q.length).filter fun a => decide ((fT L a).1.p = v)).map fun a : Nat => (a : Int)) →
  ∃ m', (∀ v, oQ m' v = wB L v) ∧ eu N (L.map toS) (suf.map toS) q.length m = (TC false ((L.map toS).length : Int)).bind fun Vl => bQ N (L.map toS) m' (L.map toS) 0 Vl []
 | [], q, m, h, hm => by
  rw [List.append_nil] at h
  subst h
  refine ⟨m, hm, ?_⟩
  show eu _ _ [] _ _ = _
  rw [eu.eq_1]
 | s :: suf, q, m, h, hm => by
  have hg : L[q.length]? = some s := by rw [h]; simp
  have hs := lJ hg
  have hlim := (hb.pts s (List.mem_of_getElem? hg)).1
  have hlen := hb.len
  have hql : q.length ≤ 100000000 := by rw [h] at hlen; simp at hlen; omega
  obtain ⟨m', h1, h2⟩ := I9 hb N suf (q ++ [s]) (vW m s.1.p (oQ m s.1.p ++ [(q.length : Int)])) (by rw [h]; simp) (fun v => by
   rw [F3, List.length_append, List.length_singleton, List.range_succ, List.filter_append, List.map_append, hm v]
   by_cases hv : s.1.p = v
   ·subst hv
    rw [if_pos rfl, hm]
    simp [hs]
   ·rw [if_neg hv]
    simp [hs, hv])
  refine ⟨m', h1, ?_⟩
  rw [List.length_append] at h2
  show eu _ _ (toS s :: suf.map toS) _ _ = _
  have e1 : sN Ij m ((toS s).from_.X, (toS s).from_.Y) = some (oQ m s.1.p) := if_pos (Lu hlim)
  have hkl : (oQ m s.1.p).length ≤ q.length := by rw [hm, List.length_map]; exact Nat.le_trans (List.length_filter_le _ _) (Nat.le_of_eq List.length_range)
  rw [eu.eq_2, e1, Option.bind_some, lU (by simp; omega), Option.bind_some]
  exact h2
theorem QM {s : Sd} (h : 0 < s.2) (hl : RS s.1.p ∧ RS (qR s)) : kX (toS s) = some (CL s.1.d.left) := by
 unfold kX
 rw [KI h hl, Option.bind_some]
 congr 1
 unfold CL
 cases s.1.d <;> simp only [Dir.dx, Dir.dy, Dir.left] <;> rfl
variable {m : List ((Int × Int) × List Int)}
theorem L6 (hm : ∀ v, oQ m v = wB L v) {s : Sd} (h : RS (qR s)) : sN Ij m ((toS s).to_.X, (toS s).to_.Y) = some (wB L (qR s)) := by
 show sN Ij m (qR s) = _
 unfold sN
 rw [if_pos (Lu h), hm]
theorem Gj (h : nP I L) (hb : Fv L) (hm : ∀ v, oQ m v = wB L v) {a b : Nat} (ha : a < L.length) (hb' : b < L.length) (hv : (fT L b).1.p = qR (fT L a)) :
  ∃ g, fC (toS (fT L a)) (toS (fT L b)) m = some g ∧ (g = true ↔ Nx I L a b) := by
 have ma := List.mem_of_getElem? (uW ha)
 have mb := List.mem_of_getElem? (uW hb')
 have e1 : sN Ij m ((toS (fT L a)).to_.X, (toS (fT L a)).to_.Y) = some (wB L (qR (fT L a))) := L6 hm (hb.pts _ ma).2
 unfold fC
 rw [e1, Option.bind_some, KI (h.pos _ mb) (hb.pts _ mb), QM (h.pos _ ma) (hb.pts _ ma)]
 simp only [Option.bind_some, RJ]
 rw [QR h ha hb' hv]
 by_cases h1 : (wB L (qR (fT L a))).length = 1
 ·rw [if_pos (by simp; omega)]
  exact ⟨true, rfl, by simp [h1]⟩
 ·rw [if_neg (by simp; omega)]
  exact ⟨_, rfl, by simp [h1]⟩
theorem FU (h : nP I L) (hb : Fv L) (hm : ∀ v, oQ m v = wB L v) {a b : Nat} (ha : a < L.length) (hn : Nx I L a b) {u : List Bool} (hu : u.length = L.length) (hub : u[b]? = some false) : ∀ (l : List Int) (i : Nat), (∀ j ∈ l, j ∈ wB L (qR (fT L a))) → (b : Int) ∈ l →
  bP (toS (fT L a)) u (L.map toS) m l i = some (b : Int)
 | j :: l, i, hl, hbl => by
  obtain ⟨c, hc, hcv, rfl⟩ := yP.1 (hl j (by simp))
  obtain ⟨g, g1, g2⟩ := Gj h hb hm ha hc hcv
  have hid : idx u (c : Int) = some u[c] := Hq (by omega)
  have hid2 : idx (L.map toS) (c : Int) = some (toS (fT L c)) := by
   unfold idx
   rw [if_pos (by omega), Int.toNat_natCast, List.getElem?_map, uW hc]; rfl
  rw [bP.eq_2, hid, Option.bind_some, hid2, Option.bind_some, g1, Option.bind_some]
  by_cases hcb : c = b
  ·subst hcb
   have hf : u[c] = false := by
    have := List.getElem?_eq_getElem (l := u) (i := c) (by omega)
    rw [hub] at this; exact (Option.some.inj this).symm
   rw [hf, if_pos (by rfl), Option.bind_some, if_pos (g2.2 hn)]
  ·have hg : g = false := by
    cases hg : g with
    | false => rfl
    | true => exact absurd (h.SG (g2.1 hg) hn) hcb
   have hres : ∀ z : Bool, (if (!z) = true then some g else some false) = some false := fun z => by cases z <;> simp [hg]
   rw [hres, Option.bind_some, if_neg (by simp)]
   refine FU h hb hm ha hn hu hub l (i + 1) (fun j hj => hl j (by simp [hj])) ?_
   rcases List.mem_cons.1 hbl with hbl | hbl
   ·exact absurd (by omega) hcb
   ·exact hbl
theorem Oy (h : nP I L) (hb : Fv L) (hm : ∀ v, oQ m v = wB L v) {a b : Nat} (ha : a < L.length) (hn : Nx I L a b) {u : List Bool} (hu : u.length = L.length) (hub : u[b]? = some false) : fw (toS (fT L a)) m u (L.map toS) m = some (b : Int) := by
 have ma := List.mem_of_getElem? (uW ha)
 have e1 : sN Ij m ((toS (fT L a)).to_.X, (toS (fT L a)).to_.Y) = some (wB L (qR (fT L a))) := L6 hm (hb.pts _ ma).2
 unfold fw
 rw [e1, Option.bind_some]
 exact FU h hb hm ha hn hu hub _ 0 (fun _ hj => hj) (yP.2 ⟨b, hn.lt.2, G8 h hn, rfl⟩)
end
open PX Go.Sort
section
variable {I : Sq} {L : List Sd}
theorem Mo : ∀ {q : List Nat} {a c : Nat}, Cn I L a q → Nx I L (q.getLastD a) c → Cn I L a (q ++ [c])
 | [], a, c, _, h => ⟨h, trivial⟩
 | b :: q, a, c, ⟨h1, h2⟩, h => ⟨h1, Mo h2 (by cases q <;> exact h)⟩
theorem BX : ∀ {q : List Nat} {a : Nat}, q.getLastD a ∈ a :: q
 | [], a => by simp
 | b :: q, a => by
  have : (b :: q).getLastD a = q.getLastD b := by cases q <;> rfl
  rw [this]
  exact List.mem_cons_of_mem _ BX
theorem HZ : ∀ {q : List Nat} {a : Nat}, Cn I L a q → (a :: q).Nodup → ∀ c ∈ q, ∃ p ∈ a :: q, Nx I L p c ∧ p ≠ q.getLastD a
 | b :: q, a, ⟨h1, h2⟩, hn, c, hc => by
  have e : (b :: q).getLastD a = q.getLastD b := by cases q <;> rfl
  rw [e]
  obtain ⟨n1, n2⟩ := List.nodup_cons.1 hn
  rcases List.mem_cons.1 hc with rfl | hc
  ·exact ⟨a, by simp, h1, fun hh => n1 (by rw [hh]; exact BX)⟩
  ·obtain ⟨p, p1, p2, p3⟩ := HZ h2 n2 c hc
   exact ⟨p, List.mem_cons_of_mem _ p1, p2, p3⟩
theorem M5 (h : nP I L) {r : List Nat} (hr : Ie I L r) {a b : Nat} (hb : b ∈ r) (hn : Nx I L a b) : a ∈ r := by
 obtain ⟨i, q, rfl, h1, h2, h3⟩ := hr
 rcases List.mem_cons.1 hb with rfl | hb
 ·rw [h.SH hn h2]; exact BX
 ·obtain ⟨p, p1, p2, _⟩ := HZ h1 h3 b hb
  rw [h.SH hn p2]; exact p1
structure VA (I : Sq) (L : List Sd) (u : List Bool) (rs : List (List Nat)) : Prop where
 len : u.length = L.length
 use : ∀ a, u[a]? = some true ↔ ∃ r ∈ rs, a ∈ r
 row : ∀ r ∈ rs, Ie I L r
 once : rs.Pairwise fun r r' => ∀ a ∈ r, a ∉ r'
theorem yM : ∀ {n : Nat} {l : List Nat}, l.Nodup → (∀ a ∈ l, a < n) → l.length ≤ n
 | 0, [], _, _ => Nat.le_refl _
 | 0, a :: l, _, h => absurd (h a (by simp)) (Nat.not_lt_zero _)
 | n + 1, l, hn, h => by
  have ih := yM (n := n) (l := l.erase n) (hn.erase n) fun a ha => by
   obtain ⟨h1, h2⟩ := hn.mem_erase_iff.1 ha
   have := h a h2
   omega
  rw [List.length_erase] at ih
  split at ih <;> omega
theorem not_true {u : List Bool} {a : Nat} (h : a < u.length) (hn : ¬ u[a]? = some true) : u[a]? = some false := by
 rw [List.getElem?_eq_getElem h] at hn ⊢
 cases hu : u[a] with
 | true => exact absurd (congrArg some hu) hn
 | false => rfl
theorem Gi : ∀ {u : List Bool} {b : Nat}, u[b]? = some false → (u.set b true).count false + 1 = u.count false
 | [], b, h => by simp at h
 | x :: u, 0, h => by simp at h; subst h; simp
 | x :: u, b + 1, h => by
  have := Gi (u := u) (b := b) (by simpa using h)
  simp only [List.set_cons_succ, List.count_cons]
  omega
variable {m : List ((Int × Int) × List Int)}
theorem S9 {b : Nat} (h : b < L.length) : idx (L.map toS) (b : Int) = some (toS (fT L b)) := by
 unfold idx
 rw [if_pos (by omega), Int.toNat_natCast, List.getElem?_map, uW h]; rfl
theorem IM (h : nP I L) (hb : Fv L) (hm : ∀ v, oQ m v = wB L v) {i : Nat} {rs : List (List Nat)} (hrs : ∀ r ∈ rs, Ie I L r) (hir : ∀ r ∈ rs, i ∉ r) (out : List (List au)) (k : List Bool → List (List au) → Option (List (List au))) :
  ∀ (fuel : Nat) (q : List Nat) (b : Nat) (u : List Bool) (t : List Nat), q ++ [b] = i :: t → Cn I L i t → (i :: t).Nodup → (∀ a ∈ i :: t, ∀ r ∈ rs, a ∉ r) → b < L.length → (∀ a ∈ q, a < L.length) → u.length = L.length → (∀ a, u[a]? = some true ↔ (∃ r ∈ rs, a ∈ r) ∨ a ∈ q) → u.count false < fuel →
  ∃ (r : List Nat) (u' : List Bool), Ie I L r ∧ i ∈ r ∧ (∀ a ∈ r, ∀ r' ∈ rs, a ∉ r') ∧ (∀ a ∈ r, a < L.length) ∧ u'.length = L.length ∧ (∀ a, u'[a]? = some true ↔ (∃ r' ∈ rs, a ∈ r') ∨ a ∈ r) ∧ r.length ≤ L.length ∧
   iG (L.map toS) m out k (toS (fT L i)) fuel u (q.map fun a => toS (fT L a)) (b : Int) = iH out k u' (r.map fun a => toS (fT L a))
 | 0, _, _, u, _, _, _, _, _, _, _, _, _, hf => absurd hf (Nat.not_lt_zero _)
 | fuel + 1, q, b, u, t, ht, hcn, hnd, hfree, hbl, hql, hu, huse, hf => by
  have hlast : t.getLastD i = b := by
   have e1 : (q ++ [b]).getLastD 0 = b := by simp
   rw [ht] at e1
   have e2 : (i :: t).getLastD 0 = t.getLastD i := by cases t <;> rfl
   rw [← e2, e1]
  have hbm : b ∈ i :: t := by rw [← ht]; simp
  have him : i ∈ q ++ [b] := by rw [ht]; simp
  have hil : i < L.length := by
   rcases List.mem_append.1 him with h1 | h1
   ·exact hql i h1
   ·rw [List.mem_singleton.1 h1]; exact hbl
  have hbq : b ∉ q := by
   rw [← ht] at hnd
   intro hh
   exact (List.nodup_append.1 hnd).2.2 b hh b (by simp) rfl
  have hub : u[b]? = some false := not_true (by omega) fun hh => by
   rcases (huse b).1 hh with ⟨r, h1, h2⟩ | h1
   ·exact hfree b hbm r h1 h2
   ·exact hbq h1
  have hid : idx u (b : Int) = some false := by
   unfold idx
   rw [if_pos (by omega), Int.toNat_natCast, hub]
  have hset : sets u (b : Int) true = some (u.set b true) := by
   unfold sets
   rw [if_pos (by omega), Int.toNat_natCast]
  have huse' : ∀ a, (u.set b true)[a]? = some true ↔ (∃ r ∈ rs, a ∈ r) ∨ a ∈ q ++ [b] := fun a => by
   rw [List.getElem?_set]
   by_cases hab : b = a
   ·subst hab
    rw [if_pos rfl, if_pos (by omega)]
    simp
   ·rw [if_neg hab, huse a]
    have : a ∈ q ++ [b] ↔ a ∈ q := by simp; exact fun hh => absurd hh.symm hab
    rw [this]
  have hql' : ∀ a ∈ q ++ [b], a < L.length := fun a ha => by
   rcases List.mem_append.1 ha with h1 | h1
   ·exact hql a h1
   ·rw [List.mem_singleton.1 h1]; exact hbl
  have hqn : q.length ≤ L.length := yM (by rw [← ht] at hnd; exact (List.nodup_append.1 hnd).1) hql
  have hqn' : (q ++ [b]).length ≤ L.length := yM (by rw [ht]; exact hnd) hql'
  have hlen := hb.len
  rw [iG.eq_2, if_pos (by simp), hid, Option.bind_some, hset, Option.bind_some, S9 hbl, Option.bind_some, lU (by rw [List.length_map]; simp; omega), Option.bind_some, Option.bind_some]
  have hg : ∃ g, (if (gz (toS (fT L b)).to_ (toS (fT L i)).from_) then ((some (toS (fT L b))).bind fun U9 => (fC U9 (toS (fT L i)) m).bind fun U0 => some U0) else some false) = some g ∧ (g = true ↔ Nx I L b i) := by
   have e1 : gz (toS (fT L b)).to_ (toS (fT L i)).from_ = decide (qR (fT L b) = (fT L i).1.p) := Uu _ _
   rw [e1]
   by_cases hp : qR (fT L b) = (fT L i).1.p
   ·rw [if_pos (by simpa using hp)]
    obtain ⟨g, g1, g2⟩ := Gj h hb hm hbl hil hp.symm
    refine ⟨g, ?_, g2⟩
    rw [Option.bind_some, g1]; rfl
   ·rw [if_neg (by simpa using hp)]
    exact ⟨false, rfl, ⟨fun hh => (nomatch hh), fun hn => absurd (G8 h hn).symm hp⟩⟩
  obtain ⟨g, g1, g2⟩ := hg
  have hmapq : (q.map fun a => toS (fT L a)) ++ [toS (fT L b)] = (q ++ [b]).map fun a => toS (fT L a) := by simp
  rw [g1, Option.bind_some, hmapq]
  by_cases hgt : g = true
  ·rw [if_pos hgt]
   refine ⟨q ++ [b], u.set b true, ?_, him, fun a ha => hfree a (by rw [← ht]; exact ha), hql', by rw [List.length_set]; exact hu, huse', hqn', rfl⟩
   rw [ht]
   exact ⟨i, t, rfl, hcn, by rw [hlast]; exact g2.1 hgt, hnd⟩
  ·rw [if_neg hgt]
   obtain ⟨c, hc, hn⟩ := h.next hbl
   have hcr : ∀ r ∈ rs, c ∉ r := fun r hr hh => hfree b hbm r hr (M5 h (hrs r hr) hh hn)
   have hcq : c ∉ i :: t := fun hh => by
    rcases List.mem_cons.1 hh with rfl | hh
    ·exact hgt (g2.2 hn)
    ·obtain ⟨p, p1, p2, p3⟩ := HZ hcn hnd c hh
     rw [hlast] at p3
     exact p3 (h.SH p2 hn)
   have huc : (u.set b true)[c]? = some false := not_true (by rw [List.length_set]; omega) fun hh => by
    rcases (huse' c).1 hh with ⟨r, h1, h2⟩ | h1
    ·exact hcr r h1 h2
    ·rw [ht] at h1; exact hcq h1
   rw [Option.bind_some, Oy h hb hm hbl hn (by rw [List.length_set]; exact hu) huc, Option.bind_some]
   have hcnt := Gi hub
   exact IM h hb hm hrs hir out k fuel (q ++ [b]) c (u.set b true) (t ++ [c]) (by rw [ht]; rfl) (Mo hcn (by rw [hlast]; exact hn))
    (by rw [← List.cons_append]; exact List.nodup_append.2 ⟨hnd, by simp, fun x hx y hy => by rw [List.mem_singleton.1 hy]; exact fun e => hcq (e ▸ hx)⟩)
    (fun a ha r hr hh => by
     rw [← List.cons_append] at ha
     rcases List.mem_append.1 ha with h1 | h1
     ·exact hfree a h1 r hr hh
     ·rw [List.mem_singleton.1 h1] at hh; exact hcr r hr hh) hc hql' (by rw [List.length_set]; exact hu) huse' (by omega)
theorem Pb (h : nP I L) {r : List Nat} (hr : Ie I L r) : Dl L (fT L (r.getLastD 0)).1.d r ≠ [] := fun hh => by
 obtain ⟨B, hB⟩ := h.fin
 obtain ⟨e, e1, e2, _⟩ := uQ h hr
 obtain ⟨t, ht⟩ := e2.head hB e1
 unfold nN at ht
 rw [hh] at ht
 cases ht
def told (L : List Sd) (rs : List (List Nat)) : List (List au) := (rs.map (nN L)).map (List.map ig)
theorem EN (h : nP I L) (hb : Fv L) (hm : ∀ v, oQ m v = wB L v) {N : Nat} (hN : L.length < N) : ∀ (suf q : List Sd) (u : List Bool) (rs : List (List Nat)), L = q ++ suf → VA I L u rs → (∀ a, a < q.length → ∃ r ∈ rs, a ∈ r) → rs.length ≤ q.length →
  ∃ rs', y7 I L rs' ∧ bQ N (L.map toS) m (suf.map toS) q.length u (told L rs) = DT (told L rs') dP
 | [], q, u, rs, hL, inv, hall, _ => by
  rw [List.append_nil] at hL
  subst hL
  refine ⟨rs, ⟨inv.row, hall, inv.once⟩, ?_⟩
  show bQ _ _ _ [] _ _ _ = _
  rw [bQ.eq_1]
  show (DT (told L rs) dP).bind some = _
  cases DT (told L rs) dP <;> rfl
 | s :: suf, q, u, rs, hL, inv, hall, hrs => by
  have hg : L[q.length]? = some s := by rw [hL]; simp
  have hil := (List.getElem?_eq_some_iff.1 hg).1
  have hlen := hb.len
  have hu := inv.len
  rw [List.map_cons, bQ.eq_2, Hq (l := u) (i := q.length) (by omega), Option.bind_some]
  by_cases hx : u[q.length] = true
  ·rw [if_pos hx]
   obtain ⟨rs', h1, h2⟩ := EN h hb hm hN suf (q ++ [s]) u rs (by rw [hL]; simp) inv (fun a ha => by
    rw [List.length_append, List.length_singleton] at ha
    rcases Nat.lt_or_ge a q.length with h3 | h3
    ·exact hall a h3
    ·have : a = q.length := by omega
     subst this
     exact (inv.use _).1 (by rw [List.getElem?_eq_getElem (by omega), hx])) (by simp; omega)
   rw [List.length_append] at h2
   exact ⟨rs', h1, h2⟩
  ·rw [if_neg hx]
   have hir : ∀ r ∈ rs, q.length ∉ r := fun r hr hh => by
    have := (inv.use q.length).2 ⟨r, hr, hh⟩
    rw [List.getElem?_eq_getElem (by omega)] at this
    exact hx (Option.some.inj this)
   have hcl : u.count false ≤ u.length := List.count_le_length
   obtain ⟨r, u', r1, r2, r3, r4, r5, r6, r7, r8⟩ := IM h hb hm inv.row hir (told L rs) (bQ N (L.map toS) m (suf.map toS) (q.length + 1)) N [] q.length u [] rfl trivial (by simp) (fun a ha r hr => by
    rw [List.mem_singleton.1 ha]; exact hir r hr) hil (fun a ha => (nomatch ha)) hu (fun a => by rw [inv.use a]; simp) (by omega)
   have e1 : fT L q.length = s := lJ hg
   rw [e1] at r8
   rw [List.map_nil] at r8
   rw [r8]
   unfold iH
   have hout : (rs.map (nN L)).map (List.map ig) ++ [(nN L r).map ig] = told L (rs ++ [r]) := by unfold told; simp
   rw [KM h hb r4 (by omega) (Pb h r1), Option.bind_some, lU (by unfold told; simp; omega), Option.bind_some]
   show ∃ rs', _ ∧ bQ N (L.map toS) m (suf.map toS) (q.length + 1) u' ((rs.map (nN L)).map (List.map ig) ++ [(nN L r).map ig]) = _
   rw [hout]
   obtain ⟨rs', h1, h2⟩ := EN h hb hm hN suf (q ++ [s]) u' (rs ++ [r]) (by rw [hL]; simp) ⟨r5, fun a => by
     rw [r6 a]
     constructor
     ·rintro (⟨r', g1, g2⟩ | g1)
      ·exact ⟨r', by simp [g1], g2⟩
      ·exact ⟨r, by simp, g1⟩
     ·rintro ⟨r', g1, g2⟩
      rcases List.mem_append.1 g1 with g1 | g1
      ·exact .inl ⟨r', g1, g2⟩
      ·rw [List.mem_singleton.1 g1] at g2; exact .inr g2, fun r' hr' => by
     rcases List.mem_append.1 hr' with g1 | g1
     ·exact inv.row r' g1
     ·rw [List.mem_singleton.1 g1]; exact r1, List.pairwise_append.2 ⟨inv.once, by simp, fun x hx y hy a ha hh => by
     rw [List.mem_singleton.1 hy] at hh
     exact r3 a hh x hx ha⟩⟩ (fun a ha => by
    rw [List.length_append, List.length_singleton] at ha
    rcases Nat.lt_or_ge a q.length with h3 | h3
    ·obtain ⟨r', g1, g2⟩ := hall a h3
     exact ⟨r', by simp [g1], g2⟩
    ·have : a = q.length := by omega
     subst this
     exact ⟨r, by simp, r2⟩) (by simp; omega)
   rw [List.length_append] at h2
   exact ⟨rs', h1, h2⟩
theorem Ti {l m : List (Int × Int)} {p q p1 q1 : Int × Int} {r s : List (Int × Int)} (hl : l = p :: p1 :: r) (hm : m = q :: q1 :: s) (hne : p = q → l = m) : dP (l.map ig) (m.map ig) = some (if pl p q then -1 else 1) := by
 subst hl; subst hm
 unfold dP
 have i0 : ∀ (a b : au) (t : List au), idx (a :: b :: t) 0 = some a := fun a b t => by unfold idx; simp
 have i1 : ∀ (a b : au) (t : List au), idx (a :: b :: t) 1 = some b := fun a b t => by unfold idx; simp
 simp only [List.map_cons, i0, i1, Option.bind_some, LK, Uu]
 by_cases h1 : pl p q
 ·simp [h1, gG]
 ·simp only [h1, decide_false, Bool.false_eq_true, if_false]
  by_cases h2 : p = q
  ·have h3 := hne h2
   simp only [List.cons.injEq] at h3
   obtain ⟨_, h4, _⟩ := h3
   subst h4
   simp [h2, pJ, gG]
  ·simp [h2, gG]
theorem Km {α β : Type} {f : α → β} : ∀ {l : List α}, l.Pairwise (fun a b => f a ≠ f b) → ∀ a ∈ l, ∀ b ∈ l, f a = f b → a = b
 | x :: l, h, a, ha, b, hb, e => by
  obtain ⟨h1, h2⟩ := List.pairwise_cons.1 h
  rcases List.mem_cons.1 ha with ea | ea
  ·rcases List.mem_cons.1 hb with eb | eb
   ·rw [ea, eb]
   ·rw [ea] at e; exact absurd e (h1 b eb)
  ·rcases List.mem_cons.1 hb with eb | eb
   ·rw [eb] at e; exact absurd e.symm (h1 a ea)
   ·exact Km h2 a ea b eb e
theorem NN {l : List (Int × Int)} (h : 4 ≤ l.length) : ∃ q r, l = l.headD (0, 0) :: q :: r := by
 match l, h with
 | p :: q :: r, _ => exact ⟨q, r, rfl⟩
theorem QI {β : Type} {c : β → β → Option Int} {x y : β} {k : Int} (h : c x y = some k) : FX c x y = decide (k < 0) := by unfold FX; rw [h]; rfl
theorem Qp {lo : List (List (Int × Int))} (hlen : lo.length ≤ 100000000) (h4 : ∀ l ∈ lo, 4 ≤ l.length) (hh : lo.Pairwise fun a b => a.headD (0, 0) ≠ b.headD (0, 0)) :
  ∃ ls : List (List (Int × Int)), ls.Perm lo ∧ (ls.Pairwise fun a b => pl (a.headD (0, 0)) (b.headD (0, 0))) ∧ DT (lo.map (List.map ig)) dP = some (ls.map (List.map ig)) := by
 have hc : ∀ a ∈ lo, ∀ b ∈ lo, dP (a.map ig) (b.map ig) = some (if pl (a.headD (0, 0)) (b.headD (0, 0)) then -1 else 1) := fun a ha b hb => by
  obtain ⟨q, r, e1⟩ := NN (h4 a ha)
  obtain ⟨q', r', e2⟩ := NN (h4 b hb)
  exact Ti e1 e2 (Km hh a ha b hb)
 have hlt : ∀ a ∈ lo, ∀ b ∈ lo, FX dP (a.map ig) (b.map ig) = decide (pl (a.headD (0, 0)) (b.headD (0, 0))) := fun a ha b hb => by
  rw [QI (hc a ha b hb)]
  by_cases hp : pl (a.headD (0, 0)) (b.headD (0, 0))
  ·rw [if_pos hp, decide_eq_true hp]; rfl
  ·rw [if_neg hp, decide_eq_false hp]; rfl
 have hmm : ∀ {x}, x ∈ lo.map (List.map ig) → ∃ a ∈ lo, a.map ig = x := fun hx => by
  obtain ⟨a, h1, h2⟩ := List.mem_map.1 hx; exact ⟨a, h1, h2⟩
 have hok : sS dP (lo.map (List.map ig)) := by
  refine ⟨by rw [List.length_map]; omega, fun x hx y hy => ?_, fun x hx => ?_, fun x hx y hy z hz g1 g2 => ?_, fun x hx y hy z hz g1 g2 => ?_⟩
  ·obtain ⟨a, ha, rfl⟩ := hmm hx
   obtain ⟨b, hb, rfl⟩ := hmm hy
   exact ⟨_, hc a ha b hb⟩
  ·obtain ⟨a, ha, rfl⟩ := hmm hx
   rw [hlt a ha a ha]
   exact decide_eq_false (pJ _)
  ·obtain ⟨a, ha, rfl⟩ := hmm hx
   obtain ⟨b, hb, rfl⟩ := hmm hy
   obtain ⟨c, hc', rfl⟩ := hmm hz
   rw [hlt a ha b hb] at g1
   rw [hlt b hb c hc'] at g2
   rw [hlt a ha c hc']
   exact decide_eq_true (Bf (of_decide_eq_true g1) (of_decide_eq_true g2))
  ·obtain ⟨a, ha, rfl⟩ := hmm hx
   obtain ⟨b, hb, rfl⟩ := hmm hy
   obtain ⟨c, hc', rfl⟩ := hmm hz
   rw [hlt a ha b hb] at g1
   rw [hlt b hb c hc'] at g2
   rw [hlt a ha c hc']
   have g1 := of_decide_eq_false g1
   have g2 := of_decide_eq_false g2
   refine decide_eq_false fun g3 => ?_
   rcases wM (b.headD (0, 0)) (c.headD (0, 0)) with h5 | h5 | h5
   ·exact g2 h5
   ·rw [← h5] at g3; exact g1 g3
   ·exact g1 (Bf g3 h5)
 have hap : Apart dP (lo.map (List.map ig)) := fun x hx y hy g1 g2 => by
  obtain ⟨a, ha, rfl⟩ := hmm hx
  obtain ⟨b, hb, rfl⟩ := hmm hy
  rw [hlt a ha b hb] at g1
  rw [hlt b hb a ha] at g2
  have g1 := of_decide_eq_false g1
  have g2 := of_decide_eq_false g2
  rcases wM (a.headD (0, 0)) (b.headD (0, 0)) with h5 | h5 | h5
  ·exact absurd h5 g1
  ·rw [Km hh a ha b hb h5]
  ·exact absurd h5 g2
 obtain ⟨r, hr⟩ := Qo hok hap
 obtain ⟨_, _, hp, hs⟩ := FC hr
 have hback : ∀ l : List (Int × Int), (l.map ig).map GZ = l := fun l => by rw [List.map_map]; exact List.map_id _
 have hforth : ∀ l : List au, (l.map GZ).map ig = l := fun l => by rw [List.map_map]; exact List.map_id _
 have hrr : (r.map (List.map GZ)).map (List.map ig) = r := by
  rw [List.map_map]
  have : (List.map ig ∘ List.map GZ) = id := funext hforth
  rw [this, List.map_id]
 have hperm : (r.map (List.map GZ)).Perm lo := by
  have := hp.map (List.map GZ)
  rw [List.map_map] at this
  have e : (List.map GZ ∘ List.map ig) = id := funext hback
  rwa [e, List.map_id] at this
 refine ⟨r.map (List.map GZ), hperm, ?_, by rw [hrr]; exact hr⟩
 rw [← hrr, List.pairwise_map] at hs
 have hd : (r.map (List.map GZ)).Pairwise fun a b => a.headD (0, 0) ≠ b.headD (0, 0) := hperm.symm.pairwise hh fun {a b} g e => g e.symm
 refine (hs.and hd).imp_of_mem fun {a b} ha hb ⟨g1, g2⟩ => ?_
 rw [hlt b (hperm.mem_iff.1 hb) a (hperm.mem_iff.1 ha)] at g1
 have g1 := of_decide_eq_false g1
 rcases wM (a.headD (0, 0)) (b.headD (0, 0)) with h5 | h5 | h5
 ·exact h5
 ·exact absurd h5 g2
 ·exact absurd h5 g1
theorem MS (h : nP I L) {rs : List (List Nat)} (hr : ∀ r ∈ rs, Ie I L r) : ∀ l ∈ rs.map (nN L), 4 ≤ l.length := fun l hl => by
 obtain ⟨B, hB⟩ := h.fin
 obtain ⟨r, h1, rfl⟩ := List.mem_map.1 hl
 obtain ⟨e, e1, ⟨n, e2, e3⟩, _⟩ := uQ h (hr r h1)
 rw [e3]
 exact (Ke hB e1 e2).len
theorem Oi (h : nP I L) {rs : List (List Nat)} (hr : y7 I L rs) : rs.length ≤ L.length := by
 have h1 : (rs.map fun r => r.headD 0).Nodup := by
  rw [List.Nodup, List.pairwise_map]
  refine List.Pairwise.imp_of_mem (R := fun r r' => ∀ a ∈ r, a ∉ r') (fun {r r'} h1 h2 hd he => ?_) hr.once
  obtain ⟨a, q, rfl, _⟩ := hr.row r h1
  obtain ⟨b, q', rfl, _⟩ := hr.row r' h2
  exact hd a (by simp) (by have : a = b := he; rw [this]; simp)
 have h2 := yM (n := L.length) h1 fun a ha => by
  obtain ⟨r, g1, rfl⟩ := List.mem_map.1 ha
  obtain ⟨b, q, rfl, _, hn, _⟩ := hr.row r g1
  exact hn.lt.2
 rwa [List.length_map] at h2
theorem Pe : ∀ {q : List Nat} {a : Nat}, Cn I L a q → ∀ p ∈ a :: q, p = q.getLastD a ∨ ∃ c ∈ q, Nx I L p c
 | [], a, _, p, hp => .inl (by simpa using hp)
 | b :: q, a, ⟨h1, h2⟩, p, hp => by
  rcases List.mem_cons.1 hp with rfl | hp
  ·exact .inr ⟨b, by simp, h1⟩
  ·have e : (b :: q).getLastD a = q.getLastD b := by cases q <;> rfl
   rw [e]
   rcases Pe h2 p hp with h3 | ⟨c, h3, h4⟩
   ·exact .inl h3
   ·exact .inr ⟨c, by simp [h3], h4⟩
theorem Kh (r : List Nat) : (nN L r).length ≤ r.length := by
 unfold nN lr
 have h1 := Dk L r (fT L (r.getLastD 0)).1.d
 rw [List.length_append, List.length_drop, List.length_take]
 omega
theorem Oh (h : nP I L) {rs : List (List Nat)} (hr : y7 I L rs) : (rs.map (nN L)).flatten.length ≤ L.length := by
 have h1 : rs.flatten.Nodup := by
  rw [List.Nodup, List.pairwise_flatten]
  refine ⟨fun r hrm => ?_, hr.once.imp (fun {r r'} (hd : ∀ a ∈ r, a ∉ r') x hx y hy (e : x = y) => hd x hx (by rw [e]; exact hy))⟩
  obtain ⟨a, q, rfl, _, _, hn⟩ := hr.row r hrm
  exact hn
 have h2 := yM (n := L.length) h1 fun a ha => by
  obtain ⟨r, hrm, har⟩ := List.mem_flatten.1 ha
  obtain ⟨i, q, rfl, hc, hn, _⟩ := hr.row r hrm
  rcases Pe hc a har with e | ⟨c, _, hx⟩
  ·rw [e]; exact hn.lt.1
  ·exact hx.lt.1
 have h3 : ∀ rs : List (List Nat), (rs.map (nN L)).flatten.length ≤ rs.flatten.length := by
  intro rs
  induction rs with
  | nil => exact Nat.le_refl _
  | cons r rs ih =>
   have := Kh (L := L) r
   rw [List.map_cons, List.flatten_cons, List.flatten_cons, List.length_append, List.length_append]
   omega
 exact Nat.le_trans (h3 rs) h2
theorem KU (h : nP I L) (hb : Fv L) {N : Nat} (hN : L.length < N) : ∃ ls, yl I ls ∧ ls.length ≤ L.length ∧ ls.flatten.length ≤ L.length ∧ eu N (L.map toS) (L.map toS) 0 [] = some (ls.map (List.map ig)) := by
 obtain ⟨m', h1, h2⟩ := I9 hb N L [] [] rfl (fun v => by simp [oQ])
 have hlen := hb.len
 rw [List.length_nil] at h2
 rw [h2]
 have hmk : (TC false ((L.map toS).length : Int)) = some (List.replicate L.length false) := by
  unfold TC
  rw [if_pos (by simp; omega)]
  simp
 rw [hmk, Option.bind_some]
 obtain ⟨rs, r1, r2⟩ := EN h hb h1 hN L [] (List.replicate L.length false) [] rfl ⟨by simp, fun a => by simp [List.getElem?_replicate], fun r hr => (nomatch hr), .nil⟩ (fun a ha => (nomatch ha)) (Nat.le_refl _)
 rw [List.length_nil] at r2
 have e0 : told L [] = [] := rfl
 rw [e0] at r2
 rw [r2]
 have hrl := Oi h r1
 obtain ⟨ls, l1, l2, l3⟩ := Qp (lo := rs.map (nN L)) (by rw [List.length_map]; omega) (MS h r1.row) (r1.heads h)
 exact ⟨ls, r1.outs h l1 l2, by rw [l1.length_eq, List.length_map]; exact hrl, by rw [l1.flatten.length_eq]; exact Oh h r1, l3⟩
end
theorem Ju (zs : List Int) (x : Int) : x ∈ Lib.compact zs ↔ x ∈ zs := by
 unfold Lib.compact Lib.compactUpTo
 constructor
 ·intro h
  obtain ⟨j, hj, rfl⟩ := List.mem_map.1 h
  have hj := List.mem_range.1 (List.mem_filter.1 hj).1
  show zs.toArray[j]! ∈ zs
  rw [getElem!_pos zs.toArray j (by simpa using hj)]
  simp
 ·intro h
  have key : ∀ (j : Nat), (hj : j < zs.length) → ∃ i, i < zs.length ∧ Lib.keeps zs.toArray i = true ∧ zs.toArray[i]! = zs[j] := by
   intro j
   induction j with
   | zero => intro hj; exact ⟨0, hj, Lib.keeps_lt_one _ 0 (by omega), by rw [getElem!_pos zs.toArray 0 (by simpa using hj)]; simp⟩
   | succ j ih =>
    intro hj
    by_cases hk : Lib.keeps zs.toArray (j + 1) = true
    ·exact ⟨j + 1, hj, hk, by rw [getElem!_pos zs.toArray (j + 1) (by simpa using hj)]; simp⟩
    ·have he : zs.toArray[j + 1]! = zs.toArray[j]! := by
      unfold Lib.keeps at hk
      simp at hk
      simpa using hk
     rw [getElem!_pos zs.toArray (j + 1) (by simpa using hj), getElem!_pos zs.toArray j (by simp; omega)] at he
     simp at he
     obtain ⟨i, h1, h2, h3⟩ := ih (by omega)
     exact ⟨i, h1, h2, by rw [h3, he]⟩
  obtain ⟨j, hj, rfl⟩ := List.mem_iff_getElem.1 h
  obtain ⟨i, h1, h2, h3⟩ := key j hj
  exact List.mem_map.2 ⟨i, List.mem_filter.2 ⟨List.mem_range.2 h1, h2⟩, h3⟩
theorem EJ {zs : List Int} (h : zs.Pairwise fun x y => x ≤ y) : (Lib.compact zs).Pairwise fun x y => x < y := by
 unfold Lib.compact Lib.compactUpTo
 rw [List.pairwise_map]
 have hr : ((List.range zs.length).filter (Lib.keeps zs.toArray)).Pairwise (fun i j => i < j) := (List.pairwise_lt_range).filter _
 refine List.Pairwise.imp_of_mem (fun {i j} hi hj hij => ?_) hr
 have hj1 := List.mem_range.1 (List.mem_filter.1 hj).1
 have hj2 := (List.mem_filter.1 hj).2
 show zs.toArray[i]! < zs.toArray[j]!
 unfold Lib.keeps at hj2
 simp at hj2
 have hne : zs.toArray[j]! ≠ zs.toArray[j - 1]! := by
  rcases hj2 with h0 | h0
  ·omega
  ·simpa using h0
 rw [getElem!_pos zs.toArray j (by simpa using hj1), getElem!_pos zs.toArray (j - 1) (by simp; omega)] at hne
 rw [getElem!_pos zs.toArray j (by simpa using hj1), getElem!_pos zs.toArray i (by simp; omega)]
 simp at hne ⊢
 rw [List.pairwise_iff_getElem] at h
 have a1 : zs[j - 1] ≤ zs[j] := h (j - 1) j (by omega) hj1 (by omega)
 have a2 : zs[i] ≤ zs[j - 1] := by
  rcases Nat.lt_or_eq_of_le (show i ≤ j - 1 by omega) with hlt | heq
  ·exact h i (j - 1) (by omega) (by omega) hlt
  ·subst heq; exact Int.le_refl _
 omega
def wz (l : List Int) : List Int := Lib.compact (l.mergeSort fun x y => decide (x ≤ y))
theorem tJ (l : List Int) (x : Int) : x ∈ wz l ↔ x ∈ l := by
 unfold wz
 rw [Ju]
 exact (List.mergeSort_perm l _).mem_iff
theorem rD (l : List Int) : (wz l).Pairwise fun x y => x < y := by
 unfold wz
 refine EJ ?_
 have := List.pairwise_mergeSort (le := fun x y : Int => decide (x ≤ y)) (fun a b c h1 h2 => by simp at *; omega) (fun a b => by simp; omega) l
 exact this.imp (by simp)
theorem Lf {l : List Int} (h : l.length < 4611686018427387904) : ((Iz l).bind fun y => TD y) = some (wz l) := by
 unfold Iz TD wz
 rw [if_pos h]; rfl
theorem GH {l : List Int} (h : l.length < 4611686018427387904) : Iz l = some (l.mergeSort fun x y => decide (x ≤ y)) := if_pos h
def Can : Int → List (Int × Int) → Prop
 | _, [] => True
 | lo, p :: l => lo < p.1 ∧ p.1 < p.2 ∧ Can p.2 l
def lL (x : Int) (l : List (Int × Int)) : Prop := ∃ p ∈ l, p.1 ≤ x ∧ x < p.2
theorem jL {x : Int} {p : Int × Int} {l : List (Int × Int)} : lL x (p :: l) ↔ (p.1 ≤ x ∧ x < p.2) ∨ lL x l := by unfold lL; simp
theorem gI {x : Int} : ¬ lL x [] := by unfold lL; simp
theorem oL {x : Int} {l m : List (Int × Int)} : lL x (l ++ m) ↔ lL x l ∨ lL x m := by
 unfold lL
 constructor
 ·rintro ⟨p, hp, h⟩
  rcases List.mem_append.1 hp with hp | hp
  ·exact .inl ⟨p, hp, h⟩
  ·exact .inr ⟨p, hp, h⟩
 ·rintro (⟨p, hp, h⟩ | ⟨p, hp, h⟩)
  ·exact ⟨p, List.mem_append_left _ hp, h⟩
  ·exact ⟨p, List.mem_append_right _ hp, h⟩
theorem Can.lt : ∀ {l : List (Int × Int)} {lo x : Int}, Can lo l → lL x l → lo < x
 | [], _, _, _, h => absurd h gI
 | p :: l, lo, x, h, hx => by
  obtain ⟨h1, h2, h3⟩ := h
  rcases jL.1 hx with hx | hx
  ·omega
  ·have := h3.lt hx; omega
theorem Can.mono {l : List (Int × Int)} {lo lo' : Int} (h : Can lo l) (hl : lo' ≤ lo) : Can lo' l := by
 cases l with
 | nil => trivial
 | cons p l => exact ⟨by have := h.1; omega, h.2⟩
theorem Can.uniq : ∀ {l m : List (Int × Int)} {lo lo' : Int}, Can lo l → Can lo' m → (∀ x, lL x l ↔ lL x m) → l = m
 | [], [], _, _, _, _, _ => rfl
 | [], p :: m, _, _, _, h2, h => absurd ((h p.1).2 (jL.2 (.inl ⟨Int.le_refl _, h2.2.1⟩))) gI
 | p :: l, [], _, _, h1, _, h => absurd ((h p.1).1 (jL.2 (.inl ⟨Int.le_refl _, h1.2.1⟩))) gI
 | p :: l, q :: m, lo, lo', h1, h2, h => by
  obtain ⟨a1, a2, a3⟩ := h1
  obtain ⟨b1, b2, b3⟩ := h2
  have c1 : q.1 ≤ p.1 := by
   rcases jL.1 ((h p.1).1 (jL.2 (.inl ⟨Int.le_refl _, a2⟩))) with hx | hx
   ·exact hx.1
   ·have := b3.lt hx; omega
  have c2 : p.1 ≤ q.1 := by
   rcases jL.1 ((h q.1).2 (jL.2 (.inl ⟨Int.le_refl _, b2⟩))) with hx | hx
   ·exact hx.1
   ·have := a3.lt hx; omega
  have c3 : ¬ p.2 < q.2 := fun hlt => by
   rcases jL.1 ((h p.2).2 (jL.2 (.inl ⟨by omega, hlt⟩))) with hx | hx
   ·omega
   ·have := a3.lt hx; omega
  have c4 : ¬ q.2 < p.2 := fun hlt => by
   rcases jL.1 ((h q.2).1 (jL.2 (.inl ⟨by omega, hlt⟩))) with hx | hx
   ·omega
   ·have := b3.lt hx; omega
  have hpq : p = q := by obtain ⟨a, b⟩ := p; obtain ⟨c, d⟩ := q; simp only at *; congr 1 <;> omega
  subst hpq
  have hlm : l = m := a3.uniq b3 fun x => by
   constructor
   ·intro hx
    have hlt := a3.lt hx
    rcases jL.1 ((h x).1 (jL.2 (.inr hx))) with h' | h'
    ·omega
    ·exact h'
   ·intro hx
    have hlt := b3.lt hx
    rcases jL.1 ((h x).2 (jL.2 (.inr hx))) with h' | h'
    ·omega
    ·exact h'
  rw [hlm]
theorem Can.snoc : ∀ {l : List (Int × Int)} {lo : Int} {p : Int × Int}, Can lo l → (∀ q ∈ l, q.2 < p.1) → lo < p.1 → p.1 < p.2 → Can lo (l ++ [p])
 | [], _, _, _, _, h1, h2 => ⟨h1, h2, trivial⟩
 | q :: l, lo, p, h, hq, h1, h2 => ⟨h.1, h.2.1, h.2.2.snoc (fun r hr => hq r (by simp [hr])) (hq q (by simp)) h2⟩
theorem Can.init : ∀ {l : List (Int × Int)} {lo : Int} {p : Int × Int}, Can lo (l ++ [p]) → Can lo l ∧ (∀ q ∈ l, q.2 < p.1) ∧ lo < p.1 ∧ p.1 < p.2
 | [], _, _, h => ⟨trivial, by simp, h.1, h.2.1⟩
 | q :: l, lo, p, h => by
  obtain ⟨i1, i2, i3, i4⟩ := Can.init (l := l) h.2.2
  have := h.1; have := h.2.1
  refine ⟨⟨h.1, h.2.1, i1⟩, fun r hr => ?_, by omega, i4⟩
  rcases List.mem_cons.1 hr with rfl | hr
  ·exact i3
  ·exact i2 r hr
def dm (l : List (Int × Int)) : List Int := l.flatMap fun p => [p.1, p.2]
theorem uT : dm [] = [] := rfl
theorem mJ (p : Int × Int) (l : List (Int × Int)) : dm (p :: l) = p.1 :: p.2 :: dm l := rfl
theorem oJ (l m : List (Int × Int)) : dm (l ++ m) = dm l ++ dm m := by unfold dm; rw [List.flatMap_append]
theorem gK : ∀ l : List (Int × Int), (dm l).length = 2 * l.length
 | [] => rfl
 | p :: l => by rw [mJ, List.length_cons, List.length_cons, gK l, List.length_cons]; omega
theorem Ga : ∀ {l m : List (Int × Int)}, dm l = dm m → l = m
 | [], [], _ => rfl
 | [], q :: m, h => by rw [uT, mJ] at h; cases h
 | p :: l, [], h => by rw [uT, mJ] at h; cases h
 | p :: l, q :: m, h => by
  rw [mJ, mJ] at h
  injection h with h1 h
  injection h with h2 h
  rw [Ga h]
  congr 1
  obtain ⟨a, b⟩ := p; obtain ⟨c, d⟩ := q
  simp only at h1 h2
  rw [h1, h2]
def EF (l : List (Int × Int)) (p : Int × Int) : List (Int × Int) :=
 match l.getLast? with
 | none => [p]
 | some q => if p.1 ≤ q.2 then l.dropLast ++ [(q.1, max q.2 p.2)] else l ++ [p]
theorem Jo (p : Int × Int) : EF [] p = [p] := rfl
theorem Gb (l : List (Int × Int)) (q p : Int × Int) : EF (l ++ [q]) p = if p.1 ≤ q.2 then l ++ [(q.1, max q.2 p.2)] else l ++ [q] ++ [p] := by
 unfold EF
 simp
theorem QY {lo : Int} {l done : List (Int × Int)} {p : Int × Int} (hc : Can lo l) (hm : ∀ x, lL x l ↔ lL x done) (hlast : ∀ q ∈ l, q.1 ≤ p.1) (hlo : lo < p.1) (hp : p.1 < p.2) :
  Can lo (EF l p) ∧ (∀ x, lL x (EF l p) ↔ lL x (done ++ [p])) ∧ ∀ q ∈ EF l p, q.1 ≤ p.1 := by
 have hsplit : l = [] ∨ ∃ i q, l = i ++ [q] := by
  rcases List.eq_nil_or_concat l with h | ⟨i, q, h⟩
  ·exact .inl h
  ·exact .inr ⟨i, q, by simpa using h⟩
 rcases hsplit with rfl | ⟨i, q, rfl⟩
 ·rw [Jo]
  refine ⟨⟨hlo, hp, trivial⟩, fun x => ?_, by simp⟩
  rw [oL, ← hm x]
  exact ⟨fun h => .inr h, fun h => h.resolve_left gI⟩
 ·obtain ⟨c1, c2, c3, c4⟩ := hc.init
  have hq := hlast q (by simp)
  rw [Gb]
  by_cases hle : p.1 ≤ q.2
  ·rw [if_pos hle]
   refine ⟨c1.snoc (p := (q.1, max q.2 p.2)) c2 c3 (by show q.1 < max q.2 p.2; omega), fun x => ?_, fun r hr => ?_⟩
   ·rw [oL, oL (l := done), ← hm x, oL]
    have e1 : lL x [(q.1, max q.2 p.2)] ↔ (q.1 ≤ x ∧ x < max q.2 p.2) := by unfold lL; simp
    have e2 : lL x [q] ↔ (q.1 ≤ x ∧ x < q.2) := by unfold lL; simp
    have e3 : lL x [p] ↔ (p.1 ≤ x ∧ x < p.2) := by unfold lL; simp
    rw [e1, e2, e3]
    constructor
    ·rintro (h | h)
     ·exact .inl (.inl h)
     ·by_cases hx : x < q.2
      ·exact .inl (.inr ⟨h.1, hx⟩)
      ·exact .inr ⟨by omega, by omega⟩
    ·rintro ((h | h) | h)
     ·exact .inl h
     ·exact .inr ⟨h.1, by omega⟩
     ·exact .inr ⟨by omega, by omega⟩
   ·rcases List.mem_append.1 hr with hr | hr
    ·have := c2 r hr; exact hlast r (by simp [hr])
    ·simp at hr; subst hr; exact hq
  ·rw [if_neg hle]
   refine ⟨hc.snoc (fun r hr => ?_) hlo hp, fun x => ?_, fun r hr => ?_⟩
   ·rcases List.mem_append.1 hr with hr | hr
    ·have := c2 r hr; omega
    ·simp at hr; subst hr; omega
   ·rw [oL, oL (l := done), hm x]
   ·rcases List.mem_append.1 hr with hr | hr
    ·exact hlast r hr
    ·simp at hr; subst hr; exact Int.le_refl _
theorem Mf {lo : Int} : ∀ (suf : List (Int × Int)) (l done : List (Int × Int)), Can lo l → (∀ x, lL x l ↔ lL x done) → (∀ p ∈ suf, ∀ q ∈ l, q.1 ≤ p.1) → suf.Pairwise (fun p q => p.1 ≤ q.1) → (∀ p ∈ suf, lo < p.1 ∧ p.1 < p.2) →
  Can lo (suf.foldl EF l) ∧ ∀ x, lL x (suf.foldl EF l) ↔ lL x (done ++ suf)
 | [], l, done, h1, h2, _, _, _ => ⟨h1, by simpa using h2⟩
 | p :: suf, l, done, h1, h2, h3, h4, h5 => by
  obtain ⟨s1, s2, s3⟩ := QY h1 h2 (h3 p (by simp)) (h5 p (by simp)).1 (h5 p (by simp)).2
  rw [List.pairwise_cons] at h4
  have := Mf suf (EF l p) (done ++ [p]) s1 s2 (fun r hr q hq => Int.le_trans (s3 q hq) (h4.1 r hr)) h4.2 (fun r hr => h5 r (by simp [hr]))
  simpa using this
def xJ : Int → Int → List (Int × Int) → List (Int × Int)
 | a, b, [] => [(a, b)]
 | a, b, q :: l => if q.1 ≤ b then xJ (min a q.1) (max b q.2) l else (a, b) :: q :: l
def wP : List (Int × Int) → Int × Int → List (Int × Int)
 | [], p => [p]
 | q :: l, p => if q.2 < p.1 then q :: wP l p else xJ p.1 p.2 (q :: l)
theorem F4 : ∀ {l : List (Int × Int)} {lo a b : Int}, lo < a → a < b → (∀ q ∈ l, lo < q.1) → (∀ q ∈ l, a ≤ q.2) → (∃ lo', Can lo' l) → Can lo (xJ a b l) ∧ ∀ x, lL x (xJ a b l) ↔ (a ≤ x ∧ x < b) ∨ lL x l
 | [], lo, a, b, h1, h2, _, _, _ => ⟨⟨h1, h2, trivial⟩, fun x => by unfold xJ; rw [jL]⟩
 | q :: l, lo, a, b, h1, h2, h3, h5, ⟨lo', h4⟩ => by
  have hq := h3 q (by simp)
  have hov := h5 q (by simp)
  have hq2 := h4.2.1
  unfold xJ
  by_cases hle : q.1 ≤ b
  ·rw [if_pos hle]
   obtain ⟨i1, i2⟩ := F4 (l := l) (lo := lo) (a := min a q.1) (b := max b q.2) (by omega) (by omega) (fun r hr => h3 r (by simp [hr])) (fun r hr => by have := h5 r (by simp [hr]); omega) ⟨q.2, h4.2.2⟩
   refine ⟨i1, fun x => ?_⟩
   rw [i2, jL]
   constructor
   ·rintro (h | h)
    ·by_cases h' : a ≤ x ∧ x < b
     ·exact .inl h'
     ·exact .inr (.inl ⟨by omega, by omega⟩)
    ·exact .inr (.inr h)
   ·rintro (h | h | h)
    ·exact .inl ⟨by omega, by omega⟩
    ·exact .inl ⟨by omega, by omega⟩
    ·exact .inr h
  ·rw [if_neg hle]
   refine ⟨⟨h1, h2, by omega, hq2, h4.2.2⟩, fun x => ?_⟩
   rw [jL]
theorem Can.mem : ∀ {l : List (Int × Int)} {lo : Int}, Can lo l → ∀ q ∈ l, lo < q.1 ∧ q.1 < q.2
 | [], _, _, q, h => by simp at h
 | p :: l, lo, h, q, hq => by
  rcases List.mem_cons.1 hq with rfl | hq
  ·exact ⟨h.1, h.2.1⟩
  ·have := h.2.2.mem q hq
   have := h.1; have := h.2.1
   omega
theorem Jd : ∀ {l : List (Int × Int)} {lo : Int} {p : Int × Int}, Can lo l → lo < p.1 → p.1 < p.2 → Can lo (wP l p) ∧ ∀ x, lL x (wP l p) ↔ lL x (l ++ [p])
 | [], lo, p, _, h1, h2 => ⟨⟨h1, h2, trivial⟩, fun x => Iff.rfl⟩
 | q :: l, lo, p, h, h1, h2 => by
  unfold wP
  by_cases hlt : q.2 < p.1
  ·rw [if_pos hlt]
   obtain ⟨i1, i2⟩ := Jd (l := l) (lo := q.2) (p := p) h.2.2 hlt h2
   refine ⟨⟨h.1, h.2.1, i1⟩, fun x => ?_⟩
   rw [jL, i2, List.cons_append, jL]
  ·rw [if_neg hlt]
   obtain ⟨i1, i2⟩ := F4 (l := q :: l) (lo := lo) (a := p.1) (b := p.2) h1 h2 (fun r hr => (h.mem r hr).1) (fun r hr => by
    rcases List.mem_cons.1 hr with rfl | hr
    ·omega
    ·have := h.2.2.mem r hr; omega) ⟨lo, h⟩
   refine ⟨i1, fun x => ?_⟩
   rw [i2, oL]
   have e : lL x [p] ↔ (p.1 ≤ x ∧ x < p.2) := by unfold lL; simp
   rw [e]
   exact or_comm
theorem Jc {lo : Int} : ∀ (suf : List (Int × Int)) (l done : List (Int × Int)), Can lo l → (∀ x, lL x l ↔ lL x done) → (∀ p ∈ suf, lo < p.1 ∧ p.1 < p.2) →
  Can lo (suf.foldl wP l) ∧ ∀ x, lL x (suf.foldl wP l) ↔ lL x (done ++ suf)
 | [], l, done, h1, h2, _ => ⟨h1, by simpa using h2⟩
 | p :: suf, l, done, h1, h2, h5 => by
  obtain ⟨s1, s2⟩ := Jd h1 (h5 p (by simp)).1 (h5 p (by simp)).2
  have := Jc suf (wP l p) (done ++ [p]) s1 (fun x => by rw [s2, oL, oL, h2]) (fun r hr => h5 r (by simp [hr]))
  simpa using this
def zM (l : List (Int × Int)) : List (Int × Int) := l.foldl wP []
theorem Di {lo : Int} {l : List (Int × Int)} (h : ∀ p ∈ l, lo < p.1 ∧ p.1 < p.2) : Can lo (zM l) ∧ ∀ x, lL x (zM l) ↔ lL x l := by
 have := Jc l [] [] (lo := lo) trivial (fun x => Iff.rfl) h
 rw [List.nil_append] at this
 exact this
theorem QX {lo : Int} {l m : List (Int × Int)} (hp : m.Perm l) (hs : m.Pairwise (fun p q => p.1 ≤ q.1)) (h : ∀ p ∈ l, lo < p.1 ∧ p.1 < p.2) : m.foldl EF [] = zM l := by
 obtain ⟨a1, a2⟩ := Mf m [] [] (lo := lo) trivial (fun x => Iff.rfl) (by simp) hs (fun p hq => h p (hp.subset hq))
 obtain ⟨b1, b2⟩ := Di h
 refine a1.uniq b1 fun x => ?_
 rw [a2, b2, List.nil_append]
 unfold lL
 constructor
 ·rintro ⟨p, hq, h⟩; exact ⟨p, hp.subset hq, h⟩
 ·rintro ⟨p, hq, h⟩; exact ⟨p, hp.symm.subset hq, h⟩
theorem KL {lo : Int} {l m : List (Int × Int)} (hl : ∀ p ∈ l, lo < p.1 ∧ p.1 < p.2) (hm : ∀ p ∈ m, lo < p.1 ∧ p.1 < p.2) (h : ∀ x, lL x l ↔ lL x m) : zM l = zM m := by
 obtain ⟨a1, a2⟩ := Di hl
 obtain ⟨b1, b2⟩ := Di hm
 exact a1.uniq b1 fun x => by rw [a2, b2, h]
theorem Eo : ∀ (l : List (Int × Int)) (a b : Int), (xJ a b l).length ≤ l.length + 1
 | [], _, _ => by simp [xJ]
 | q :: l, a, b => by
  unfold xJ
  split
  ·have := Eo l (min a q.1) (max b q.2); simp; omega
  ·simp
theorem F5 : ∀ (l : List (Int × Int)) (p : Int × Int), (wP l p).length ≤ l.length + 1
 | [], _ => by simp [wP]
 | q :: l, p => by
  unfold wP
  split
  ·have := F5 l p; simp; omega
  ·exact Eo _ _ _
theorem Jt : ∀ (l m : List (Int × Int)), (l.foldl wP m).length ≤ m.length + l.length
 | [], m => by simp
 | p :: l, m => by
  have := Jt l (wP m p); have := F5 m p
  rw [List.foldl_cons, List.length_cons]; omega
end Go.Proofs.YtcjeebkoafonpaaGreatDoor
