/- Rules of the walks, or plain laws about the plain functions. Conditions: none beyond each theorem's own. -/
import Derived.Test.YtcjeebkoafonpaaGreatDoorJ2
import Derived.Test.YtcjeebkoafonpaaGreatDoorXF
import Derived.Lib.ItoaLen
namespace Go.Proofs.YtcjeebkoafonpaaGreatDoor.ST
variable {α : Type} (K : α → Int)
def SR (l : List α) (a b : Nat) : Prop := ∀ i j x y, a ≤ i → i ≤ j → j < b → l[i]? = some x → l[j]? = some y → K x ≤ K y
structure Mg (l l' : List α) (a b : Nat) : Prop where
 len : l'.length = l.length
 out : ∀ k, k < a ∨ b ≤ k → l'[k]? = l[k]?
 inn : ∀ k, a ≤ k → k < b → ∃ j, a ≤ j ∧ j < b ∧ l'[k]? = l[j]?
 eqv : ∀ v : Int, l'.filter (fun x => decide (K x = v)) = l.filter (fun x => decide (K x = v))
variable {K}
theorem Mg.rfl {l : List α} {a b : Nat} : Mg K l l a b := ⟨by rfl, fun _ _ => by rfl, fun k h h2 => ⟨k, h, h2, by rfl⟩, fun _ => by rfl⟩
theorem Mg.trans {l l' l'' : List α} {a b : Nat} (h : Mg K l l' a b) (h2 : Mg K l' l'' a b) : Mg K l l'' a b :=
 ⟨h2.len.trans h.len, fun k hk => (h2.out k hk).trans (h.out k hk), fun k ha hb => by
  obtain ⟨j, hj, hj2, he⟩ := h2.inn k ha hb
  obtain ⟨i, hi, hi2, he2⟩ := h.inn j hj hj2
  exact ⟨i, hi, hi2, he.trans he2⟩, fun v => (h2.eqv v).trans (h.eqv v)⟩
theorem Mg.mono {l l' : List α} {a b c d : Nat} (h : Mg K l l' a b) (hc : c ≤ a) (hd : b ≤ d) : Mg K l l' c d :=
 ⟨h.len, fun k hk => h.out k (by omega), fun k hk hk2 => by
  by_cases h1 : a ≤ k ∧ k < b
  ·obtain ⟨j, hj, hj2, he⟩ := h.inn k h1.1 h1.2
   exact ⟨j, by omega, by omega, he⟩
  ·exact ⟨k, hk, hk2, h.out k (by omega)⟩, h.eqv⟩
theorem SR.xX {l l' : List α} {a b c d : Nat} (h : Mg K l l' a b) (hs : SR K l c d) (hd : d ≤ a ∨ b ≤ c) : SR K l' c d := by
 intro i j x y hi hij hj hx hy
 rw [h.out i (by omega)] at hx
 rw [h.out j (by omega)] at hy
 exact hs i j x y hi hij hj hx hy
theorem SR.sub {l : List α} {a b c d : Nat} (hs : SR K l a b) (hc : a ≤ c) (hd : d ≤ b) : SR K l c d :=
 fun i j x y hi hij hj => hs i j x y (by omega) hij (by omega)
theorem SR.one {l : List α} {a b : Nat} (h : b ≤ a + 1) : SR K l a b := by
 intro i j x y hi hij hj hx hy
 have : i = j := by omega
 subst this
 rw [hx] at hy
 cases hy
 exact Int.le_refl _
theorem SR.join {l : List α} {a m b : Nat} (h1 : SR K l a m) (h2 : SR K l m b) (h : ∀ i j x y, a ≤ i → i < m → m ≤ j → j < b → l[i]? = some x → l[j]? = some y → K x ≤ K y) : SR K l a b := by
 intro i j x y hi hij hj hx hy
 by_cases hjm : j < m
 ·exact h1 i j x y hi hij hjm hx hy
 ·by_cases him : i < m
  ·exact h i j x y hi him (by omega) hj hx hy
  ·exact h2 i j x y (by omega) hij hj hx hy
theorem between {l l' l'' : List α} {a m b : Nat} (h1 : Mg K l l' a m) (h2 : Mg K l' l'' m b) (h : ∀ i j x y, a ≤ i → i < m → m ≤ j → j < b → l[i]? = some x → l[j]? = some y → K x ≤ K y) :
  ∀ i j x y, a ≤ i → i < m → m ≤ j → j < b → l''[i]? = some x → l''[j]? = some y → K x ≤ K y := by
 intro i j x y hi him hj hjb hx hy
 rw [h2.out i (by omega)] at hx
 obtain ⟨i', ha, hb, he⟩ := h1.inn i hi him
 obtain ⟨j', ha', hb', he'⟩ := h2.inn j hj hjb
 rw [he] at hx
 rw [he', h1.out j' (by omega)] at hy
 exact h i' j' x y ha hb ha' hb' hx hy
theorem CJ {U V : List α} (h : ∀ x ∈ U, ∀ y ∈ V, K y ≠ K x) (v : Int) : (U ++ V).filter (fun x => decide (K x = v)) = (V ++ U).filter (fun x => decide (K x = v)) := by
 rw [List.filter_append, List.filter_append]
 by_cases hU : U.filter (fun x => decide (K x = v)) = []
 ·rw [hU]; simp
 ·have hV : V.filter (fun x => decide (K x = v)) = [] := by
   rw [List.filter_eq_nil_iff]
   intro y hy hv
   obtain ⟨x, hx⟩ := List.exists_mem_of_ne_nil _ hU
   rw [List.mem_filter] at hx
   have e1 := of_decide_eq_true hv
   have e2 := of_decide_eq_true hx.2
   exact h x hx.1 y hy (e1.trans e2.symm)
  rw [hV]; simp
theorem MC (l : List α) {a m b : Nat} (ham : a ≤ m) (hmb : m ≤ b) (hb : b ≤ l.length) : l = l.take a ++ ((l.drop a).take (m - a) ++ (l.drop m).take (b - m)) ++ l.drop b := by
 have e1 : l.drop a = (l.drop a).take (m - a) ++ l.drop m := by
  conv => lhs; rw [← List.take_append_drop (m - a) (l.drop a)]
  rw [List.drop_drop, Nat.add_sub_cancel' ham]
 have e2 : l.drop m = (l.drop m).take (b - m) ++ l.drop b := by
  conv => lhs; rw [← List.take_append_drop (b - m) (l.drop m)]
  rw [List.drop_drop, Nat.add_sub_cancel' hmb]
 conv => lhs; rw [← List.take_append_drop a l, e1, e2]
 simp only [List.append_assoc]
def M3 (l l' : List α) (a m b : Nat) : Prop := l'.length = l.length ∧ ∀ k, l'[k]? = if a ≤ k ∧ k < a + (b - m) then l[k + (m - a)]? else if a + (b - m) ≤ k ∧ k < b then l[k - (b - m)]? else l[k]?
theorem M3.eq {l l' : List α} {a m b : Nat} (h : M3 l l' a m b) (ham : a ≤ m) (hmb : m ≤ b) (hb : b ≤ l.length) : l' = l.take a ++ ((l.drop m).take (b - m) ++ (l.drop a).take (m - a)) ++ l.drop b := by
 apply List.ext_getElem?
 intro k
 rw [h.2 k]
 have l1 : (l.take a).length = a := by rw [List.length_take]; omega
 have l2 : ((l.drop m).take (b - m)).length = b - m := by rw [List.length_take, List.length_drop]; omega
 have l3 : ((l.drop a).take (m - a)).length = m - a := by rw [List.length_take, List.length_drop]; omega
 by_cases c1 : k < a
 ·rw [if_neg (by omega), if_neg (by omega), List.append_assoc, List.getElem?_append_left (by omega), List.getElem?_take_of_lt c1]
 ·by_cases c2 : k < a + (b - m)
  ·rw [if_pos ⟨by omega, c2⟩, List.append_assoc, List.getElem?_append_right (by omega), l1, List.append_assoc, List.getElem?_append_left (by omega), List.getElem?_take_of_lt (by omega), List.getElem?_drop]
   congr 1; omega
  ·by_cases c3 : k < b
   ·rw [if_neg (by omega), if_pos ⟨by omega, c3⟩, List.append_assoc, List.getElem?_append_right (by omega), l1, List.append_assoc, List.getElem?_append_right (by omega), l2, List.getElem?_append_left (by omega), List.getElem?_take_of_lt (by omega), List.getElem?_drop]
    congr 1; omega
   ·rw [if_neg (by omega), if_neg (by omega), List.getElem?_append_right (by simp only [List.length_append]; omega), List.getElem?_drop]
    congr 1; simp only [List.length_append]; omega
theorem M3.mg {l l' : List α} {a m b : Nat} (h : M3 l l' a m b) (ham : a ≤ m) (hmb : m ≤ b) (hb : b ≤ l.length)
  (hk : ∀ i j x y, a ≤ i → i < m → m ≤ j → j < b → l[i]? = some x → l[j]? = some y → K y < K x) : Mg K l l' a b := by
 refine ⟨h.1, fun k hk => ?_, fun k h1 h2 => ?_, fun v => ?_⟩
 ·rw [h.2 k, if_neg (by omega), if_neg (by omega)]
 ·rw [h.2 k]
  by_cases c : k < a + (b - m)
  ·rw [if_pos ⟨h1, c⟩]; exact ⟨_, by omega, by omega, rfl⟩
  ·rw [if_neg (by omega), if_pos ⟨by omega, h2⟩]; exact ⟨_, by omega, by omega, rfl⟩
 ·have e := MC l ham hmb hb
  rw [h.eq ham hmb hb]
  conv => rhs; rw [e]
  rw [List.filter_append, List.filter_append, List.filter_append (l.take a ++ _), List.filter_append (l.take a)]
  rw [CJ (U := (l.drop m).take (b - m)) (V := (l.drop a).take (m - a))]
  intro y hy x hx
  obtain ⟨i, hi⟩ := List.mem_iff_getElem?.1 hx
  obtain ⟨j, hj⟩ := List.mem_iff_getElem?.1 hy
  have hi' : i < m - a := by
   have := (List.getElem?_eq_some_iff.1 hi).1; rw [List.length_take] at this; omega
  have hj' : j < b - m := by
   have := (List.getElem?_eq_some_iff.1 hj).1; rw [List.length_take] at this; omega
  rw [List.getElem?_take_of_lt hi', List.getElem?_drop] at hi
  rw [List.getElem?_take_of_lt hj', List.getElem?_drop] at hj
  have := hk (a + i) (m + j) x y (by omega) (by omega) (by omega) (by omega) hi hj
  omega
theorem O3 {l : List α} {i : Nat} {x y : α} (hx : l[i]? = some x) (hy : l[i + 1]? = some y) (h : K y < K x) : Mg K l ((l.set i y).set (i + 1) x) i (i + 2) := by
 have hl := (List.getElem?_eq_some_iff.1 hy).1
 have hr : M3 l ((l.set i y).set (i + 1) x) i (i + 1) (i + 2) := by
  refine ⟨by simp, fun k => ?_⟩
  have e1 : i + (i + 2 - (i + 1)) = i + 1 := by omega
  have e2 : i + 2 - (i + 1) = 1 := by omega
  rw [e2]
  rw [List.getElem?_set, List.getElem?_set, List.length_set]
  by_cases c1 : i + 1 = k
  ·subst c1
   rw [if_pos rfl, if_pos hl, if_neg (by omega), if_pos ⟨by omega, by omega⟩, Nat.add_sub_cancel, hx]
  ·by_cases c2 : i = k
   ·subst c2
    rw [if_neg (by omega), if_pos rfl, if_pos (by omega), if_pos ⟨by omega, by omega⟩]
    rw [show i + (i + 1 - i) = i + 1 by omega, hy]
   ·rw [if_neg c1, if_neg c2, if_neg (by omega), if_neg (by omega)]
 refine hr.mg (by omega) (by omega) (by omega) ?_
 intro p q u v h1 h2 h3 h4 hu hv
 have : p = i := by omega
 subst this
 have : q = p + 1 := by omega
 subst this
 rw [hx] at hu; rw [hy] at hv
 cases hu; cases hv
 exact h
theorem zZ : ∀ {l l' : List α}, l.Pairwise (fun x y => K x ≤ K y) → l'.Pairwise (fun x y => K x ≤ K y) →
  (∀ v : Int, l'.filter (fun x => decide (K x = v)) = l.filter (fun x => decide (K x = v))) → l' = l
 | [], l', _, _, he => by
  cases l' with
  | nil => rfl
  | cons x t => have := he (K x); simp at this
 | x :: t, [], _, _, he => by have := he (K x); simp at this
 | x :: t, y :: s, h, h', he => by
  have hx : x ∈ y :: s := by
   have := he (K x)
   have hm : x ∈ (x :: t).filter (fun z => decide (K z = K x)) := List.mem_filter.2 ⟨List.mem_cons_self, by simp⟩
   rw [← this] at hm
   exact (List.mem_filter.1 hm).1
  have hy : y ∈ x :: t := by
   have := he (K y)
   have hm : y ∈ (y :: s).filter (fun z => decide (K z = K y)) := List.mem_filter.2 ⟨List.mem_cons_self, by simp⟩
   rw [this] at hm
   exact (List.mem_filter.1 hm).1
  have k1 : K y ≤ K x := by
   rcases List.mem_cons.1 hx with h1 | h1
   ·rw [h1]; exact Int.le_refl _
   ·exact (List.pairwise_cons.1 h').1 x h1
  have k2 : K x ≤ K y := by
   rcases List.mem_cons.1 hy with h1 | h1
   ·rw [h1]; exact Int.le_refl _
   ·exact (List.pairwise_cons.1 h).1 y h1
  have kk : K y = K x := by omega
  have e := he (K x)
  rw [List.filter_cons_of_pos (by simp [kk]), List.filter_cons_of_pos (by simp)] at e
  have exy : y = x := (List.cons.inj e).1
  subst exy
  have := zZ (List.pairwise_cons.1 h).2 (List.pairwise_cons.1 h').2 (fun v => by
   have ev := he v
   by_cases c : K y = v
   ·rw [List.filter_cons_of_pos (by simp [c]), List.filter_cons_of_pos (by simp [c])] at ev
    exact (List.cons.inj ev).2
   ·rw [List.filter_cons_of_neg (by simp [c]), List.filter_cons_of_neg (by simp [c])] at ev
    exact ev)
  rw [this]
theorem SR.pairwise {l : List α} (h : SR K l 0 l.length) : l.Pairwise (fun x y => K x ≤ K y) := by
 rw [List.pairwise_iff_getElem]
 intro i j hi hj hij
 exact h i j _ _ (by omega) (by omega) hj (List.getElem?_eq_getElem hi) (List.getElem?_eq_getElem hj)
theorem parted {l l1 : List α} {a m b mid start : Nat} (ham : a < m) (hmb : m < b) (hb : b ≤ l.length) (hmid : mid = (a + b) / 2)
  (s1 : SR K l a m) (s2 : SR K l m b)
  (hs0 : a ≤ start) (hs1 : start ≤ m) (hs2 : mid + m ≤ start + b) (hs3 : start ≤ mid)
  (hlow : ∀ x y, a < start → mid + m < start + b → l[start - 1]? = some x → l[mid + m - start]? = some y → K x ≤ K y)
  (hup : ∀ x y, start < m → start < mid → l[start]? = some x → l[mid + m - start - 1]? = some y → K y < K x)
  (hr : M3 l l1 start m (mid + m - start)) :
  Mg K l l1 a b ∧ SR K l1 a start ∧ SR K l1 start mid ∧ SR K l1 mid (mid + m - start) ∧ SR K l1 (mid + m - start) b ∧
   ∀ i j x y, a ≤ i → i < mid → mid ≤ j → j < b → l1[i]? = some x → l1[j]? = some y → K x ≤ K y := by
 generalize hE : mid + m - start = e at *
 have he1 : m ≤ e := by omega
 have he2 : e ≤ b := by omega
 have hcross : ∀ i j x y, start ≤ i → i < m → m ≤ j → j < e → l[i]? = some x → l[j]? = some y → K y < K x := by
  intro i j x y h1 h2 h3 h4 hx hy
  have hi : start < l.length := by omega
  have hj : e - 1 < l.length := by omega
  have k := hup _ _ (by omega) (by omega) (List.getElem?_eq_getElem hi) (List.getElem?_eq_getElem hj)
  have k1 := s1 start i _ x hs0 h1 h2 (List.getElem?_eq_getElem hi) hx
  have k2 := s2 j (e - 1) y _ h3 (by omega) (by omega) hy (List.getElem?_eq_getElem hj)
  omega
 have g1 : ∀ k, k < start → l1[k]? = l[k]? := fun k hk => by rw [hr.2 k, if_neg (by omega), if_neg (by omega)]
 have g2 : ∀ k, start ≤ k → k < mid → l1[k]? = l[k + (m - start)]? := fun k hk hk2 => by rw [hr.2 k, if_pos ⟨hk, by omega⟩]
 have g3 : ∀ k, mid ≤ k → k < e → l1[k]? = l[k - (e - m)]? := fun k hk hk2 => by rw [hr.2 k, if_neg (by omega), if_pos ⟨by omega, by omega⟩]
 have g4 : ∀ k, e ≤ k → l1[k]? = l[k]? := fun k hk => by rw [hr.2 k, if_neg (by omega), if_neg (by omega)]
 refine ⟨(hr.mg hs1 he1 (by omega) hcross).mono hs0 he2, ?_, ?_, ?_, ?_, ?_⟩
 ·intro i j x y h1 h2 h3 hx hy
  rw [g1 i (by omega)] at hx; rw [g1 j (by omega)] at hy
  exact s1 i j x y h1 h2 (by omega) hx hy
 ·intro i j x y h1 h2 h3 hx hy
  rw [g2 i (by omega) (by omega)] at hx; rw [g2 j (by omega) (by omega)] at hy
  exact s2 _ _ x y (by omega) (by omega) (by omega) hx hy
 ·intro i j x y h1 h2 h3 hx hy
  rw [g3 i (by omega) (by omega)] at hx; rw [g3 j (by omega) (by omega)] at hy
  exact s1 _ _ x y (by omega) (by omega) (by omega) hx hy
 ·intro i j x y h1 h2 h3 hx hy
  rw [g4 i (by omega)] at hx; rw [g4 j (by omega)] at hy
  exact s2 _ _ x y (by omega) (by omega) (by omega) hx hy
 ·intro i j x y h1 h2 h3 h4 hx hy
  by_cases ci : i < start
  ·rw [g1 i ci] at hx
   by_cases cj : j < e
   ·rw [g3 j h3 cj] at hy
    exact s1 _ _ x y h1 (by omega) (by omega) hx hy
   ·rw [g4 j (by omega)] at hy
    have hi : start - 1 < l.length := by omega
    have hj : e < l.length := by omega
    have k := hlow _ _ (by omega) (by omega) (List.getElem?_eq_getElem hi) (List.getElem?_eq_getElem hj)
    have k1 := s1 i (start - 1) x _ h1 (by omega) (by omega) hx (List.getElem?_eq_getElem hi)
    have k2 := s2 e j _ y (by omega) (by omega) h4 (List.getElem?_eq_getElem hj) hy
    omega
  ·rw [g2 i (by omega) h2] at hx
   by_cases cj : j < e
   ·rw [g3 j h3 cj] at hy
    have := hcross (j - (e - m)) (i + (m - start)) y x (by omega) (by omega) (by omega) (by omega) hy hx
    omega
   ·rw [g4 j (by omega)] at hy
    exact s2 _ _ x y (by omega) (by omega) (by omega) hx hy
end Go.Proofs.YtcjeebkoafonpaaGreatDoor.ST
namespace Go.Proofs.YtcjeebkoafonpaaGreatDoor
theorem bR {x : Int} (h1 : -4611686018427387904 ≤ x) (h2 : x ≤ 4611686018427387904) : bn x = x := Gt (by omega) (by omega)
theorem gG {α : Type} (pre suf : List α) (x : α) : idx (pre ++ x :: suf) (pre.length : Int) = some x := by
 unfold idx
 rw [if_pos (by omega)]
 simp
theorem sI {α : Type} {l : List α} {i : Nat} (h : i < l.length) : idx l (i : Int) = some l[i] := by
 unfold idx
 rw [if_pos (by omega)]
 simp [h]
theorem uH {α : Type} (pre suf : List α) (x : α) : decide ((pre.length : Int) < ((pre ++ x :: suf).length : Int)) = true := decide_eq_true (by simp; omega)
theorem NK {α : Type} (pre : List α) : decide ((pre.length : Int) < ((pre ++ []).length : Int)) = false := decide_eq_false (by simp)
theorem qO {α : Type} (pre : List α) (x : α) (h : pre.length ≤ 4611686018427387903) : bn ((pre.length : Int) + 1) = ((pre ++ [x]).length : Int) := by
 rw [bR (by omega) (by omega)]; simp
theorem Ih {α : Type} (pre suf : List α) (x : α) : pre ++ x :: suf = (pre ++ [x]) ++ suf := by simp
theorem iO {α : Type} {l m : List α} (h : l.length + m.length ≤ 4294967296) : sj l m = some (l ++ m) := if_pos h
def within (n lo hi : Int) : Bool := decide (lo ≤ n) && decide (n ≤ hi)
theorem within_iff {n lo hi : Int} : within n lo hi = true ↔ lo ≤ n ∧ n ≤ hi := by simp [within]
def ML {α : Type} (g : α → Bool) : List α → Int → Int
 | [], _ => -1
 | x :: l, i => if g x then i else ML g l (i + 1)
end Go.Proofs.YtcjeebkoafonpaaGreatDoor
namespace Go.Proofs.YtcjeebkoafonpaaGreatDoor.ST
def KR (x : dQ) : Int := - max x.area (bn (0 - x.area))
theorem cf (x y : dQ) : ∃ c, kZ x y = some c ∧ (c < 0 ↔ KR x < KR y) := by
 unfold kZ uD qM qF KR
 simp only [Option.bind_some, bne_self_eq_false, Bool.false_eq_true, if_false, decide_eq_true_eq]
 split
 ·exact ⟨_, rfl, by constructor <;> intro _ <;> omega⟩
 ·split
  ·exact ⟨_, rfl, by constructor <;> intro _ <;> omega⟩
  ·exact ⟨_, rfl, by constructor <;> intro _ <;> omega⟩
theorem ix {α : Type} {l : List α} {i : Int} {k : Nat} {x : α} (e : i = (k : Int)) (h : l[k]? = some x) : idx l i = some x := by
 subst e
 unfold idx
 rw [if_pos (by omega), Int.toNat_natCast, h]
theorem st {α : Type} {l : List α} {i : Int} {k : Nat} (x : α) (e : i = (k : Int)) (h : k < l.length) : sets l i x = some (l.set k x) := by
 subst e
 unfold sets
 rw [if_pos ⟨by omega, by rw [Int.toNat_natCast]; exact h⟩, Int.toNat_natCast]
theorem gt {α : Type} {l : List α} {k : Nat} (h : k < l.length) : ∃ x, l[k]? = some x := ⟨l[k], List.getElem?_eq_getElem h⟩
theorem Gy {α : Type} {l : List α} {i j : Nat} {x y : α} (hx : l[i]? = some x) (hy : l[j]? = some y) (hij : i ≠ j) (k : Nat) : ((l.set i y).set j x)[k]? = if k = i then l[j]? else if k = j then l[i]? else l[k]? := by
 have h1 := (List.getElem?_eq_some_iff.1 hx).1
 have h2 := (List.getElem?_eq_some_iff.1 hy).1
 rw [List.getElem?_set, List.getElem?_set, List.length_set, hx, hy]
 by_cases c1 : j = k
 ·subst c1
  rw [if_pos rfl, if_pos h2, if_neg (by omega), if_pos rfl]
 ·rw [if_neg c1]
  by_cases c2 : i = k
  ·subst c2; rw [if_pos rfl, if_pos h1, if_pos rfl]
  ·rw [if_neg c2, if_neg (by omega), if_neg (by omega)]
theorem NR (a i : Nat) (k : List dQ → Int → Option (List dQ)) (hi : i ≤ 1000000000) : ∀ (m : Nat) (l : List dQ) (j : Nat), j < m → a ≤ j → j ≤ i → i < l.length →
  SR KR l a j → SR KR l j (i + 1) → (∀ p q x y, a ≤ p → p < j → j + 1 ≤ q → q < i + 1 → l[p]? = some x → l[q]? = some y → KR x ≤ KR y) →
  ∃ l', Mg KR l l' a (i + 1) ∧ SR KR l' a (i + 1) ∧ dh (a : Int) (i : Int) k m l (j : Int) = k l' ((i : Int) + 1)
 | 0, _, _, hm, _, _, _, _, _, _ => absurd hm (Nat.not_lt_zero _)
 | m + 1, l, j, hm, haj, hji, hil, s1, s2, hc => by
  unfold dh
  by_cases hj : a < j
  ·obtain ⟨x, hx⟩ := gt (l := l) (k := j) (by omega)
   obtain ⟨y, hy⟩ := gt (l := l) (k := j - 1) (by omega)
   have e1 : bn ((j : Int) - 1) = ((j - 1 : Nat) : Int) := by rw [bR (by omega) (by omega)]; omega
   obtain ⟨c, hcf, hlt⟩ := cf x y
   rw [if_pos (decide_eq_true (by omega : (a : Int) < (j : Int))), e1, ix rfl hx, Option.bind_some, ix rfl hy, Option.bind_some, hcf, Option.bind_some, Option.bind_some]
   by_cases hk : c < 0
   ·rw [if_pos (decide_eq_true hk)]
    have hK := hlt.1 hk
    rw [Option.bind_some, Option.bind_some, Option.bind_some, st y rfl (by omega : j < l.length), Option.bind_some]
    obtain ⟨z, hz⟩ := gt (l := l.set j y) (k := j - 1) (by rw [List.length_set]; omega)
    rw [ix rfl hz, Option.bind_some, st x rfl (by rw [List.length_set]; omega), Option.bind_some]
    have hcomm : (l.set j y).set (j - 1) x = (l.set (j - 1) x).set j y := List.set_comm _ _ (by omega)
    rw [hcomm]
    have hy' : l[j - 1 + 1]? = some x := by rw [Nat.sub_add_cancel (by omega)]; exact hx
    have hm1 := O3 (K := KR) hy hy' hK
    rw [Nat.sub_add_cancel (by omega : 1 ≤ j)] at hm1
    have hg := Gy hy hx (by omega : j - 1 ≠ j)
    generalize (l.set (j - 1) x).set j y = l1 at hm1 hg
    obtain ⟨l', h1, h2, h3⟩ := NR a i k hi m l1 (j - 1) (by omega) (by omega) (by omega) (by rw [hm1.len]; exact hil)
     (SR.xX hm1 (s1.sub (Nat.le_refl _) (Nat.sub_le _ _)) (.inl (by omega)))
     (fun p q u v hp hpq hq hu hv => by
      rw [hg p] at hu; rw [hg q] at hv
      by_cases cp : p = j - 1
      ·rw [if_pos cp, hx] at hu
       cases hu
       by_cases cq : q = j - 1
       ·rw [if_pos cq, hx] at hv; cases hv; exact Int.le_refl _
       ·rw [if_neg cq] at hv
        by_cases cq2 : q = j
        ·rw [if_pos cq2, hy] at hv; cases hv; omega
        ·rw [if_neg cq2] at hv
         exact s2 j q _ _ (Nat.le_refl _) (by omega) hq hx hv
      ·rw [if_neg cp] at hu
       rw [if_neg (by omega)] at hv
       by_cases cp2 : p = j
       ·rw [if_pos cp2, hy] at hu
        cases hu
        by_cases cq2 : q = j
        ·rw [if_pos cq2, hy] at hv; cases hv; exact Int.le_refl _
        ·rw [if_neg cq2] at hv
         exact hc (j - 1) q _ _ (by omega) (by omega) (by omega) hq hy hv
       ·rw [if_neg cp2] at hu
        rw [if_neg (by omega)] at hv
        exact s2 p q _ _ (by omega) hpq hq hu hv)
     (fun p q u v hp hpj hq hqi hu hv => by
      rw [hg p, if_neg (by omega), if_neg (by omega)] at hu
      rw [hg q, if_neg (by omega)] at hv
      by_cases cq : q = j
      ·rw [if_pos cq, hy] at hv
       cases hv
       exact s1 p (j - 1) _ _ hp (by omega) (by omega) hu hy
      ·rw [if_neg cq] at hv
       exact hc p q _ _ hp (by omega) (by omega) hqi hu hv)
    exact ⟨l', (hm1.mono (by omega) (by omega)).trans h1, h2, h3⟩
   ·rw [if_neg (by rw [decide_eq_true_eq]; exact hk), bR (by omega) (by omega)]
    refine ⟨l, .rfl, s1.join s2 fun p q u v hp hpj hq hqi hu hv => ?_, rfl⟩
    have k1 := s1 p (j - 1) _ _ hp (by omega) (by omega) hu hy
    have k2 := s2 j q _ _ (Nat.le_refl _) hq hqi hx hv
    have k3 : ¬ KR x < KR y := fun h => hk (hlt.2 h)
    omega
  ·have : j = a := by omega
   subst this
   rw [if_neg (by rw [decide_eq_true_eq]; omega), Option.bind_some, if_neg (by decide), bR (by omega) (by omega)]
   exact ⟨l, .rfl, s2, rfl⟩
theorem Lx (N a b : Nat) (hN : 10000000000 ≤ N) (hb : b ≤ 1000000000) : ∀ (m : Nat) (l : List dQ) (i : Nat), b < m + i ∧ a + 1 < m + i → a ≤ i → (i ≤ b ∨ i ≤ a + 1) → b ≤ l.length → SR KR l a i →
  ∃ l', Mg KR l l' a b ∧ SR KR l' a b ∧ bI N (a : Int) (b : Int) m l (i : Int) = some l'
 | 0, l, i, hm, hai, hib, hbl, s => by omega
 | m + 1, l, i, hm, hai, hib, hbl, s => by
  unfold bI
  by_cases hi : i < b
  ·rw [if_pos (decide_eq_true (by omega : (i : Int) < (b : Int)))]
   obtain ⟨l1, h1, h2, h3⟩ := NR a i (bI N (a : Int) (b : Int) m) (by omega) N l i (by omega) hai (Nat.le_refl _) (by omega) s (SR.one (by omega)) (fun p q u v _ _ h3 h4 _ _ => by omega)
   rw [h3]
   obtain ⟨l', h4, h5, h6⟩ := Lx N a b hN hb m l1 (i + 1) (by omega) (by omega) (by omega) (by rw [h1.len]; exact hbl) h2
   exact ⟨l', (h1.mono (Nat.le_refl _) (by omega)).trans h4, h5, by rw [← h6]; norm_cast⟩
  ·rw [if_neg (by rw [decide_eq_true_eq]; omega)]
   exact ⟨l, .rfl, s.sub (Nat.le_refl _) (by omega), rfl⟩
theorem Ex {N a b : Nat} (hN : 10000000000 ≤ N) (hb : b ≤ 1000000000) {l : List dQ} (hbl : b ≤ l.length) (hab : a ≤ b) :
  ∃ l', Mg KR l l' a b ∧ SR KR l' a b ∧ dV N l (a : Int) (b : Int) = some l' := by
 unfold dV
 rw [bR (by omega) (by omega), show (a : Int) + 1 = ((a + 1 : Nat) : Int) by omega]
 exact Lx N a b hN hb N l (a + 1) (by omega) (by omega) (by omega) hbl (SR.one (Nat.le_refl _))
def Ui {α : Type} (l l' : List α) (a b n : Nat) : Prop := l'.length = l.length ∧ ∀ k, l'[k]? = if a ≤ k ∧ k < a + n then l[k - a + b]? else if b ≤ k ∧ k < b + n then l[k - b + a]? else l[k]?
theorem Ic (a b n : Nat) (hab : a + n ≤ b) (hb : b + n ≤ 1000000000) (l0 : List dQ) (hl : b + n ≤ l0.length) : ∀ (m : Nat) (l : List dQ) (i : Nat), n < m + i → i ≤ n → Ui l0 l a b i →
  ∃ l', Ui l0 l' a b n ∧ dE (a : Int) (b : Int) (n : Int) m l (i : Int) = some l'
 | 0, l, i, hm, hi, h => by omega
 | m + 1, l, i, hm, hi, h => by
  unfold dE
  by_cases c : i < n
  ·rw [if_pos (decide_eq_true (by omega : (i : Int) < (n : Int)))]
   have e1 : bn ((b : Int) + (i : Int)) = ((b + i : Nat) : Int) := by rw [bR (by omega) (by omega)]; omega
   have e2 : bn ((a : Int) + (i : Int)) = ((a + i : Nat) : Int) := by rw [bR (by omega) (by omega)]; omega
   have hll := h.1
   obtain ⟨y, hy⟩ := gt (l := l) (k := b + i) (by omega)
   obtain ⟨x, hx⟩ := gt (l := l) (k := a + i) (by omega)
   rw [e1, e2, ix rfl hy, Option.bind_some, ix rfl hx, Option.bind_some, Option.bind_some, st y rfl (by omega), Option.bind_some]
   obtain ⟨z, hz⟩ := gt (l := l.set (a + i) y) (k := b + i) (by rw [List.length_set]; omega)
   rw [ix rfl hz, Option.bind_some, st x rfl (by rw [List.length_set]; omega), Option.bind_some]
   have hg := Gy hx hy (by omega : a + i ≠ b + i)
   have hlen : ((l.set (a + i) y).set (b + i) x).length = l.length := by simp
   generalize (l.set (a + i) y).set (b + i) x = l1 at hg hlen
   rw [show bn ((i : Int) + 1) = ((i + 1 : Nat) : Int) by rw [bR (by omega) (by omega)]; omega]
   refine Ic a b n hab hb l0 hl m l1 (i + 1) (by omega) (by omega) ⟨by omega, fun k => ?_⟩
   rw [hg k]
   simp only [h.2]
   repeat' split
   all_goals first
    | (exfalso; omega)
    | rfl
    | (congr 1; omega)
  ·rw [if_neg (by rw [decide_eq_true_eq]; omega)]
   have : i = n := by omega
   subst this
   exact ⟨l, h, rfl⟩
theorem JM {N a b n : Nat} (hN : 10000000000 ≤ N) (hab : a + n ≤ b) (hb : b + n ≤ 1000000000) {l : List dQ} (hl : b + n ≤ l.length) :
  ∃ l', Ui l l' a b n ∧ eQ N l (a : Int) (b : Int) (n : Int) = some l' :=
 Ic a b n hab hb l hl N l 0 (by omega) (by omega) ⟨rfl, fun k => by rw [if_neg (by omega), if_neg (by omega)]⟩
theorem Eg {N : Nat} (hN : 10000000000 ≤ N) (p : Nat) : ∀ (m : Nat) (l : List dQ) (i j : Nat), i + j < m → 0 < i → 0 < j → i ≤ p → p + j ≤ l.length → l.length ≤ 1000000000 →
  ∃ l', M3 l l' (p - i) p (p + j) ∧ dA N (p : Int) m l (i : Int) (j : Int) = some l'
 | 0, _, _, _, hm, _, _, _, _, _ => absurd hm (Nat.not_lt_zero _)
 | m + 1, l, i, j, hm, hi, hj, hip, hl, hlen => by
  unfold dA
  have e1 : bn ((p : Int) - (i : Int)) = ((p - i : Nat) : Int) := by rw [bR (by omega) (by omega)]; omega
  by_cases c : i = j
  ·subst c
   rw [if_neg (by simp), e1]
   obtain ⟨l1, h1, h2⟩ := JM (N := N) (a := p - i) (b := p) (n := i) hN (by omega) (by omega) (l := l) (by omega)
   rw [h2, Option.bind_some]
   refine ⟨l1, ⟨h1.1, fun k => ?_⟩, rfl⟩
   rw [h1.2 k]
   repeat' split
   all_goals first
    | (exfalso; omega)
    | rfl
    | (congr 1; omega)
  ·rw [if_pos (by simp; omega)]
   by_cases d : j < i
   ·rw [if_pos (decide_eq_true (by omega : (j : Int) < (i : Int))), e1]
    obtain ⟨l1, h1, h2⟩ := JM (N := N) (a := p - i) (b := p) (n := j) hN (by omega) (by omega) (l := l) (by omega)
    rw [h2, Option.bind_some, show bn ((i : Int) - (j : Int)) = ((i - j : Nat) : Int) by rw [bR (by omega) (by omega)]; omega]
    have hl1 := h1.1
    obtain ⟨l', h3, h4⟩ := Eg hN p m l1 (i - j) j (by omega) (by omega) hj (by omega) (by omega) (by omega)
    refine ⟨l', ⟨h3.1.trans h1.1, fun k => ?_⟩, h4⟩
    rw [h3.2 k]
    simp only [h1.2]
    repeat' split
    all_goals first
     | (exfalso; omega)
     | rfl
     | (congr 1; omega)
   ·rw [if_neg (by rw [decide_eq_true_eq]; omega), e1]
    have e2 : bn ((bn ((p : Int) + (j : Int))) - (i : Int)) = ((p + j - i : Nat) : Int) := by rw [bR (x := (p : Int) + (j : Int)) (by omega) (by omega), bR (by omega) (by omega)]; omega
    obtain ⟨l1, h1, h2⟩ := JM (N := N) (a := p - i) (b := p + j - i) (n := i) hN (by omega) (by omega) (l := l) (by omega)
    rw [e2, h2, Option.bind_some, show bn ((j : Int) - (i : Int)) = ((j - i : Nat) : Int) by rw [bR (by omega) (by omega)]; omega]
    have hl1 := h1.1
    obtain ⟨l', h3, h4⟩ := Eg hN p m l1 i (j - i) (by omega) hi (by omega) hip (by omega) (by omega)
    refine ⟨l', ⟨h3.1.trans h1.1, fun k => ?_⟩, h4⟩
    rw [h3.2 k]
    simp only [h1.2]
    repeat' split
    all_goals first
     | (exfalso; omega)
     | rfl
     | (congr 1; omega)
theorem QV {N a p b : Nat} (hN : 10000000000 ≤ N) (h1 : a < p) (h2 : p < b) {l : List dQ} (hb : b ≤ l.length) (hl : l.length ≤ 1000000000) :
  ∃ l', M3 l l' a p b ∧ gP N l (a : Int) (p : Int) (b : Int) = some l' := by
 unfold gP
 have e1 : bn ((p : Int) - (a : Int)) = ((p - a : Nat) : Int) := by rw [bR (by omega) (by omega)]; omega
 have e2 : bn ((b : Int) - (p : Int)) = ((b - p : Nat) : Int) := by rw [bR (by omega) (by omega)]; omega
 obtain ⟨l', h3, h4⟩ := Eg hN p N l (p - a) (b - p) (by omega) (by omega) (by omega) (by omega) (by omega) hl
 rw [e1, e2]
 refine ⟨l', ?_, h4⟩
 rw [show p - (p - a) = a by omega, show p + (b - p) = b by omega] at h3
 exact h3
end Go.Proofs.YtcjeebkoafonpaaGreatDoor.ST
namespace Go.Proofs.YtcjeebkoafonpaaGreatDoor.ST
theorem uo {x : Int} {k : Nat} (e : x = (k : Int)) (h : k ≤ 4000000000) : uO x = some (k : Int) := by
 subst e
 unfold uO
 rw [if_pos ⟨by omega, by omega⟩]
theorem half {i j : Nat} (hi : i ≤ 1000000000) (hj : j ≤ 1000000000) {β : Type} (f : Int → Option β) : ((uO (bn ((i : Int) + (j : Int)))).bind fun q => (uO (q / 2)).bind fun q2 => f q2) = f (((i + j) / 2 : Nat) : Int) := by
 rw [uo (k := i + j) (by rw [bR (by omega) (by omega)]; omega) (by omega), Option.bind_some, uo (k := (i + j) / 2) (by omega) (by omega), Option.bind_some]
theorem IL (a i : Nat) (hi : i ≤ 1000000000) (l0 : List dQ) (hl : i ≤ l0.length) : ∀ (m : Nat) (l : List dQ) (k : Nat), i < m + k → a ≤ k → k < i → M3 l0 l a (a + 1) (k + 1) →
  ∃ l', M3 l0 l' a (a + 1) i ∧ cZ (i : Int) m l (k : Int) = some l'
 | 0, _, _, hm, _, _, _ => by omega
 | m + 1, l, k, hm, hak, hki, h => by
  unfold cZ
  rw [bR (by omega) (by omega)]
  by_cases c : k + 1 < i
  ·rw [if_pos (decide_eq_true (by omega : (k : Int) < (i : Int) - 1))]
   have e1 : bn ((k : Int) + 1) = ((k + 1 : Nat) : Int) := by rw [bR (by omega) (by omega)]; omega
   have hll := h.1
   obtain ⟨y, hy⟩ := gt (l := l) (k := k + 1) (by omega)
   obtain ⟨x, hx⟩ := gt (l := l) (k := k) (by omega)
   rw [e1, ix rfl hy, Option.bind_some, ix rfl hx, Option.bind_some, Option.bind_some, st y rfl (by omega), Option.bind_some]
   obtain ⟨z, hz⟩ := gt (l := l.set k y) (k := k + 1) (by rw [List.length_set]; omega)
   rw [ix rfl hz, Option.bind_some, st x rfl (by rw [List.length_set]; omega), Option.bind_some]
   have hg := Gy hx hy (by omega : k ≠ k + 1)
   have hlen : ((l.set k y).set (k + 1) x).length = l.length := by simp
   generalize (l.set k y).set (k + 1) x = l1 at hg hlen
   refine IL a i hi l0 hl m l1 (k + 1) (by omega) (by omega) c ⟨by omega, fun q => ?_⟩
   rw [hg q]
   simp only [h.2]
   repeat' split
   all_goals first
    | (exfalso; omega)
    | exact congrArg (fun n => l0[n]?) (by omega)
  ·rw [if_neg (by rw [decide_eq_true_eq]; omega)]
   have : k + 1 = i := by omega
   subst this
   exact ⟨l, h, rfl⟩
theorem Lj (i p : Nat) (hp : p ≤ 1000000000) (l0 : List dQ) (hl : p < l0.length) : ∀ (m : Nat) (l : List dQ) (k : Nat), k < m + i → i ≤ k → k ≤ p → M3 l0 l k p (p + 1) →
  ∃ l', M3 l0 l' i p (p + 1) ∧ cK (i : Int) m l (k : Int) = some l'
 | 0, _, _, hm, _, _, _ => by omega
 | m + 1, l, k, hm, hak, hki, h => by
  unfold cK
  by_cases c : i < k
  ·rw [if_pos (decide_eq_true (by omega : (i : Int) < (k : Int)))]
   have e1 : bn ((k : Int) - 1) = ((k - 1 : Nat) : Int) := by rw [bR (by omega) (by omega)]; omega
   have hll := h.1
   obtain ⟨y, hy⟩ := gt (l := l) (k := k - 1) (by omega)
   obtain ⟨x, hx⟩ := gt (l := l) (k := k) (by omega)
   rw [e1, ix rfl hy, Option.bind_some, ix rfl hx, Option.bind_some, Option.bind_some, st y rfl (by omega), Option.bind_some]
   obtain ⟨z, hz⟩ := gt (l := l.set k y) (k := k - 1) (by rw [List.length_set]; omega)
   rw [ix rfl hz, Option.bind_some, st x rfl (by rw [List.length_set]; omega), Option.bind_some]
   have hg := Gy hx hy (by omega : k ≠ k - 1)
   have hlen : ((l.set k y).set (k - 1) x).length = l.length := by simp
   generalize (l.set k y).set (k - 1) x = l1 at hg hlen
   refine Lj i p hp l0 hl m l1 (k - 1) (by omega) (by omega) (by omega) ⟨by omega, fun q => ?_⟩
   rw [hg q]
   simp only [h.2]
   repeat' split
   all_goals first
    | (exfalso; omega)
    | exact congrArg (fun n => l0[n]?) (by omega)
  ·rw [if_neg (by rw [decide_eq_true_eq]; omega)]
   have : k = i := by omega
   subst this
   exact ⟨l, h, rfl⟩
theorem Ar {N : Nat} {l : List dQ} {a b : Nat} {x : dQ} (hx : l[a]? = some x) (hb : b ≤ l.length) (hl : l.length ≤ 1000000000) (s : SR KR l (a + 1) b) : ∀ (m i j : Nat), j < m + i → a + 1 ≤ i → i ≤ j → j ≤ b →
  (∀ k y, a + 1 ≤ k → k < i → l[k]? = some y → KR y < KR x) → (∀ k y, j ≤ k → k < b → l[k]? = some y → KR x ≤ KR y) →
  ∃ q : Nat, a + 1 ≤ q ∧ q ≤ b ∧ (∀ k y, a + 1 ≤ k → k < q → l[k]? = some y → KR y < KR x) ∧ (∀ k y, q ≤ k → k < b → l[k]? = some y → KR x ≤ KR y) ∧
   df N l (a : Int) m (i : Int) (j : Int) = cZ (q : Int) N l (a : Int)
 | 0, _, _, hm, _, _, _, _, _ => by omega
 | m + 1, i, j, hm, hai, hij, hjb, h1, h2 => by
  unfold df
  by_cases c : i < j
  ·rw [if_pos (decide_eq_true (by omega : (i : Int) < (j : Int))), half (by omega) (by omega)]
   generalize hh : (i + j) / 2 = h
   obtain ⟨y, hy⟩ := gt (l := l) (k := h) (by omega)
   obtain ⟨cc, hcf, hlt⟩ := cf y x
   rw [ix rfl hy, Option.bind_some, ix rfl hx, Option.bind_some, hcf, Option.bind_some]
   by_cases d : cc < 0
   ·rw [if_pos (decide_eq_true d), show bn ((h : Int) + 1) = ((h + 1 : Nat) : Int) by rw [bR (by omega) (by omega)]; omega]
    refine Ar hx hb hl s m (h + 1) j (by omega) (by omega) (by omega) hjb (fun k z hk hk2 hz => ?_) h2
    have := s k h z y hk (by omega) (by omega) hz hy
    have := hlt.1 d
    omega
   ·rw [if_neg (by rw [decide_eq_true_eq]; exact d)]
    refine Ar hx hb hl s m i h (by omega) hai (by omega) (by omega) h1 (fun k z hk hk2 hz => ?_)
    have := s h k y z (by omega) hk hk2 hy hz
    have : ¬ KR y < KR x := fun g => d (hlt.2 g)
    omega
  ·rw [if_neg (by rw [decide_eq_true_eq]; omega)]
   have : i = j := by omega
   subst this
   exact ⟨i, hai, hjb, h1, h2, rfl⟩
theorem Ci {N : Nat} {l : List dQ} {a p : Nat} {x : dQ} (hx : l[p]? = some x) (hl : l.length ≤ 1000000000) (s : SR KR l a p) : ∀ (m i j : Nat), j < m + i → a ≤ i → i ≤ j → j ≤ p →
  (∀ k y, a ≤ k → k < i → l[k]? = some y → KR y ≤ KR x) → (∀ k y, j ≤ k → k < p → l[k]? = some y → KR x < KR y) →
  ∃ q : Nat, a ≤ q ∧ q ≤ p ∧ (∀ k y, a ≤ k → k < q → l[k]? = some y → KR y ≤ KR x) ∧ (∀ k y, q ≤ k → k < p → l[k]? = some y → KR x < KR y) ∧
   cO N l (p : Int) m (i : Int) (j : Int) = cK (q : Int) N l (p : Int)
 | 0, _, _, hm, _, _, _, _, _ => by omega
 | m + 1, i, j, hm, hai, hij, hjb, h1, h2 => by
  have hpl := (List.getElem?_eq_some_iff.1 hx).1
  unfold cO
  by_cases c : i < j
  ·rw [if_pos (decide_eq_true (by omega : (i : Int) < (j : Int))), half (by omega) (by omega)]
   generalize hh : (i + j) / 2 = h
   obtain ⟨y, hy⟩ := gt (l := l) (k := h) (by omega)
   obtain ⟨cc, hcf, hlt⟩ := cf x y
   rw [ix rfl hx, Option.bind_some, ix rfl hy, Option.bind_some, hcf, Option.bind_some]
   by_cases d : cc < 0
   ·rw [if_neg (by simp [d])]
    refine Ci hx hl s m i h (by omega) hai (by omega) (by omega) h1 (fun k z hk hk2 hz => ?_)
    have := s h k y z (by omega) hk hk2 hy hz
    have := hlt.1 d
    omega
   ·rw [if_pos (by simp [d]), show bn ((h : Int) + 1) = ((h + 1 : Nat) : Int) by rw [bR (by omega) (by omega)]; omega]
    refine Ci hx hl s m (h + 1) j (by omega) (by omega) (by omega) hjb (fun k z hk hk2 hz => ?_) h2
    have := s k h z y hk (by omega) (by omega) hz hy
    have : ¬ KR x < KR y := fun g => d (hlt.2 g)
    omega
  ·rw [if_neg (by rw [decide_eq_true_eq]; omega)]
   have : i = j := by omega
   subst this
   exact ⟨i, hai, hjb, h1, h2, rfl⟩
theorem EE {N : Nat} {l : List dQ} {a p b mid : Nat} (rec : List dQ → Int → Int → Int → Option (List dQ)) (hap : a < p) (hpb : p < b) (hb : b ≤ l.length) (hl : l.length ≤ 1000000000) (hmid : mid = (a + b) / 2) (s1 : SR KR l a p) (s2 : SR KR l p b)
  (lo hi : Nat) (hlo : lo = max a (mid + p - b)) (hhi : hi = min p mid) : ∀ (m i j : Nat), j < m + i → lo ≤ i → i ≤ j → j ≤ hi →
  (∀ x y, lo < i → l[i - 1]? = some x → l[mid + p - i]? = some y → KR x ≤ KR y) → (∀ x y, j < hi → l[j]? = some x → l[mid + p - j - 1]? = some y → KR y < KR x) →
  ∃ q : Nat, lo ≤ q ∧ q ≤ hi ∧ (∀ x y, lo < q → l[q - 1]? = some x → l[mid + p - q]? = some y → KR x ≤ KR y) ∧ (∀ x y, q < hi → l[q]? = some x → l[mid + p - q - 1]? = some y → KR y < KR x) ∧
   bJ N l (a : Int) (p : Int) (b : Int) rec (mid : Int) m (i : Int) (j : Int) = bJ N l (a : Int) (p : Int) (b : Int) rec (mid : Int) 1 (q : Int) (q : Int)
 | 0, _, _, hm, _, _, _, _, _ => by omega
 | m + 1, i, j, hm, hai, hij, hjb, h1, h2 => by
  by_cases c : i < j
  ·unfold bJ
   rw [if_pos (decide_eq_true (by omega : (i : Int) < (j : Int))), half (by omega) (by omega)]
   generalize hh : (i + j) / 2 = h
   obtain ⟨y, hy⟩ := gt (l := l) (k := mid + p - 1 - h) (by omega)
   obtain ⟨x, hx⟩ := gt (l := l) (k := h) (by omega)
   obtain ⟨cc, hcf, hlt⟩ := cf y x
   have e : bn ((bn ((bn ((mid : Int) + (p : Int))) - 1)) - (h : Int)) = ((mid + p - 1 - h : Nat) : Int) := by
    rw [bR (x := (mid : Int) + (p : Int)) (by omega) (by omega), bR (x := (mid : Int) + (p : Int) - 1) (by omega) (by omega), bR (by omega) (by omega)]; omega
   rw [e, ix rfl hy, Option.bind_some, ix rfl hx, Option.bind_some, hcf, Option.bind_some]
   by_cases d : cc < 0
   ·rw [if_neg (by simp [d])]
    refine EE rec hap hpb hb hl hmid s1 s2 lo hi hlo hhi m i h (by omega) hai (by omega) (by omega) h1 (fun u v hk hu hv => ?_)
    rw [show mid + p - h - 1 = mid + p - 1 - h by omega, hy] at hv
    rw [hx] at hu
    cases hu; cases hv
    exact hlt.1 d
   ·rw [if_pos (by simp [d]), show bn ((h : Int) + 1) = ((h + 1 : Nat) : Int) by rw [bR (by omega) (by omega)]; omega]
    refine EE rec hap hpb hb hl hmid s1 s2 lo hi hlo hhi m (h + 1) j (by omega) (by omega) (by omega) hjb (fun u v hk hu hv => ?_) h2
    rw [show mid + p - (h + 1) = mid + p - 1 - h by omega, hy] at hv
    rw [show h + 1 - 1 = h by omega, hx] at hu
    cases hu; cases hv
    have : ¬ KR y < KR x := fun g => d (hlt.2 g)
    omega
  ·have : i = j := by omega
   subst this
   refine ⟨i, hai, hjb, h1, h2, ?_⟩
   unfold bJ
   simp only [show ¬ ((i : Int) < (i : Int)) by omega, decide_false, Bool.false_eq_true, if_false]
end Go.Proofs.YtcjeebkoafonpaaGreatDoor.ST
namespace Go.Proofs.YtcjeebkoafonpaaGreatDoor.ST
theorem wU {s a c : Nat} (ha : s ∣ a) (hc : s ∣ c) (h : a < c) : a + s ≤ c := by
 obtain ⟨u, rfl⟩ := ha
 obtain ⟨v, rfl⟩ := hc
 have : u < v := Nat.lt_of_mul_lt_mul_left h
 have := Nat.mul_le_mul_left s this
 rw [Nat.mul_succ] at this
 omega
theorem Gx : ∀ (d N : Nat) (l : List dQ) (a p b : Nat), 10000000000 + d ≤ N → b ≤ a + d → a < p → p < b → b ≤ l.length → l.length ≤ 1000000000 → SR KR l a p → SR KR l p b →
  ∃ l', Mg KR l l' a b ∧ SR KR l' a b ∧ bN N l (a : Int) (p : Int) (b : Int) = some l'
 | 0, _, _, _, _, _, _, hd, h1, h2, _, _, _, _ => by omega
 | d + 1, 0, _, _, _, _, hN, _, _, _, _, _, _, _ => by omega
 | d + 1, N + 1, l, a, p, b, hN, hd, hap, hpb, hb, hl, s1, s2 => by
  unfold bN iy
  rw [bR (x := (p : Int) - (a : Int)) (by omega) (by omega)]
  by_cases c1 : p = a + 1
  ·subst c1
   rw [if_pos (by simp; omega)]
   obtain ⟨x, hx⟩ := gt (l := l) (k := a) (by omega)
   obtain ⟨q, hq1, hq2, hq3, hq4, Sc⟩ := Ar (N := N) hx hb hl s2 N (a + 1) b (by omega) (Nat.le_refl _) (by omega) (Nat.le_refl _) (fun k y h h2 => by omega) (fun k y h h2 => by omega)
   obtain ⟨l', hr, hf⟩ := IL a q (by omega) l (by omega) N l a (by omega) (Nat.le_refl _) (by omega) ⟨rfl, fun k => by
    repeat' split
    all_goals first
     | (exfalso; omega)
     | exact congrArg (fun n => l[n]?) (by omega)
     | rfl⟩
   rw [Sc, hf]
   have hm := (hr.mg (K := KR) (by omega) hq1 (by omega) fun i j u v h1 h2 h3 h4 hu hv => by
    have : i = a := by omega
    subst this
    rw [hx] at hu; cases hu
    exact hq3 j v h3 h4 hv).mono (Nat.le_refl a) hq2
   refine ⟨l', hm, ?_, rfl⟩
   intro i j u v h1 h2 h3 hu hv
   rw [hr.2 i] at hu
   rw [hr.2 j] at hv
   by_cases ci : i + 1 < q
   ·rw [if_pos ⟨h1, by omega⟩, show i + (a + 1 - a) = i + 1 by omega] at hu
    by_cases cj : j + 1 < q
    ·rw [if_pos ⟨by omega, by omega⟩, show j + (a + 1 - a) = j + 1 by omega] at hv
     exact s2 _ _ u v (by omega) (by omega) (by omega) hu hv
    ·rw [if_neg (by omega)] at hv
     have k1 := hq3 _ u (by omega) ci hu
     by_cases cj2 : j < q
     ·rw [if_pos ⟨by omega, cj2⟩, show j - (q - (a + 1)) = a by omega, hx] at hv
      cases hv; omega
     ·rw [if_neg (by omega)] at hv
      have := hq4 j v (by omega) h3 hv
      omega
   ·rw [if_neg (by omega)] at hu
    rw [if_neg (by omega)] at hv
    by_cases ci2 : i < q
    ·rw [if_pos ⟨by omega, ci2⟩, show i - (q - (a + 1)) = a by omega, hx] at hu
     cases hu
     by_cases cj2 : j < q
     ·rw [if_pos ⟨by omega, cj2⟩, show j - (q - (a + 1)) = a by omega, hx] at hv
      cases hv; exact Int.le_refl _
     ·rw [if_neg (by omega)] at hv
      exact hq4 j v (by omega) h3 hv
    ·rw [if_neg (by omega)] at hu
     rw [if_neg (by omega)] at hv
     exact s2 i j u v (by omega) h2 h3 hu hv
  ·rw [if_neg (by simp; omega), bR (x := (b : Int) - (p : Int)) (by omega) (by omega)]
   by_cases c2 : b = p + 1
   ·subst c2
    rw [if_pos (by simp; omega)]
    obtain ⟨x, hx⟩ := gt (l := l) (k := p) (by omega)
    obtain ⟨q, hq1, hq2, hq3, hq4, Sc⟩ := Ci (N := N) hx hl s1 N a p (by omega) (Nat.le_refl _) (by omega) (Nat.le_refl _) (fun k y h h2 => by omega) (fun k y h h2 => by omega)
    obtain ⟨l', hr, hf⟩ := Lj q p (by omega) l (by omega) N l p (by omega) hq2 (Nat.le_refl _) ⟨rfl, fun k => by
     repeat' split
     all_goals first
      | (exfalso; omega)
      | exact congrArg (fun n => l[n]?) (by omega)
      | rfl⟩
    rw [Sc, hf]
    have hm := (hr.mg (K := KR) hq2 (by omega) (by omega) fun i j u v h1 h2 h3 h4 hu hv => by
     have : j = p := by omega
     subst this
     rw [hx] at hv; cases hv
     exact hq4 i u h1 h2 hu).mono hq1 (Nat.le_refl _)
    refine ⟨l', hm, ?_, rfl⟩
    intro i j u v h1 h2 h3 hu hv
    rw [hr.2 i] at hu
    rw [hr.2 j] at hv
    by_cases cj : j < q
    ·rw [if_neg (by omega), if_neg (by omega)] at hu hv
     exact s1 i j u v h1 h2 (by omega) hu hv
    ·by_cases cj2 : j = q
     ·rw [if_pos ⟨by omega, by omega⟩, show j + (p - q) = p by omega, hx] at hv
      cases hv
      by_cases ci : i < q
      ·rw [if_neg (by omega), if_neg (by omega)] at hu
       exact hq3 i u h1 ci hu
      ·rw [if_pos ⟨by omega, by omega⟩, show i + (p - q) = p by omega, hx] at hu
       cases hu; exact Int.le_refl _
     ·rw [if_neg (by omega), if_pos ⟨by omega, by omega⟩] at hv
      by_cases ci : i < q
      ·rw [if_neg (by omega), if_neg (by omega)] at hu
       exact s1 i _ u v h1 (by omega) (by omega) hu hv
      ·by_cases ci2 : i = q
       ·rw [if_pos ⟨by omega, by omega⟩, show i + (p - q) = p by omega, hx] at hu
        cases hu
        have := hq4 _ v (by omega) (by omega) hv
        omega
       ·rw [if_neg (by omega), if_pos ⟨by omega, by omega⟩] at hu
        exact s1 _ _ u v (by omega) (by omega) (by omega) hu hv
   ·rw [if_neg (by simp; omega), half (by omega) (by omega)]
    generalize hmid : (a + b) / 2 = mid
    have key : ∀ lo hi : Nat, lo = max a (mid + p - b) → hi = min p mid → lo ≤ hi → ∃ l', Mg KR l l' a b ∧ SR KR l' a b ∧ dI N l (a : Int) (p : Int) (b : Int) (bN N) (mid : Int) (lo : Int) (hi : Int) = some l' := by
     intro lo hi hlo hhi hlh
     unfold dI
     obtain ⟨q, hq1, hq2, hq3, hq4, Sc⟩ := EE (N := N) (bN N) hap hpb hb hl hmid.symm s1 s2 lo hi hlo hhi N lo hi (by omega) (Nat.le_refl _) hlh (Nat.le_refl _) (fun x y h => by omega) (fun x y h => by omega)
     rw [Sc]
     unfold bJ
     have e : bn ((bn ((mid : Int) + (p : Int))) - (q : Int)) = ((mid + p - q : Nat) : Int) := by
      rw [bR (x := (mid : Int) + (p : Int)) (by omega) (by omega), bR (by omega) (by omega)]; omega
     rw [if_neg (by rw [decide_eq_true_eq]; omega), e]
     have fin : ∀ l1, M3 l l1 q p (mid + p - q) → ∃ l', Mg KR l l' a b ∧ SR KR l' a b ∧ dJ (a : Int) (p : Int) (b : Int) (bN N) (mid : Int) (q : Int) l1 = some l' := by
      intro l1 hr
      obtain ⟨m1, r1, r2, r3, r4, r5⟩ := parted (K := KR) hap hpb hb hmid.symm s1 s2 (by omega) (by omega) (by omega) (by omega)
       (fun x y h h2 hx hy => hq3 x y (by omega) hx hy) (fun x y h h2 hx hy => hq4 x y (by omega) hx hy) hr
      have hl1 := m1.len
      have second : ∀ l2, Mg KR l1 l2 a mid → SR KR l2 a mid → ∃ l', Mg KR l l' a b ∧ SR KR l' a b ∧ dK (p : Int) (b : Int) (bN N) (mid : Int) (q : Int) l2 = some l' := by
       intro l2 m2 t2
       have hl2 := m2.len
       unfold dK
       rw [e]
       have done : ∀ l3, Mg KR l2 l3 mid b → SR KR l3 mid b → Mg KR l l3 a b ∧ SR KR l3 a b := fun l3 m3 t3 =>
        ⟨(m1.trans (m2.mono (Nat.le_refl _) (by omega))).trans (m3.mono (by omega) (Nat.le_refl _)),
         (SR.xX m3 t2 (.inl (Nat.le_refl _))).join t3 (between m2 m3 r5)⟩
       have q3 := SR.xX m2 r3 (.inr (Nat.le_refl _))
       have q4 := SR.xX m2 r4 (.inr (by omega))
       by_cases c : mid < mid + p - q ∧ mid + p - q < b
       ·rw [if_pos (by simp only [Bool.and_eq_true, decide_eq_true_eq]; omega)]
        obtain ⟨l3, m3, t3, h3⟩ := Gx d N l2 mid (mid + p - q) b (by omega) (by omega) c.1 c.2 (by omega) (by omega) q3 q4
        rw [h3, Option.bind_some]
        exact ⟨l3, (done l3 m3 t3).1, (done l3 m3 t3).2, rfl⟩
       ·rw [if_neg (by simp only [Bool.and_eq_true, decide_eq_true_eq]; omega)]
        have t3 : SR KR l2 mid b := by
         by_cases c' : mid < mid + p - q
         ·have : mid + p - q = b := by omega
          rw [this] at q3; exact q3
         ·have : mid + p - q = mid := by omega
          rw [this] at q4; exact q4
        exact ⟨l2, (done l2 .rfl t3).1, (done l2 .rfl t3).2, rfl⟩
      unfold dJ
      by_cases c : a < q ∧ q < mid
      ·rw [if_pos (by simp only [Bool.and_eq_true, decide_eq_true_eq]; omega)]
       obtain ⟨l2, m2, t2, h2⟩ := Gx d N l1 a q mid (by omega) (by omega) c.1 c.2 (by omega) (by omega) r1 r2
       rw [h2, Option.bind_some]
       exact second l2 m2 t2
      ·rw [if_neg (by simp only [Bool.and_eq_true, decide_eq_true_eq]; omega)]
       refine second l1 .rfl ?_
       by_cases c' : a < q
       ·have : q = mid := by omega
        rw [← this]; exact r1
       ·have : q = a := by omega
        rw [← this]; exact r2
     by_cases c : q < p ∧ p < mid + p - q
     ·rw [if_pos (by simp only [Bool.and_eq_true, decide_eq_true_eq]; omega)]
      obtain ⟨l1, hr, hf⟩ := QV (N := N) (by omega) c.1 c.2 (l := l) (by omega) hl
      rw [hf, Option.bind_some]
      exact fin l1 hr
     ·rw [if_neg (by simp only [Bool.and_eq_true, decide_eq_true_eq]; omega)]
      refine fin l ⟨rfl, fun k => ?_⟩
      repeat' split
      all_goals first
       | (exfalso; omega)
       | exact congrArg (fun n => l[n]?) (by omega)
       | rfl
    by_cases c3 : mid < p
    ·rw [if_pos (decide_eq_true (by omega : (mid : Int) < (p : Int)))]
     have e : bn ((bn ((mid : Int) + (p : Int))) - (b : Int)) = ((mid + p - b : Nat) : Int) := by
      rw [bR (x := (mid : Int) + (p : Int)) (by omega) (by omega), bR (by omega) (by omega)]; omega
     rw [e]
     exact key (mid + p - b) mid (by omega) (by omega) (by omega)
    ·rw [if_neg (by rw [decide_eq_true_eq]; omega)]
     exact key a p (by omega) (by omega) (by omega)
end Go.Proofs.YtcjeebkoafonpaaGreatDoor.ST
namespace Go.Proofs.YtcjeebkoafonpaaGreatDoor.ST
def Ul (l : List dQ) (s n : Nat) : Prop := ∀ c, s ∣ c → SR KR l c (min (c + s) n)
theorem blocks {N : Nat} (hN : 20000000000 ≤ N) (l0 : List dQ) (hl : l0.length ≤ 1000000000) (s : Nat) (hs : 0 < s) (hsl : s ≤ 1000000000) (k : List dQ → Int → Option (List dQ)) : ∀ (m : Nat) (l : List dQ) (a : Nat), l0.length < m + a → 2 * s ∣ a → a ≤ l0.length → Mg KR l0 l 0 l0.length →
  (∀ c, 2 * s ∣ c → c < a → SR KR l c (c + 2 * s)) → (∀ c, s ∣ c → a ≤ c → SR KR l c (min (c + s) l0.length)) →
  ∃ l', Mg KR l0 l' 0 l0.length ∧ Ul l' (2 * s) l0.length ∧ dN N (l0.length : Int) (s : Int) k m l (a : Int) ((a + 2 * s : Nat) : Int) = k l' ((2 * s : Nat) : Int)
 | 0, _, _, hm, _, _, _, _, _ => by omega
 | m + 1, l, a, hm, hd, hal, h, h1, h2 => by
  have hll := h.len
  have hsa : s ∣ a := Nat.dvd_trans ⟨2, by omega⟩ hd
  unfold dN
  have e1 : bn ((a : Int) + (s : Int)) = ((a + s : Nat) : Int) := by rw [bR (by omega) (by omega)]; omega
  rw [e1]
  by_cases c : a + 2 * s ≤ l0.length
  ·rw [if_pos (decide_eq_true (by omega : ((a + 2 * s : Nat) : Int) ≤ (l0.length : Int)))]
   have t1 := h2 a hsa (Nat.le_refl _)
   have t2 := h2 (a + s) (Nat.dvd_add hsa (Nat.dvd_refl _)) (by omega)
   rw [Nat.min_eq_left (by omega)] at t1 t2
   obtain ⟨l1, m1, u1, f1⟩ := Gx (2 * s) N l a (a + s) (a + 2 * s) (by omega) (by omega) (by omega) (by omega) (by omega) (by omega) t1 (by rw [show a + 2 * s = a + s + s by omega]; exact t2)
   rw [f1, Option.bind_some]
   have e2 : bn (((a + 2 * s : Nat) : Int) + bn (2 * (s : Int))) = ((a + 2 * s + 2 * s : Nat) : Int) := by rw [bR (x := 2 * (s : Int)) (by omega) (by omega), bR (by omega) (by omega)]; omega
   rw [e2]
   refine blocks hN l0 hl s hs hsl k m l1 (a + 2 * s) (by omega) (Nat.dvd_add hd (Nat.dvd_refl _)) c (h.trans (m1.mono (Nat.zero_le _) c)) (fun c' hc hca => ?_) (fun c' hc hca => ?_)
   ·by_cases hlt : c' < a
    ·have := wU hc hd hlt
     exact SR.xX m1 (h1 c' hc hlt) (.inl (by omega))
    ·by_cases heq : c' = a
     ·subst heq; exact u1
     ·have := wU hd hc (by omega)
      omega
   ·exact SR.xX m1 (h2 c' hc (by omega)) (.inr hca)
  ·rw [if_neg (by rw [decide_eq_true_eq]; omega)]
   have fin : ∀ l', Mg KR l l' a l0.length → SR KR l' a l0.length → Ul l' (2 * s) l0.length := fun l' m1 u1 c' hc => by
    by_cases hlt : c' < a
    ·have := wU hc hd hlt
     rw [Nat.min_eq_left (by omega)]
     exact SR.xX m1 (h1 c' hc hlt) (.inl (by omega))
    ·by_cases heq : c' = a
     ·subst heq; rw [Nat.min_eq_right (by omega)]; exact u1
     ·have := wU hd hc (by omega)
      exact SR.one (by omega)
   have e3 : bn ((s : Int) * 2) = ((2 * s : Nat) : Int) := by rw [bR (by omega) (by omega)]; omega
   by_cases d : a + s < l0.length
   ·rw [if_pos (decide_eq_true (by omega : ((a + s : Nat) : Int) < (l0.length : Int)))]
    have t1 := h2 a hsa (Nat.le_refl _)
    have t2 := h2 (a + s) (Nat.dvd_add hsa (Nat.dvd_refl _)) (by omega)
    rw [Nat.min_eq_left (by omega)] at t1
    rw [Nat.min_eq_right (by omega)] at t2
    obtain ⟨l1, m1, u1, f1⟩ := Gx (2 * s) N l a (a + s) l0.length (by omega) (by omega) (by omega) d (by omega) (by omega) t1 t2
    rw [f1, Option.bind_some]
    unfold dP
    rw [e3]
    exact ⟨l1, h.trans (m1.mono (Nat.zero_le _) (Nat.le_refl _)), fin l1 m1 u1, rfl⟩
   ·rw [if_neg (by rw [decide_eq_true_eq]; omega)]
    unfold dP
    rw [e3]
    refine ⟨l, h, fin l .rfl ?_, rfl⟩
    have t1 := h2 a hsa (Nat.le_refl _)
    rw [Nat.min_eq_right (by omega)] at t1
    exact t1
theorem doubles {N : Nat} (hN : 20000000000 ≤ N) (l0 : List dQ) (hl : l0.length ≤ 1000000000) : ∀ (m : Nat) (l : List dQ) (s : Nat), 0 < m ∧ l0.length < m + s → 0 < s → s ≤ 2000000000 → Mg KR l0 l 0 l0.length → Ul l s l0.length →
  ∃ l', Mg KR l0 l' 0 l0.length ∧ SR KR l' 0 l0.length ∧ bH N (l0.length : Int) m l (s : Int) = some l'
 | 0, l, s, hm, hs, hs2, h, hb => absurd hm.1 (Nat.lt_irrefl 0)
 | m + 1, l, s, hm, hs, hs2, h, hb => by
  unfold bH
  by_cases c : s < l0.length
  ·rw [if_pos (decide_eq_true (by omega : (s : Int) < (l0.length : Int)))]
   have e : bn (2 * (s : Int)) = ((0 + 2 * s : Nat) : Int) := by rw [bR (by omega) (by omega)]; omega
   obtain ⟨l1, m1, b1, f1⟩ := blocks hN l0 hl s hs (by omega) (bH N (l0.length : Int) m) N l 0 (by omega) (Nat.dvd_zero _) (Nat.zero_le _) h (fun c _ hc => by omega) (fun c hc _ => hb c hc)
   rw [e]
   rw [show (0 : Int) = ((0 : Nat) : Int) from rfl, f1]
   exact doubles hN l0 hl m l1 (2 * s) (by omega) (by omega) (by omega) m1 b1
  ·rw [if_neg (by rw [decide_eq_true_eq]; omega)]
   have := hb 0 (Nat.dvd_zero _)
   rw [Nat.zero_add, Nat.min_eq_right (by omega)] at this
   exact ⟨l, h, this, rfl⟩
theorem N8 {N : Nat} (hN : 20000000000 ≤ N) (l0 : List dQ) (hl : l0.length ≤ 1000000000) : ∀ (m : Nat) (l : List dQ) (a : Nat), l0.length < m + a → 20 ∣ a → a ≤ l0.length → Mg KR l0 l 0 l0.length → (∀ c, 20 ∣ c → c < a → SR KR l c (c + 20)) →
  ∃ l', Mg KR l0 l' 0 l0.length ∧ SR KR l' 0 l0.length ∧ dO N (l0.length : Int) m l (a : Int) ((a + 20 : Nat) : Int) = some l'
 | 0, _, _, hm, _, _, _, _ => by omega
 | m + 1, l, a, hm, hd, hal, h, h1 => by
  have hll := h.len
  unfold dO
  by_cases c : a + 20 ≤ l0.length
  ·rw [if_pos (decide_eq_true (by omega : ((a + 20 : Nat) : Int) ≤ (l0.length : Int)))]
   obtain ⟨l1, m1, u1, f1⟩ := Ex (N := N) (a := a) (b := a + 20) (by omega) (by omega) (l := l) (by omega) (by omega)
   rw [f1, Option.bind_some, show bn (((a + 20 : Nat) : Int) + 20) = ((a + 20 + 20 : Nat) : Int) by rw [bR (by omega) (by omega)]; omega]
   refine N8 hN l0 hl m l1 (a + 20) (by omega) (Nat.dvd_add hd (Nat.dvd_refl _)) c (h.trans (m1.mono (Nat.zero_le _) c)) (fun c' hc hca => ?_)
   by_cases hlt : c' < a
   ·have := wU hc hd hlt
    exact SR.xX m1 (h1 c' hc hlt) (.inl (by omega))
   ·by_cases heq : c' = a
    ·subst heq; exact u1
    ·have := wU hd hc (by omega)
     omega
  ·rw [if_neg (by rw [decide_eq_true_eq]; omega)]
   obtain ⟨l1, m1, u1, f1⟩ := Ex (N := N) (a := a) (b := l0.length) (by omega) (by omega) (l := l) (by omega) hal
   rw [f1, Option.bind_some]
   refine doubles hN l0 hl N l1 20 (by omega) (by omega) (by omega) (h.trans (m1.mono (Nat.zero_le _) (Nat.le_refl _))) (fun c' hc => ?_)
   by_cases hlt : c' < a
   ·have := wU hc hd hlt
    rw [Nat.min_eq_left (by omega)]
    exact SR.xX m1 (h1 c' hc hlt) (.inl (by omega))
   ·by_cases heq : c' = a
    ·subst heq; rw [Nat.min_eq_right (by omega)]; exact u1
    ·have := wU hd hc (by omega)
     exact SR.one (by omega)
theorem Mo {N : Nat} (hN : 20000000000 ≤ N) {l : List dQ} (hl : l.length ≤ 1000000000) :
  ∃ l', fA N l = some l' ∧ l'.Pairwise (fun x y => KR x ≤ KR y) ∧ ∀ v : Int, l'.filter (fun x => decide (KR x = v)) = l.filter (fun x => decide (KR x = v)) := by
 obtain ⟨l', m, s, f⟩ := N8 hN l hl N l 0 (by omega) (Nat.dvd_zero _) (Nat.zero_le _) .rfl (fun c _ h => by omega)
 unfold fA jb
 refine ⟨l', ?_, SR.pairwise (by rw [m.len]; exact s), m.eqv⟩
 rw [show (0 : Int) = ((0 : Nat) : Int) from rfl, show (20 : Int) = ((0 + 20 : Nat) : Int) from rfl, f, Option.bind_some]
end Go.Proofs.YtcjeebkoafonpaaGreatDoor.ST
namespace Go.Proofs.YtcjeebkoafonpaaGreatDoor
theorem CY {α : Type} (pre : List α) (x : α) (h : pre.length < 9223372036854775807) : bn ((pre.length : Int) + 1) = ((pre ++ [x]).length : Int) := by
 rw [Gt (by omega) (by omega)]; simp
def Km (n u : Int) : Bool := decide (-(1000000 / u) ≤ n) && decide (n ≤ 1000000 / u)
theorem LM {n u : Int} (hu : 1 ≤ u ∧ u ≤ 1000) : lS n u = some (Km n u) := by
 have hA : ∀ k : Int, jh k = some (decide (-1000000 ≤ k) && decide (k ≤ 1000000)) := fun _ => rfl
 unfold lS
 rw [hA, Option.bind_some]
 have h0 : 0 ≤ 1000000 / u := Int.ediv_nonneg (by omega) (by omega)
 have h1 : 1000000 / u ≤ 1000000 := Int.ediv_le_self _ (by omega)
 by_cases hn : -1000000 ≤ n ∧ n ≤ 1000000
 ·have e : (decide (-1000000 ≤ n) && decide (n ≤ 1000000)) = true := by simp [hn]
  rw [e, if_pos rfl]
  have hb : -1000000000 ≤ n * u ∧ n * u ≤ 1000000000 := by
   constructor
   ·have := Int.mul_le_mul_of_nonneg_right hn.1 (show (0 : Int) ≤ u by omega)
    omega
   ·have := Int.mul_le_mul_of_nonneg_right hn.2 (show (0 : Int) ≤ u by omega)
    omega
  rw [bR (by omega) (by omega), hA]
  simp only [Option.bind_some]
  congr 1
  unfold Km
  rw [Bool.eq_iff_iff]
  simp only [Bool.and_eq_true, decide_eq_true_eq]
  have k1 : n ≤ 1000000 / u ↔ n * u ≤ 1000000 := Int.le_ediv_iff_mul_le (by omega)
  have k2 : -n ≤ 1000000 / u ↔ -n * u ≤ 1000000 := Int.le_ediv_iff_mul_le (by omega)
  rw [Int.neg_mul] at k2
  omega
 ·have e : (decide (-1000000 ≤ n) && decide (n ≤ 1000000)) = false := by
   rw [Bool.eq_false_iff]; simpa using hn
  rw [e]
  simp only [Bool.false_eq_true, if_false, Option.bind_some]
  congr 1
  unfold Km
  symm
  rw [Bool.eq_false_iff]
  simp only [ne_eq, Bool.and_eq_true, decide_eq_true_eq]
  omega
def Ga (p : aA) (u : Int) : Bool := Km p.X u && Km p.Y u
theorem xV {p : aA} {u : Int} (hu : 1 ≤ u ∧ u ≤ 1000) : ic p u = some (Ga p u) := by
 unfold ic Ga
 rw [LM hu, Option.bind_some]
 cases Km p.X u
 ·rfl
 ·rw [if_pos rfl, LM hu]; simp
def J2 (l : List aA) : List aA → Nat → Bool
 | [], _ => true
 | x :: r, i => if ((x.X == (l.getD ((i + 1) % l.length) ⟨0, 0⟩).X) == (x.Y == (l.getD ((i + 1) % l.length) ⟨0, 0⟩).Y)) then false else J2 l r (i + 1)
theorem Ps {l : List aA} {i : Nat} (h : i < l.length) (hl : l.length ≤ 9223372036854775807) : ((md (bn ((i : Int) + 1)) (l.length : Int)).bind fun q => idx l q) = some (l.getD ((i + 1) % l.length) ⟨0, 0⟩) := by
 have hm : (i + 1) % l.length < l.length := Nat.mod_lt _ (by omega)
 unfold md
 rw [Gt (by omega) (by omega), if_neg (by omega), Option.bind_some, Int.tmod_eq_emod_of_nonneg (by omega)]
 rw [show ((i : Int) + 1) % (l.length : Int) = (((i + 1) % l.length : Nat) : Int) by simp]
 rw [sI hm]
 simp [List.getD, hm]
theorem Eo {β : Type} {l : List aA} {i : Nat} (h : i < l.length) (hl : l.length ≤ 9223372036854775807) (k : aA → Option β) :
  ((md (bn ((i : Int) + 1)) (l.length : Int)).bind fun q => (idx l q).bind k) = k (l.getD ((i + 1) % l.length) ⟨0, 0⟩) := by
 have := Ps h hl
 cases hq : md (bn ((i : Int) + 1)) (l.length : Int) with
 | none => rw [hq] at this; simp at this
 | some q =>
  rw [hq] at this
  simp only [Option.bind_some] at this ⊢
  rw [this, Option.bind_some]
theorem EQ {l : List aA} (hl : l.length ≤ 2000) : ∀ (suf pre : List aA) (m : Nat), l = pre ++ suf → suf.length < m → gq l m (pre.length : Int) = some (if J2 l suf pre.length then 0 else 3)
 | [], pre, m, he, hm => by
  obtain ⟨m, rfl⟩ : ∃ k, m = k + 1 := ⟨m - 1, by omega⟩
  rw [gq]
  rw [show decide ((pre.length : Int) < (l.length : Int)) = false from decide_eq_false (by rw [he]; simp)]
  rfl
 | x :: r, pre, m, he, hm => by
  obtain ⟨m, rfl⟩ : ∃ k, m = k + 1 := ⟨m - 1, by simp at hm; omega⟩
  simp at hm
  have hlen : l.length = pre.length + (r.length + 1) := by rw [he]; simp
  rw [gq]
  rw [show decide ((pre.length : Int) < (l.length : Int)) = true from decide_eq_true (by omega), if_pos rfl]
  rw [show idx l (pre.length : Int) = some x by rw [he]; exact gG _ _ _, Option.bind_some, Eo (by omega) (by omega), J2]
  split
  ·simp
  ·have hx := CY pre x (by omega)
   rw [hx, EQ hl r (pre ++ [x]) m (by rw [he]; simp) (by omega)]
   simp
def L8 (l : List aA) : Int := if 2000 < (l.length : Int) then 2 else if (l.length : Int) < 4 then 3 else if J2 l l 0 then 0 else 3
theorem ER {N : Nat} (hN : 3000 ≤ N) {l : List aA} {u : Int} (hu : 1 ≤ u ∧ u ≤ 1000) (hl : l.length ≤ 9223372036854775807) : ∀ (suf pre : List aA) (m : Nat), l = pre ++ suf → suf.length < m →
  gu N l u m (pre.length : Int) = some (if suf.any (fun q => !Ga q u) then 1 else L8 l)
 | [], pre, m, he, hm => by
  obtain ⟨m, rfl⟩ : ∃ k, m = k + 1 := ⟨m - 1, by omega⟩
  rw [gu]
  rw [show decide ((pre.length : Int) < (l.length : Int)) = false from decide_eq_false (by rw [he]; simp)]
  simp only [Bool.false_eq_true, if_false, List.any_nil, L8]
  by_cases h1 : 2000 < (l.length : Int)
  ·rw [if_pos (decide_eq_true h1), if_pos h1]
  ·rw [if_neg (by simpa using h1), if_neg h1]
   by_cases h2 : (l.length : Int) < 4
   ·rw [if_pos (decide_eq_true h2), if_pos h2]
   ·rw [if_neg (by simpa using h2), if_neg h2]
    exact EQ (by omega) l [] N rfl (by omega)
 | x :: r, pre, m, he, hm => by
  obtain ⟨m, rfl⟩ : ∃ k, m = k + 1 := ⟨m - 1, by simp at hm; omega⟩
  simp at hm
  have hlen : l.length = pre.length + (r.length + 1) := by rw [he]; simp
  rw [gu]
  rw [show decide ((pre.length : Int) < (l.length : Int)) = true from decide_eq_true (by omega), if_pos rfl]
  rw [show idx l (pre.length : Int) = some x by rw [he]; exact gG _ _ _, Option.bind_some, xV hu, Option.bind_some]
  cases hf : Ga x u
  ·simp [hf]
  ·rw [if_neg (by simp), CY pre x (by omega), ER hN hu hl r (pre ++ [x]) m (by rw [he]; simp) (by omega)]
   simp [hf]
theorem PW {N : Nat} {l : List aA} {u : Int} (hu : 1 ≤ u ∧ u ≤ 1000) (hl : l.length ≤ 9223372036854775807) (hN : 3000 ≤ N) (hN2 : l.length < N) : jE N l u = some (if l.any (fun q => !Ga q u) then 1 else L8 l) :=
 ER hN hu hl l [] N rfl hN2
def L9 (l : List aA) : List aA → Nat → Int → Int
 | [], _, x => x
 | p :: t, i, x => L9 l t (i + 1) (bn (x + bn (bn (p.X * (l.getD ((i + 1) % l.length) ⟨0, 0⟩).Y) - bn ((l.getD ((i + 1) % l.length) ⟨0, 0⟩).X * p.Y))))
def rowOf (l : List aA) : dQ := ⟨l, L9 l l 0 0⟩
def KP (l : List aA) : Int := ST.KR (rowOf l)
def AO (l : List aA) : aJ := ⟨7, ⟨#[]⟩, ⟨0, 0⟩, l, 0, 0, []⟩
def yT (k : Int) : aJ := ⟨k, ⟨#[]⟩, ⟨0, 0⟩, [], 0, 0, []⟩
def Ac (l : List aA) : Int := if L9 l l 0 0 < 0 then 2 else 1
def lD : List (List aA) → Int → List aJ
 | [], _ => []
 | l :: t, d => if Ac l = d then AO l :: lD t d else yT (Ac l) :: AO l :: lD t (Ac l)
theorem wO : ∀ (l : List (List aA)) (d : Int), (lD l d).length ≤ 2 * l.length
 | [], _ => by simp [lD]
 | x :: t, d => by
  unfold lD
  split
  ·have := wO t d
   simp only [List.length_cons]; omega
  ·have := wO t (Ac x)
   simp only [List.length_cons]; omega
theorem OO {Q9 : List dQ} (k : List dQ → Option (gK × Int)) {l : List aA} (hl : l.length ≤ 9223372036854775807) (hc : Q9.length < 1000000000) : ∀ (suf : List aA) (i : Nat) (x : Int), i + suf.length = l.length →
  mW Q9 k l suf i x = k (Q9 ++ [⟨l, L9 l suf i x⟩])
 | [], i, x, _ => by
  unfold mW L9
  rw [iO (by simp; omega), Option.bind_some]
 | p :: t, i, x, h => by
  simp only [List.length_cons] at h
  unfold mW L9
  rw [Eo (by omega) hl, OO k hl hc t (i + 1) _ (by omega)]
theorem OL : ∀ (o : List (List aA)) (i : Nat) (out : List aJ) (d : Int), out.length + 2 * o.length ≤ 1000000000 →
  jo (o.map rowOf) i out d = some (⟨1, [], out ++ lD o d⟩, 0)
 | [], i, out, d, _ => by
  show some ((gK.mk 1 [] out), (0 : Int)) = _
  rw [show lD [] d = [] from rfl, List.append_nil]
 | l :: t, i, out, d, h => by
  simp only [List.length_cons] at h
  have key : ∀ k : Int, Ac l = k → pz out d (jo (t.map rowOf) (i + 1)) (rowOf l) k = some (⟨1, [], out ++ lD (l :: t) d⟩, 0) := by
   intro k hk
   unfold pz ry lD
   rw [hk]
   by_cases c : k = d
   ·subst c
    rw [if_neg (by simp), if_pos rfl, iO (by simp; omega), Option.bind_some]
    rw [OL t (i + 1) _ k (by simp only [List.length_append, List.length_cons, List.length_nil]; omega), List.append_assoc]
    rfl
   ·rw [if_pos (by simp [c]), if_neg c, iO (by simp; omega), Option.bind_some, iO (by simp; omega), Option.bind_some]
    rw [OL t (i + 1) _ k (by simp only [List.length_append, List.length_cons, List.length_nil]; omega), List.append_assoc, List.append_assoc]
    rfl
  show jo (rowOf l :: t.map rowOf) i out d = _
  unfold jo
  by_cases c : (rowOf l).area < 0
  ·rw [if_pos (decide_eq_true c)]
   exact key 2 (if_pos c)
  ·rw [if_neg (by rw [decide_eq_true_eq]; exact c)]
   exact key 1 (if_neg c)
theorem Qu {N : Nat} {res : List dQ → Option (gK × Int)} (hres : ∀ i l, lH N [] i l = res l) : ∀ (ls : List (List aA)) (i : Nat) (out : List dQ), out.length + ls.length < 1000000000 → (∀ l ∈ ls, l.length ≤ 9223372036854775807) →
  lH N ls i out = res (out ++ ls.map rowOf)
 | [], i, out, _, _ => by rw [hres]; simp
 | l :: t, i, out, h, hl => by
  simp only [List.length_cons] at h
  unfold lH
  rw [OO _ (hl l List.mem_cons_self) (by omega) l 0 0 (by omega)]
  rw [Qu hres t (i + 1) _ (by simp; omega) (fun l h => hl l (List.mem_cons_of_mem _ h)), List.append_assoc]
  rfl
theorem EF (o : List (List aA)) (v : Int) : (o.map rowOf).filter (fun x => decide (ST.KR x = v)) = (o.filter fun l => decide (KP l = v)).map rowOf := by
 rw [List.filter_map]; rfl
theorem Pg {l m : List aA} (h : rowOf l = rowOf m) : l = m := by
 have := congrArg dQ.points h
 exact this
def qj (ls o : List (List aA)) : Prop := o.Pairwise (fun x y => KP x ≤ KP y) ∧ ∀ v : Int, o.filter (fun l => decide (KP l = v)) = ls.filter fun l => decide (KP l = v)
theorem qj.uniq {ls o o' : List (List aA)} (h : qj ls o) (h' : qj ls o') : o' = o := ST.zZ h.1 h'.1 (fun v => (h'.2 v).trans (h.2 v).symm)
theorem qj.mem {ls o : List (List aA)} (h : qj ls o) (x : List aA) : x ∈ o ↔ x ∈ ls := by
 have := congrArg (x ∈ ·) (h.2 (KP x))
 simp only [List.mem_filter, decide_true, and_true, eq_iff_iff] at this
 exact this
theorem qj.len {ls o : List (List aA)} (h : qj ls o) : o.Perm ls := by
 classical
 rw [List.perm_iff_count]
 intro x
 have := congrArg (List.count x) (h.2 (KP x))
 rwa [List.count_filter (by simp), List.count_filter (by simp)] at this
theorem OH {N : Nat} (hN : 20000000000 ≤ N) {ls : List (List aA)} (hls : ls.length ≤ 100000000) (hl : ∀ l ∈ ls, l.length ≤ 100000000) : ∃ o, qj ls o ∧ lH N ls 0 [] = some (⟨1, [], lD o 1⟩, 0) := by
 obtain ⟨l', h1, h2, h3⟩ := ST.Mo hN (l := ls.map rowOf) (by rw [List.length_map]; omega)
 have hmem : ∀ x ∈ l', ∃ l ∈ ls, rowOf l = x := by
  intro x hx
  have : x ∈ l'.filter (fun y => decide (ST.KR y = ST.KR x)) := List.mem_filter.2 ⟨hx, by simp⟩
  rw [h3] at this
  exact List.mem_map.1 (List.mem_filter.1 this).1
 have e : (l'.map (·.points)).map rowOf = l' := by
  rw [List.map_map]
  conv => rhs; rw [← List.map_id l']
  apply List.map_congr_left
  intro x hx
  obtain ⟨l, _, rfl⟩ := hmem x hx
  rfl
 have hB : qj ls (l'.map (·.points)) := by
  constructor
  ·rw [← e] at h2
   have := (List.pairwise_map (f := rowOf) (R := fun x y => ST.KR x ≤ ST.KR y)).1 h2
   exact this
  ·intro v
   have := h3 v
   rw [← e, EF, EF] at this
   exact (List.map_inj_right (fun _ _ => Pg)).1 this
 refine ⟨l'.map (·.points), hB, ?_⟩
 have hlen := hB.len.length_eq
 rw [Qu (N := N) (res := fun l => (fA N l).bind fun Tc => jo Tc 0 ([] : List aJ) 1) (fun _ _ => rfl) ls 0 [] (by simp; omega) (fun l h => by have := hl l h; omega), List.nil_append]
 rw [h1, Option.bind_some]
 conv => lhs; rw [← e]
 rw [OL _ 0 [] 1 (by rw [hlen]; simp; omega), List.nil_append]
theorem Bq {l : List aA} (hl : l.length ≤ 1000000000) : ∀ (suf pre : List aA) (m : Nat) (x : Int), l = pre ++ suf → suf.length < m → ig l m x (pre.length : Int) = some (L9 l suf pre.length x)
 | _, _, 0, _, _, h => absurd h (Nat.not_lt_zero _)
 | [], pre, m + 1, x, he, _ => by
  unfold ig
  rw [if_neg (by rw [he]; simp)]; rfl
 | p :: t, pre, m + 1, x, he, h => by
  simp only [List.length_cons] at h
  have hlen : l.length = pre.length + t.length + 1 := by rw [he]; simp; omega
  unfold ig L9
  have hp : idx l (pre.length : Int) = some p := by
   rw [sI (by omega)]
   congr 1
   rw [List.getElem_of_eq he]
   simp
  rw [if_pos (decide_eq_true (by omega : (pre.length : Int) < (l.length : Int))), hp, Option.bind_some, Eo (by omega) (by omega)]
  have := Bq hl t (pre ++ [p]) m (bn (x + bn (bn (p.X * (l.getD ((pre.length + 1) % l.length) ⟨0, 0⟩).Y) - bn ((l.getD ((pre.length + 1) % l.length) ⟨0, 0⟩).X * p.Y)))) (by rw [he]; simp) (by omega)
  rw [List.length_append, List.length_singleton] at this
  rw [bR (x := (pre.length : Int) + 1) (by omega) (by omega)]
  exact this
theorem Aw {N : Nat} {l : List aA} (hl : l.length ≤ 1000000000) (hN : 10000000000 ≤ N) : kN N l = some (L9 l l 0 0) := Bq hl l [] N 0 rfl (by omega)
theorem K5 (n : Int) : ni n = some (max n (bn (0 - n))) := rfl
theorem qj.add {a o : List (List aA)} {x : List aA} {k : Nat} (h : qj a o) (h1 : ∀ y ∈ o.drop k, KP x < KP y) (h2 : k = 0 ∨ ∃ y, o[k - 1]? = some y ∧ KP y ≤ KP x) : qj (a ++ [x]) (o.take k ++ [x] ++ o.drop k) := by
 have hp := h.1
 rw [← List.take_append_drop k o, List.pairwise_append] at hp
 obtain ⟨p1, p2, p3⟩ := hp
 have hx : ∀ y ∈ o.take k, KP y ≤ KP x := by
  intro y hy
  rcases h2 with rfl | ⟨z, hz, hzx⟩
  ·simp at hy
  ·obtain ⟨i, hi⟩ := List.mem_iff_getElem?.1 hy
   have hik : i < k := by
    have := (List.getElem?_eq_some_iff.1 hi).1
    rw [List.length_take] at this; omega
   rw [List.getElem?_take_of_lt hik] at hi
   obtain ⟨q1, q2⟩ := List.getElem?_eq_some_iff.1 hi
   obtain ⟨r1, r2⟩ := List.getElem?_eq_some_iff.1 hz
   by_cases c : i = k - 1
   ·subst c
    rw [q2] at r2
    rw [r2]; exact hzx
   ·have := (List.pairwise_iff_getElem.1 h.1) i (k - 1) q1 r1 (by omega)
    rw [q2, r2] at this
    omega
 constructor
 ·rw [List.append_assoc, List.pairwise_append]
  refine ⟨p1, ?_, fun u hu v hv => ?_⟩
  ·rw [List.singleton_append, List.pairwise_cons]
   exact ⟨fun y hy => by have := h1 y hy; omega, p2⟩
  ·rw [List.singleton_append, List.mem_cons] at hv
   rcases hv with rfl | hv
   ·exact hx u hu
   ·exact p3 u hu v hv
 ·intro v
  have e1 := h.2 v
  rw [List.append_assoc, List.filter_append, ST.CJ (K := KP) (U := [x]) (V := o.drop k) (by
   intro u hu y hy
   rw [List.mem_singleton] at hu
   subst hu
   have := h1 y hy; omega), ← List.filter_append, ← List.append_assoc, List.take_append_drop, List.filter_append, List.filter_append, e1]
theorem OM {N : Nat} (hN : 10000000000 ≤ N) {y : List (List aA) × Int} {a o : List (List aA)} {x : List aA} (hx : idx y.1 (a.length : Int) = some x) (hxl : x.length ≤ 100000000) (hB : qj a o) (hol : ∀ l ∈ o, l.length ≤ 100000000) (hoc : o.length ≤ 100000000) (hac : a.length ≤ 100000000)
  (kk : List (List aA) → Int → Option (gK × Int)) : ∀ (m k : Nat), k < m → k ≤ o.length → (∀ z ∈ o.drop k, KP x < KP z) →
  ∃ o', qj (a ++ [x]) o' ∧ jT N y o (a.length : Int) kk m (k : Int) = kk o' ((a.length : Int) + 1)
 | 0, _, h, _, _ => absurd h (Nat.not_lt_zero _)
 | m + 1, k, hm, hk, hd => by
  have fin : (k = 0 ∨ ∃ z, o[k - 1]? = some z ∧ KP z ≤ KP x) → ∃ o', qj (a ++ [x]) o' ∧ ((pre o (k : Int)).bind fun TL => (sj ([] : List (List aA)) TL).bind fun TK => (idx y.1 (a.length : Int)).bind fun Tp => (sj TK [Tp]).bind fun TJ => (cut o (k : Int) (o.length : Int)).bind fun TI => (sj TJ TI).bind fun TH => kk TH (bn ((a.length : Int) + 1))) = kk o' ((a.length : Int) + 1) := by
   intro h2
   refine ⟨o.take k ++ [x] ++ o.drop k, hB.add hd h2, ?_⟩
   have e1 : pre o (k : Int) = some (o.take k) := by
    unfold pre
    rw [if_pos ⟨by omega, by omega⟩, Int.toNat_natCast]
   have e2 : cut o (k : Int) (o.length : Int) = some (o.drop k) := by
    unfold cut
    rw [if_pos ⟨by omega, by omega, by omega⟩, Int.toNat_natCast, Int.toNat_natCast, List.take_length]
   have l1 : (o.take k).length ≤ o.length := by rw [List.length_take]; omega
   have l2 : (o.drop k).length ≤ o.length := by rw [List.length_drop]; omega
   rw [e1, Option.bind_some, iO (by simp; omega), Option.bind_some, hx, Option.bind_some, List.nil_append, iO (by rw [List.length_singleton]; omega), Option.bind_some, e2, Option.bind_some, iO (by rw [List.length_append, List.length_singleton]; omega), Option.bind_some, bR (by omega) (by omega)]
  unfold jT
  by_cases c : 0 < k
  ·obtain ⟨z, hz⟩ : ∃ z, o[k - 1]? = some z := ⟨o[k - 1]'(by omega), List.getElem?_eq_getElem (by omega)⟩
   have hzm : z ∈ o := List.mem_of_getElem? hz
   have e1 : bn ((k : Int) - 1) = ((k - 1 : Nat) : Int) := by rw [bR (by omega) (by omega)]; omega
   have hzi : idx o ((k - 1 : Nat) : Int) = some z := by
    unfold idx
    rw [if_pos (by omega), Int.toNat_natCast, hz]
   rw [if_pos (decide_eq_true (by omega : (0 : Int) < (k : Int))), e1, hzi, Option.bind_some, Aw (by have := hol z hzm; omega) hN, Option.bind_some, K5, Option.bind_some, hx, Option.bind_some, Aw (by omega) hN, Option.bind_some, K5, Option.bind_some, Option.bind_some]
   have hlt : (max (L9 z z 0 0) (bn (0 - L9 z z 0 0)) < max (L9 x x 0 0) (bn (0 - L9 x x 0 0))) ↔ KP x < KP z := by
    unfold KP ST.KR rowOf
    simp only
    omega
   by_cases d : KP x < KP z
   ·rw [if_pos (decide_eq_true (hlt.2 d))]
    refine OM hN hx hxl hB hol hoc hac kk m (k - 1) (by omega) (by omega) (fun w hw => ?_)
    obtain ⟨q1, q2⟩ := List.getElem?_eq_some_iff.1 hz
    rw [List.drop_eq_getElem_cons q1, q2, Nat.sub_add_cancel (by omega), List.mem_cons] at hw
    rcases hw with rfl | hw
    ·exact d
    ·exact hd w hw
   ·rw [if_neg (by rw [decide_eq_true_eq]; exact fun h => d (hlt.1 h))]
    have hf := fin (.inr ⟨z, hz, by omega⟩)
    rw [hx] at hf
    exact hf
  ·have hk0 : k = 0 := by omega
   rw [if_neg (by rw [decide_eq_true_eq]; omega), Option.bind_some, if_neg (by decide)]
   exact fin (.inl hk0)
theorem OJ {N : Nat} (hN : 10000000000 ≤ N) {o : List (List aA)} (hol : ∀ l ∈ o, l.length ≤ 100000000) (hoc : o.length ≤ 100000000) : ∀ (suf pre : List (List aA)) (m : Nat) (out : List aJ) (d : Int), o = pre ++ suf → suf.length < m → out.length + 2 * suf.length ≤ 1000000000 →
  dU N o m out d (pre.length : Int) = (gF N ⟨1, [], out ++ lD suf d⟩).bind fun y => some (y.1, y.2)
 | _, _, 0, _, _, _, h, _ => absurd h (Nat.not_lt_zero _)
 | [], pre, m + 1, out, d, he, _, _ => by
  unfold dU
  rw [if_neg (by rw [he]; simp), show lD [] d = [] from rfl, List.append_nil]
 | l :: t, pre, m + 1, out, d, he, hm, h => by
  simp only [List.length_cons] at h hm
  have hlen : o.length = pre.length + t.length + 1 := by rw [he]; simp; omega
  have hp : idx o (pre.length : Int) = some l := by
   unfold idx
   rw [if_pos (by omega), Int.toNat_natCast, he]
   simp
  have key : ∀ k : Int, Ac l = k → jK o out d (pre.length : Int) (dU N o m) k = (gF N ⟨1, [], out ++ lD (l :: t) d⟩).bind fun y => some (y.1, y.2) := by
   intro k hk
   have step : ∀ (out2 : List aJ) (d2 : Int), out2.length + 2 * t.length ≤ 1000000000 → dU N o m out2 d2 (bn ((pre.length : Int) + 1)) = (gF N ⟨1, [], out2 ++ lD t d2⟩).bind fun y => some (y.1, y.2) := by
    intro out2 d2 h2
    have := OJ hN hol hoc t (pre ++ [l]) m out2 d2 (by rw [he]; simp) (by omega) h2
    rw [List.length_append, List.length_singleton] at this
    rw [bR (by omega) (by omega)]
    exact this
   unfold jK kP lD
   rw [hk]
   by_cases c : k = d
   ·subst c
    rw [if_neg (by simp), if_pos rfl, hp, Option.bind_some, iO (by simp; omega), Option.bind_some]
    rw [step _ k (by simp only [List.length_append, List.length_cons, List.length_nil]; omega), List.append_assoc]
    rfl
   ·rw [if_pos (by simp [c]), if_neg c, iO (by simp; omega), Option.bind_some, hp, Option.bind_some, iO (by simp; omega), Option.bind_some]
    rw [step _ k (by simp only [List.length_append, List.length_cons, List.length_nil]; omega), List.append_assoc, List.append_assoc]
    rfl
  unfold dU
  rw [if_pos (decide_eq_true (by omega : (pre.length : Int) < (o.length : Int))), hp, Option.bind_some, Aw (by have := hol l (by rw [he]; simp); omega) hN, Option.bind_some]
  by_cases c : L9 l l 0 0 < 0
  ·rw [if_pos (decide_eq_true c)]
   exact key 2 (if_pos c)
  ·rw [if_neg (by rw [decide_eq_true_eq]; exact c)]
   exact key 1 (if_neg c)
theorem Jw {N : Nat} (hN : 10000000000 ≤ N) {y : List (List aA) × Int} (hls : y.1.length ≤ 100000000) (hl : ∀ l ∈ y.1, l.length ≤ 100000000) : ∀ (suf pre : List (List aA)) (m : Nat) (o : List (List aA)), y.1 = pre ++ suf → suf.length < m → qj pre o →
  ∃ o', qj y.1 o' ∧ fK N y m o (pre.length : Int) = (gF N ⟨1, [], lD o' 1⟩).bind fun y => some (y.1, y.2)
 | _, _, 0, _, _, h, _ => absurd h (Nat.not_lt_zero _)
 | [], pre, m + 1, o, he, _, hB => by
  have hpre : y.1 = pre := by rw [he]; simp
  have hlen := hB.len.length_eq
  refine ⟨o, by rw [hpre]; exact hB, ?_⟩
  unfold fK
  rw [if_neg (by rw [hpre]; simp)]
  have := OJ hN (o := o) (fun l h => hl l (by rw [hpre]; exact (hB.mem l).1 h)) (by rw [hlen, ← hpre]; exact hls) o [] N [] 1 rfl (by rw [hlen, ← hpre]; omega) (by rw [hlen, ← hpre]; simp; omega)
  rw [List.nil_append] at this
  exact this
 | x :: t, pre, m + 1, o, he, hm, hB => by
  simp only [List.length_cons] at hm
  have hlen : y.1.length = pre.length + t.length + 1 := by rw [he]; simp; omega
  have hol := hB.len.length_eq
  have hx : idx y.1 (pre.length : Int) = some x := by
   unfold idx
   rw [if_pos (by omega), Int.toNat_natCast, he]
   simp
  unfold fK
  rw [if_pos (decide_eq_true (by omega : (pre.length : Int) < (y.1.length : Int)))]
  obtain ⟨o', h1, h2⟩ := OM hN hx (hl x (by rw [he]; simp)) hB (fun l h => hl l (by rw [he]; exact List.mem_append_left _ ((hB.mem l).1 h))) (by omega) (by omega) (fK N y m) N o.length (by omega) (Nat.le_refl _) (fun z hz => by simp at hz)
  rw [h2]
  obtain ⟨o2, h3, h4⟩ := Jw hN hls hl t (pre ++ [x]) m o' (by rw [he]; simp) (by omega) h1
  rw [List.length_append, List.length_singleton] at h4
  exact ⟨o2, h3, h4⟩
theorem OG {N : Nat} (hN : 10000000000 ≤ N) {y : List (List aA) × Int} (hls : y.1.length ≤ 100000000) (hl : ∀ l ∈ y.1, l.length ≤ 100000000) :
  ∃ o, qj y.1 o ∧ fK N y N [] 0 = (gF N ⟨1, [], lD o 1⟩).bind fun y => some (y.1, y.2) :=
 Jw hN hls hl y.1 [] N [] rfl (by omega) ⟨.nil, fun _ => rfl⟩
mutual
def Aj : aJ → Nat
 | ⟨_, n, _, ps, _, _, l⟩ => 1 + n.size + ps.length + oo l
def oo : List aJ → Nat
 | [] => 0
 | x :: l => Aj x + oo l
end
mutual
def Q6 : aJ → Nat
 | ⟨_, _, _, _, _, _, l⟩ => 1 + Li l
def Li : List aJ → Nat
 | [] => 0
 | x :: l => Q6 x + Li l
end
theorem zD (x : aJ) : Aj x = 1 + x.Name.size + x.Points.length + oo x.Steps := by cases x; rw [Aj]
theorem wJ : oo [] = 0 := by rw [oo]
theorem su (x : aJ) (l : List aJ) : oo (x :: l) = Aj x + oo l := by rw [oo]
theorem Cx {x : aJ} : ∀ {l : List aJ}, x ∈ l → Aj x ≤ oo l
 | y :: l, h => by
  rw [su]
  rcases List.mem_cons.1 h with h | h
  ·subst h; omega
  ·have := Cx h; omega
theorem Cy : ∀ (l : List aJ), l.length ≤ oo l
 | [] => by simp
 | x :: l => by
  have := Cy l
  have := zD x
  rw [su, List.length_cons]; omega
def Mf (n : Int) : Prop := -9223372036854775808 ≤ n ∧ n ≤ 9223372036854775807
mutual
def MJ : aJ → Prop
 | ⟨_, n, a, ps, nx, ny, l⟩ => n.size ≤ 9223372036854775807 ∧ (Mf a.X ∧ Mf a.Y) ∧ (ps.length ≤ 9223372036854775807 ∧ ∀ q ∈ ps, Mf q.X ∧ Mf q.Y) ∧ (Mf nx ∧ Mf ny) ∧ l.length ≤ 9223372036854775807 ∧ Ao l
def Ao : List aJ → Prop
 | [] => True
 | x :: l => MJ x ∧ Ao l
end
theorem Lt (x : aJ) : MJ x ↔ x.Name.size ≤ 9223372036854775807 ∧ (Mf x.At.X ∧ Mf x.At.Y) ∧ (x.Points.length ≤ 9223372036854775807 ∧ ∀ q ∈ x.Points, Mf q.X ∧ Mf q.Y) ∧ (Mf x.NX ∧ Mf x.NY) ∧ x.Steps.length ≤ 9223372036854775807 ∧ Ao x.Steps := by cases x; rw [MJ]
theorem FY (x : aJ) (l : List aJ) : Ao (x :: l) ↔ MJ x ∧ Ao l := by rw [Ao]
theorem IR {x : aJ} : ∀ {l : List aJ}, Ao l → x ∈ l → MJ x
 | y :: l, h, hm => by
  rw [FY] at h
  rcases List.mem_cons.1 hm with e | e
  ·subst e; exact h.1
  ·exact IR h.2 e
theorem Py {l : List aJ} (h : ∀ x ∈ l, MJ x) : Ao l := by
 induction l with
 | nil => rw [Ao]; trivial
 | cons x l ih => rw [FY]; exact ⟨h x List.mem_cons_self, ih (fun y hy => h y (List.mem_cons_of_mem _ hy))⟩
end Go.Proofs.YtcjeebkoafonpaaGreatDoor
namespace Go.Proofs.YtcjeebkoafonpaaGreatDoor.PX
inductive Dir where
 | E | N | W | S
namespace Dir
def left : Dir → Dir | E => N | N => W | W => S | S => E
def right : Dir → Dir | E => S | N => E | W => N | S => W
def dx : Dir → Int | E => 1 | N => 0 | W => -1 | S => 0
def dy : Dir → Int | E => 0 | N => 1 | W => 0 | S => -1
instance : DecidableEq Dir := fun a b => by
 cases a <;> cases b <;> first | exact isTrue rfl | exact isFalse (fun h => nomatch h)
end Dir
structure Ed where
 x : Int
 y : Int
 d : Dir
instance : DecidableEq Ed := fun a b => by
 obtain ⟨x, y, d⟩ := a
 obtain ⟨x', y', d'⟩ := b
 exact if h : x = x' ∧ y = y' ∧ d = d' then isTrue (by obtain ⟨rfl, rfl, rfl⟩ := h; rfl) else isFalse (fun e => h (by cases e; exact ⟨rfl, rfl, rfl⟩))
abbrev Sq := Int → Int → Bool
def lq (I : Sq) (x y : Int) : Dir → Bool
 | .E => I x y
 | .N => I (x - 1) y
 | .W => I (x - 1) (y - 1)
 | .S => I x (y - 1)
def xk (I : Sq) (e : Ed) : Prop := lq I e.x e.y e.d = true ∧ lq I e.x e.y e.d.right = false
def Ed.tx (e : Ed) : Int := e.x + e.d.dx
def Ed.ty (e : Ed) : Int := e.y + e.d.dy
def sc (I : Sq) (e : Ed) : Ed :=
 if lq I e.tx e.ty e.d = false then ⟨e.tx, e.ty, e.d.left⟩ else if lq I e.tx e.ty e.d.right = false then ⟨e.tx, e.ty, e.d⟩ else ⟨e.tx, e.ty, e.d.right⟩
def pd (I : Sq) (e : Ed) : Ed :=
 if lq I e.x e.y e.d.left = false then ⟨e.x - e.d.right.dx, e.y - e.d.right.dy, e.d.right⟩ else if lq I e.x e.y e.d.left.left = false then ⟨e.x - e.d.dx, e.y - e.d.dy, e.d⟩ else ⟨e.x - e.d.left.dx, e.y - e.d.left.dy, e.d.left⟩
theorem CP (I : Sq) (x y : Int) (d : Dir) : lq I (x + d.dx) (y + d.dy) d.left = lq I x y d ∧ lq I (x + d.dx) (y + d.dy) d.left.left = lq I x y d.right := by
 cases d <;> simp only [Dir.left, Dir.right, Dir.dx, Dir.dy, lq] <;> refine ⟨?_, ?_⟩ <;> congr 1 <;> omega
theorem Ho (I : Sq) (x y : Int) (d : Dir) : lq I (x - d.dx) (y - d.dy) d = lq I x y d.left ∧ lq I (x - d.dx) (y - d.dy) d.right = lq I x y d.left.left := by
 have h := CP I (x - d.dx) (y - d.dy) d
 have e1 : x - d.dx + d.dx = x := by omega
 have e2 : y - d.dy + d.dy = y := by omega
 rw [e1, e2] at h
 exact ⟨h.1.symm, h.2.symm⟩
theorem Dir.lr (d : Dir) : d.left.right = d := by cases d <;> rfl
theorem Dir.rl (d : Dir) : d.right.left = d := by cases d <;> rfl
theorem Dir.rr (d : Dir) : d.right.right = d.left.left := by cases d <;> rfl
theorem Dir.Uz (d : Dir) : d.left.left.left = d.right := by cases d <;> rfl
theorem QP {I : Sq} {e : Ed} (h : lq I e.tx e.ty e.d = false) : sc I e = ⟨e.tx, e.ty, e.d.left⟩ := if_pos h
theorem QO {I : Sq} {e : Ed} (h : lq I e.tx e.ty e.d = true) (h' : lq I e.tx e.ty e.d.right = false) : sc I e = ⟨e.tx, e.ty, e.d⟩ := (if_neg (by rw [h]; simp)).trans (if_pos h')
theorem R5 {I : Sq} {e : Ed} (h : lq I e.tx e.ty e.d = true) (h' : lq I e.tx e.ty e.d.right = true) : sc I e = ⟨e.tx, e.ty, e.d.right⟩ := (if_neg (by rw [h]; simp)).trans (if_neg (by rw [h']; simp))
theorem Q3 {I : Sq} {e : Ed} (h : lq I e.x e.y e.d.left = false) : pd I e = ⟨e.x - e.d.right.dx, e.y - e.d.right.dy, e.d.right⟩ := if_pos h
theorem R7 {I : Sq} {e : Ed} (h : lq I e.x e.y e.d.left = true) (h' : lq I e.x e.y e.d.left.left = false) : pd I e = ⟨e.x - e.d.dx, e.y - e.d.dy, e.d⟩ := (if_neg (by rw [h]; simp)).trans (if_pos h')
theorem R8 {I : Sq} {e : Ed} (h : lq I e.x e.y e.d.left = true) (h' : lq I e.x e.y e.d.left.left = true) : pd I e = ⟨e.x - e.d.left.dx, e.y - e.d.left.dy, e.d.left⟩ := (if_neg (by rw [h]; simp)).trans (if_neg (by rw [h']; simp))
theorem bc {b : Bool} : b = false ∨ b = true := by cases b; exact .inl rfl; exact .inr rfl
theorem AP {I : Sq} {e : Ed} (_ : xk I e) : (lq I e.tx e.ty e.d = false ∧ sc I e = ⟨e.tx, e.ty, e.d.left⟩) ∨ (lq I e.tx e.ty e.d = true ∧ lq I e.tx e.ty e.d.right = false ∧ sc I e = ⟨e.tx, e.ty, e.d⟩) ∨
  (lq I e.tx e.ty e.d = true ∧ lq I e.tx e.ty e.d.right = true ∧ sc I e = ⟨e.tx, e.ty, e.d.right⟩) := by
 rcases bc (b := lq I e.tx e.ty e.d) with h1 | h1
 ·exact .inl ⟨h1, QP h1⟩
 ·rcases bc (b := lq I e.tx e.ty e.d.right) with h2 | h2
  ·exact .inr (.inl ⟨h1, h2, QO h1 h2⟩)
  ·exact .inr (.inr ⟨h1, h2, R5 h1 h2⟩)
theorem Ed.CP (I : Sq) (e : Ed) : lq I e.tx e.ty e.d.left = lq I e.x e.y e.d ∧ lq I e.tx e.ty e.d.left.left = lq I e.x e.y e.d.right := PX.CP I e.x e.y e.d
theorem GD {I : Sq} {e : Ed} (h : xk I e) : xk I (sc I e) := by
 obtain ⟨g1, g2⟩ := Ed.CP I e
 rcases AP h with ⟨h1, h2⟩ | ⟨h1, h2, h3⟩ | ⟨h1, h2, h3⟩
 ·rw [h2]; exact ⟨g1.trans h.1, by simp only [Dir.lr]; exact h1⟩
 ·rw [h3]; exact ⟨h1, h2⟩
 ·rw [h3]; exact ⟨h2, by simp only [Dir.rr]; exact g2.trans h.2⟩
theorem Ed.ext' {e f : Ed} (h1 : e.x = f.x) (h2 : e.y = f.y) (h3 : e.d = f.d) : e = f := by cases e; cases f; cases h1; cases h2; cases h3; rfl
theorem A9 {I : Sq} {e : Ed} (h : xk I e) : pd I (sc I e) = e := by
 obtain ⟨g1, g2⟩ := Ed.CP I e
 have a1 : e.tx - e.d.dx = e.x := by unfold Ed.tx; omega
 have a2 : e.ty - e.d.dy = e.y := by unfold Ed.ty; omega
 rcases AP h with ⟨h1, h2⟩ | ⟨h1, h2, h3⟩ | ⟨h1, h2, h3⟩
 ·rw [h2, Q3 (g2.trans h.2)]; exact Ed.ext' (by simp only [Dir.lr]; exact a1) (by simp only [Dir.lr]; exact a2) (Dir.lr _)
 ·rw [h3, R7 (g1.trans h.1) (g2.trans h.2)]; exact Ed.ext' a1 a2 rfl
 ·rw [h3, R8 (by simp only [Dir.rl]; exact h1) (by simp only [Dir.rl]; exact g1.trans h.1)]; exact Ed.ext' (by simp only [Dir.rl]; exact a1) (by simp only [Dir.rl]; exact a2) (Dir.rl _)
theorem Ba {I : Sq} {e : Ed} (_ : xk I e) : (lq I e.x e.y e.d.left = false ∧ pd I e = ⟨e.x - e.d.right.dx, e.y - e.d.right.dy, e.d.right⟩) ∨ (lq I e.x e.y e.d.left = true ∧ lq I e.x e.y e.d.left.left = false ∧ pd I e = ⟨e.x - e.d.dx, e.y - e.d.dy, e.d⟩) ∨
  (lq I e.x e.y e.d.left = true ∧ lq I e.x e.y e.d.left.left = true ∧ pd I e = ⟨e.x - e.d.left.dx, e.y - e.d.left.dy, e.d.left⟩) := by
 rcases bc (b := lq I e.x e.y e.d.left) with h1 | h1
 ·exact .inl ⟨h1, Q3 h1⟩
 ·rcases bc (b := lq I e.x e.y e.d.left.left) with h2 | h2
  ·exact .inr (.inl ⟨h1, h2, R7 h1 h2⟩)
  ·exact .inr (.inr ⟨h1, h2, R8 h1 h2⟩)
theorem FT {I : Sq} {e : Ed} (h : xk I e) : (pd I e).tx = e.x ∧ (pd I e).ty = e.y := by
 rcases Ba h with ⟨_, h2⟩ | ⟨_, _, h2⟩ | ⟨_, _, h2⟩ <;> rw [h2] <;> exact ⟨by simp only [Ed.tx]; omega, by simp only [Ed.ty]; omega⟩
theorem J9 {I : Sq} {e : Ed} (h : xk I e) : xk I (pd I e) := by
 rcases Ba h with ⟨h1, h2⟩ | ⟨h1, h2, h3⟩ | ⟨h1, h2, h3⟩
 ·obtain ⟨g1, g2⟩ := Ho I e.x e.y e.d.right
  rw [h2]; exact ⟨g1.trans (by rw [Dir.rl]; exact h.1), g2.trans (by rw [Dir.rl]; exact h1)⟩
 ·obtain ⟨g1, g2⟩ := Ho I e.x e.y e.d
  rw [h3]; exact ⟨g1.trans h1, g2.trans h2⟩
 ·obtain ⟨g1, g2⟩ := Ho I e.x e.y e.d.left
  rw [h3]; exact ⟨g1.trans h2, g2.trans (by rw [Dir.Uz]; exact h.2)⟩
theorem Ql {I : Sq} {e : Ed} (h : xk I e) : sc I (pd I e) = e := by
 obtain ⟨t1, t2⟩ := FT h
 rcases Ba h with ⟨h1, h2⟩ | ⟨h1, h2, h3⟩ | ⟨h1, h2, h3⟩
 ·have hd : (pd I e).d = e.d.right := by rw [h2]
  rw [QP (by rw [t1, t2, hd]; exact h.2), t1, t2, hd, Dir.rl]
 ·have hd : (pd I e).d = e.d := by rw [h3]
  rw [QO (by rw [t1, t2, hd]; exact h.1) (by rw [t1, t2, hd]; exact h.2), t1, t2, hd]
 ·have hd : (pd I e).d = e.d.left := by rw [h3]
  rw [R5 (by rw [t1, t2, hd]; exact h1) (by rw [t1, t2, hd, Dir.lr]; exact h.1), t1, t2, hd, Dir.lr]
def E9 (I : Sq) (e : Ed) : Bool := decide ((pd I e).d ≠ e.d)
def it (I : Sq) : Nat → Ed → Ed
 | 0, e => e
 | k + 1, e => it I k (sc I e)
theorem uZ (I : Sq) (k : Nat) (e : Ed) : it I (k + 1) e = sc I (it I k e) := by
 induction k generalizing e with
 | zero => rfl
 | succ k ih => exact ih (sc I e)
theorem nX (I : Sq) (j k : Nat) (e : Ed) : it I (j + k) e = it I j (it I k e) := by
 induction k generalizing e with
 | zero => rfl
 | succ k ih => exact ih (sc I e)
theorem tN {I : Sq} {e : Ed} (h : xk I e) : ∀ k, xk I (it I k e)
 | 0 => h
 | k + 1 => by rw [uZ]; exact GD (tN h k)
theorem JV {I : Sq} {e f : Ed} (he : xk I e) (hf : xk I f) (h : sc I e = sc I f) : e = f := by rw [← A9 he, h, A9 hf]
theorem GZ {I : Sq} {e f : Ed} (he : xk I e) (hf : xk I f) : ∀ k, it I k e = it I k f → e = f
 | 0, h => h
 | k + 1, h => JV he hf (GZ (GD he) (GD hf) k h)
def zU (I : Sq) (B : List Ed) : Prop := ∀ e, xk I e → e ∈ B
theorem Ca {α : Type} [DecidableEq α] : ∀ {l m : List α}, l.Nodup → (∀ x ∈ l, x ∈ m) → l.length ≤ m.length
 | [], _, _, _ => Nat.zero_le _
 | x :: l, m, hn, h => by
  obtain ⟨h1, h2⟩ := List.nodup_cons.1 hn
  have hx := h x (by simp)
  have : l.length ≤ (m.erase x).length := Ca h2 fun y hy => (List.mem_erase_of_ne (fun (e : y = x) => h1 (e ▸ hy))).2 (h y (by simp [hy]))
  rw [List.length_erase_of_mem hx] at this
  have := List.length_pos_of_mem hx
  simp only [List.length_cons]
  omega
def walk (I : Sq) : Nat → Ed → List Ed
 | 0, _ => []
 | k + 1, e => e :: walk I k (sc I e)
theorem vK (I : Sq) : ∀ (k : Nat) (e : Ed), (walk I k e).length = k
 | 0, _ => rfl
 | k + 1, e => by simp [walk, vK I k]
theorem xm (I : Sq) : ∀ (k : Nat) (e : Ed) (i : Nat), i < k → (walk I k e)[i]? = some (it I i e)
 | 0, _, _, h => absurd h (Nat.not_lt_zero _)
 | k + 1, e, 0, _ => rfl
 | k + 1, e, i + 1, h => by
  simp only [walk, List.getElem?_cons_succ]
  exact xm I k (sc I e) i (by omega)
theorem uj {I : Sq} {k : Nat} {e f : Ed} : f ∈ walk I k e ↔ ∃ i, i < k ∧ it I i e = f := by
 constructor
 ·intro h
  obtain ⟨i, hi⟩ := List.mem_iff_getElem?.1 h
  have hlt : i < k := by
   have := (List.getElem?_eq_some_iff.1 hi).1
   rwa [vK] at this
  rw [xm I k e i hlt] at hi
  exact ⟨i, hlt, by simpa using hi⟩
 ·rintro ⟨i, hi, rfl⟩
  exact List.mem_iff_getElem?.2 ⟨i, xm I k e i hi⟩
theorem DC (I : Sq) : ∀ (j k : Nat) (e : Ed), walk I (j + k) e = walk I j e ++ walk I k (it I j e)
 | 0, k, e => by simp [walk, it]
 | j + 1, k, e => by
  have : j + 1 + k = (j + k) + 1 := by omega
  rw [this]
  simp only [walk, List.cons_append, it]
  rw [DC I j k (sc I e)]
theorem back {I : Sq} {B : List Ed} (hB : zU I B) {e : Ed} (he : xk I e) : ∃ n, 0 < n ∧ it I n e = e := by
 cases Classical.em (∃ n, 0 < n ∧ it I n e = e) with
 | inl h => exact h
 | inr h =>
  have hne : ∀ i j, i < j → it I i e ≠ it I j e := fun i j hij hh => by
   refine h ⟨j - i, by omega, ?_⟩
   have : it I j e = it I i (it I (j - i) e) := by rw [← nX]; congr 1; omega
   rw [this] at hh
   exact (GZ he (tN he _) i hh).symm
  have hnd : (walk I (B.length + 1) e).Nodup := by
   rw [List.Nodup, List.pairwise_iff_getElem]
   intro i j hi hj hij
   rw [vK] at hi hj
   have h1 := xm I (B.length + 1) e i hi
   have h2 := xm I (B.length + 1) e j hj
   rw [List.getElem?_eq_getElem (by rw [vK]; exact hi)] at h1
   rw [List.getElem?_eq_getElem (by rw [vK]; exact hj)] at h2
   rw [Option.some.inj h1, Option.some.inj h2]
   exact hne i j hij
  have := Ca hnd (fun f hf => by
   obtain ⟨i, _, rfl⟩ := uj.1 hf
   exact hB _ (tN he i))
  rw [vK] at this
  omega
theorem FZ {p : Nat → Prop} : ∀ n, p n → ∃ m, p m ∧ ∀ k, k < m → ¬ p k := by
 intro n
 induction n using Nat.strongRecOn with
 | _ n ih =>
  intro hp
  cases Classical.em (∃ k, k < n ∧ p k) with
  | inl h => obtain ⟨k, h1, h2⟩ := h; exact ih k h1 h2
  | inr h => exact ⟨n, hp, fun k hk hpk => h ⟨k, hk, hpk⟩⟩
def JB (I : Sq) (e : Ed) (n : Nat) : Prop := 0 < n ∧ it I n e = e ∧ ∀ k, 0 < k → k < n → it I k e ≠ e
theorem per {I : Sq} {B : List Ed} (hB : zU I B) {e : Ed} (he : xk I e) : ∃ n, JB I e n := by
 obtain ⟨n, h1, h2⟩ := back hB he
 obtain ⟨m, ⟨h3, h4⟩, h5⟩ := FZ (p := fun n => 0 < n ∧ it I n e = e) n ⟨h1, h2⟩
 exact ⟨m, h3, h4, fun k h6 h7 h8 => h5 k h7 ⟨h6, h8⟩⟩
theorem JB.uniq {I : Sq} {e : Ed} {n m : Nat} (h : JB I e n) (k : JB I e m) : n = m := by
 rcases Nat.lt_trichotomy n m with h1 | h1 | h1
 ·exact absurd h.2.1 (k.2.2 n h.1 h1)
 ·exact h1
 ·exact absurd k.2.1 (h.2.2 m k.1 h1)
theorem JB.mod {I : Sq} {e : Ed} {n : Nat} (h : JB I e n) : ∀ k, it I k e = it I (k % n) e := by
 intro k
 induction k using Nat.strongRecOn with
 | _ k ih =>
  by_cases hk : k < n
  ·rw [Nat.mod_eq_of_lt hk]
  ·have h1 : k = (k - n) + n := by omega
   have h2 : k % n = (k - n) % n := by rw [h1, Nat.add_mod_right]; congr 1; omega
   have h3 : it I k e = it I (k - n) e := by
    conv => lhs; rw [h1]
    rw [nX, h.2.1]
   rw [h3, h2]
   exact ih (k - n) (by have := h.1; omega)
theorem JB.shift {I : Sq} {e : Ed} {n : Nat} (he : xk I e) (h : JB I e n) (j : Nat) : JB I (it I j e) n := by
 refine ⟨h.1, ?_, fun k h1 h2 h3 => ?_⟩
 ·rw [← nX, Nat.add_comm, nX, h.2.1]
 ·rw [← nX, Nat.add_comm, nX] at h3
  exact h.2.2 k h1 h2 (GZ (tN he k) he j h3)
end Go.Proofs.YtcjeebkoafonpaaGreatDoor.PX
namespace Go.Proofs.YtcjeebkoafonpaaGreatDoor.PX
def pl (a b : Int × Int) : Prop := a.2 < b.2 ∨ (a.2 = b.2 ∧ a.1 < b.1)
instance (a b : Int × Int) : Decidable (pl a b) := inferInstanceAs (Decidable (_ ∨ _))
theorem rV (a : Int × Int) : ¬ pl a a := by unfold pl; omega
theorem yX {a b c : Int × Int} (h : pl a b) (k : pl b c) : pl a c := by unfold pl at *; omega
theorem xx (a b : Int × Int) : pl a b ∨ a = b ∨ pl b a := by
 obtain ⟨a1, a2⟩ := a
 obtain ⟨b1, b2⟩ := b
 unfold pl
 simp only [Prod.mk.injEq]
 omega
def Ed.p (e : Ed) : Int × Int := (e.x, e.y)
def CR (I : Sq) (e : Ed) : Prop := xk I e ∧ ∀ k, ¬ pl (it I k e).p e.p
theorem Q7 {I : Sq} {e : Ed} {n : Nat} (h : JB I e n) : ∀ m, m ≤ n → 0 < m → ∃ j, j < m ∧ ∀ k, k < m → ¬ pl (it I k e).p (it I j e).p := by
  intro m
  induction m with
  | zero => intro _ h; omega
  | succ m ih =>
    intro hm _
    by_cases h0 : m = 0
    · subst h0
      exact ⟨0, by omega, fun k hk => by have : k = 0 := by omega
                                         subst this; exact rV _⟩
    · obtain ⟨j, h1, h2⟩ := ih (by omega) (by omega)
      by_cases h3 : pl (it I m e).p (it I j e).p
      · refine ⟨m, by omega, fun k hk h4 => ?_⟩
        rcases Nat.lt_or_ge k m with h5 | h5
        · exact h2 k h5 (yX h4 h3)
        · have : k = m := by omega
          subst this; exact rV _ h4
      · refine ⟨j, by omega, fun k hk => ?_⟩
        rcases Nat.lt_or_ge k m with h5 | h5
        · exact h2 k h5
        · have : k = m := by omega
          subst this; exact h3
theorem PE {I : Sq} {e : Ed} {n : Nat} (he : xk I e) (h : JB I e n) : ∃ j, j < n ∧ CR I (it I j e) := by
 obtain ⟨j, h1, h2⟩ := Q7 h n (Nat.le_refl _) h.1
 refine ⟨j, h1, tN he j, fun k => ?_⟩
 rw [← nX, h.mod]
 exact h2 _ (Nat.mod_lt _ h.1)
theorem CR.pd {I : Sq} {B : List Ed} (hB : zU I B) {e : Ed} (h : CR I e) : ¬ pl (PX.pd I e).p e.p := by
 obtain ⟨n, hn⟩ := per hB h.1
 have : it I (n - 1) e = PX.pd I e := by
  have h1 : sc I (it I (n - 1) e) = e := by rw [← uZ, show n - 1 + 1 = n from by have := hn.1; omega, hn.2.1]
  have h2 := A9 (tN h.1 (n - 1))
  rw [h1] at h2; exact h2.symm
 rw [← this]
 exact h.2 _
theorem CR.ways {I : Sq} {B : List Ed} (hB : zU I B) {e : Ed} (h : CR I e) : (e.d = .E ∧ (PX.pd I e).d = .S) ∨ (e.d = .N ∧ (PX.pd I e).d = .W) := by
 have h1 := h.pd hB
 have h2 := h.2 1
 have h3 : (sc I e).p = (e.tx, e.ty) := by
  rcases AP h.1 with ⟨_, h2⟩ | ⟨_, _, h2⟩ | ⟨_, _, h2⟩ <;> rw [h2] <;> rfl
 have h4 := FT h.1
 simp only [it] at h2
 rw [h3] at h2
 have h5 : ¬ pl ((PX.pd I e).x, (PX.pd I e).y) e.p := h1
 unfold Ed.tx at h4 h2
 unfold Ed.ty at h4 h2
 unfold Ed.p at *
 unfold pl at h5 h2
 simp only at h5 h2
 rcases Ba h.1 with ⟨_, g⟩ | ⟨_, _, g⟩ | ⟨_, _, g⟩
 all_goals
  rw [g] at h4 h5 ⊢
  cases hd : e.d <;> rw [hd] at h2 h5 h4 <;> simp only [Dir.dx, Dir.dy, Dir.left, Dir.right] at h2 h4 h5 ⊢
  all_goals first | omega | simp
theorem CR.uniq {I : Sq} {B : List Ed} (hB : zU I B) {e f : Ed} (he : CR I e) (hf : CR I f) (h : e.p = f.p) : e = f := by
 have hx : e.x = f.x := congrArg Prod.fst h
 have hy : e.y = f.y := congrArg Prod.snd h
 refine Ed.ext' hx hy ?_
 have h1 := J9 he.1
 have h2 := J9 hf.1
 have k1 := Ed.CP I (PX.pd I e)
 have k2 := Ed.CP I (PX.pd I f)
 rw [(FT he.1).1, (FT he.1).2] at k1
 rw [(FT hf.1).1, (FT hf.1).2] at k2
 have a1 := he.1
 have a2 := hf.1
 unfold xk at h1 h2 a1 a2
 rcases he.ways hB with ⟨g1, g2⟩ | ⟨g1, g2⟩ <;> rcases hf.ways hB with ⟨g3, g4⟩ | ⟨g3, g4⟩
 ·rw [g1, g3]
 ·exfalso
  rw [g4] at k2 h2
  rw [g3] at a2
  rw [g2] at k1 h1
  rw [g1] at a1
  rw [hx, hy] at a1 k1
  simp only [Dir.left, Dir.right] at *
  rw [← k1.1] at h1
  have := a2.2
  rw [a1.1] at this
  cases this
 ·exfalso
  rw [g4] at k2 h2
  rw [g3] at a2
  rw [g2] at k1 h1
  rw [g1] at a1
  rw [hx, hy] at a1 k1
  simp only [Dir.left, Dir.right] at *
  have := a1.2
  rw [a2.1] at this
  cases this
 ·rw [g1, g3]
theorem CR.O0 {I : Sq} {B : List Ed} (hB : zU I B) {e : Ed} (h : CR I e) {k : Nat} (hp : (it I k e).p = e.p) : it I k e = e := by
 refine CR.uniq hB ⟨tN h.1 k, fun j => ?_⟩ h hp
 rw [← nX, hp]
 exact h.2 _
theorem CR.Hl {I : Sq} {B : List Ed} (hB : zU I B) {e : Ed} (h : CR I e) : E9 I e = true := by
 unfold E9
 rcases h.ways hB with ⟨g1, g2⟩ | ⟨g1, g2⟩ <;> rw [g1, g2] <;> rfl
def CO (I : Sq) (k : Nat) (e : Ed) : List (Int × Int) := ((walk I k e).filter (E9 I)).map Ed.p
theorem Dp (I : Sq) (j k : Nat) (e : Ed) : CO I (j + k) e = CO I j e ++ CO I k (it I j e) := by unfold CO; rw [DC, List.filter_append, List.map_append]
def fl : List (Int × Int) → Nat × (Int × Int) → Nat → Nat
 | [], b, _ => b.1
 | p :: l, b, i => if pl p b.2 then fl l (i, p) (i + 1) else fl l b (i + 1)
def lr (l : List (Int × Int)) : List (Int × Int) := let k := fl l (0, l.headD (0, 0)) 0; l.drop k ++ l.take k
theorem G9 : ∀ (l : List (Int × Int)) (b : Nat × (Int × Int)) (i : Nat), (∀ p ∈ l, ¬ pl p b.2) → fl l b i = b.1
 | [], _, _, _ => rfl
 | p :: l, b, i, h => by
  unfold fl
  rw [if_neg (h p (by simp))]
  exact G9 l b (i + 1) fun q hq => h q (by simp [hq])
theorem N7 : ∀ (A : List (Int × Int)) (m : Int × Int) (B : List (Int × Int)) (b : Nat × (Int × Int)) (i : Nat), (∀ p ∈ A, pl m p) → (∀ p ∈ B, ¬ pl p m) → pl m b.2 → fl (A ++ m :: B) b i = i + A.length
 | [], m, B, b, i, _, h2, h3 => by
  show fl (m :: B) b i = _
  unfold fl
  rw [if_pos h3, G9 _ _ _ h2]; rfl
 | p :: A, m, B, b, i, h1, h2, h3 => by
  show fl (p :: (A ++ m :: B)) b i = _
  unfold fl
  have hp := h1 p (by simp)
  have hA : ∀ q ∈ A, pl m q := fun q hq => h1 q (by simp [hq])
  split
  ·rw [N7 A m B (i, p) (i + 1) hA h2 hp]; simp only [List.length_cons]; omega
  ·rw [N7 A m B b (i + 1) hA h2 h3]; simp only [List.length_cons]; omega
theorem Sa {A B : List (Int × Int)} {m : Int × Int} (h1 : ∀ p ∈ A, pl m p) (h2 : ∀ p ∈ B, ¬ pl p m) : lr (A ++ m :: B) = m :: B ++ A := by
 have hk : fl (A ++ m :: B) (0, (A ++ m :: B).headD (0, 0)) 0 = A.length := by
  cases A with
  | nil =>
   show fl (m :: B) (0, m) 0 = 0
   rw [G9]
   intro p hp
   rcases List.mem_cons.1 hp with rfl | hp
   ·exact rV _
   ·exact h2 p hp
  | cons a A =>
   have := N7 (a :: A) m B (0, a) 0 h1 h2 (h1 a (by simp))
   simpa using this
 unfold lr
 simp only [hk]
 rw [List.drop_left, List.take_left]
theorem Q8 {I : Sq} {B : List Ed} (hB : zU I B) {e : Ed} {n : Nat} (he : xk I e) (h : JB I e n) {j : Nat} (hj : j < n) (hl : CR I (it I j e)) : lr (CO I n e) = CO I n (it I j e) := by
 have e1 : CO I n e = CO I j e ++ CO I (n - j) (it I j e) := by rw [← Dp]; congr 1; omega
 have e2 : CO I n (it I j e) = CO I (n - j) (it I j e) ++ CO I j e := by
  have : it I (n - j) (it I j e) = e := by rw [← nX, show n - j + j = n from by omega, h.2.1]
  have h3 := Dp I (n - j) j (it I j e)
  rw [this, show n - j + j = n from by omega] at h3
  exact h3
 obtain ⟨k, hk⟩ : ∃ k, n - j = k + 1 := ⟨n - j - 1, by omega⟩
 have e3 : CO I (n - j) (it I j e) = (it I j e).p :: CO I k (sc I (it I j e)) := by
  rw [hk]
  unfold CO
  simp only [walk, List.filter_cons, hl.Hl hB, if_true, List.map_cons]
 have all : ∀ i, ¬ pl (it I i e).p (it I j e).p := fun i => by
  have h4 : it I i e = it I (i + (n - j)) (it I j e) := by
   rw [← nX, show i + (n - j) + j = i + n from by omega, nX, h.2.1]
  rw [h4]; exact hl.2 _
 rw [e1, e2, e3]
 refine Sa (fun p hp => ?_) (fun p hp => ?_)
 ·obtain ⟨f, hf, rfl⟩ := List.mem_map.1 hp
  obtain ⟨i, hi, rfl⟩ := uj.1 (List.mem_filter.1 hf).1
  rcases xx (it I j e).p (it I i e).p with h5 | h5 | h5
  ·exact h5
  ·exfalso
   have h6 : it I i e = it I (i + (n - j)) (it I j e) := by
    rw [← nX, show i + (n - j) + j = i + n from by omega, nX, h.2.1]
   have h7 := hl.O0 hB (k := i + (n - j)) (by rw [← h6]; exact h5.symm)
   rw [← h6] at h7
   have h8 : it I j e = it I i (it I (j - i) e) := by rw [← nX]; congr 1; omega
   rw [h8] at h7
   exact h.2.2 (j - i) (by omega) (by omega) (GZ he (tN he _) i h7).symm
  ·exact absurd h5 (all i)
 ·obtain ⟨f, hf, rfl⟩ := List.mem_map.1 hp
  obtain ⟨i, hi, rfl⟩ := uj.1 (List.mem_filter.1 hf).1
  have : it I i (sc I (it I j e)) = it I (i + 1) (it I j e) := rfl
  rw [this]
  exact hl.2 _
end Go.Proofs.YtcjeebkoafonpaaGreatDoor.PX
namespace Go.Proofs.YtcjeebkoafonpaaGreatDoor.PX
abbrev Sd := Ed × Nat
def rA (e : Ed) (i : Nat) : Ed := ⟨e.x + i * e.d.dx, e.y + i * e.d.dy, e.d⟩
theorem pK (e : Ed) : rA e 0 = e := Ed.ext' (by simp [rA]) (by simp [rA]) rfl
theorem Mc {e : Ed} {i j : Nat} (h : rA e i = rA e j) : i = j := by
 have h1 := congrArg Ed.x h
 have h2 := congrArg Ed.y h
 simp only [rA] at h1 h2
 cases hd : e.d <;> rw [hd] at h1 h2 <;> simp only [Dir.dx, Dir.dy] at h1 h2 <;> omega
theorem Ht (e : Ed) (i : Nat) : (rA e i).tx = (rA e (i + 1)).x ∧ (rA e i).ty = (rA e (i + 1)).y := by
 unfold Ed.tx Ed.ty rA
 simp only
 cases e.d <;> simp only [Dir.dx, Dir.dy] <;> omega
theorem GG {I : Sq} {e : Ed} {i : Nat} (h : xk I (rA e (i + 1))) : sc I (rA e i) = rA e (i + 1) := by
 obtain ⟨t1, t2⟩ := Ht e i
 rw [QO (e := rA e i) (by rw [t1, t2]; exact h.1) (by rw [t1, t2]; exact h.2)]
 exact Ed.ext' t1 t2 rfl
structure mV (I : Sq) (L : List Sd) : Prop where
 pos : ∀ s ∈ L, 0 < s.2
 bor : ∀ s ∈ L, ∀ i, i < s.2 → xk I (rA s.1 i)
 all : ∀ e, xk I e → ∃ s ∈ L, ∃ i, i < s.2 ∧ rA s.1 i = e
 once : ∀ (a b : Nat) (s t : Sd), L[a]? = some s → L[b]? = some t → ∀ i j : Nat, i < s.2 → j < t.2 → rA s.1 i = rA t.1 j → a = b
section
variable {I : Sq} {L : List Sd}
theorem mV.fst (h : mV I L) {s : Sd} (hs : s ∈ L) : xk I s.1 := by have := h.bor s hs 0 (h.pos s hs); rwa [pK] at this
theorem mV.Ew (h : mV I L) {s : Sd} (hs : s ∈ L) : ∀ i, i < s.2 → it I i s.1 = rA s.1 i
 | 0, _ => (pK s.1).symm
 | i + 1, hi => by rw [uZ, h.Ew hs i (by omega)]; exact GG (h.bor s hs (i + 1) hi)
def zS (s : Sd) : Ed := rA s.1 (s.2 - 1)
theorem mV.last (h : mV I L) {s : Sd} (hs : s ∈ L) : xk I (zS s) ∧ it I s.2 s.1 = sc I (zS s) := by
 have hp := h.pos s hs
 refine ⟨h.bor s hs _ (by omega), ?_⟩
 have : s.2 = (s.2 - 1) + 1 := by omega
 rw [this, uZ, h.Ew hs _ (by omega)]; rfl
theorem mV.fin (h : mV I L) : ∃ B, zU I B := ⟨L.flatMap fun s => (List.range s.2).map fun i => rA s.1 i, fun e he => by
 obtain ⟨s, hs, i, hi, rfl⟩ := h.all e he
 exact List.mem_flatMap.2 ⟨s, hs, List.mem_map.2 ⟨i, List.mem_range.2 hi, rfl⟩⟩⟩
def Nx (I : Sq) (L : List Sd) (a b : Nat) : Prop := ∃ s t, L[a]? = some s ∧ L[b]? = some t ∧ t.1 = sc I (zS s)
theorem mV.next (h : mV I L) {a : Nat} (ha : a < L.length) : ∃ b, b < L.length ∧ Nx I L a b := by
 have hs : L[a]? = some L[a] := List.getElem?_eq_getElem ha
 have hm : L[a] ∈ L := List.getElem_mem ha
 obtain ⟨h1, h2⟩ := h.last hm
 obtain ⟨t, ht, i, hi, he⟩ := h.all _ (GD h1)
 obtain ⟨b, hb⟩ := List.mem_iff_getElem?.1 ht
 refine ⟨b, (List.getElem?_eq_some_iff.1 hb).1, L[a], t, hs, hb, ?_⟩
 cases i with
 | zero => rw [pK] at he; exact he
 | succ i =>
  exfalso
  have h3 := h.bor t ht i (by omega)
  have h4 : sc I (rA t.1 i) = rA t.1 (i + 1) := GG (h.bor t ht (i + 1) hi)
  have h5 : rA t.1 i = zS L[a] := JV h3 h1 (h4.trans he)
  have hp := h.pos _ hm
  have h6 := h.once b a t L[a] hb hs i (L[a].2 - 1) (by omega) (by omega) h5
  subst h6
  rw [hs] at hb
  have := Option.some.inj hb
  subst this
  have := Mc h5
  omega
theorem Nx.lt {a b : Nat} (h : Nx I L a b) : a < L.length ∧ b < L.length := by
 obtain ⟨s, t, h1, h2, _⟩ := h
 exact ⟨(List.getElem?_eq_some_iff.1 h1).1, (List.getElem?_eq_some_iff.1 h2).1⟩
theorem mV.MH (h : mV I L) {a b b' : Nat} (h1 : Nx I L a b) (h2 : Nx I L a b') : b = b' := by
 obtain ⟨s, t, g1, g2, g3⟩ := h1
 obtain ⟨s', t', k1, k2, k3⟩ := h2
 rw [g1] at k1
 have := Option.some.inj k1
 subst this
 exact h.once b b' t t' g2 k2 0 0 (h.pos t (List.mem_of_getElem? g2)) (h.pos t' (List.mem_of_getElem? k2)) (by rw [pK, pK, g3, k3])
theorem mV.Pq (h : mV I L) {a a' b : Nat} (h1 : Nx I L a b) (h2 : Nx I L a' b) : a = a' := by
 obtain ⟨s, t, g1, g2, g3⟩ := h1
 obtain ⟨s', t', k1, k2, k3⟩ := h2
 rw [g2] at k2
 have := Option.some.inj k2
 subst this
 have p1 := h.pos s (List.mem_of_getElem? g1)
 have p2 := h.pos s' (List.mem_of_getElem? k1)
 exact h.once a a' s s' g1 k1 (s.2 - 1) (s'.2 - 1) (by omega) (by omega) (JV (h.last (List.mem_of_getElem? g1)).1 (h.last (List.mem_of_getElem? k1)).1 (g3.symm.trans k3))
def Cn (I : Sq) (L : List Sd) : Nat → List Nat → Prop
 | _, [] => True
 | a, b :: r => Nx I L a b ∧ Cn I L b r
def CV (I : Sq) (L : List Sd) (r : List Nat) : Prop := ∃ a q, r = a :: q ∧ Cn I L a q ∧ Nx I L (q.getLastD a) a ∧ r.Nodup
def bP (L : List Sd) (a : Nat) : Sd := L.getD a (⟨0, 0, .E⟩, 0)
theorem lV {a : Nat} {s : Sd} (h : L[a]? = some s) : bP L a = s := by unfold bP; rw [List.getD_eq_getElem?_getD, h]; rfl
def BJ (L : List Sd) : List Nat → Nat
 | [] => 0
 | a :: r => (bP L a).2 + BJ L r
def AJ (L : List Sd) : Dir → List Nat → List (Int × Int)
 | _, [] => []
 | d, a :: r => if d ≠ (bP L a).1.d then (bP L a).1.p :: AJ L (bP L a).1.d r else AJ L (bP L a).1.d r
theorem I7 (h : mV I L) {s : Sd} (hs : s ∈ L) : CO I s.2 s.1 = if E9 I s.1 = true then [s.1.p] else [] := by
 obtain ⟨k, hk⟩ : ∃ k, s.2 = k + 1 := ⟨s.2 - 1, by have := h.pos s hs; omega⟩
 have h0 : ∀ f ∈ walk I k (sc I s.1), E9 I f = false := fun f hf => by
  obtain ⟨i, hi, rfl⟩ := uj.1 hf
  have h1 : it I i (sc I s.1) = rA s.1 (i + 1) := h.Ew hs (i + 1) (by omega)
  have h2 : pd I (rA s.1 (i + 1)) = rA s.1 i := by
   rw [← GG (h.bor s hs (i + 1) (by omega))]
   exact A9 (h.bor s hs i (by omega))
  rw [h1]
  unfold E9
  rw [h2]
  exact decide_eq_false (fun hh => hh rfl)
 have h1 : (walk I k (sc I s.1)).filter (E9 I) = [] := List.filter_eq_nil_iff.2 fun f hf => by rw [h0 f hf]; simp
 unfold CO
 rw [hk]
 simp only [walk, List.filter_cons, h1]
 by_cases hc : E9 I s.1 = true
 ·rw [if_pos hc, if_pos hc]; rfl
 ·rw [if_neg hc, if_neg hc]; rfl
theorem Kr (h : mV I L) : ∀ (q : List Nat) (a : Nat) (s : Sd), L[a]? = some s → Cn I L a q → AJ L (pd I s.1).d (a :: q) = CO I (BJ L (a :: q)) s.1 ∧ it I (BJ L (a :: q)) s.1 = sc I (zS (bP L (q.getLastD a)))
 | [], a, s, hs, _ => by
  have hm := List.mem_of_getElem? hs
  simp only [BJ, AJ, lV hs, Nat.add_zero, List.getLastD_nil]
  refine ⟨?_, (h.last hm).2⟩
  rw [I7 h hm]
  unfold E9
  simp only [decide_eq_true_eq]
 | b :: q, a, s, hs, hc => by
  have hm := List.mem_of_getElem? hs
  obtain ⟨⟨s', t, g1, g2, g3⟩, hc2⟩ := hc
  rw [hs] at g1
  have := Option.some.inj g1
  subst this
  have hl := h.last hm
  have hit : it I s.2 s.1 = t.1 := hl.2.trans g3.symm
  have hpd : (pd I t.1).d = s.1.d := by rw [g3, A9 hl.1]; rfl
  obtain ⟨i1, i2⟩ := Kr h q b t g2 hc2
  have e1 : BJ L (a :: b :: q) = s.2 + BJ L (b :: q) := by simp only [BJ, lV hs]
  have e2 : AJ L (pd I s.1).d (a :: b :: q) = (if E9 I s.1 = true then [s.1.p] else []) ++ AJ L s.1.d (b :: q) := by
   simp only [AJ, lV hs]
   unfold E9
   simp only [decide_eq_true_eq]
   by_cases hd : (pd I s.1).d ≠ s.1.d
   ·rw [if_pos hd, if_pos hd]; rfl
   ·rw [if_neg hd, if_neg hd]; rfl
  refine ⟨?_, ?_⟩
  ·rw [e2, e1, Dp, I7 h hm, hit, ← i1, hpd]
  ·rw [e1, Nat.add_comm, nX, hit, i2]
   cases q <;> rfl
theorem Cn.mem : ∀ {q : List Nat} {a : Nat}, Cn I L a q → ∀ b ∈ q, b < L.length
 | c :: q, a, h, b, hb => by
  rcases List.mem_cons.1 hb with rfl | hb
  ·exact h.1.lt.2
  ·exact Cn.mem h.2 b hb
theorem BP (h : mV I L) : ∀ (q : List Nat) (a : Nat) (s : Sd), L[a]? = some s → Cn I L a q → ∀ k, k < BJ L (a :: q) → ∃ b t i, b ∈ a :: q ∧ L[b]? = some t ∧ i < t.2 ∧ it I k s.1 = rA t.1 i ∧ (b = a → (a :: q).Nodup → k = i)
 | q, a, s, hs, hc, k, hk => by
  have hm := List.mem_of_getElem? hs
  by_cases h1 : k < s.2
  ·exact ⟨a, s, k, by simp, hs, h1, h.Ew hm k h1, fun _ _ => rfl⟩
  ·cases q with
   | nil => simp only [BJ, lV hs] at hk; omega
   | cons b q =>
    obtain ⟨⟨s', t, g1, g2, g3⟩, hc2⟩ := hc
    rw [hs] at g1
    have := Option.some.inj g1
    subst this
    have hit : it I s.2 s.1 = t.1 := (h.last hm).2.trans g3.symm
    have e1 : BJ L (a :: b :: q) = s.2 + BJ L (b :: q) := by simp only [BJ, lV hs]
    obtain ⟨c, u, i, j1, j2, j3, j4, j5⟩ := BP h q b t g2 hc2 (k - s.2) (by omega)
    refine ⟨c, u, i, List.mem_cons_of_mem _ j1, j2, j3, ?_, fun e hn => ?_⟩
    ·rw [← j4, ← hit, ← nX]; congr 1; omega
    ·subst e
     exact absurd j1 (List.nodup_cons.1 hn).1
theorem GK (h : mV I L) : ∀ (q : List Nat) (a : Nat) (s : Sd), L[a]? = some s → Cn I L a q → ∀ b ∈ a :: q, ∀ i, i < (bP L b).2 → ∃ k, k < BJ L (a :: q) ∧ it I k s.1 = rA (bP L b).1 i
 | q, a, s, hs, hc, b, hb, i, hi => by
  have hm := List.mem_of_getElem? hs
  rcases List.mem_cons.1 hb with rfl | hb
  ·rw [lV hs] at hi ⊢
   exact ⟨i, by simp only [BJ, lV hs]; omega, h.Ew hm i hi⟩
  ·cases q with
   | nil => cases hb
   | cons c q =>
    obtain ⟨⟨s', t, g1, g2, g3⟩, hc2⟩ := hc
    rw [hs] at g1
    have := Option.some.inj g1
    subst this
    have hit : it I s.2 s.1 = t.1 := (h.last hm).2.trans g3.symm
    have e1 : BJ L (a :: c :: q) = s.2 + BJ L (c :: q) := by simp only [BJ, lV hs]
    obtain ⟨k, k1, k2⟩ := GK h q c t g2 hc2 b hb i hi
    exact ⟨k + s.2, by omega, by rw [nX, hit, k2]⟩
theorem Lb (h : mV I L) {a : Nat} {q : List Nat} {s : Sd} (hs : L[a]? = some s) (hc : Cn I L a q) (hn : Nx I L (q.getLastD a) a) (hd : (a :: q).Nodup) : JB I s.1 (BJ L (a :: q)) := by
 obtain ⟨_, h2⟩ := Kr h q a s hs hc
 obtain ⟨u, t, g1, g2, g3⟩ := hn
 rw [hs] at g2
 have := Option.some.inj g2
 subst this
 rw [lV g1, ← g3] at h2
 refine ⟨?_, h2, fun k k1 k2 k3 => ?_⟩
 ·have := h.pos s (List.mem_of_getElem? hs)
  simp only [BJ, lV hs]; omega
 ·obtain ⟨b, t, i, j1, j2, j3, j4, j5⟩ := BP h q a s hs hc k k2
  rw [k3] at j4
  have h6 := h.once a b s t hs j2 0 i (h.pos s (List.mem_of_getElem? hs)) j3 (by rw [pK]; exact j4)
  subst h6
  rw [hs] at j2
  have := Option.some.inj j2
  subst this
  have := j5 rfl hd
  subst this
  rw [← pK s.1] at j4
  have := Mc (e := s.1) (i := 0) (j := k) (by rw [pK] at j4 ⊢; exact j4)
  omega
def M4 (I : Sq) (e : Ed) (l : List (Int × Int)) : Prop := ∃ n, JB I e n ∧ l = CO I n e
theorem M4.uniq {e : Ed} {l m : List (Int × Int)} (h : M4 I e l) (k : M4 I e m) : l = m := by
 obtain ⟨n, h1, rfl⟩ := h
 obtain ⟨n', h2, rfl⟩ := k
 rw [h1.uniq h2]
def mM (L : List Sd) (r : List Nat) : List (Int × Int) := lr (AJ L (bP L (r.getLastD 0)).1.d r)
theorem rU (h : mV I L) {r : List Nat} (hr : CV I L r) : ∃ e, CR I e ∧ M4 I e (mM L r) ∧ ∃ b ∈ r, ∃ i, i < (bP L b).2 ∧ e = rA (bP L b).1 i := by
 obtain ⟨a, q, rfl, hc, hn, hd⟩ := hr
 obtain ⟨B, hB⟩ := h.fin
 have ha := hn.lt.2
 have hs : L[a]? = some L[a] := List.getElem?_eq_getElem ha
 have hm : L[a] ∈ L := List.getElem_mem ha
 have hp := Lb h hs hc hn hd
 obtain ⟨h1, _⟩ := Kr h q a _ hs hc
 obtain ⟨j, hj, hl⟩ := PE (h.fst hm) hp
 have hlast : (bP L ((a :: q).getLastD 0)).1.d = (pd I L[a].1).d := by
  obtain ⟨u, t, g1, g2, g3⟩ := hn
  rw [hs] at g2
  have := Option.some.inj g2
  have e1 : (a :: q).getLastD 0 = q.getLastD a := by cases q <;> rfl
  rw [e1, lV g1]
  rw [← this] at g3
  rw [g3, A9 (h.last (List.mem_of_getElem? g1)).1]; rfl
 refine ⟨it I j L[a].1, hl, ⟨_, hp.shift (h.fst hm) j, ?_⟩, ?_⟩
 ·unfold mM
  rw [hlast, h1]
  exact Q8 hB (h.fst hm) hp hj hl
 ·obtain ⟨b, t, i, j1, j2, j3, j4, _⟩ := BP h q a _ hs hc j hj
  exact ⟨b, j1, i, by rw [lV j2]; exact j3, by rw [lV j2]; exact j4⟩
theorem MB (h : mV I L) {r : List Nat} (hr : CV I L r) {e : Ed} (he : CR I e) {b : Nat} (hb : b ∈ r) {i : Nat} (hi : i < (bP L b).2) (hbe : e = rA (bP L b).1 i) : M4 I e (mM L r) := by
 obtain ⟨B, hB⟩ := h.fin
 obtain ⟨f, f1, f2, c, c1, k, c2, c3⟩ := rU h hr
 obtain ⟨a, q, rfl, hc, hn, hd⟩ := hr
 have ha := hn.lt.2
 have hs : L[a]? = some L[a] := List.getElem?_eq_getElem ha
 obtain ⟨j, j1, j2⟩ := GK h q a _ hs hc b hb i hi
 obtain ⟨j', j1', j2'⟩ := GK h q a _ hs hc c c1 k c2
 have hp := Lb h hs hc hn hd
 have hm : L[a] ∈ L := List.getElem_mem ha
 have g1 : e = it I (j + (BJ L (a :: q) - j')) f := by
  rw [c3, ← j2', ← nX, show j + (BJ L (a :: q) - j') + j' = j + BJ L (a :: q) from by omega, nX, hp.2.1, j2, hbe]
 have g2 : f = it I (j' + (BJ L (a :: q) - j)) e := by
  rw [hbe, ← j2, ← nX, show j' + (BJ L (a :: q) - j) + j = j' + BJ L (a :: q) from by omega, nX, hp.2.1, j2', c3]
 have g3 : e.p = f.p := by
  have n1 := f1.2 (j + (BJ L (a :: q) - j'))
  rw [← g1] at n1
  have n2 := he.2 (j' + (BJ L (a :: q) - j))
  rw [← g2] at n2
  rcases xx e.p f.p with h5 | h5 | h5
  ·exact absurd h5 n1
  ·exact h5
  ·exact absurd h5 n2
 rw [CR.uniq hB he f1 g3]
 exact f2
end
end Go.Proofs.YtcjeebkoafonpaaGreatDoor.PX
namespace Go.Proofs.YtcjeebkoafonpaaGreatDoor.PX
section
variable {I : Sq} {L : List Sd}
structure CW (I : Sq) (ls : List (List (Int × Int))) : Prop where
 is : ∀ l ∈ ls, ∃ e, CR I e ∧ M4 I e l
 has : ∀ e, CR I e → ∃ l ∈ ls, M4 I e l
 ord : ls.Pairwise fun a b => pl (a.headD (0, 0)) (b.headD (0, 0))
theorem M4.head {B : List Ed} (hB : zU I B) {e : Ed} {l : List (Int × Int)} (he : CR I e) (h : M4 I e l) : ∃ r, l = e.p :: r := by
 obtain ⟨n, h1, rfl⟩ := h
 obtain ⟨k, rfl⟩ : ∃ k, n = k + 1 := ⟨n - 1, by have := h1.1; omega⟩
 unfold CO
 simp only [walk, List.filter_cons, he.Hl hB, if_true, List.map_cons]
 exact ⟨_, rfl⟩
theorem M4.headD {B : List Ed} (hB : zU I B) {e : Ed} {l : List (Int × Int)} (he : CR I e) (h : M4 I e l) : l.headD (0, 0) = e.p := by
 obtain ⟨r, rfl⟩ := h.head hB he; rfl
theorem yY : ∀ {a b : List (List (Int × Int))}, a.Pairwise (fun x y => pl (x.headD (0, 0)) (y.headD (0, 0))) → b.Pairwise (fun x y => pl (x.headD (0, 0)) (y.headD (0, 0))) → (∀ x, x ∈ a ↔ x ∈ b) → a = b
 | [], [], _, _, _ => rfl
 | [], y :: b, _, _, h => by have := (h y).2 (by simp); cases this
 | x :: a, [], _, _, h => by have := (h x).1 (by simp); cases this
 | x :: a, y :: b, ha, hb, h => by
  obtain ⟨a1, a2⟩ := List.pairwise_cons.1 ha
  obtain ⟨b1, b2⟩ := List.pairwise_cons.1 hb
  have hxy : x = y := by
   rcases List.mem_cons.1 ((h x).1 (by simp)) with h1 | h1
   ·exact h1
   ·rcases List.mem_cons.1 ((h y).2 (by simp)) with h2 | h2
    ·exact h2.symm
    ·exact absurd (yX (a1 y h2) (b1 x h1)) (rV _)
  subst hxy
  congr 1
  refine yY a2 b2 fun z => ⟨fun hz => ?_, fun hz => ?_⟩
  ·rcases List.mem_cons.1 ((h z).1 (by simp [hz])) with h1 | h1
   ·subst h1; exact absurd (a1 z hz) (rV _)
   ·exact h1
  ·rcases List.mem_cons.1 ((h z).2 (by simp [hz])) with h1 | h1
   ·subst h1; exact absurd (b1 z hz) (rV _)
   ·exact h1
theorem CW.uniq {a b : List (List (Int × Int))} (ha : CW I a) (hb : CW I b) : a = b := by
 refine yY ha.ord hb.ord fun l => ⟨fun h => ?_, fun h => ?_⟩
 ·obtain ⟨e, h1, h2⟩ := ha.is l h
  obtain ⟨m, h3, h4⟩ := hb.has e h1
  rw [h2.uniq h4]; exact h3
 ·obtain ⟨e, h1, h2⟩ := hb.is l h
  obtain ⟨m, h3, h4⟩ := ha.has e h1
  rw [h2.uniq h4]; exact h3
structure yz (I : Sq) (L : List Sd) (rs : List (List Nat)) : Prop where
 row : ∀ r ∈ rs, CV I L r
 all : ∀ a, a < L.length → ∃ r ∈ rs, a ∈ r
 once : rs.Pairwise fun r r' => ∀ a ∈ r, a ∉ r'
theorem K7 {b i : Nat} (h : i < (bP L b).2) : b < L.length := by
 rcases Nat.lt_or_ge b L.length with h1 | h1
 ·exact h1
 ·have : bP L b = (⟨0, 0, .E⟩, 0) := by unfold bP; rw [List.getD_eq_getElem?_getD, List.getElem?_eq_none h1]; rfl
  rw [this] at h; cases h
theorem oC {b : Nat} (h : b < L.length) : L[b]? = some (bP L b) := by
 rw [lV (List.getElem?_eq_getElem h)]; exact List.getElem?_eq_getElem h
theorem yz.heads {rs : List (List Nat)} (hL : mV I L) (h : yz I L rs) : (rs.map (mM L)).Pairwise fun a b => a.headD (0, 0) ≠ b.headD (0, 0) := by
 obtain ⟨B, hB⟩ := hL.fin
 rw [List.pairwise_map]
 refine List.Pairwise.imp_of_mem (R := fun r r' => ∀ a ∈ r, a ∉ r') (fun {r r'} hr hr' hd heq => ?_) h.once
 obtain ⟨e, e1, e2, b, b1, i, b2, b3⟩ := rU hL (h.row r hr)
 obtain ⟨f, f1, f2, c, c1, j, c2, c3⟩ := rU hL (h.row r' hr')
 rw [e2.headD hB e1, f2.headD hB f1] at heq
 have := CR.uniq hB e1 f1 heq
 subst this
 rw [b3] at c3
 have := hL.once b c _ _ (oC (K7 b2)) (oC (K7 c2)) i j b2 c2 c3
 subst this
 exact hd b b1 c1
theorem yz.is {rs : List (List Nat)} (hL : mV I L) (h : yz I L rs) : ∀ l ∈ rs.map (mM L), ∃ e, CR I e ∧ M4 I e l := fun l hl => by
 obtain ⟨r, hr, rfl⟩ := List.mem_map.1 hl
 obtain ⟨e, e1, e2, _⟩ := rU hL (h.row r hr)
 exact ⟨e, e1, e2⟩
theorem yz.has {rs : List (List Nat)} (hL : mV I L) (h : yz I L rs) : ∀ e, CR I e → ∃ l ∈ rs.map (mM L), M4 I e l := fun e he => by
 obtain ⟨s, hs, i, hi, hse⟩ := hL.all e he.1
 obtain ⟨b, hb⟩ := List.mem_iff_getElem?.1 hs
 obtain ⟨r, hr, hbr⟩ := h.all b (List.getElem?_eq_some_iff.1 hb).1
 exact ⟨_, List.mem_map.2 ⟨r, hr, rfl⟩, MB hL (h.row r hr) he hbr (i := i) (by rw [lV hb]; exact hi) (by rw [lV hb]; exact hse.symm)⟩
theorem yz.outs {rs : List (List Nat)} {ls : List (List (Int × Int))} (hL : mV I L) (h : yz I L rs) (hp : ls.Perm (rs.map (mM L))) (ho : ls.Pairwise fun a b => pl (a.headD (0, 0)) (b.headD (0, 0))) : CW I ls :=
 ⟨fun l hl => h.is hL l (hp.mem_iff.1 hl), fun e he => by obtain ⟨l, h1, h2⟩ := h.has hL e he; exact ⟨l, hp.mem_iff.2 h1, h2⟩, ho⟩
theorem Pd (e : Ed) : (sc I e).p = (e.tx, e.ty) := by
 unfold sc
 by_cases h1 : lq I e.tx e.ty e.d = false
 ·rw [if_pos h1]; rfl
 ·rw [if_neg h1]
  by_cases h2 : lq I e.tx e.ty e.d.right = false
  ·rw [if_pos h2]; rfl
  ·rw [if_neg h2]; rfl
def Str (I : Sq) : List Sd → Ed → Prop
 | [], _ => True
 | s :: r, z => 0 < s.2 ∧ E9 I s.1 = true ∧ (∀ i, i < s.2 → it I i s.1 = rA s.1 i) ∧ it I s.2 s.1 = (match r with | [] => z | t :: _ => t.1) ∧ Str I r z
def unit (s : Sd) : List Ed := (List.range s.2).map (rA s.1)
theorem Mi {s : Sd} (h : ∀ i, i < s.2 → it I i s.1 = rA s.1 i) : walk I s.2 s.1 = unit s := by
 apply List.ext_getElem?
 intro i
 by_cases hi : i < s.2
 ·rw [xm I s.2 s.1 i hi, h i hi]
  unfold unit
  rw [List.getElem?_map, List.getElem?_range hi]; rfl
 ·rw [List.getElem?_eq_none (by rw [vK]; omega), List.getElem?_eq_none (by unfold unit; simp; omega)]
theorem PP {s : Sd} (h0 : 0 < s.2) (hb : xk I s.1) (hc : E9 I s.1 = true) (h : ∀ i, i < s.2 → it I i s.1 = rA s.1 i) : CO I s.2 s.1 = [s.1.p] := by
 obtain ⟨k, hk⟩ : ∃ k, s.2 = k + 1 := ⟨s.2 - 1, by omega⟩
 have h1 : (walk I k (sc I s.1)).filter (E9 I) = [] := List.filter_eq_nil_iff.2 fun f hf => by
  obtain ⟨i, hi, rfl⟩ := uj.1 hf
  have h1 : it I i (sc I s.1) = rA s.1 (i + 1) := h (i + 1) (by omega)
  have h2 : pd I (rA s.1 (i + 1)) = rA s.1 i := by
   rw [← h (i + 1) (by omega), ← h i (by omega), uZ]
   exact A9 (tN hb i)
  rw [h1]
  unfold E9
  rw [h2]
  simp [rA]
 unfold CO
 rw [hk]
 simp only [walk, List.filter_cons, h1, hc, if_true]; rfl
theorem stretches (I : Sq) : ∀ (k : Nat) (e : Ed), xk I e → E9 I e = true → E9 I (it I k e) = true → ∃ sl : List Sd, Str I sl (it I k e) ∧ (0 < k → ∃ m r, sl = (e, m) :: r) ∧ sl.map (fun s => s.1.p) = CO I k e ∧ walk I k e = sl.flatMap unit := by
 intro k
 induction k using Nat.strongRecOn with
 | _ k ih =>
  intro e he hc hz
  by_cases h0 : k = 0
  ·subst h0
   exact ⟨[], trivial, fun h => absurd h (Nat.lt_irrefl 0), rfl, rfl⟩
  ·obtain ⟨m, ⟨m1, m2⟩, m3⟩ := FZ (p := fun n => 0 < n ∧ E9 I (it I n e) = true) k ⟨by omega, hz⟩
   have mk : m ≤ k := by
    rcases Nat.lt_or_ge k m with h | h
    ·exact absurd ⟨by omega, hz⟩ (m3 k h)
    ·exact h
   have hstr : ∀ i, i < m → it I i e = rA e i := by
    intro i
    induction i with
    | zero => intro _; exact (pK e).symm
    | succ i ihi =>
     intro hi
     have h1 := ihi (by omega)
     have h2 : E9 I (it I (i + 1) e) = false := by
      cases hh : E9 I (it I (i + 1) e) with
      | false => rfl
      | true => exact absurd ⟨by omega, hh⟩ (m3 (i + 1) hi)
     have hbi := tN he i
     have h3 : (sc I (it I i e)).d = (it I i e).d := by
      unfold E9 at h2
      rw [uZ, A9 hbi] at h2
      simp only [decide_eq_false_iff_not, ne_eq, Decidable.not_not] at h2
      exact h2.symm
     rw [uZ]
     have h4 := Pd (I := I) (it I i e)
     rw [h1] at h3 h4 ⊢
     obtain ⟨t1, t2⟩ := Ht e i
     exact Ed.ext' ((congrArg Prod.fst h4).trans t1) ((congrArg Prod.snd h4).trans t2) h3
   obtain ⟨sl, s1, s2, s3, s4⟩ := ih (k - m) (by omega) (it I m e) (tN he m) m2 (by rw [← nX, show k - m + m = k from by omega]; exact hz)
   rw [← nX, show k - m + m = k from by omega] at s1
   have ek : k = m + (k - m) := by omega
   refine ⟨(e, m) :: sl, ⟨m1, hc, hstr, ?_, s1⟩, fun _ => ⟨m, sl, rfl⟩, ?_, ?_⟩
   ·by_cases hkm : 0 < k - m
    ·obtain ⟨m', r, rfl⟩ := s2 hkm; rfl
    ·have : k = m := by omega
     subst this
     cases sl with
     | nil => rfl
     | cons s r =>
      exfalso
      rw [Nat.sub_self] at s3
      cases s3
   ·rw [ek, Dp, List.map_cons, s3, PP (s := (e, m)) m1 he hc hstr]; rfl
   ·rw [ek, DC, s4, Mi (s := (e, m)) hstr]; rfl
end
end Go.Proofs.YtcjeebkoafonpaaGreatDoor.PX
namespace Go.Proofs.YtcjeebkoafonpaaGreatDoor.PX
section
variable {I : Sq}
def Q5 (z : Int × Int) : List (Int × Int) → List ((Int × Int) × (Int × Int))
 | [] => []
 | x :: r => (x, r.headD z) :: Q5 z r
theorem Rc {s : Sd} (h0 : 0 < s.2) (h : ∀ i, i < s.2 → it I i s.1 = rA s.1 i) : (it I s.2 s.1).p = (rA s.1 s.2).p := by
 obtain ⟨k, hk⟩ : ∃ k, s.2 = k + 1 := ⟨s.2 - 1, by omega⟩
 rw [hk, uZ, Pd, h k (by omega)]
 obtain ⟨t1, t2⟩ := Ht s.1 k
 rw [t1, t2]; rfl
theorem Lh : ∀ {sl : List Sd} {z : Ed}, Str I sl z → Q5 z.p (sl.map fun s => s.1.p) = sl.map fun s => (s.1.p, (rA s.1 s.2).p)
 | [], _, _ => rfl
 | s :: r, z, ⟨h0, _, h2, h3, h4⟩ => by
  rw [List.map_cons, List.map_cons]
  unfold Q5
  rw [Lh h4]
  congr 1
  rw [Prod.mk.injEq]
  refine ⟨rfl, ?_⟩
  rw [← Rc h0 h2, h3]
  cases r with
  | nil => rfl
  | cons t r => rfl
def vx (y : Int) (e : Ed) : Option Int :=
 match e.d with
 | .N => if e.y = y then some e.x else none
 | .S => if e.y = y + 1 then some e.x else none
 | _ => none
def Og (y : Int) (s : (Int × Int) × (Int × Int)) : Bool := decide (s.1.1 = s.2.1) && (decide (min s.1.2 s.2.2 ≤ y) && decide (y < max s.1.2 s.2.2))
theorem BR (f : Nat → Option Int) (v : Int) : ∀ (m j : Nat), (∀ i, i < m → f i = if i = j then some v else none) → (List.range m).filterMap f = if j < m then [v] else []
 | 0, j, _ => by simp
 | m + 1, j, h => by
  rw [List.range_succ, List.filterMap_append, BR f v m j fun i hi => h i (by omega)]
  have hm := h m (by omega)
  by_cases h1 : j < m
  ·rw [if_pos h1, if_pos (by omega)]
   rw [if_neg (by omega)] at hm
   simp [hm]
  ·rw [if_neg h1]
   by_cases h2 : m = j
   ·subst h2
    rw [if_pos rfl] at hm
    simp [hm]
   ·rw [if_neg h2] at hm
    rw [if_neg (by omega)]
    simp [hm]
theorem xU (f : Nat → Option Int) (m : Nat) (h : ∀ i, i < m → f i = none) : (List.range m).filterMap f = [] := by
 rw [List.filterMap_eq_nil_iff]
 intro i hi
 exact h i (List.mem_range.1 hi)
theorem OZ (y : Int) (s : Sd) (h0 : 0 < s.2) : (unit s).filterMap (vx y) = if Og y (s.1.p, (rA s.1 s.2).p) = true then [s.1.x] else [] := by
 unfold unit
 rw [List.filterMap_map]
 have hc : Og y (s.1.p, (rA s.1 s.2).p) = (decide (s.1.x = s.1.x + s.2 * s.1.d.dx) && (decide (min s.1.y (s.1.y + s.2 * s.1.d.dy) ≤ y) && decide (y < max s.1.y (s.1.y + s.2 * s.1.d.dy)))) := rfl
 rw [hc]
 cases hd : s.1.d
 ·have hv : ∀ i, (vx y ∘ rA s.1) i = none := fun i => by simp only [Function.comp, vx, rA, hd]
  rw [xU _ _ fun i _ => hv i, if_neg]
  simp [Dir.dx]; omega
 ·have hv : ∀ i : Nat, (vx y ∘ rA s.1) i = if s.1.y + i = y then some s.1.x else none := fun i => by
   simp only [Function.comp, vx, rA, hd, Dir.dx, Dir.dy]
   rw [Int.mul_one, Int.mul_zero, Int.add_zero]
  simp only [Dir.dx, Dir.dy, Int.mul_zero, Int.add_zero, Int.mul_one]
  by_cases hy : s.1.y ≤ y ∧ y < s.1.y + s.2
  ·rw [BR _ s.1.x s.2 (y - s.1.y).toNat fun i _ => (hv i).trans ?_, if_pos (by omega), if_pos]
   ·have h1 : min s.1.y (s.1.y + s.2) ≤ y := by omega
    have h2 : y < max s.1.y (s.1.y + s.2) := by omega
    simp [h1, h2]
   ·by_cases h1 : s.1.y + i = y
    ·rw [if_pos h1, if_pos (by omega)]
    ·rw [if_neg h1, if_neg (by omega)]
  ·rw [xU _ _ fun i hi => (hv i).trans (if_neg (by omega)), if_neg]
   simp only [Bool.and_eq_true, decide_eq_true_eq, not_and]
   omega
 ·have hv : ∀ i, (vx y ∘ rA s.1) i = none := fun i => by simp only [Function.comp, vx, rA, hd]
  rw [xU _ _ fun i _ => hv i, if_neg]
  simp [Dir.dx]; omega
 ·have hv : ∀ i : Nat, (vx y ∘ rA s.1) i = if s.1.y - i = y + 1 then some s.1.x else none := fun i => by
   simp only [Function.comp, vx, rA, hd, Dir.dx, Dir.dy]
   have e1 : s.1.y + (i : Int) * -1 = s.1.y - i := by omega
   rw [e1, Int.mul_zero, Int.add_zero]
  have e1 : ∀ n : Nat, s.1.y + (n : Int) * Dir.S.dy = s.1.y - n := fun n => by simp [Dir.dy]; omega
  rw [e1]
  simp only [Dir.dx, Int.mul_zero, Int.add_zero]
  by_cases hy : s.1.y - s.2 ≤ y ∧ y < s.1.y
  ·rw [BR _ s.1.x s.2 (s.1.y - 1 - y).toNat fun i _ => (hv i).trans ?_, if_pos (by omega), if_pos]
   ·have h1 : min s.1.y (s.1.y - s.2) ≤ y := by omega
    have h2 : y < max s.1.y (s.1.y - s.2) := by omega
    simp [h1, h2]
   ·by_cases h1 : s.1.y - i = y + 1
    ·rw [if_pos h1, if_pos (by omega)]
    ·rw [if_neg h1, if_neg (by omega)]
  ·rw [xU _ _ fun i hi => (hv i).trans (if_neg (by omega)), if_neg]
   simp only [Bool.and_eq_true, decide_eq_true_eq, not_and]
   omega
structure Uk (I : Sq) (e : Ed) (n : Nat) (l : List (Int × Int)) : Prop where
 len : 4 ≤ l.length
 ax : ∀ s ∈ Q5 e.p l, (s.1.1 = s.2.1) ≠ (s.1.2 = s.2.2)
 crs : ∀ y, ((Q5 e.p l).filter (Og y)).map (·.1.1) = (walk I n e).filterMap (vx y)
 pts : ∀ p ∈ l, ∃ f, xk I f ∧ f.p = p
theorem Str.pos : ∀ {sl : List Sd} {z : Ed}, Str I sl z → ∀ s ∈ sl, 0 < s.2 ∧ E9 I s.1 = true
 | s :: r, z, ⟨h0, h1, _, _, h4⟩, t, ht => by
  rcases List.mem_cons.1 ht with rfl | ht
  ·exact ⟨h0, h1⟩
  ·exact Str.pos h4 t ht
theorem Fz (y : Int) : ∀ {sl : List Sd} {z : Ed}, Str I sl z → ((sl.map fun s => (s.1.p, (rA s.1 s.2).p)).filter (Og y)).map (·.1.1) = (sl.flatMap unit).filterMap (vx y)
 | [], _, _ => rfl
 | s :: r, z, ⟨h0, _, _, _, h4⟩ => by
  rw [List.map_cons, List.filter_cons, List.flatMap_cons, List.filterMap_append, ← Fz y h4, OZ y s h0]
  by_cases hc : Og y (s.1.p, (rA s.1 s.2).p) = true
  ·rw [if_pos hc, if_pos hc]; rfl
  ·rw [if_neg hc, if_neg hc]; rfl
def yD (f : Ed → Int) : List Ed → Int
 | [] => 0
 | e :: l => f e + yD f l
theorem H8 : ∀ (n : Nat) (e : Ed), yD (fun e => e.d.dx) (walk I n e) = (it I n e).x - e.x ∧ yD (fun e => e.d.dy) (walk I n e) = (it I n e).y - e.y
 | 0, e => ⟨by simp [walk, yD, it], by simp [walk, yD, it]⟩
 | n + 1, e => by
  obtain ⟨h1, h2⟩ := H8 n (sc I e)
  have h3 := Pd (I := I) e
  have h4 : (sc I e).x = e.x + e.d.dx := congrArg Prod.fst h3
  have h5 : (sc I e).y = e.y + e.d.dy := congrArg Prod.snd h3
  simp only [walk, yD, it]
  constructor
  ·rw [h1]; omega
  ·rw [h2]; omega
theorem Ie {f : Ed → Int} : ∀ {l : List Ed}, (∀ e ∈ l, f e ≤ 0) → (∃ e ∈ l, f e < 0) → yD f l < 0
 | [], _, ⟨_, h, _⟩ => by cases h
 | e :: l, h, ⟨e', h1, h2⟩ => by
  have hall : ∀ {l : List Ed}, (∀ e ∈ l, f e ≤ 0) → yD f l ≤ 0 := by
   intro l
   induction l with
   | nil => intro _; exact Int.le_refl _
   | cons a l ih =>
    intro h
    have := ih fun e he => h e (by simp [he])
    have := h a (by simp)
    simp only [yD]; omega
  have h3 := h e (by simp)
  have h4 := hall (l := l) fun e he => h e (by simp [he])
  simp only [yD]
  rcases List.mem_cons.1 h1 with rfl | h1
  ·omega
  ·have := Ie (l := l) (fun e he => h e (by simp [he])) ⟨e', h1, h2⟩
   omega
theorem DN (f : Ed → Int) : ∀ l : List Ed, yD (fun e => - f e) l = - yD f l
 | [] => rfl
 | e :: l => by simp only [yD]; rw [DN f l]; omega
theorem F6 {n : Nat} {e : Ed} (h : it I n e = e) {f : Ed} (hf : f ∈ walk I n e) : ∃ g ∈ walk I n e, g.d = f.d.left.left := by
 obtain ⟨s1, s2⟩ := H8 (I := I) n e
 rw [h] at s1 s2
 have key : ∀ F : Ed → Int, yD F (walk I n e) = 0 → F f < 0 → ∃ g ∈ walk I n e, 0 < F g := fun F hF hFf => by
  cases Classical.em (∃ g ∈ walk I n e, 0 < F g) with
  | inl h => exact h
  | inr hno =>
   have := Ie (f := F) (l := walk I n e) (fun g hg => by
    have : ¬ 0 < F g := fun hh => hno ⟨g, hg, hh⟩
    omega) ⟨f, hf, hFf⟩
   omega
 have s1' : yD (fun e => e.d.dx) (walk I n e) = 0 := by omega
 have s2' : yD (fun e => e.d.dy) (walk I n e) = 0 := by omega
 have o1 : yD (fun e => - e.d.dx) (walk I n e) = 0 := by rw [DN]; omega
 have o2 : yD (fun e => - e.d.dy) (walk I n e) = 0 := by rw [DN]; omega
 cases hd : f.d
 ·obtain ⟨g, hg, hp⟩ := key (fun e => - e.d.dx) o1 (by show - f.d.dx < 0; rw [hd]; decide)
  refine ⟨g, hg, ?_⟩
  have hp : 0 < - g.d.dx := hp
  cases hgd : g.d <;> rw [hgd] at hp <;> first | rfl | (simp [Dir.dx] at hp)
 ·obtain ⟨g, hg, hp⟩ := key (fun e => - e.d.dy) o2 (by show - f.d.dy < 0; rw [hd]; decide)
  refine ⟨g, hg, ?_⟩
  have hp : 0 < - g.d.dy := hp
  cases hgd : g.d <;> rw [hgd] at hp <;> first | rfl | (simp [Dir.dy] at hp)
 ·obtain ⟨g, hg, hp⟩ := key (fun e => e.d.dx) s1' (by show f.d.dx < 0; rw [hd]; decide)
  refine ⟨g, hg, ?_⟩
  have hp : 0 < g.d.dx := hp
  cases hgd : g.d <;> rw [hgd] at hp <;> first | rfl | (simp [Dir.dx] at hp)
 ·obtain ⟨g, hg, hp⟩ := key (fun e => e.d.dy) s2' (by show f.d.dy < 0; rw [hd]; decide)
  refine ⟨g, hg, ?_⟩
  have hp : 0 < g.d.dy := hp
  cases hgd : g.d <;> rw [hgd] at hp <;> first | rfl | (simp [Dir.dy] at hp)
theorem Q0 {n : Nat} {e : Ed} (he : xk I e) (h : JB I e n) : pd I e ∈ walk I n e := by
 refine uj.2 ⟨n - 1, by have := h.1; omega, ?_⟩
 have h1 : sc I (it I (n - 1) e) = e := by rw [← uZ, show n - 1 + 1 = n from by have := h.1; omega, h.2.1]
 have h2 := A9 (tN he (n - 1))
 rw [h1] at h2; exact h2.symm
theorem MO {l : List Dir} (h : ∀ d : Dir, d ∈ l) : 4 ≤ l.length := by
 have := Ca (l := [Dir.E, .N, .W, .S]) (m := l) (by decide) fun d _ => h d
 simpa using this
theorem Ee {B : List Ed} (hB : zU I B) {e : Ed} (he : CR I e) {n : Nat} (hn : JB I e n) : Uk I e n (CO I n e) := by
 obtain ⟨sl, s1, s2, s3, s4⟩ := stretches I n e he.1 (he.Hl hB) (by rw [hn.2.1]; exact he.Hl hB)
 rw [hn.2.1] at s1
 have hnx : Q5 e.p (CO I n e) = sl.map fun s => (s.1.p, (rA s.1 s.2).p) := by rw [← s3]; exact Lh s1
 have hdirs : ∀ d : Dir, d ∈ sl.map fun s => s.1.d := by
  have mem : ∀ f ∈ walk I n e, f.d ∈ sl.map fun s => s.1.d := fun f hf => by
   rw [s4] at hf
   obtain ⟨s, hs, hf⟩ := List.mem_flatMap.1 hf
   unfold unit at hf
   obtain ⟨i, _, rfl⟩ := List.mem_map.1 hf
   exact List.mem_map.2 ⟨s, hs, rfl⟩
  have m1 : e ∈ walk I n e := uj.2 ⟨0, hn.1, rfl⟩
  have m2 := Q0 he.1 hn
  obtain ⟨g1, k1, k2⟩ := F6 hn.2.1 m1
  obtain ⟨g2, k3, k4⟩ := F6 hn.2.1 m2
  have q1 := mem _ m1
  have q2 := mem _ m2
  have q3 := mem _ k1
  have q4 := mem _ k3
  rw [k2] at q3
  rw [k4] at q4
  rcases he.ways hB with ⟨w1, w2⟩ | ⟨w1, w2⟩ <;> rw [w1] at q1 q3 <;> rw [w2] at q2 q4 <;> intro d <;> cases d <;> assumption
 refine ⟨?_, fun s hs => ?_, fun y => ?_, fun p hp => ?_⟩
 ·have := MO hdirs
  rw [List.length_map] at this
  rw [← s3, List.length_map]; exact this
 ·rw [hnx] at hs
  obtain ⟨t, ht, rfl⟩ := List.mem_map.1 hs
  have h0 := (s1.pos t ht).1
  show (t.1.x = t.1.x + t.2 * t.1.d.dx) ≠ (t.1.y = t.1.y + t.2 * t.1.d.dy)
  cases t.1.d <;> simp only [Dir.dx, Dir.dy] <;> intro hh
  ·have : t.1.x = t.1.x + (t.2 : Int) * 1 := by rw [hh]; omega
   omega
  ·have : t.1.y = t.1.y + (t.2 : Int) * 1 := by rw [← hh]; omega
   omega
  ·have : t.1.x = t.1.x + (t.2 : Int) * -1 := by rw [hh]; omega
   omega
  ·have : t.1.y = t.1.y + (t.2 : Int) * -1 := by rw [← hh]; omega
   omega
 ·rw [hnx, Fz y s1, ← s4]
 ·unfold CO at hp
  obtain ⟨f, hf, rfl⟩ := List.mem_map.1 hp
  obtain ⟨i, _, rfl⟩ := uj.1 (List.mem_filter.1 hf).1
  exact ⟨_, tN he.1 i, rfl⟩
end
end Go.Proofs.YtcjeebkoafonpaaGreatDoor.PX
namespace Go.Proofs.YtcjeebkoafonpaaGreatDoor.PX
section
variable {I : Sq}
end
end Go.Proofs.YtcjeebkoafonpaaGreatDoor.PX
namespace Go.Proofs.YtcjeebkoafonpaaGreatDoor
open PX
def iw (p : Int × Int) : aA := ⟨p.1, p.2⟩
def GU (p : aA) : Int × Int := (p.X, p.Y)
def pG (s : Sd) : Int × Int := (rA s.1 s.2).p
def toS (s : Sd) : fE := ⟨iw s.1.p, iw (pG s)⟩
def uK (d : Dir) : aA := ⟨d.dx, d.dy⟩
theorem Od {d e : Dir} (h : uK d = uK e) : d = e := by
 have h1 := congrArg aA.X h
 have h2 := congrArg aA.Y h
 cases d <;> cases e <;> first | rfl | (simp [uK, Dir.dx] at h1; done) | (simp [uK, Dir.dy] at h2; done) | (simp [uK, Dir.dx, Dir.dy] at h1 h2)
def OY (p : Int × Int) : Prop := (-1000000000 ≤ p.1 ∧ p.1 ≤ 1000000000) ∧ (-1000000000 ≤ p.2 ∧ p.2 ≤ 1000000000)
structure yF (L : List Sd) : Prop where
 len : L.length ≤ 100000000
 pts : ∀ s ∈ L, OY s.1.p ∧ OY (pG s)
theorem Tv {n : Nat} (h : 0 < n) : min 1 (max (-1) ((n : Int) * 1)) = 1 := by omega
theorem Tu {n : Nat} (h : 0 < n) : min 1 (max (-1) ((n : Int) * -1)) = -1 := by omega
theorem Kn {s : Sd} (h : 0 < s.2) (hl : OY s.1.p ∧ OY (pG s)) : gW (toS s) = some (uK s.1.d) := by
 obtain ⟨⟨l1, l2⟩, l3, l4⟩ := hl
 have ex : (pG s).1 = s.1.x + s.2 * s.1.d.dx := rfl
 have ey : (pG s).2 = s.1.y + s.2 * s.1.d.dy := rfl
 have e1 : (toS s).to_.X - (toS s).from_.X = s.2 * s.1.d.dx := by show (pG s).1 - s.1.x = _; rw [ex]; omega
 have e2 : (toS s).to_.Y - (toS s).from_.Y = s.2 * s.1.d.dy := by show (pG s).2 - s.1.y = _; rw [ey]; omega
 have hx : s.1.p.1 = s.1.x := rfl
 have hy : s.1.p.2 = s.1.y := rfl
 unfold gW kT
 rw [e1, e2, bR (by omega) (by omega), bR (by omega) (by omega), Option.bind_some, Option.bind_some]
 congr 1
 unfold uK
 cases hd : s.1.d <;> simp only [Dir.dx, Dir.dy, Int.mul_zero] <;> first | rw [Tv h]; rfl | rw [Tu h]; rfl
theorem Ls (p q : Int × Int) : qf (iw p) (iw q) = some (decide (pl p q)) := by
 unfold qf
 congr 1
 rw [Bool.eq_iff_iff, decide_eq_true_eq]
 unfold pl iw
 simp
theorem PN (p q : Int × Int) : fB (iw p) (iw q) = decide (p = q) := by
 rw [Bool.eq_iff_iff, sM]
 unfold iw
 simp [Prod.ext_iff]
theorem Ob (d e : Dir) : fB (uK d) (uK e) = decide (d = e) := by
 rw [Bool.eq_iff_iff, sM, decide_eq_true_eq]
 exact ⟨Od, fun h => by rw [h]⟩
theorem Av (L : List Sd) : ∀ (q r : List Nat) (d : Dir), AJ L d (q ++ r) = AJ L d q ++ AJ L ((q.map fun a => (bP L a).1.d).getLastD d) r
 | [], r, d => rfl
 | a :: q, r, d => by
  simp only [List.cons_append, AJ]
  have hl : ((a :: q).map fun a => (bP L a).1.d).getLastD d = (q.map fun a => (bP L a).1.d).getLastD (bP L a).1.d := by cases q <;> rfl
  rw [hl]
  split
  ·rw [Av L q r]; rfl
  ·exact Av L q r _
theorem zN (L : List Sd) : ∀ (q : List Nat) (d : Dir), (AJ L d q).length ≤ q.length
 | [], _ => Nat.le_refl _
 | a :: q, d => by
  have := zN L q (bP L a).1.d
  simp only [AJ]
  split <;> simp only [List.length_cons] <;> omega
theorem Jd (L : List Sd) (q : List Nat) (a : Nat) (d : Dir) : AJ L d (q ++ [a]) = AJ L d q ++ (if ((q.map fun a => (bP L a).1.d).getLastD d) ≠ (bP L a).1.d then [(bP L a).1.p] else []) := by
 rw [Av]
 congr 1
theorem LK : ∀ (l : List (Int × Int)) (b : Nat × (Int × Int)) (i n : Nat), b.1 < n → i + l.length ≤ n → fl l b i < n
 | [], b, i, n, h, _ => h
 | p :: l, b, i, n, h, h' => by
  simp only [List.length_cons] at h'
  unfold fl
  split
  ·exact LK l (i, p) (i + 1) n (by show i < n; omega) (by omega)
  ·exact LK l b (i + 1) n h (by omega)
def QY (c : List aA) (k : Nat) : Option (List aA) :=
 (cut c (k : Int) (c.length : Int)).bind fun TS => (Proofs.YtcjeebkoafonpaaGreatDoor.pre c (k : Int)).bind fun TR => (lg [TS, TR]).bind fun Td => some Td
theorem Ap (c : List (Int × Int)) (hc : c.length ≤ 100000000) : ∀ (suf q : List (Int × Int)) (m : Nat) (p : Int × Int), c = q ++ suf → c[m]? = some p → gJ (c.map iw) (suf.map iw) q.length (m : Int) = QY (c.map iw) (fl suf (m, p) q.length)
 | [], q, m, p, h, hm => by
  show gJ _ [] _ _ = _
  rw [gJ.eq_1]; rfl
 | x :: suf, q, m, p, h, hm => by
  show gJ _ (iw x :: suf.map iw) _ _ = _
  have hid : idx (c.map iw) (m : Int) = some (iw p) := by
   unfold idx
   rw [if_pos (by omega), Int.toNat_natCast, List.getElem?_map, hm]; rfl
  have hx : c[q.length]? = some x := by rw [h]; simp
  have e1 := Ap c hc suf (q ++ [x]) q.length x (by rw [h]; simp) hx
  have e2 := Ap c hc suf (q ++ [x]) m p (by rw [h]; simp) hm
  rw [List.length_append] at e1 e2
  rw [gJ.eq_2, hid, Option.bind_some, Ls, Option.bind_some]
  unfold fl
  by_cases hp : pl x p
  ·rw [if_pos (by simpa using hp), if_pos hp]; exact e1
  ·rw [if_neg (by simpa using hp), if_neg hp]; exact e2
theorem PQ {a b : List aA} (h : a.length + b.length ≤ 100000000) : lg [a, b] = some (a ++ b) := by
 unfold lg
 have e1 : bn (0 + (a.length : Int)) = a.length := by rw [bR (by omega) (by omega)]; omega
 have e2 : bn ((a.length : Int) + (b.length : Int)) = (a.length : Int) + b.length := bR (by omega) (by omega)
 rw [gM.eq_2, e1, if_neg (by simp), gM.eq_2, e2, if_neg (by simp; omega), gM.eq_1]
 have e3 : (Si ((a.length : Int) + b.length) : Option (List aA)) = some [] := if_pos ⟨by omega, by omega⟩
 rw [e3, Option.bind_some, gL.eq_2, iO (by simp; omega), Option.bind_some, gL.eq_2, iO (by simp; omega), Option.bind_some, gL.eq_1]
 simp
theorem Pi {c : List aA} {k : Nat} (hc : c.length ≤ 100000000) (hk : k ≤ c.length) : QY c k = some (c.drop k ++ c.take k) := by
 unfold QY
 have e1 : cut c (k : Int) (c.length : Int) = some (c.drop k) := by
  unfold cut
  rw [if_pos (by omega)]
  simp
 have e2 : Proofs.YtcjeebkoafonpaaGreatDoor.pre c (k : Int) = some (c.take k) := by
  unfold Proofs.YtcjeebkoafonpaaGreatDoor.pre
  rw [if_pos (by omega)]
  simp
 rw [e1, e2, Option.bind_some, Option.bind_some, PQ (by simp; omega)]; rfl
theorem DI {I : Sq} {L : List Sd} (hL : mV I L) (hb : yF L) (row : List Nat) (hr : ∀ a ∈ row, a < L.length) (hlen : row.length ≤ 100000000) : ∀ (suf q : List Nat), row = q ++ suf →
  gY (row.map fun a => toS (bP L a)) (suf.map fun a => toS (bP L a)) q.length ((AJ L (bP L (row.getLastD 0)).1.d q).map iw) = gJ ((AJ L (bP L (row.getLastD 0)).1.d row).map iw) ((AJ L (bP L (row.getLastD 0)).1.d row).map iw) 0 0
 | [], q, h => by
  rw [List.append_nil] at h
  subst h
  show gY _ [] _ _ = _
  rw [gY.eq_1]
 | a :: suf, q, h => by
  have hdir : ∀ b ∈ row, gW (toS (bP L b)) = some (uK (bP L b).1.d) := fun b hb' => by
   have hg := oC (hr b hb')
   have hm := List.mem_of_getElem? hg
   exact Kn (hL.pos _ hm) (hb.pts _ hm)
  have hql : q.length ≤ 100000000 := by rw [h] at hlen; simp at hlen; omega
  have hn : 0 < row.length := by rw [h]; simp; omega
  have hprev : ∃ b ∈ row, (md (bn ((bn ((q.length : Int) + ((row.map fun a => toS (bP L a)).length : Int))) - 1)) ((row.map fun a => toS (bP L a)).length : Int)).bind (fun q150 => idx (row.map fun a => toS (bP L a)) q150) = some (toS (bP L b)) ∧ (bP L b).1.d = (q.map fun a => (bP L a).1.d).getLastD (bP L (row.getLastD 0)).1.d := by
   rw [List.length_map, bR (x := (q.length : Int) + row.length) (by omega) (by omega), bR (by omega) (by omega)]
   have hmd : md ((q.length : Int) + row.length - 1) row.length = some (Int.tmod ((q.length : Int) + row.length - 1) row.length) := by unfold md; rw [if_neg (by omega)]
   rw [hmd, Option.bind_some]
   rcases List.eq_nil_or_concat q with hq | ⟨q', b, hq⟩
   ·subst hq
    have e1 : Int.tmod ((([] : List Nat).length : Int) + row.length - 1) row.length = ((row.length - 1 : Nat) : Int) := by
     rw [Int.tmod_eq_emod_of_nonneg (by simp; omega), List.length_nil, Int.emod_eq_of_lt (by omega) (by omega)]; omega
    have hne : row ≠ [] := by rw [h]; simp
    have hlast : row[row.length - 1]? = some (row.getLastD 0) := by
     rw [List.getLastD_eq_getLast?, List.getLast?_eq_getElem?]
     rw [List.getElem?_eq_getElem (by omega)]; rfl
    refine ⟨row.getLastD 0, List.mem_of_getElem? hlast, ?_, rfl⟩
    rw [e1]
    unfold idx
    rw [if_pos (by omega), Int.toNat_natCast, List.getElem?_map, hlast]; rfl
   ·rw [List.concat_eq_append] at hq
    subst hq
    have e1 : Int.tmod (((q' ++ [b]).length : Int) + row.length - 1) row.length = (q'.length : Int) := by
     have : ((q' ++ [b]).length : Int) + row.length - 1 = (q'.length : Int) + row.length := by simp; omega
     rw [this, Int.tmod_eq_emod_of_nonneg (by omega), Int.add_emod_right, Int.emod_eq_of_lt (by omega) (by rw [h]; simp; omega)]
    have hb2 : row[q'.length]? = some b := by rw [h]; simp
    refine ⟨b, List.mem_of_getElem? hb2, ?_, by simp⟩
    rw [e1]
    unfold idx
    rw [if_pos (by omega), Int.toNat_natCast, List.getElem?_map, hb2]; rfl
  obtain ⟨b, hb1, hb2, hb3⟩ := hprev
  have ih := DI hL hb row hr hlen suf (q ++ [a]) (by rw [h]; simp)
  rw [List.length_append, Jd] at ih
  show gY _ (toS (bP L a) :: suf.map _) _ _ = _
  rw [gY.eq_2, hdir a (by rw [h]; simp), Option.bind_some]
  obtain ⟨q150, hq1, hq2⟩ := Option.bind_eq_some_iff.1 hb2
  rw [hq1, Option.bind_some, hq2, Option.bind_some, hdir b hb1, Option.bind_some, Ob, hb3]
  have hcl := zN L q (bP L (row.getLastD 0)).1.d
  generalize (q.map fun a => (bP L a).1.d).getLastD (bP L (row.getLastD 0)).1.d = dp at ih ⊢
  generalize AJ L (bP L (row.getLastD 0)).1.d q = cq at ih hcl ⊢
  by_cases hd : dp = (bP L a).1.d
  ·rw [if_neg (by simp [hd])]
   rw [if_neg (by simpa using hd), List.append_nil] at ih
   exact ih
  ·rw [if_pos (by simp; exact fun hh => hd hh.symm)]
   rw [if_pos hd, List.map_append] at ih
   rw [iO (by rw [List.length_map]; simp; omega), Option.bind_some]
   exact ih
theorem Kq {I : Sq} {L : List Sd} (hL : mV I L) (hb : yF L) {row : List Nat} (hr : ∀ a ∈ row, a < L.length) (hlen : row.length ≤ 100000000) (hne : AJ L (bP L (row.getLastD 0)).1.d row ≠ []) : qA (row.map fun a => toS (bP L a)) = some ((mM L row).map iw) := by
 unfold qA
 have h1 := DI hL hb row hr hlen row [] rfl
 rw [List.length_nil] at h1
 have h0 : (AJ L (bP L (row.getLastD 0)).1.d []).map iw = [] := rfl
 rw [h0] at h1
 rw [h1]
 unfold mM lr
 have hcl := zN L row (bP L (row.getLastD 0)).1.d
 generalize AJ L (bP L (row.getLastD 0)).1.d row = c at hne hcl
 obtain ⟨p, r, rfl⟩ := List.exists_cons_of_ne_nil hne
 have h2 := Ap (p :: r) (by omega) (p :: r) [] 0 p rfl rfl
 rw [List.length_nil] at h2
 have e0 : ((0 : Nat) : Int) = 0 := rfl
 rw [e0] at h2
 rw [h2]
 have hk := LK (p :: r) (0, p) 0 (p :: r).length (by simp) (by simp)
 rw [Pi (by rw [List.length_map]; omega) (by rw [List.length_map]; omega)]
 simp only [List.headD_cons, List.map_append, List.map_drop, List.map_take]
open PX
theorem KS {I : Sq} {f e : Ed} (hf : xk I f) (he : xk I e) (hx : e.x = f.tx) (hy : e.y = f.ty) (hne : e ≠ sc I f) : (sc I f).d = f.d.left := by
 obtain ⟨g1, g2⟩ := Ed.CP I f
 have f1 : lq I f.tx f.ty f.d.left = true := g1.trans hf.1
 have f2 : lq I f.tx f.ty f.d.left.left = false := g2.trans hf.2
 obtain ⟨e1, e2⟩ := he
 rw [hx, hy] at e1 e2
 rcases AP hf with ⟨_, h2⟩ | ⟨h1, h2, h3⟩ | ⟨h1, h2, h3⟩
 ·rw [h2]
 ·exfalso
  have hd : e.d = f.d := by
   generalize f.d = d at f1 f2 h1 h2
   generalize e.d = d' at e1 e2
   cases d <;> cases d' <;> simp only [Dir.left, Dir.right] at * <;> first | rfl | (rw [e1] at f2; cases f2) | (rw [e2] at f1; cases f1) | (rw [e2] at h1; cases h1) | (rw [e1] at h2; cases h2)
  exact hne (by rw [h3]; exact Ed.ext' hx hy hd)
 ·exfalso
  have hd : e.d = f.d.right := by
   generalize f.d = d at f1 f2 h1 h2
   generalize e.d = d' at e1 e2
   cases d <;> cases d' <;> simp only [Dir.left, Dir.right] at * <;> first | rfl | (rw [e1] at f2; cases f2) | (rw [e2] at f1; cases f1) | (rw [e2] at h1; cases h1) | (rw [e2] at h2; cases h2)
  exact hne (by rw [h3]; exact Ed.ext' hx hy hd)
theorem Lu {I : Sq} {f e : Ed} (he : xk I e) (hx : e.x = f.tx) (hy : e.y = f.ty) (hd : e.d = f.d.left) : e = sc I f := by
 have h2 := he.2
 rw [hx, hy, hd, Dir.lr] at h2
 rw [QP h2]
 exact Ed.ext' hx hy hd
theorem Ep {s : Sd} (h : 0 < s.2) : (zS s).tx = (pG s).1 ∧ (zS s).ty = (pG s).2 ∧ (zS s).d = s.1.d := by
 obtain ⟨t1, t2⟩ := Ht s.1 (s.2 - 1)
 have e : s.2 - 1 + 1 = s.2 := by omega
 rw [e] at t1 t2
 exact ⟨t1, t2, rfl⟩
def wW (L : List Sd) (v : Int × Int) : List Int := ((List.range L.length).filter fun a => decide ((bP L a).1.p = v)).map fun a : Nat => (a : Int)
theorem za {L : List Sd} {v : Int × Int} {j : Int} : j ∈ wW L v ↔ ∃ a, a < L.length ∧ (bP L a).1.p = v ∧ j = (a : Int) := by
 unfold wW
 simp only [List.mem_map, List.mem_filter, List.mem_range, decide_eq_true_eq]
 exact ⟨fun ⟨a, ⟨h1, h2⟩, h3⟩ => ⟨a, h1, h2, h3.symm⟩, fun ⟨a, h1, h2, h3⟩ => ⟨a, ⟨h1, h2⟩, h3.symm⟩⟩
theorem Kg (L : List Sd) (v : Int × Int) : (wW L v).Nodup := by
 unfold wW
 rw [List.Nodup, List.pairwise_map]
 exact (List.nodup_range.filter _).imp fun h hh => h (by omega)
section
variable {I : Sq} {L : List Sd}
theorem Bc (h : mV I L) {a b : Nat} (hn : Nx I L a b) : (bP L b).1.p = pG (bP L a) := by
 obtain ⟨s, t, h1, h2, h3⟩ := hn
 rw [lV h1, lV h2, h3, Pd]
 have hp := h.pos s (List.mem_of_getElem? h1)
 exact Prod.ext (Ep hp).1 (Ep hp).2.1
theorem PH (h : mV I L) {a b : Nat} (ha : a < L.length) (hb : b < L.length) (hv : (bP L b).1.p = pG (bP L a)) : (Nx I L a b ↔ (wW L (pG (bP L a))).length = 1 ∨ (bP L b).1.d = (bP L a).1.d.left) := by
 have ga := oC ha
 have gb := oC hb
 have ma := List.mem_of_getElem? ga
 have mb := List.mem_of_getElem? gb
 obtain ⟨t1, t2, t3⟩ := Ep (h.pos _ ma)
 have hl := (h.last ma).1
 have hx : (bP L b).1.x = (zS (bP L a)).tx := (congrArg Prod.fst hv).trans t1.symm
 have hy : (bP L b).1.y = (zS (bP L a)).ty := (congrArg Prod.snd hv).trans t2.symm
 have fb := h.fst mb
 obtain ⟨b', hb', hn⟩ := h.next ha
 have hm' : (b' : Int) ∈ wW L (pG (bP L a)) := za.2 ⟨b', hb', Bc h hn, rfl⟩
 have hm : (b : Int) ∈ wW L (pG (bP L a)) := za.2 ⟨b, hb, hv, rfl⟩
 constructor
 ·intro hab
  have := h.MH hab hn
  subst this
  cases Classical.em ((bP L b).1.d = (bP L a).1.d.left) with
  | inl hh => exact .inr hh
  | inr hh =>
   left
   have hall : ∀ j ∈ wW L (pG (bP L a)), j = (b : Int) := fun j hj => by
    obtain ⟨c, hc, hcv, rfl⟩ := za.1 hj
    have gc := oC hc
    have mc := List.mem_of_getElem? gc
    obtain ⟨s, t, k1, k2, k3⟩ := hab
    rw [ga] at k1
    rw [gb] at k2
    have k1 := Option.some.inj k1
    have k2 := Option.some.inj k2
    subst k1; subst k2
    cases Classical.em ((bP L c).1 = sc I (zS (bP L a))) with
    | inl he =>
     have := h.MH ⟨_, _, ga, gc, he⟩ ⟨_, _, ga, gb, k3⟩
     rw [this]
    | inr he =>
     exfalso
     have := KS hl (h.fst mc) ((congrArg Prod.fst hcv).trans t1.symm) ((congrArg Prod.snd hcv).trans t2.symm) he
     rw [← k3, t3] at this
     exact hh this
   have hnd := Kg L (pG (bP L a))
   match hq : wW L (pG (bP L a)), hm, hall, hnd with
   | [x], _, _, _ => rfl
   | x :: y :: r, _, hall, hnd =>
    exfalso
    have e1 := hall x (by simp)
    have e2 := hall y (by simp)
    rw [e1, e2] at hnd
    simp at hnd
 ·intro hor
  rcases hor with h1 | h1
  ·obtain ⟨x, hx1⟩ := List.length_eq_one_iff.1 h1
   rw [hx1] at hm hm'
   simp at hm hm'
   have : b = b' := by omega
   rw [this]; exact hn
  ·exact ⟨_, _, ga, gb, Lu fb hx hy (by rw [t3]; exact h1)⟩
theorem F3 {κ α : Type} [DecidableEq κ] (k : κ) (l : List α) (k' : κ) : ∀ m : List (κ × List α), qp (wQ m k l) k' = if k = k' then l else qp m k'
 | [] => by simp [wQ, qp]
 | p :: m => by
  unfold wQ
  by_cases h : p.1 = k
  ·rw [if_pos h]
   by_cases h' : k = k'
   ·simp [qp, h']
   ·simp [qp, h, h']
  ·rw [if_neg h]
   simp only [qp]
   rw [F3 k l k' m]
   by_cases h' : k = k'
   ·subst h'; simp [h]
   ·simp [h']
theorem Lg {p : Int × Int} (h : OY p) : HZ p = true := by
 obtain ⟨⟨h1, h2⟩, h3, h4⟩ := h
 unfold HZ Rz
 simp; omega
theorem IM (hb : yF L) (N : Nat) : ∀ (suf q : List Sd) (m : List ((Int × Int) × List Int)), L = q ++ suf → (∀ v, qp m v = ((List.range q.length).filter fun a => decide ((bP L a).1.p = v)).map fun a : Nat => (a : Int)) →
  ∃ m', (∀ v, qp m' v = wW L v) ∧ eT N (L.map toS) (suf.map toS) q.length m = (MI false ((L.map toS).length : Int)).bind fun TT => bZ N (L.map toS) m' (L.map toS) 0 TT []
 | [], q, m, h, hm => by
  rw [List.append_nil] at h
  subst h
  refine ⟨m, hm, ?_⟩
  show eT _ _ [] _ _ = _
  rw [eT.eq_1]
 | s :: suf, q, m, h, hm => by
  have hg : L[q.length]? = some s := by rw [h]; simp
  have hs := lV hg
  have hlim := (hb.pts s (List.mem_of_getElem? hg)).1
  have hlen := hb.len
  have hql : q.length ≤ 100000000 := by rw [h] at hlen; simp at hlen; omega
  obtain ⟨m', h1, h2⟩ := IM hb N suf (q ++ [s]) (wQ m s.1.p (qp m s.1.p ++ [(q.length : Int)])) (by rw [h]; simp) (fun v => by
   rw [F3, List.length_append, List.length_singleton, List.range_succ, List.filter_append, List.map_append, hm v]
   by_cases hv : s.1.p = v
   ·subst hv
    rw [if_pos rfl, hm]
    simp [hs]
   ·rw [if_neg hv]
    simp [hs, hv])
  refine ⟨m', h1, ?_⟩
  rw [List.length_append] at h2
  show eT _ _ (toS s :: suf.map toS) _ _ = _
  have e1 : tL HZ m ((toS s).from_.X, (toS s).from_.Y) = some (qp m s.1.p) := if_pos (Lg hlim)
  have hkl : (qp m s.1.p).length ≤ q.length := by rw [hm, List.length_map]; exact Nat.le_trans (List.length_filter_le _ _) (Nat.le_of_eq List.length_range)
  rw [eT.eq_2, e1, Option.bind_some, iO (by simp; omega), Option.bind_some]
  exact h2
theorem Pz {s : Sd} (h : 0 < s.2) (hl : OY s.1.p ∧ OY (pG s)) : mh (toS s) = some (uK s.1.d.left) := by
 unfold mh
 rw [Kn h hl, Option.bind_some]
 congr 1
 unfold uK
 cases s.1.d <;> simp only [Dir.dx, Dir.dy, Dir.left] <;> rfl
variable {m : List ((Int × Int) × List Int)}
theorem LD (hm : ∀ v, qp m v = wW L v) {s : Sd} (h : OY (pG s)) : tL HZ m ((toS s).to_.X, (toS s).to_.Y) = some (wW L (pG s)) := by
 show tL HZ m (pG s) = _
 unfold tL
 rw [if_pos (Lg h), hm]
theorem Gf (h : mV I L) (hb : yF L) (hm : ∀ v, qp m v = wW L v) {a b : Nat} (ha : a < L.length) (hb' : b < L.length) (hv : (bP L b).1.p = pG (bP L a)) :
  ∃ g, fI (toS (bP L a)) (toS (bP L b)) m = some g ∧ (g = true ↔ Nx I L a b) := by
 have ma := List.mem_of_getElem? (oC ha)
 have mb := List.mem_of_getElem? (oC hb')
 have e1 : tL HZ m ((toS (bP L a)).to_.X, (toS (bP L a)).to_.Y) = some (wW L (pG (bP L a))) := LD hm (hb.pts _ ma).2
 unfold fI
 rw [e1, Option.bind_some, Kn (h.pos _ mb) (hb.pts _ mb), Pz (h.pos _ ma) (hb.pts _ ma)]
 simp only [Option.bind_some, Ob]
 rw [PH h ha hb' hv]
 by_cases h1 : (wW L (pG (bP L a))).length = 1
 ·rw [if_pos (by simp; omega)]
  exact ⟨true, rfl, by simp [h1]⟩
 ·rw [if_neg (by simp; omega)]
  exact ⟨_, rfl, by simp [h1]⟩
theorem FV (h : mV I L) (hb : yF L) (hm : ∀ v, qp m v = wW L v) {a b : Nat} (ha : a < L.length) (hn : Nx I L a b) {u : List Bool} (hu : u.length = L.length) (hub : u[b]? = some false) : ∀ (l : List Int) (i : Nat), (∀ j ∈ l, j ∈ wW L (pG (bP L a))) → (b : Int) ∈ l →
  bX (toS (bP L a)) u (L.map toS) m l i = some (b : Int)
 | j :: l, i, hl, hbl => by
  obtain ⟨c, hc, hcv, rfl⟩ := za.1 (hl j (by simp))
  obtain ⟨g, g1, g2⟩ := Gf h hb hm ha hc hcv
  have hid : idx u (c : Int) = some u[c] := sI (by omega)
  have hid2 : idx (L.map toS) (c : Int) = some (toS (bP L c)) := by
   unfold idx
   rw [if_pos (by omega), Int.toNat_natCast, List.getElem?_map, oC hc]; rfl
  rw [bX.eq_2, hid, Option.bind_some, hid2, Option.bind_some, g1, Option.bind_some]
  by_cases hcb : c = b
  ·subst hcb
   have hf : u[c] = false := by
    have := List.getElem?_eq_getElem (l := u) (i := c) (by omega)
    rw [hub] at this; exact (Option.some.inj this).symm
   rw [hf, if_pos (by rfl), Option.bind_some, if_pos (g2.2 hn)]
  ·have hg : g = false := by
    cases hg : g with
    | false => rfl
    | true => exact absurd (h.MH (g2.1 hg) hn) hcb
   have hres : ∀ z : Bool, (if (!z) = true then some g else some false) = some false := fun z => by cases z <;> simp [hg]
   rw [hres, Option.bind_some, if_neg (by simp)]
   refine FV h hb hm ha hn hu hub l (i + 1) (fun j hj => hl j (by simp [hj])) ?_
   rcases List.mem_cons.1 hbl with hbl | hbl
   ·exact absurd (by omega) hcb
   ·exact hbl
theorem NJ (h : mV I L) (hb : yF L) (hm : ∀ v, qp m v = wW L v) {a b : Nat} (ha : a < L.length) (hn : Nx I L a b) {u : List Bool} (hu : u.length = L.length) (hub : u[b]? = some false) : fF (toS (bP L a)) m u (L.map toS) m = some (b : Int) := by
 have ma := List.mem_of_getElem? (oC ha)
 have e1 : tL HZ m ((toS (bP L a)).to_.X, (toS (bP L a)).to_.Y) = some (wW L (pG (bP L a))) := LD hm (hb.pts _ ma).2
 unfold fF
 rw [e1, Option.bind_some]
 exact FV h hb hm ha hn hu hub _ 0 (fun _ hj => hj) (za.2 ⟨b, hn.lt.2, Bc h hn, rfl⟩)
end
open PX Go.Sort
section
variable {I : Sq} {L : List Sd}
theorem Hm : ∀ {q : List Nat} {a c : Nat}, Cn I L a q → Nx I L (q.getLastD a) c → Cn I L a (q ++ [c])
 | [], a, c, _, h => ⟨h, trivial⟩
 | b :: q, a, c, ⟨h1, h2⟩, h => ⟨h1, Hm h2 (by cases q <;> exact h)⟩
theorem Ce : ∀ {q : List Nat} {a : Nat}, q.getLastD a ∈ a :: q
 | [], a => by simp
 | b :: q, a => by
  have : (b :: q).getLastD a = q.getLastD b := by cases q <;> rfl
  rw [this]
  exact List.mem_cons_of_mem _ Ce
theorem Dt : ∀ {q : List Nat} {a : Nat}, Cn I L a q → (a :: q).Nodup → ∀ c ∈ q, ∃ p ∈ a :: q, Nx I L p c ∧ p ≠ q.getLastD a
 | b :: q, a, ⟨h1, h2⟩, hn, c, hc => by
  have e : (b :: q).getLastD a = q.getLastD b := by cases q <;> rfl
  rw [e]
  obtain ⟨n1, n2⟩ := List.nodup_cons.1 hn
  rcases List.mem_cons.1 hc with rfl | hc
  ·exact ⟨a, by simp, h1, fun hh => n1 (by rw [hh]; exact Ce)⟩
  ·obtain ⟨p, p1, p2, p3⟩ := Dt h2 n2 c hc
   exact ⟨p, List.mem_cons_of_mem _ p1, p2, p3⟩
theorem FK (h : mV I L) {r : List Nat} (hr : CV I L r) {a b : Nat} (hb : b ∈ r) (hn : Nx I L a b) : a ∈ r := by
 obtain ⟨i, q, rfl, h1, h2, h3⟩ := hr
 rcases List.mem_cons.1 hb with rfl | hb
 ·rw [h.Pq hn h2]; exact Ce
 ·obtain ⟨p, p1, p2, _⟩ := Dt h1 h3 b hb
  rw [h.Pq hn p2]; exact p1
structure Rx (I : Sq) (L : List Sd) (u : List Bool) (rs : List (List Nat)) : Prop where
 len : u.length = L.length
 use : ∀ a, u[a]? = some true ↔ ∃ r ∈ rs, a ∈ r
 row : ∀ r ∈ rs, CV I L r
 once : rs.Pairwise fun r r' => ∀ a ∈ r, a ∉ r'
theorem vS : ∀ {n : Nat} {l : List Nat}, l.Nodup → (∀ a ∈ l, a < n) → l.length ≤ n
 | 0, [], _, _ => Nat.le_refl _
 | 0, a :: l, _, h => absurd (h a (by simp)) (Nat.not_lt_zero _)
 | n + 1, l, hn, h => by
  have ih := vS (n := n) (l := l.erase n) (hn.erase n) fun a ha => by
   obtain ⟨h1, h2⟩ := hn.mem_erase_iff.1 ha
   have := h a h2
   omega
  rw [List.length_erase] at ih
  split at ih <;> omega
theorem not_true {u : List Bool} {a : Nat} (h : a < u.length) (hn : ¬ u[a]? = some true) : u[a]? = some false := by
 rw [List.getElem?_eq_getElem h] at hn ⊢
 cases hu : u[a] with
 | true => exact absurd (congrArg some hu) hn
 | false => rfl
theorem Cj : ∀ {u : List Bool} {b : Nat}, u[b]? = some false → (u.set b true).count false + 1 = u.count false
 | [], b, h => by simp at h
 | x :: u, 0, h => by simp at h; subst h; simp
 | x :: u, b + 1, h => by
  have := Cj (u := u) (b := b) (by simpa using h)
  simp only [List.set_cons_succ, List.count_cons]
  omega
variable {m : List ((Int × Int) × List Int)}
theorem Re {b : Nat} (h : b < L.length) : idx (L.map toS) (b : Int) = some (toS (bP L b)) := by
 unfold idx
 rw [if_pos (by omega), Int.toNat_natCast, List.getElem?_map, oC h]; rfl
theorem Iq (h : mV I L) (hb : yF L) (hm : ∀ v, qp m v = wW L v) {i : Nat} {rs : List (List Nat)} (hrs : ∀ r ∈ rs, CV I L r) (hir : ∀ r ∈ rs, i ∉ r) (out : List (List aA)) (k : List Bool → List (List aA) → Option (List (List aA))) :
  ∀ (fuel : Nat) (q : List Nat) (b : Nat) (u : List Bool) (t : List Nat), q ++ [b] = i :: t → Cn I L i t → (i :: t).Nodup → (∀ a ∈ i :: t, ∀ r ∈ rs, a ∉ r) → b < L.length → (∀ a ∈ q, a < L.length) → u.length = L.length → (∀ a, u[a]? = some true ↔ (∃ r ∈ rs, a ∈ r) ∨ a ∈ q) → u.count false < fuel →
  ∃ (r : List Nat) (u' : List Bool), CV I L r ∧ i ∈ r ∧ (∀ a ∈ r, ∀ r' ∈ rs, a ∉ r') ∧ (∀ a ∈ r, a < L.length) ∧ u'.length = L.length ∧ (∀ a, u'[a]? = some true ↔ (∃ r' ∈ rs, a ∈ r') ∨ a ∈ r) ∧ r.length ≤ L.length ∧
   jf (L.map toS) m out k (toS (bP L i)) fuel u (q.map fun a => toS (bP L a)) (b : Int) = jg out k u' (r.map fun a => toS (bP L a))
 | 0, _, _, u, _, _, _, _, _, _, _, _, _, hf => absurd hf (Nat.not_lt_zero _)
 | fuel + 1, q, b, u, t, ht, hcn, hnd, hfree, hbl, hql, hu, huse, hf => by
  have hlast : t.getLastD i = b := by
   have e1 : (q ++ [b]).getLastD 0 = b := by simp
   rw [ht] at e1
   have e2 : (i :: t).getLastD 0 = t.getLastD i := by cases t <;> rfl
   rw [← e2, e1]
  have hbm : b ∈ i :: t := by rw [← ht]; simp
  have him : i ∈ q ++ [b] := by rw [ht]; simp
  have hil : i < L.length := by
   rcases List.mem_append.1 him with h1 | h1
   ·exact hql i h1
   ·rw [List.mem_singleton.1 h1]; exact hbl
  have hbq : b ∉ q := by
   rw [← ht] at hnd
   intro hh
   exact (List.nodup_append.1 hnd).2.2 b hh b (by simp) rfl
  have hub : u[b]? = some false := not_true (by omega) fun hh => by
   rcases (huse b).1 hh with ⟨r, h1, h2⟩ | h1
   ·exact hfree b hbm r h1 h2
   ·exact hbq h1
  have hid : idx u (b : Int) = some false := by
   unfold idx
   rw [if_pos (by omega), Int.toNat_natCast, hub]
  have hset : sets u (b : Int) true = some (u.set b true) := by
   unfold sets
   rw [if_pos (by omega), Int.toNat_natCast]
  have huse' : ∀ a, (u.set b true)[a]? = some true ↔ (∃ r ∈ rs, a ∈ r) ∨ a ∈ q ++ [b] := fun a => by
   rw [List.getElem?_set]
   by_cases hab : b = a
   ·subst hab
    rw [if_pos rfl, if_pos (by omega)]
    simp
   ·rw [if_neg hab, huse a]
    have : a ∈ q ++ [b] ↔ a ∈ q := by simp; exact fun hh => absurd hh.symm hab
    rw [this]
  have hql' : ∀ a ∈ q ++ [b], a < L.length := fun a ha => by
   rcases List.mem_append.1 ha with h1 | h1
   ·exact hql a h1
   ·rw [List.mem_singleton.1 h1]; exact hbl
  have hqn : q.length ≤ L.length := vS (by rw [← ht] at hnd; exact (List.nodup_append.1 hnd).1) hql
  have hqn' : (q ++ [b]).length ≤ L.length := vS (by rw [ht]; exact hnd) hql'
  have hlen := hb.len
  rw [jf.eq_2, if_pos (by simp), hid, Option.bind_some, hset, Option.bind_some, Re hbl, Option.bind_some, iO (by rw [List.length_map]; simp; omega), Option.bind_some, Option.bind_some]
  have hg : ∃ g, (if (fB (toS (bP L b)).to_ (toS (bP L i)).from_) then ((some (toS (bP L b))).bind fun Tm => (fI Tm (toS (bP L i)) m).bind fun Ta => some Ta) else some false) = some g ∧ (g = true ↔ Nx I L b i) := by
   have e1 : fB (toS (bP L b)).to_ (toS (bP L i)).from_ = decide (pG (bP L b) = (bP L i).1.p) := PN _ _
   rw [e1]
   by_cases hp : pG (bP L b) = (bP L i).1.p
   ·rw [if_pos (by simpa using hp)]
    obtain ⟨g, g1, g2⟩ := Gf h hb hm hbl hil hp.symm
    refine ⟨g, ?_, g2⟩
    rw [Option.bind_some, g1]; rfl
   ·rw [if_neg (by simpa using hp)]
    exact ⟨false, rfl, ⟨fun hh => (nomatch hh), fun hn => absurd (Bc h hn).symm hp⟩⟩
  obtain ⟨g, g1, g2⟩ := hg
  have hmapq : (q.map fun a => toS (bP L a)) ++ [toS (bP L b)] = (q ++ [b]).map fun a => toS (bP L a) := by simp
  rw [g1, Option.bind_some, hmapq]
  by_cases hgt : g = true
  ·rw [if_pos hgt]
   refine ⟨q ++ [b], u.set b true, ?_, him, fun a ha => hfree a (by rw [← ht]; exact ha), hql', by rw [List.length_set]; exact hu, huse', hqn', rfl⟩
   rw [ht]
   exact ⟨i, t, rfl, hcn, by rw [hlast]; exact g2.1 hgt, hnd⟩
  ·rw [if_neg hgt]
   obtain ⟨c, hc, hn⟩ := h.next hbl
   have hcr : ∀ r ∈ rs, c ∉ r := fun r hr hh => hfree b hbm r hr (FK h (hrs r hr) hh hn)
   have hcq : c ∉ i :: t := fun hh => by
    rcases List.mem_cons.1 hh with rfl | hh
    ·exact hgt (g2.2 hn)
    ·obtain ⟨p, p1, p2, p3⟩ := Dt hcn hnd c hh
     rw [hlast] at p3
     exact p3 (h.Pq p2 hn)
   have huc : (u.set b true)[c]? = some false := not_true (by rw [List.length_set]; omega) fun hh => by
    rcases (huse' c).1 hh with ⟨r, h1, h2⟩ | h1
    ·exact hcr r h1 h2
    ·rw [ht] at h1; exact hcq h1
   rw [Option.bind_some, NJ h hb hm hbl hn (by rw [List.length_set]; exact hu) huc, Option.bind_some]
   have hcnt := Cj hub
   exact Iq h hb hm hrs hir out k fuel (q ++ [b]) c (u.set b true) (t ++ [c]) (by rw [ht]; rfl) (Hm hcn (by rw [hlast]; exact hn))
    (by rw [← List.cons_append]; exact List.nodup_append.2 ⟨hnd, by simp, fun x hx y hy => by rw [List.mem_singleton.1 hy]; exact fun e => hcq (e ▸ hx)⟩)
    (fun a ha r hr hh => by
     rw [← List.cons_append] at ha
     rcases List.mem_append.1 ha with h1 | h1
     ·exact hfree a h1 r hr hh
     ·rw [List.mem_singleton.1 h1] at hh; exact hcr r hr hh) hc hql' (by rw [List.length_set]; exact hu) huse' (by omega)
theorem Jc (h : mV I L) {r : List Nat} (hr : CV I L r) : AJ L (bP L (r.getLastD 0)).1.d r ≠ [] := fun hh => by
 obtain ⟨B, hB⟩ := h.fin
 obtain ⟨e, e1, e2, _⟩ := rU h hr
 obtain ⟨t, ht⟩ := e2.head hB e1
 unfold mM at ht
 rw [hh] at ht
 cases ht
def told (L : List Sd) (rs : List (List Nat)) : List (List aA) := (rs.map (mM L)).map (List.map iw)
theorem EP (h : mV I L) (hb : yF L) (hm : ∀ v, qp m v = wW L v) {N : Nat} (hN : L.length < N) : ∀ (suf q : List Sd) (u : List Bool) (rs : List (List Nat)), L = q ++ suf → Rx I L u rs → (∀ a, a < q.length → ∃ r ∈ rs, a ∈ r) → rs.length ≤ q.length →
  ∃ rs', yz I L rs' ∧ bZ N (L.map toS) m (suf.map toS) q.length u (told L rs) = DU (told L rs') dY
 | [], q, u, rs, hL, inv, hall, _ => by
  rw [List.append_nil] at hL
  subst hL
  refine ⟨rs, ⟨inv.row, hall, inv.once⟩, ?_⟩
  show bZ _ _ _ [] _ _ _ = _
  rw [bZ.eq_1]
  show (DU (told L rs) dY).bind some = _
  cases DU (told L rs) dY <;> rfl
 | s :: suf, q, u, rs, hL, inv, hall, hrs => by
  have hg : L[q.length]? = some s := by rw [hL]; simp
  have hil := (List.getElem?_eq_some_iff.1 hg).1
  have hlen := hb.len
  have hu := inv.len
  rw [List.map_cons, bZ.eq_2, sI (l := u) (i := q.length) (by omega), Option.bind_some]
  by_cases hx : u[q.length] = true
  ·rw [if_pos hx]
   obtain ⟨rs', h1, h2⟩ := EP h hb hm hN suf (q ++ [s]) u rs (by rw [hL]; simp) inv (fun a ha => by
    rw [List.length_append, List.length_singleton] at ha
    rcases Nat.lt_or_ge a q.length with h3 | h3
    ·exact hall a h3
    ·have : a = q.length := by omega
     subst this
     exact (inv.use _).1 (by rw [List.getElem?_eq_getElem (by omega), hx])) (by simp; omega)
   rw [List.length_append] at h2
   exact ⟨rs', h1, h2⟩
  ·rw [if_neg hx]
   have hir : ∀ r ∈ rs, q.length ∉ r := fun r hr hh => by
    have := (inv.use q.length).2 ⟨r, hr, hh⟩
    rw [List.getElem?_eq_getElem (by omega)] at this
    exact hx (Option.some.inj this)
   have hcl : u.count false ≤ u.length := List.count_le_length
   obtain ⟨r, u', r1, r2, r3, r4, r5, r6, r7, r8⟩ := Iq h hb hm inv.row hir (told L rs) (bZ N (L.map toS) m (suf.map toS) (q.length + 1)) N [] q.length u [] rfl trivial (by simp) (fun a ha r hr => by
    rw [List.mem_singleton.1 ha]; exact hir r hr) hil (fun a ha => (nomatch ha)) hu (fun a => by rw [inv.use a]; simp) (by omega)
   have e1 : bP L q.length = s := lV hg
   rw [e1] at r8
   rw [List.map_nil] at r8
   rw [r8]
   unfold jg
   have hout : (rs.map (mM L)).map (List.map iw) ++ [(mM L r).map iw] = told L (rs ++ [r]) := by unfold told; simp
   rw [Kq h hb r4 (by omega) (Jc h r1), Option.bind_some, iO (by unfold told; simp; omega), Option.bind_some]
   show ∃ rs', _ ∧ bZ N (L.map toS) m (suf.map toS) (q.length + 1) u' ((rs.map (mM L)).map (List.map iw) ++ [(mM L r).map iw]) = _
   rw [hout]
   obtain ⟨rs', h1, h2⟩ := EP h hb hm hN suf (q ++ [s]) u' (rs ++ [r]) (by rw [hL]; simp) ⟨r5, fun a => by
     rw [r6 a]
     constructor
     ·rintro (⟨r', g1, g2⟩ | g1)
      ·exact ⟨r', by simp [g1], g2⟩
      ·exact ⟨r, by simp, g1⟩
     ·rintro ⟨r', g1, g2⟩
      rcases List.mem_append.1 g1 with g1 | g1
      ·exact .inl ⟨r', g1, g2⟩
      ·rw [List.mem_singleton.1 g1] at g2; exact .inr g2, fun r' hr' => by
     rcases List.mem_append.1 hr' with g1 | g1
     ·exact inv.row r' g1
     ·rw [List.mem_singleton.1 g1]; exact r1, List.pairwise_append.2 ⟨inv.once, by simp, fun x hx y hy a ha hh => by
     rw [List.mem_singleton.1 hy] at hh
     exact r3 a hh x hx ha⟩⟩ (fun a ha => by
    rw [List.length_append, List.length_singleton] at ha
    rcases Nat.lt_or_ge a q.length with h3 | h3
    ·obtain ⟨r', g1, g2⟩ := hall a h3
     exact ⟨r', by simp [g1], g2⟩
    ·have : a = q.length := by omega
     subst this
     exact ⟨r, by simp, r2⟩) (by simp; omega)
   rw [List.length_append] at h2
   exact ⟨rs', h1, h2⟩
theorem Rl {l m : List (Int × Int)} {p q p1 q1 : Int × Int} {r s : List (Int × Int)} (hl : l = p :: p1 :: r) (hm : m = q :: q1 :: s) (hne : p = q → l = m) : dY (l.map iw) (m.map iw) = some (if pl p q then -1 else 1) := by
 subst hl; subst hm
 unfold dY
 have i0 : ∀ (a b : aA) (t : List aA), idx (a :: b :: t) 0 = some a := fun a b t => by unfold idx; simp
 have i1 : ∀ (a b : aA) (t : List aA), idx (a :: b :: t) 1 = some b := fun a b t => by unfold idx; simp
 simp only [List.map_cons, i0, i1, Option.bind_some, Ls, PN]
 by_cases h1 : pl p q
 ·simp [h1, ib]
 ·simp only [h1, decide_false, Bool.false_eq_true, if_false]
  by_cases h2 : p = q
  ·have h3 := hne h2
   simp only [List.cons.injEq] at h3
   obtain ⟨_, h4, _⟩ := h3
   subst h4
   simp [h2, rV, ib]
  ·simp [h2, ib]
theorem J5 {α β : Type} {f : α → β} : ∀ {l : List α}, l.Pairwise (fun a b => f a ≠ f b) → ∀ a ∈ l, ∀ b ∈ l, f a = f b → a = b
 | x :: l, h, a, ha, b, hb, e => by
  obtain ⟨h1, h2⟩ := List.pairwise_cons.1 h
  rcases List.mem_cons.1 ha with ea | ea
  ·rcases List.mem_cons.1 hb with eb | eb
   ·rw [ea, eb]
   ·rw [ea] at e; exact absurd e (h1 b eb)
  ·rcases List.mem_cons.1 hb with eb | eb
   ·rw [eb] at e; exact absurd e.symm (h1 a ea)
   ·exact J5 h2 a ea b eb e
theorem Gu {l : List (Int × Int)} (h : 4 ≤ l.length) : ∃ q r, l = l.headD (0, 0) :: q :: r := by
 match l, h with
 | p :: q :: r, _ => exact ⟨q, r, rfl⟩
theorem Px {β : Type} {c : β → β → Option Int} {x y : β} {k : Int} (h : c x y = some k) : FX c x y = decide (k < 0) := by unfold FX; rw [h]; rfl
theorem O8 {lo : List (List (Int × Int))} (hlen : lo.length ≤ 100000000) (h4 : ∀ l ∈ lo, 4 ≤ l.length) (hh : lo.Pairwise fun a b => a.headD (0, 0) ≠ b.headD (0, 0)) :
  ∃ ls : List (List (Int × Int)), ls.Perm lo ∧ (ls.Pairwise fun a b => pl (a.headD (0, 0)) (b.headD (0, 0))) ∧ DU (lo.map (List.map iw)) dY = some (ls.map (List.map iw)) := by
 have hc : ∀ a ∈ lo, ∀ b ∈ lo, dY (a.map iw) (b.map iw) = some (if pl (a.headD (0, 0)) (b.headD (0, 0)) then -1 else 1) := fun a ha b hb => by
  obtain ⟨q, r, e1⟩ := Gu (h4 a ha)
  obtain ⟨q', r', e2⟩ := Gu (h4 b hb)
  exact Rl e1 e2 (J5 hh a ha b hb)
 have hlt : ∀ a ∈ lo, ∀ b ∈ lo, FX dY (a.map iw) (b.map iw) = decide (pl (a.headD (0, 0)) (b.headD (0, 0))) := fun a ha b hb => by
  rw [Px (hc a ha b hb)]
  by_cases hp : pl (a.headD (0, 0)) (b.headD (0, 0))
  ·rw [if_pos hp, decide_eq_true hp]; rfl
  ·rw [if_neg hp, decide_eq_false hp]; rfl
 have hmm : ∀ {x}, x ∈ lo.map (List.map iw) → ∃ a ∈ lo, a.map iw = x := fun hx => by
  obtain ⟨a, h1, h2⟩ := List.mem_map.1 hx; exact ⟨a, h1, h2⟩
 have hok : tT dY (lo.map (List.map iw)) := by
  refine ⟨by rw [List.length_map]; omega, fun x hx y hy => ?_, fun x hx => ?_, fun x hx y hy z hz g1 g2 => ?_, fun x hx y hy z hz g1 g2 => ?_⟩
  ·obtain ⟨a, ha, rfl⟩ := hmm hx
   obtain ⟨b, hb, rfl⟩ := hmm hy
   exact ⟨_, hc a ha b hb⟩
  ·obtain ⟨a, ha, rfl⟩ := hmm hx
   rw [hlt a ha a ha]
   exact decide_eq_false (rV _)
  ·obtain ⟨a, ha, rfl⟩ := hmm hx
   obtain ⟨b, hb, rfl⟩ := hmm hy
   obtain ⟨c, hc', rfl⟩ := hmm hz
   rw [hlt a ha b hb] at g1
   rw [hlt b hb c hc'] at g2
   rw [hlt a ha c hc']
   exact decide_eq_true (yX (of_decide_eq_true g1) (of_decide_eq_true g2))
  ·obtain ⟨a, ha, rfl⟩ := hmm hx
   obtain ⟨b, hb, rfl⟩ := hmm hy
   obtain ⟨c, hc', rfl⟩ := hmm hz
   rw [hlt a ha b hb] at g1
   rw [hlt b hb c hc'] at g2
   rw [hlt a ha c hc']
   have g1 := of_decide_eq_false g1
   have g2 := of_decide_eq_false g2
   refine decide_eq_false fun g3 => ?_
   rcases xx (b.headD (0, 0)) (c.headD (0, 0)) with h5 | h5 | h5
   ·exact g2 h5
   ·rw [← h5] at g3; exact g1 g3
   ·exact g1 (yX g3 h5)
 have hap : Apart dY (lo.map (List.map iw)) := fun x hx y hy g1 g2 => by
  obtain ⟨a, ha, rfl⟩ := hmm hx
  obtain ⟨b, hb, rfl⟩ := hmm hy
  rw [hlt a ha b hb] at g1
  rw [hlt b hb a ha] at g2
  have g1 := of_decide_eq_false g1
  have g2 := of_decide_eq_false g2
  rcases xx (a.headD (0, 0)) (b.headD (0, 0)) with h5 | h5 | h5
  ·exact absurd h5 g1
  ·rw [J5 hh a ha b hb h5]
  ·exact absurd h5 g2
 obtain ⟨r, hr⟩ := O6 hok hap
 obtain ⟨_, _, hp, hs⟩ := FB hr
 have hback : ∀ l : List (Int × Int), (l.map iw).map GU = l := fun l => by rw [List.map_map]; exact List.map_id _
 have hforth : ∀ l : List aA, (l.map GU).map iw = l := fun l => by rw [List.map_map]; exact List.map_id _
 have hrr : (r.map (List.map GU)).map (List.map iw) = r := by
  rw [List.map_map]
  have : (List.map iw ∘ List.map GU) = id := funext hforth
  rw [this, List.map_id]
 have hperm : (r.map (List.map GU)).Perm lo := by
  have := hp.map (List.map GU)
  rw [List.map_map] at this
  have e : (List.map GU ∘ List.map iw) = id := funext hback
  rwa [e, List.map_id] at this
 refine ⟨r.map (List.map GU), hperm, ?_, by rw [hrr]; exact hr⟩
 rw [← hrr, List.pairwise_map] at hs
 have hd : (r.map (List.map GU)).Pairwise fun a b => a.headD (0, 0) ≠ b.headD (0, 0) := hperm.symm.pairwise hh fun {a b} g e => g e.symm
 refine (hs.and hd).imp_of_mem fun {a b} ha hb ⟨g1, g2⟩ => ?_
 rw [hlt b (hperm.mem_iff.1 hb) a (hperm.mem_iff.1 ha)] at g1
 have g1 := of_decide_eq_false g1
 rcases xx (a.headD (0, 0)) (b.headD (0, 0)) with h5 | h5 | h5
 ·exact h5
 ·exact absurd h5 g2
 ·exact absurd h5 g1
theorem Fx (h : mV I L) {rs : List (List Nat)} (hr : ∀ r ∈ rs, CV I L r) : ∀ l ∈ rs.map (mM L), 4 ≤ l.length := fun l hl => by
 obtain ⟨B, hB⟩ := h.fin
 obtain ⟨r, h1, rfl⟩ := List.mem_map.1 hl
 obtain ⟨e, e1, ⟨n, e2, e3⟩, _⟩ := rU h (hr r h1)
 rw [e3]
 exact (Ee hB e1 e2).len
theorem NE (h : mV I L) {rs : List (List Nat)} (hr : yz I L rs) : rs.length ≤ L.length := by
 have h1 : (rs.map fun r => r.headD 0).Nodup := by
  rw [List.Nodup, List.pairwise_map]
  refine List.Pairwise.imp_of_mem (R := fun r r' => ∀ a ∈ r, a ∉ r') (fun {r r'} h1 h2 hd he => ?_) hr.once
  obtain ⟨a, q, rfl, _⟩ := hr.row r h1
  obtain ⟨b, q', rfl, _⟩ := hr.row r' h2
  exact hd a (by simp) (by have : a = b := he; rw [this]; simp)
 have h2 := vS (n := L.length) h1 fun a ha => by
  obtain ⟨r, g1, rfl⟩ := List.mem_map.1 ha
  obtain ⟨b, q, rfl, _, hn, _⟩ := hr.row r g1
  exact hn.lt.2
 rwa [List.length_map] at h2
theorem Kt : ∀ {q : List Nat} {a : Nat}, Cn I L a q → ∀ p ∈ a :: q, p = q.getLastD a ∨ ∃ c ∈ q, Nx I L p c
 | [], a, _, p, hp => .inl (by simpa using hp)
 | b :: q, a, ⟨h1, h2⟩, p, hp => by
  rcases List.mem_cons.1 hp with rfl | hp
  ·exact .inr ⟨b, by simp, h1⟩
  ·have e : (b :: q).getLastD a = q.getLastD b := by cases q <;> rfl
   rw [e]
   rcases Kt h2 p hp with h3 | ⟨c, h3, h4⟩
   ·exact .inl h3
   ·exact .inr ⟨c, by simp [h3], h4⟩
theorem JZ (r : List Nat) : (mM L r).length ≤ r.length := by
 unfold mM lr
 have h1 := zN L r (bP L (r.getLastD 0)).1.d
 rw [List.length_append, List.length_drop, List.length_take]
 omega
theorem ND (h : mV I L) {rs : List (List Nat)} (hr : yz I L rs) : (rs.map (mM L)).flatten.length ≤ L.length := by
 have h1 : rs.flatten.Nodup := by
  rw [List.Nodup, List.pairwise_flatten]
  refine ⟨fun r hrm => ?_, hr.once.imp (fun {r r'} (hd : ∀ a ∈ r, a ∉ r') x hx y hy (e : x = y) => hd x hx (by rw [e]; exact hy))⟩
  obtain ⟨a, q, rfl, _, _, hn⟩ := hr.row r hrm
  exact hn
 have h2 := vS (n := L.length) h1 fun a ha => by
  obtain ⟨r, hrm, har⟩ := List.mem_flatten.1 ha
  obtain ⟨i, q, rfl, hc, hn, _⟩ := hr.row r hrm
  rcases Kt hc a har with e | ⟨c, _, hx⟩
  ·rw [e]; exact hn.lt.1
  ·exact hx.lt.1
 have h3 : ∀ rs : List (List Nat), (rs.map (mM L)).flatten.length ≤ rs.flatten.length := by
  intro rs
  induction rs with
  | nil => exact Nat.le_refl _
  | cons r rs ih =>
   have := JZ (L := L) r
   rw [List.map_cons, List.flatten_cons, List.flatten_cons, List.length_append, List.length_append]
   omega
 exact Nat.le_trans (h3 rs) h2
theorem Kz (h : mV I L) (hb : yF L) {N : Nat} (hN : L.length < N) : ∃ ls, CW I ls ∧ ls.length ≤ L.length ∧ ls.flatten.length ≤ L.length ∧ eT N (L.map toS) (L.map toS) 0 [] = some (ls.map (List.map iw)) := by
 obtain ⟨m', h1, h2⟩ := IM hb N L [] [] rfl (fun v => by simp [qp])
 have hlen := hb.len
 rw [List.length_nil] at h2
 rw [h2]
 have hmk : (MI false ((L.map toS).length : Int)) = some (List.replicate L.length false) := by
  unfold MI
  rw [if_pos (by simp; omega)]
  simp
 rw [hmk, Option.bind_some]
 obtain ⟨rs, r1, r2⟩ := EP h hb h1 hN L [] (List.replicate L.length false) [] rfl ⟨by simp, fun a => by simp [List.getElem?_replicate], fun r hr => (nomatch hr), .nil⟩ (fun a ha => (nomatch ha)) (Nat.le_refl _)
 rw [List.length_nil] at r2
 have e0 : told L [] = [] := rfl
 rw [e0] at r2
 rw [r2]
 have hrl := NE h r1
 obtain ⟨ls, l1, l2, l3⟩ := O8 (lo := rs.map (mM L)) (by rw [List.length_map]; omega) (Fx h r1.row) (r1.heads h)
 exact ⟨ls, r1.outs h l1 l2, by rw [l1.length_eq, List.length_map]; exact hrl, by rw [l1.flatten.length_eq]; exact ND h r1, l3⟩
end
theorem Ja (zs : List Int) (x : Int) : x ∈ Lib.compact zs ↔ x ∈ zs := by
 unfold Lib.compact Lib.compactUpTo
 constructor
 ·intro h
  obtain ⟨j, hj, rfl⟩ := List.mem_map.1 h
  have hj := List.mem_range.1 (List.mem_filter.1 hj).1
  show zs.toArray[j]! ∈ zs
  rw [getElem!_pos zs.toArray j (by simpa using hj)]
  simp
 ·intro h
  have key : ∀ (j : Nat), (hj : j < zs.length) → ∃ i, i < zs.length ∧ Lib.keeps zs.toArray i = true ∧ zs.toArray[i]! = zs[j] := by
   intro j
   induction j with
   | zero => intro hj; exact ⟨0, hj, Lib.keeps_lt_one _ 0 (by omega), by rw [getElem!_pos zs.toArray 0 (by simpa using hj)]; simp⟩
   | succ j ih =>
    intro hj
    by_cases hk : Lib.keeps zs.toArray (j + 1) = true
    ·exact ⟨j + 1, hj, hk, by rw [getElem!_pos zs.toArray (j + 1) (by simpa using hj)]; simp⟩
    ·have he : zs.toArray[j + 1]! = zs.toArray[j]! := by
      unfold Lib.keeps at hk
      simp at hk
      simpa using hk
     rw [getElem!_pos zs.toArray (j + 1) (by simpa using hj), getElem!_pos zs.toArray j (by simp; omega)] at he
     simp at he
     obtain ⟨i, h1, h2, h3⟩ := ih (by omega)
     exact ⟨i, h1, h2, by rw [h3, he]⟩
  obtain ⟨j, hj, rfl⟩ := List.mem_iff_getElem.1 h
  obtain ⟨i, h1, h2, h3⟩ := key j hj
  exact List.mem_map.2 ⟨i, List.mem_filter.2 ⟨List.mem_range.2 h1, h2⟩, h3⟩
theorem EK {zs : List Int} (h : zs.Pairwise fun x y => x ≤ y) : (Lib.compact zs).Pairwise fun x y => x < y := by
 unfold Lib.compact Lib.compactUpTo
 rw [List.pairwise_map]
 have hr : ((List.range zs.length).filter (Lib.keeps zs.toArray)).Pairwise (fun i j => i < j) := (List.pairwise_lt_range).filter _
 refine List.Pairwise.imp_of_mem (fun {i j} hi hj hij => ?_) hr
 have hj1 := List.mem_range.1 (List.mem_filter.1 hj).1
 have hj2 := (List.mem_filter.1 hj).2
 show zs.toArray[i]! < zs.toArray[j]!
 unfold Lib.keeps at hj2
 simp at hj2
 have hne : zs.toArray[j]! ≠ zs.toArray[j - 1]! := by
  rcases hj2 with h0 | h0
  ·omega
  ·simpa using h0
 rw [getElem!_pos zs.toArray j (by simpa using hj1), getElem!_pos zs.toArray (j - 1) (by simp; omega)] at hne
 rw [getElem!_pos zs.toArray j (by simpa using hj1), getElem!_pos zs.toArray i (by simp; omega)]
 simp at hne ⊢
 rw [List.pairwise_iff_getElem] at h
 have a1 : zs[j - 1] ≤ zs[j] := h (j - 1) j (by omega) hj1 (by omega)
 have a2 : zs[i] ≤ zs[j - 1] := by
  rcases Nat.lt_or_eq_of_le (show i ≤ j - 1 by omega) with hlt | heq
  ·exact h i (j - 1) (by omega) (by omega) hlt
  ·subst heq; exact Int.le_refl _
 omega
def dH (l : List Int) : List Int := Lib.compact (l.mergeSort fun x y => decide (x ≤ y))
theorem lU (l : List Int) (x : Int) : x ∈ dH l ↔ x ∈ l := by
 unfold dH
 rw [Ja]
 exact (List.mergeSort_perm l _).mem_iff
theorem gZ (l : List Int) : (dH l).Pairwise fun x y => x < y := by
 unfold dH
 refine EK ?_
 have := List.pairwise_mergeSort (le := fun x y : Int => decide (x ≤ y)) (fun a b c h1 h2 => by simp at *; omega) (fun a b => by simp; omega) l
 exact this.imp (by simp)
theorem O4 {l : List Int} (h : l.length < 4611686018427387904) : ((JO l).bind fun y => Sj y) = some (dH l) := by
 unfold JO Sj dH
 rw [if_pos h]; rfl
theorem K3 {l : List Int} (h : l.length < 4611686018427387904) : JO l = some (l.mergeSort fun x y => decide (x ≤ y)) := if_pos h
end Go.Proofs.YtcjeebkoafonpaaGreatDoor
