/- Rules of the walks, or plain laws about the plain functions. Conditions: none beyond each theorem's own. -/
import Derived.Test.YtcjeebkoafonpaaGreatDoorXF
import Derived.Test.YtcjeebkoafonpaaGreatDoorJ4
namespace Go.Proofs.YtcjeebkoafonpaaGreatDoor
abbrev Bd := Int × Int × List (Int × Int)
def Dt (r : aQ) : Int × Int := (r.X0, r.X1)
def uY (l : List aQ) (y : Int) : List (Int × Int) := zM ((l.filter fun r => decide (r.Y0 ≤ y) && decide (y < r.Y1)).map Dt)
def pushB (l : List Bd) (b : Bd) : List Bd :=
 if b.2.2 = [] then l else
 match l.getLast? with
 | none => l ++ [b]
 | some c => if c.2.1 = b.1 ∧ c.2.2 = b.2.2 then l.dropLast ++ [(c.1, b.2.1, c.2.2)] else l ++ [b]
theorem oF {l : List Bd} {b : Bd} (h : b.2.2 = []) : pushB l b = l := if_pos h
theorem zz {b : Bd} (h : b.2.2 ≠ []) : pushB [] b = [b] := by unfold pushB; rw [if_neg h]; rfl
theorem ry {l : List Bd} {c b : Bd} (h : b.2.2 ≠ []) : pushB (l ++ [c]) b = if c.2.1 = b.1 ∧ c.2.2 = b.2.2 then l ++ [(c.1, b.2.1, c.2.2)] else l ++ [c] ++ [b] := by
 unfold pushB
 rw [if_neg h]
 simp
def tu (l : List aQ) : List Int → List Bd → List Bd
 | a :: b :: ys, out => tu l (b :: ys) (pushB out (a, b, uY l a))
 | _, out => out
def tC (l : List aQ) : List Int := l.flatMap fun r => [r.Y0, r.Y1]
def tL (l : List aQ) : List Bd := tu l (wz (tC l)) []
def Bb (b : Bd) : List aQ := b.2.2.map fun s => ⟨s.1, b.1, s.2, b.2.1⟩
def fI (l : List Bd) : List aQ := l.flatMap Bb
def toP (b : Bd) : aV := ⟨b.1, b.2.1, dm b.2.2⟩
structure NB (r : aQ) : Prop where
 x0 : -1000000 ≤ r.X0 ∧ r.X0 ≤ 1000000
 y0 : -1000000 ≤ r.Y0 ∧ r.Y0 ≤ 1000000
 x1 : -1000000 ≤ r.X1 ∧ r.X1 ≤ 1000000
 y1 : -1000000 ≤ r.Y1 ∧ r.Y1 ≤ 1000000
 x : r.X0 < r.X1
 y : r.Y0 < r.Y1
structure R9 (r : aQ) : Prop where
 x0 : -2000000000 ≤ r.X0 ∧ r.X0 ≤ 2000000000
 y0 : -2000000000 ≤ r.Y0 ∧ r.Y0 ≤ 2000000000
 x1 : -2000000000 ≤ r.X1 ∧ r.X1 ≤ 2000000000
 y1 : -2000000000 ≤ r.Y1 ∧ r.Y1 ≤ 2000000000
 x : r.X0 < r.X1
 y : r.Y0 < r.Y1
theorem NB.r9 {r : aQ} (h : NB r) : R9 r := by
 have := h.x0; have := h.x1; have := h.y0; have := h.y1
 exact ⟨by omega, by omega, by omega, by omega, h.x, h.y⟩
theorem Nu (l m : List Int) : mO l m = some (decide (l = m)) := by
 have key : ∀ (suf pre rest : List Int), suf.length = rest.length → gX (pre ++ rest) suf pre.length = some (decide (suf = rest)) := by
  intro suf
  induction suf with
  | nil =>
   intro pre rest h
   have : rest = [] := List.eq_nil_of_length_eq_zero h.symm
   subst this
   rw [gX.eq_1]; rfl
  | cons x suf ih =>
   intro pre rest h
   cases rest with
   | nil => simp at h
   | cons y rest =>
    rw [gX.eq_2, jE pre rest y, Option.bind_some]
    have := ih (pre ++ [y]) rest (by simpa using h)
    by_cases hxy : x = y
    ·subst hxy
     rw [if_neg (by simp)]
     simpa using this
    ·rw [if_pos (by simpa using hxy)]
     simp [hxy]
 unfold mO
 by_cases h : l.length = m.length
 ·rw [if_neg (by simp; omega)]
  exact key l [] m h
 ·rw [if_pos (by simp; omega)]
  have : l ≠ m := fun e => h (by rw [e])
  simp [this]
theorem Gq (l m : List aQ) : ∃ b : Bool, jd l m = some b ∧ (b = true ↔ l = m) := by
 have key : ∀ (suf pre rest : List aQ), suf.length = rest.length → ∃ b : Bool, gQ (pre ++ rest) suf pre.length = some b ∧ (b = true ↔ suf = rest) := by
  intro suf
  induction suf with
  | nil =>
   intro pre rest h
   have : rest = [] := List.eq_nil_of_length_eq_zero h.symm
   subst this
   rw [gQ.eq_1]; exact ⟨true, rfl, by simp⟩
  | cons x suf ih =>
   intro pre rest h
   cases rest with
   | nil => simp at h
   | cons y rest =>
    rw [gQ.eq_2, jE pre rest y, Option.bind_some]
    obtain ⟨b, h1, h2⟩ := ih (pre ++ [y]) rest (by simpa using h)
    by_cases hxy : x = y
    ·subst hxy
     rw [yT.2 rfl, if_neg (by simp)]
     exact ⟨b, by simpa using h1, by simp [h2]⟩
    ·have : xO x y = false := by rw [Bool.eq_false_iff]; exact fun h => hxy (yT.1 h)
     rw [this, if_pos (by simp)]
     exact ⟨false, rfl, by simp [hxy]⟩
 unfold jd
 by_cases h : l.length = m.length
 ·rw [if_neg (by simp; omega)]
  exact key l [] m h
 ·rw [if_pos (by simp; omega)]
  exact ⟨false, rfl, by simp; exact fun e => h (by rw [e])⟩
theorem DU {c : aQ → aQ → Option Int} {k : aQ → Int} {l : List aQ} (hl : l.length ≤ 1000000000) (hc : ∀ x ∈ l, ∀ y ∈ l, c x y = some (k x - k y)) : ∃ m, CK l c = some m ∧ m.Perm l ∧ m.Pairwise fun x y => k x ≤ k y := by
 have hlt : ∀ x ∈ l, ∀ y ∈ l, FX c x y = decide (k x < k y) := fun x hx y hy => by
  unfold FX
  rw [hc x hx y hy, Option.getD_some]
  exact decide_eq_decide.2 (by omega)
 have hs : sS c l := ⟨by omega, fun x hx y hy => ⟨_, hc x hx y hy⟩, fun x hx => by rw [hlt x hx x hx]; simp, fun x hx y hy z hz h1 h2 => by
  rw [hlt x hx y hy] at h1; rw [hlt y hy z hz] at h2; rw [hlt x hx z hz]; simp at *; omega, fun x hx y hy z hz h1 h2 => by
  rw [hlt x hx y hy] at h1; rw [hlt y hy z hz] at h2; rw [hlt x hx z hz]; simp at *; omega⟩
 obtain ⟨m, hm⟩ := Lg hs
 obtain ⟨_, hp, hw⟩ := BI hm
 refine ⟨m, hm, hp, hw.imp_of_mem fun {x y} hx hy h => ?_⟩
 rw [hlt y (hp.subset hy) x (hp.subset hx)] at h
 simp at h
 exact h
theorem rM (y : List aQ) : ∀ (suf : List aQ) (i : Nat) (l : List (Int × Int)), l.length + suf.length ≤ 1000000000 → gT y suf i (dm l) = some (dm ((suf.map Dt).foldl EF l), y)
 | [], i, l, _ => by rw [gT.eq_1]; rfl
 | r :: suf, i, l, h => by
  simp only [List.length_cons] at h
  have hsplit : l = [] ∨ ∃ j q, l = j ++ [q] := by
   rcases List.eq_nil_or_concat l with h | ⟨j, q, h⟩
   ·exact .inl h
   ·exact .inr ⟨j, q, by simpa using h⟩
  rw [gT.eq_2, List.map_cons, List.foldl_cons]
  rcases hsplit with rfl | ⟨j, q, rfl⟩
  ·rw [if_neg (by simp [uT, bU]), Option.bind_some, if_neg (by simp), show yX (dm []) [r.X0, r.X1] = some (dm [Dt r]) from rfl, Option.bind_some, Jo]
   exact rM y suf (i + 1) [Dt r] (by simp; omega)
  ·have hfl : dm (j ++ [q]) = (dm j ++ [q.1]) ++ q.2 :: [] := by rw [oJ]; simp [dm]
   have hlen : (dm (j ++ [q])).length = 2 * j.length + 2 := by rw [gK]; simp; omega
   simp only [List.length_append, List.length_singleton] at h
   have hw : bG (((dm (j ++ [q])).length : Int) - 1) = ((dm j ++ [q.1]).length : Int) := by
    rw [bU (by omega) (by omega), hlen]; simp [gK]; omega
   have hid : idx (dm (j ++ [q])) ((dm j ++ [q.1]).length : Int) = some q.2 := by rw [hfl]; exact jE _ [] q.2
   rw [hw, if_pos (decide_eq_true (by omega)), hid, Option.bind_some, Option.bind_some, Gb]
   by_cases hle : r.X0 ≤ q.2
   ·rw [if_pos (by simpa using hle), if_pos (show (Dt r).1 ≤ q.2 from hle), Option.bind_some]
    have hset : sets (dm (j ++ [q])) ((dm j ++ [q.1]).length : Int) (max q.2 r.X1) = some (dm (j ++ [(q.1, max q.2 (Dt r).2)])) := by
     unfold sets
     rw [if_pos ⟨by omega, by rw [hlen]; simp [gK]⟩, hfl, oJ]
     simp [dm, Dt]
    rw [Option.bind_some, hset, Option.bind_some]
    exact rM y suf (i + 1) _ (by simp; omega)
   ·rw [if_neg (by simpa using hle), if_neg (show ¬ (Dt r).1 ≤ q.2 from hle), lU (by rw [hlen]; simp; omega), Option.bind_some]
    have : dm (j ++ [q]) ++ [r.X0, r.X1] = dm (j ++ [q] ++ [Dt r]) := by rw [oJ (j ++ [q])]; rfl
    rw [this]
    exact rM y suf (i + 1) _ (by simp; omega)
theorem AU {l : List aQ} (hl : l.length ≤ 400000000) (h : ∀ r ∈ l, R9 r) : ∃ m, m.Perm l ∧ nD l = some (dm (zM (l.map Dt)), m) := by
 obtain ⟨m, h1, h2, h3⟩ := DU (c := fun z0 z1 => kZ z0 z1) (k := fun r => r.X0) (l := l) (by omega) (fun x hx y hy => by
  have a := (h x hx).x0; have b := (h y hy).x0
  unfold kZ
  rw [bU (by omega) (by omega)])
 refine ⟨m, h2, ?_⟩
 unfold nD
 rw [h1, Option.bind_some]
 have := rM m m 0 [] (by have := h2.length_eq; simp; omega)
 rw [uT] at this
 rw [this, QX (lo := -2000000001) (h2.map Dt) (by rw [List.pairwise_map]; exact h3) (fun p hp => by
  obtain ⟨r, hr, rfl⟩ := List.mem_map.1 hp
  have a := h r hr
  exact ⟨by have := a.x0; show -2000000001 < r.X0; omega, a.x⟩)]
theorem Gp {g : aQ → Bool} {f : aQ → Option Bool} : ∀ (l : List aQ) (i : Nat), (∀ x ∈ l, f x = some (g x)) → gq f l i = some (BZ g l i)
 | [], i, _ => rfl
 | x :: l, i, h => by
  rw [gq.eq_2, h x (by simp), Option.bind_some, Gp l (i + 1) (fun y hy => h y (by simp [hy])), BZ, show ((i + 1 : Nat) : Int) = (i : Int) + 1 by omega]
  cases g x <;> rfl
theorem yU {g : aQ → Bool} {f : aQ → Option Bool} : ∀ (rest k u : List aQ) (n : Nat), (∀ x ∈ rest, f x = some (g x)) → u ≠ [] → rest.length < n → (k ++ u ++ rest).length ≤ 1000000000 →
  fB f n (k ++ u ++ rest) k.length (k ++ u).length = some (k ++ rest.filter fun x => !g x)
 | [], k, u, n + 1, _, hu, _, hl => by
  have hc : cut (k ++ u ++ []) (k.length : Int) ((k ++ u ++ []).length : Int) = some u := by
   unfold cut
   rw [if_pos ⟨by omega, by simp; omega, by omega⟩, List.append_nil, Int.toNat_natCast, Int.toNat_natCast, List.take_length, List.drop_left]
  rw [fB.eq_2, if_neg (by simp), hc, Option.bind_some]
  unfold Pg pre
  rw [if_pos ⟨by omega, by simp; omega⟩]
  simp
 | x :: rest, k, u, n + 1, h, hu, hn, hl => by
  obtain ⟨u0, u', rfl⟩ : ∃ u0 u', u = u0 :: u' := by cases u with | nil => exact absurd rfl hu | cons a b => exact ⟨a, b, rfl⟩
  have hid : idx (k ++ (u0 :: u') ++ x :: rest) ((k ++ (u0 :: u')).length : Int) = some x := jE _ rest x
  simp only [List.length_append, List.length_cons] at hl hn
  rw [fB.eq_2, if_pos (by simp; omega), hid, Option.bind_some, h x (by simp), Option.bind_some, Gw (k ++ (u0 :: u')) x (by simp; omega)]
  cases hg : g x
  ·have hid2 : idx (k ++ (u0 :: u') ++ x :: rest) (k.length : Int) = some u0 := by
    rw [List.append_assoc]; exact jE k (u' ++ x :: rest) u0
   have hset : sets (k ++ (u0 :: u') ++ x :: rest) (k.length : Int) x = some ((k ++ [x]) ++ (u' ++ [x]) ++ rest) := by
    unfold sets
    rw [if_pos ⟨by omega, by simp⟩]
    simp
   rw [if_pos (by simp), hid2, Option.bind_some, hset, Option.bind_some, Gw k x (by omega)]
   have := yU rest (k ++ [x]) (u' ++ [x]) n (fun y hy => h y (by simp [hy])) (by simp) (by omega) (by simp; omega)
   have e : ((k ++ (u0 :: u') ++ [x]).length : Int) = ((k ++ [x] ++ (u' ++ [x])).length : Int) := by rw [List.length_append, List.length_append, List.length_append, List.length_append, List.length_append]; simp; omega
   rw [e, this, List.filter_cons, hg]
   simp
  ·rw [if_neg (by simp)]
   have := yU rest k (u0 :: u' ++ [x]) n (fun y hy => h y (by simp [hy])) (by simp) (by omega) (by simp; omega)
   have e : k ++ (u0 :: u') ++ x :: rest = k ++ (u0 :: u' ++ [x]) ++ rest := by simp
   have e2 : ((k ++ (u0 :: u') ++ [x]).length : Int) = ((k ++ (u0 :: u' ++ [x])).length : Int) := by simp
   rw [e, e2, this, List.filter_cons, hg]
   simp
theorem Ep {α : Type} (g : α → Bool) : ∀ (l : List α) (i : Int), 0 ≤ i → (BZ g l i = -1 ∧ ∀ x ∈ l, g x = false) ∨ ∃ a x b, l = a ++ x :: b ∧ (∀ y ∈ a, g y = false) ∧ g x = true ∧ BZ g l i = i + a.length
 | [], i, _ => .inl ⟨rfl, by simp⟩
 | x :: l, i, hi => by
  unfold BZ
  cases hg : g x
  ·simp only [Bool.false_eq_true, if_false]
   rcases Ep g l (i + 1) (by omega) with ⟨h1, h2⟩ | ⟨a, z, b, h1, h2, h3, h4⟩
   ·exact .inl ⟨h1, fun y hy => by rcases List.mem_cons.1 hy with rfl | hy; exact hg; exact h2 y hy⟩
   ·refine .inr ⟨x :: a, z, b, by rw [h1]; rfl, fun y hy => ?_, h3, by rw [h4]; simp; omega⟩
    rcases List.mem_cons.1 hy with rfl | hy
    ·exact hg
    ·exact h2 y hy
  ·rw [if_pos rfl]
   exact .inr ⟨[], x, l, rfl, by simp, hg, by simp⟩
theorem Nv {N : Nat} {g : aQ → Bool} {f : aQ → Option Bool} {l : List aQ} (hN : 1000000000 < N) (hl : l.length ≤ 1000000000) (h : ∀ x ∈ l, f x = some (g x)) : kr N l f = some (l.filter fun x => !g x) := by
 unfold kr lM
 rw [Gp l 0 h, Option.bind_some, show ((0 : Nat) : Int) = 0 from rfl]
 rcases Ep g l 0 (by omega) with ⟨h1, h2⟩ | ⟨a, x, b, h1, h2, h3, h4⟩
 ·rw [h1, if_pos (by simp)]
  congr 1
  exact (List.filter_eq_self.2 fun y hy => by simp [h2 y hy]).symm
 ·rw [h4, if_neg (by first | (simp; done) | (simp; omega))]
  subst h1
  simp only [List.length_append, List.length_cons] at hl
  have := yU b a [x] N (fun y hy => h y (by simp [hy])) (by simp) (by omega) (by simp; omega)
  have e : a ++ [x] ++ b = a ++ x :: b := by simp
  rw [e] at this
  rw [Int.zero_add, bU (by omega) (by omega), show ((a.length : Int) + 1) = ((a ++ [x]).length : Int) by simp, this, List.filter_append, List.filter_cons, h3]
  have ha : a.filter (fun x => !g x) = a := List.filter_eq_self.2 fun y hy => by simp [h2 y hy]
  simp [ha]
theorem C9 {l : List Bd} {b : Bd} (hl : l.length ≤ 1000000000) (hb : b.1 < b.2.1) : gW (l.map toP) (toP b) = some ((pushB l b).map toP) := by
 unfold gW
 have hfl : ((toP b).Xs.length : Int) = 2 * (b.2.2.length : Int) := by show ((dm b.2.2).length : Int) = _; rw [gK]; omega
 by_cases he : b.2.2 = []
 ·rw [if_pos (by rw [hfl, he]; simp), oF he]
 ·have hpos : 0 < b.2.2.length := List.length_pos_iff.2 he
  rw [if_neg (by
   rw [hfl]
   show ¬ ((2 * (b.2.2.length : Int) == 0) || decide (b.2.1 ≤ b.1)) = true
   rw [Bool.or_eq_true, not_or]
   exact ⟨by simp; exact he, by simp; exact hb⟩)]
  have hsplit : l = [] ∨ ∃ j q, l = j ++ [q] := by
   rcases List.eq_nil_or_concat l with h | ⟨j, q, h⟩
   ·exact .inl h
   ·exact .inr ⟨j, q, by simpa using h⟩
  rcases hsplit with rfl | ⟨j, c, rfl⟩
  ·rw [zz he, if_neg (by simp [bU]), Option.bind_some, if_neg (by simp), Option.bind_some, if_neg (by simp)]
   rfl
  ·simp only [List.length_append, List.length_singleton] at hl
   have hm : (j ++ [c]).map toP = j.map toP ++ toP c :: [] := by simp
   have hw : bG ((((j ++ [c]).map toP).length : Int) - 1) = ((j.map toP).length : Int) := by
    rw [bU (by first | (simp; done) | (simp; omega)) (by first | (simp; done) | (simp; omega))]; simp
   have hid : idx ((j ++ [c]).map toP) ((j.map toP).length : Int) = some (toP c) := by rw [hm]; exact jE _ [] _
   rw [ry he, hw, if_pos (by simp), hid, Option.bind_some, Option.bind_some, Option.bind_some, Nu]
   have hxs : ((toP c).Xs = (toP b).Xs) ↔ c.2.2 = b.2.2 := ⟨fun h => Ga h, fun h => by show dm c.2.2 = dm b.2.2; rw [h]⟩
   by_cases h1 : c.2.1 = b.1
   ·have e1 : ((toP c).Y1 == (toP b).Y0) = true := by simpa [toP] using h1
    rw [e1, if_pos rfl, Option.bind_some, Option.bind_some]
    by_cases h2 : c.2.2 = b.2.2
    ·rw [decide_eq_true (hxs.2 h2), if_pos rfl, if_pos ⟨h1, h2⟩]
     have hset : sets ((j ++ [c]).map toP) ((j.map toP).length : Int) (aV.mk (toP c).Y0 (toP b).Y1 (toP c).Xs) = some ((j ++ [(c.1, b.2.1, c.2.2)]).map toP) := by
      unfold sets
      rw [if_pos ⟨by omega, by simp⟩, hm]
      simp [toP]
     rw [Option.bind_some, hset]; rfl
    ·rw [decide_eq_false (fun h => h2 (hxs.1 h)), if_neg (by simp), if_neg (fun h => h2 h.2), lU (by simp; omega), Option.bind_some]
     simp
   ·have e1 : ((toP c).Y1 == (toP b).Y0) = false := by simpa [toP] using h1
    rw [e1, if_neg (by simp), Option.bind_some, if_neg (by simp), if_neg (fun h => h1 h.1), lU (by simp; omega), Option.bind_some]
    simp
theorem Cv : ∀ {l m : List Int}, l.Pairwise (fun x y => x < y) → m.Pairwise (fun x y => x < y) → (∀ x, x ∈ l ↔ x ∈ m) → l = m
 | [], [], _, _, _ => rfl
 | [], y :: m, _, _, h => by have := (h y).2 (by simp); simp at this
 | x :: l, [], _, _, h => by have := (h x).1 (by simp); simp at this
 | x :: l, y :: m, h1, h2, h => by
  rw [List.pairwise_cons] at h1 h2
  have hxy : x = y := by
   have a := (h x).1 (by simp)
   have b := (h y).2 (by simp)
   rcases List.mem_cons.1 a with a | a
   ·exact a
   ·rcases List.mem_cons.1 b with b | b
    ·exact b.symm
    ·have := h1.1 y b; have := h2.1 x a; omega
  subst hxy
  rw [Cv h1.2 h2.2 fun z => by
   have hz := h z
   simp only [List.mem_cons] at hz
   constructor
   ·intro hm
    have hne : z ≠ x := by have := h1.1 z hm; omega
    rcases hz.1 (.inr hm) with e | e
    ·exact absurd e hne
    ·exact e
   ·intro hm
    have hne : z ≠ x := by have := h2.1 z hm; omega
    rcases hz.2 (.inr hm) with e | e
    ·exact absurd e hne
    ·exact e]
theorem MX {l m : List Int} (h : ∀ x, x ∈ l ↔ x ∈ m) : wz l = wz m := Cv (rD l) (rD m) fun x => by rw [tJ, tJ, h]
theorem uS {l : List aQ} {y : Int} : y ∈ tC l ↔ ∃ r ∈ l, y = r.Y0 ∨ y = r.Y1 := by
 unfold tC
 simp [List.mem_flatMap]
theorem BD : ∀ l : List aQ, (tC l).length = 2 * l.length
 | [] => rfl
 | r :: l => by
  show ([r.Y0, r.Y1] ++ tC l).length = _
  rw [List.length_append, BD l]; simp; omega
theorem DR (l : List Int) : (wz l).length ≤ l.length := by
 unfold wz
 exact Nat.le_trans (Mk _) (by rw [List.length_mergeSort]; exact Nat.le_refl _)
theorem wL (l : List Bd) (b : Bd) : (pushB l b).length ≤ l.length + 1 := by
 by_cases he : b.2.2 = []
 ·rw [oF he]; omega
 ·rcases List.eq_nil_or_concat l with rfl | ⟨j, c, h⟩
  ·rw [zz he]; simp
  ·rw [List.concat_eq_append] at h
   subst h
   rw [ry he]
   split <;> simp
section
variable {N : Nat} {l M : List aQ} {ys : List Int} (hN : 10000000000 ≤ N) (hMl : M.length ≤ 100000000) (hok : ∀ r ∈ M, R9 r) (hyl : ys.length ≤ 200000000)
include hN hMl hok hyl
omit hN hyl in
theorem NV {k a b : Int} {bands : List Bd} (hbl : bands.length ≤ 250000000) (hk0 : 0 ≤ k ∧ k ≤ 250000000) (ha : idx ys k = some a) (hb : idx ys (k + 1) = some b) (hab : a < b) {K : Int → List aV → List aQ → Int → Option (List aV)} : ∀ (suf pre now : List aQ) (m : Nat), M = pre ++ suf → suf.length < m → (∀ r ∈ now, R9 r) → now.length + suf.length ≤ 150000000 →
  ∃ t suf' now', suf = t ++ suf' ∧ (∀ r ∈ t, r.Y0 ≤ a) ∧ (∀ r, suf'.head? = some r → a < r.Y0) ∧ now'.Perm (now ++ t) ∧
   jI M ys k (bands.map toP) K m now pre.length = K (k + 1) ((pushB bands (a, b, zM ((now ++ t).map Dt))).map toP) now' (pre ++ t).length
 | suf, pre, now, 0, _, h, _, _ => absurd h (Nat.not_lt_zero _)
 | [], pre, now, m + 1, h1, _, h3, h4 => by
  obtain ⟨now', p1, p2⟩ := AU (l := now) (by simp at h4; omega) h3
  refine ⟨[], [], now', rfl, by simp, by simp, by simpa using p1, ?_⟩
  have hpush := C9 (l := bands) (b := (a, b, zM (now.map Dt))) (by omega) hab
  rw [jI.eq_2, if_neg (by rw [h1]; simp), Option.bind_some, if_neg (by simp), ha, Option.bind_some, bU (by omega) (by omega), hb, Option.bind_some, p2, Option.bind_some]
  show (gW (bands.map toP) (toP (a, b, zM (now.map Dt)))).bind _ = _
  rw [hpush, Option.bind_some]
  simp
 | r :: suf, pre, now, m + 1, h1, h2, h3, h4 => by
  have hrM : r ∈ M := by rw [h1]; simp
  have hpl : pre.length ≤ 100000000 := by rw [h1] at hMl; simp at hMl; omega
  have hid : idx M (pre.length : Int) = some r := by rw [h1]; exact jE pre suf r
  simp only [List.length_cons] at h2 h4
  by_cases hle : r.Y0 ≤ a
  ·obtain ⟨t, suf', now', e1, e2, e3, e4, e5⟩ := NV hbl hk0 ha hb hab (K := K) suf (pre ++ [r]) (now ++ [r]) m (by rw [h1]; simp) (by omega) (fun x hx => by
    rcases List.mem_append.1 hx with hx | hx
    ·exact h3 x hx
    ·simp at hx; subst hx; exact hok _ hrM) (by simp; omega)
   refine ⟨r :: t, suf', now', by rw [e1]; rfl, fun x hx => ?_, e3, by simpa using e4, ?_⟩
   ·rcases List.mem_cons.1 hx with rfl | hx
    ·exact hle
    ·exact e2 x hx
   ·rw [jI.eq_2, if_pos (by rw [h1]; exact Hf pre suf r), hid, Option.bind_some, ha, Option.bind_some, Option.bind_some, if_pos (by simpa using hle), Option.bind_some, lU (by simp; omega), Option.bind_some, Gw pre r (by omega), e5]
    simp
  ·obtain ⟨now', p1, p2⟩ := AU (l := now) (by omega) h3
   refine ⟨[], r :: suf, now', rfl, by simp, fun x hx => by simp at hx; subst hx; omega, by simpa using p1, ?_⟩
   have hpush := C9 (l := bands) (b := (a, b, zM (now.map Dt))) (by omega) hab
   rw [jI.eq_2, if_pos (by rw [h1]; exact Hf pre suf r), hid, Option.bind_some, ha, Option.bind_some, Option.bind_some, if_neg (by simpa using hle), Option.bind_some, bU (by omega) (by omega), hb, Option.bind_some, p2, Option.bind_some]
   show (gW (bands.map toP) (toP (a, b, zM (now.map Dt)))).bind _ = _
   rw [hpush, Option.bind_some]
   simp
theorem Lh (hMs : M.Pairwise fun x y => x.Y0 ≤ y.Y0) (hys : ys.Pairwise fun x y => x < y) (hmem : ∀ r ∈ M, r.Y0 ∈ ys) (hl : ∀ r, r ∈ l ↔ r ∈ M) : ∀ (hsuf hpre : List Int) (m : Nat) (bands : List Bd) (pre suf now : List aQ) (v : Int), ys = hpre ++ hsuf → M = pre ++ suf → hsuf.length < m → bands.length ≤ hpre.length →
  (∀ r ∈ pre, r.Y0 ≤ v) → (∀ r ∈ suf, v < r.Y0) → now.Perm (pre.filter fun r => decide (v < r.Y1)) → (∀ h ∈ hsuf, v < h) → (∀ h ∈ hpre, h ≤ v) →
  gD N M ys m hpre.length (bands.map toP) now pre.length = some ((tu l hsuf bands).map toP)
 | [], hpre, m + 1, bands, pre, suf, now, v, e1, e2, _, _, _, _, _, _, _ => by
  have hpl : hpre.length ≤ 200000000 := by rw [e1] at hyl; simpa using hyl
  rw [gD.eq_2, if_neg (by rw [bU (by omega) (by omega), e1]; simp; omega)]
  rfl
 | [a], hpre, m + 1, bands, pre, suf, now, v, e1, e2, _, _, _, _, _, _, _ => by
  have hpl : hpre.length ≤ 200000000 := by rw [e1] at hyl; simp at hyl; omega
  rw [gD.eq_2, if_neg (by rw [bU (by omega) (by omega), e1]; simp)]
  rfl
 | a :: b :: hsuf, hpre, m + 1, bands, pre, suf, now, v, e1, e2, hm, hbl, i1, i2, i3, i4, i5 => by
  have hpl : hpre.length + 2 ≤ 200000000 := by rw [e1] at hyl; simp at hyl; omega
  have hva : v < a := i4 a (by simp)
  have hs2 : (a :: b :: hsuf).Pairwise fun x y => x < y := by rw [e1] at hys; exact (List.pairwise_append.1 hys).2.1
  have hab : a < b := (List.pairwise_cons.1 hs2).1 b (by simp)
  have ha : idx ys (hpre.length : Int) = some a := by rw [e1]; exact jE hpre _ a
  have hb : idx ys ((hpre.length : Int) + 1) = some b := by
   rw [e1, show hpre ++ a :: b :: hsuf = (hpre ++ [a]) ++ b :: hsuf by simp, show ((hpre.length : Int) + 1) = ((hpre ++ [a]).length : Int) by simp]
   exact jE (hpre ++ [a]) _ b
  have hnl : now.length ≤ pre.length := by rw [i3.length_eq]; exact List.length_filter_le _ _
  have hMl2 : pre.length + suf.length ≤ 100000000 := by rw [e2] at hMl; simpa using hMl
  have hnok : ∀ r ∈ now, R9 r := fun r hr => hok r (by rw [e2]; exact List.mem_append_left _ (List.mem_filter.1 (i3.subset hr)).1)
  have hdel := Nv (N := N) (g := fun r => decide (r.Y1 ≤ a)) (f := fun z0 => mZ z0 ys hpre.length) (l := now) (by omega) (by omega) (fun r _ => by unfold mZ; rw [ha]; rfl)
  obtain ⟨t, suf', now', s1, s2, s3, s4, s5⟩ := NV hMl hok (bands := bands) (by omega) (k := (hpre.length : Int)) ⟨by omega, by omega⟩ ha hb hab (K := gD N M ys m) suf pre (now.filter fun x => !decide (x.Y1 ≤ a)) N e2 (by omega) (fun r hr => hnok r (List.mem_filter.1 hr).1) (by
   have := List.length_filter_le (fun x : aQ => !decide (x.Y1 ≤ a)) now
   omega)
  have hsM : suf.Pairwise fun x y => x.Y0 ≤ y.Y0 := by rw [e2] at hMs; exact (List.pairwise_append.1 hMs).2.1
  have hsuf' : ∀ r ∈ suf', a < r.Y0 := fun r hr => by
   cases suf' with
   | nil => simp at hr
   | cons c cs =>
    have hc := s3 c rfl
    rcases List.mem_cons.1 hr with rfl | hr
    ·exact hc
    ·rw [s1] at hsM
     have := (List.pairwise_cons.1 (List.pairwise_append.1 hsM).2.1).1 r hr
     omega
  have ht : ∀ r ∈ t, r.Y0 = a ∧ a < r.Y1 := fun r hr => by
   have hrs : r ∈ suf := by rw [s1]; exact List.mem_append_left _ hr
   have hrM : r ∈ M := by rw [e2]; exact List.mem_append_right _ hrs
   have h1 := s2 r hr
   have h2 := i2 r hrs
   have h3 := hmem r hrM
   have hin : r.Y0 ∈ a :: b :: hsuf := by
    rw [e1] at h3
    rcases List.mem_append.1 h3 with h | h
    ·have := i5 _ h; omega
    ·exact h
   have hle : a ≤ r.Y0 := by
    rcases List.mem_cons.1 hin with h | h
    ·omega
    ·have := (List.pairwise_cons.1 hs2).1 _ h; omega
   have := (hok r hrM).y
   omega
  have hperm : (now.filter (fun x => !decide (x.Y1 ≤ a)) ++ t).Perm ((pre ++ t).filter fun r => decide (a < r.Y1)) := by
   rw [List.filter_append]
   have p1 : (now.filter fun x => !decide (x.Y1 ≤ a)).Perm (pre.filter fun r => decide (a < r.Y1)) := by
    refine (i3.filter _).trans ?_
    rw [List.filter_filter]
    refine List.Perm.of_eq (List.filter_congr fun r _ => ?_)
    rw [Bool.eq_iff_iff]
    simp
    omega
   have p2 : t.filter (fun r => decide (a < r.Y1)) = t := List.filter_eq_self.2 fun r hr => by simpa using (ht r hr).2
   rw [p2]
   exact p1.append_right t
  have hcov : zM ((now.filter (fun x => !decide (x.Y1 ≤ a)) ++ t).map Dt) = uY l a := by
   have hin : ∀ r, r ∈ (now.filter (fun x => !decide (x.Y1 ≤ a)) ++ t) ↔ r ∈ l.filter fun r => decide (r.Y0 ≤ a) && decide (a < r.Y1) := fun r => by
    rw [hperm.mem_iff, List.mem_filter, List.mem_filter, hl, e2, s1]
    simp only [List.mem_append, Bool.and_eq_true, decide_eq_true_eq]
    constructor
    ·rintro ⟨h | h, h2⟩
     ·exact ⟨.inl h, by have := i1 r h; omega, h2⟩
     ·exact ⟨.inr (.inl h), by have := (ht r h).1; omega, h2⟩
    ·rintro ⟨h | h | h, h1, h2⟩
     ·exact ⟨.inl h, h2⟩
     ·exact ⟨.inr h, h2⟩
     ·have := hsuf' r h; omega
   have hlim : ∀ r, r ∈ M → -2000000001 < (Dt r).1 ∧ (Dt r).1 < (Dt r).2 := fun r hr => by
    have := hok r hr
    exact ⟨by have := this.x0; show -2000000001 < r.X0; omega, this.x⟩
   have hMr : ∀ r, r ∈ (now.filter (fun x => !decide (x.Y1 ≤ a)) ++ t) → r ∈ M := fun r hr => (hl r).1 (List.mem_filter.1 ((hin r).1 hr)).1
   unfold uY
   refine KL (lo := -2000000001) (fun p hp => ?_) (fun p hp => ?_) fun x => ?_
   ·obtain ⟨r, hr, rfl⟩ := List.mem_map.1 hp; exact hlim r (hMr r hr)
   ·obtain ⟨r, hr, rfl⟩ := List.mem_map.1 hp; exact hlim r ((hl r).1 (List.mem_filter.1 hr).1)
   ·unfold lL
    constructor
    ·rintro ⟨p, hp, h⟩
     obtain ⟨r, hr, rfl⟩ := List.mem_map.1 hp
     exact ⟨_, List.mem_map.2 ⟨r, (hin r).1 hr, rfl⟩, h⟩
    ·rintro ⟨p, hp, h⟩
     obtain ⟨r, hr, rfl⟩ := List.mem_map.1 hp
     exact ⟨_, List.mem_map.2 ⟨r, (hin r).2 hr, rfl⟩, h⟩
  rw [gD.eq_2, if_pos (by rw [bU (by omega) (by omega), e1]; simp; omega), hdel, Option.bind_some, s5, hcov]
  have hpb := wL bands (a, b, uY l a)
  have ih := Lh hMs hys hmem hl (b :: hsuf) (hpre ++ [a]) m (pushB bands (a, b, uY l a)) (pre ++ t) suf' now' a (by rw [e1]; simp) (by rw [e2, s1]; simp) (by simp at hm ⊢; omega) (by simp; omega) (fun r hr => by
   rcases List.mem_append.1 hr with hr | hr
   ·have := i1 r hr; omega
   ·have := (ht r hr).1; omega) hsuf' (s4.trans hperm) (fun h hh => (List.pairwise_cons.1 hs2).1 h hh) (fun h hh => by
   rcases List.mem_append.1 hh with hh | hh
   ·have := i5 h hh; omega
   ·simp at hh; omega)
  rw [show ((hpre.length : Int) + 1) = ((hpre ++ [a]).length : Int) by simp, ih]
  rfl
end
theorem JU (r : aQ) (l : List aQ) : tC (r :: l) = [r.Y0, r.Y1] ++ tC l := rfl
theorem JN {N : Nat} {l : List aQ} (hN : 10000000000 ≤ N) (hl : l.length ≤ 100000000) (hok : ∀ r ∈ l, R9 r) : mD N l = some ((tL l).map toP) := by
 obtain ⟨M, m1, m2, m3⟩ := DU (c := fun z0 z1 => ng z0 z1) (k := fun r => r.Y0) (l := l) (by omega) (fun x hx y hy => by
  have a := (hok x hx).y0; have b := (hok y hy).y0
  unfold ng
  rw [bU (by omega) (by omega)])
 have hMl : M.length ≤ 100000000 := by rw [m2.length_eq]; exact hl
 have hMok : ∀ r ∈ M, R9 r := fun r hr => hok r (m2.subset hr)
 have hy : wz (tC M) = wz (tC l) := MX fun y => by
  rw [uS, uS]
  exact ⟨fun ⟨r, hr, h⟩ => ⟨r, m2.subset hr, h⟩, fun ⟨r, hr, h⟩ => ⟨r, m2.symm.subset hr, h⟩⟩
 have hyl : (wz (tC l)).length ≤ 200000000 := Nat.le_trans (DR _) (by rw [BD]; omega)
 have L1 : ∀ (suf : List aQ) (i : Nat) (out : List Int), out.length + 2 * suf.length ≤ 250000000 → jJ N M suf i out = (gD N M (wz (out ++ tC suf)) N 0 [] [] 0) := by
  intro suf
  induction suf with
  | nil =>
   intro i out ho
   rw [jJ.eq_1]
   have := Lf (l := out) (by simp at ho; omega)
   rw [GH (by simp at ho; omega), Option.bind_some]
   rw [GH (by simp at ho; omega), Option.bind_some] at this
   rw [this, Option.bind_some]
   show _ = gD N M (wz (out ++ [])) N 0 [] [] 0
   rw [List.append_nil]
  | cons r suf ih =>
   intro i out ho
   simp only [List.length_cons] at ho
   rw [jJ.eq_2, lU (by simp; omega), Option.bind_some, ih (i + 1) _ (by simp; omega), JU, List.append_assoc]
 unfold mD nX
 rw [lU (by simp; omega), Option.bind_some, Option.bind_some, List.nil_append, m1, Option.bind_some, L1 M 0 [] (by simp; omega), List.nil_append, hy]
 have := Lh (l := l) hN hMl hMok hyl m3 (rD _) (fun r hr => (tJ _ _).2 (uS.2 ⟨r, m2.subset hr, .inl rfl⟩)) (fun r => ⟨fun h => m2.symm.subset h, fun h => m2.subset h⟩) (wz (tC l)) [] N [] [] M [] (-3000000000) rfl rfl (by omega) (by simp) (by simp) (fun r hr => by have := (hMok r hr).y0; omega) (by simp) (fun h hh => by
  obtain ⟨r, hr, e⟩ := uS.1 ((tJ _ _).1 hh)
  have a := hok r hr
  have := a.y0; have := a.y1
  rcases e with rfl | rfl <;> omega) (by simp)
 exact this
theorem Oj (l : List aQ) (y : Int) : (uY l y).length ≤ l.length := by
 unfold uY zM
 have := Jt ((l.filter fun r => decide (r.Y0 ≤ y) && decide (y < r.Y1)).map Dt) []
 have h2 := List.length_filter_le (fun r : aQ => decide (r.Y0 ≤ y) && decide (y < r.Y1)) l
 simp at this
 omega
structure Small (l : List Bd) : Prop where
 len : l.length ≤ 200000000
 row : ∀ b ∈ l, b.2.2.length ≤ 100000000
 tot : (fI l).length ≤ 4000000000
theorem oD (b : Bd) (l : List Bd) : fI (b :: l) = Bb b ++ fI l := rfl
theorem qh (b : Bd) : (Bb b).length = b.2.2.length := by unfold Bb; simp
theorem xD {l : List Bd} {R : Nat} (h : ∀ b ∈ l, b.2.2.length ≤ R) : (fI l).length ≤ R * l.length := by
 induction l with
 | nil => simp [fI]
 | cons b l ih =>
  rw [oD, List.length_append, qh]
  have := ih (fun c hc => h c (by simp [hc])); have := h b (by simp)
  rw [List.length_cons, Nat.mul_succ]
  omega
theorem Ff (l m : List Bd) : fI (l ++ m) = fI l ++ fI m := by unfold fI; rw [List.flatMap_append]
theorem Ki {l : List Bd} {b : Bd} (h : b ∈ l) : b.2.2.length ≤ (fI l).length := by
 obtain ⟨s, t, rfl⟩ := List.append_of_mem h
 rw [Ff, oD, List.length_append, List.length_append, qh]
 omega
theorem FQ {l : List Bd} {b : Bd} {R : Nat} (h : ∀ c ∈ l, c.2.2.length ≤ R) (hb : b.2.2.length ≤ R) : ∀ c ∈ pushB l b, c.2.2.length ≤ R := by
 by_cases he : b.2.2 = []
 ·rw [oF he]; exact h
 ·rcases List.eq_nil_or_concat l with rfl | ⟨j, c, hc⟩
  ·rw [zz he]
   intro c hc
   simp at hc
   subst hc
   exact hb
  ·rw [List.concat_eq_append] at hc
   subst hc
   rw [ry he]
   intro d hd
   split at hd
   ·rcases List.mem_append.1 hd with hd | hd
    ·exact h d (by simp [hd])
    ·simp at hd; subst hd; exact h c (by simp)
   ·rcases List.mem_append.1 hd with hd | hd
    ·exact h d hd
    ·simp at hd; subst hd; exact hb
theorem zW {l : List aQ} {R : Nat} (hl : l.length ≤ R) : ∀ (ys : List Int) (out : List Bd), (∀ c ∈ out, c.2.2.length ≤ R) → (tu l ys out).length ≤ out.length + ys.length ∧ ∀ c ∈ tu l ys out, c.2.2.length ≤ R
 | [], out, h => ⟨by simp [tu], h⟩
 | [a], out, h => ⟨by simp [tu], h⟩
 | a :: b :: ys, out, h => by
  have hr := Oj l a
  have hp := wL out (a, b, uY l a)
  obtain ⟨i1, i2⟩ := zW hl (b :: ys) (pushB out (a, b, uY l a)) (FQ h (by show (uY l a).length ≤ R; omega))
  simp only [List.length_cons] at i1 ⊢
  exact ⟨by show (tu l (b :: ys) (pushB out (a, b, uY l a))).length ≤ _; omega, i2⟩
theorem D5 (l : List aQ) : (tL l).length ≤ 2 * l.length ∧ ∀ b ∈ tL l, b.2.2.length ≤ l.length := by
 obtain ⟨h1, h2⟩ := zW (Nat.le_refl l.length) (wz (tC l)) [] (by simp)
 have := DR (tC l)
 rw [BD] at this
 exact ⟨by show (tu l (wz (tC l)) []).length ≤ _; simp at h1; omega, h2⟩
theorem IC {l : List aQ} (hl : l.length ≤ 100000000) (ht : (fI (tL l)).length ≤ 4000000000) : Small (tL l) := by
 obtain ⟨h1, h2⟩ := D5 l
 exact ⟨by omega, fun b hb => by have := h2 b hb; omega, ht⟩
theorem J8 {l : List aQ} (hl : l.length ≤ 20000) : Small (tL l) := by
 obtain ⟨h1, h2⟩ := D5 l
 refine IC (by omega) ?_
 have := xD (R := 20000) (l := tL l) fun b hb => by have := h2 b hb; omega
 omega
section
variable {N : Nat} (hN : 10000000000 ≤ N)
include hN
omit hN in
theorem JO {b : Bd} {K : List aQ → Option (List aQ)} (hb : b.2.2.length ≤ 100000000) : ∀ (suf pre : List (Int × Int)) (m : Nat) (out : List aQ), b.2.2 = pre ++ suf → suf.length < m → out.length + suf.length ≤ 4294967296 →
  gY K (toP b) m out ((2 * pre.length : Nat) : Int) = K (out ++ suf.map fun s => ⟨s.1, b.1, s.2, b.2.1⟩)
 | [], pre, m + 1, out, h1, _, _ => by
  rw [gY.eq_2, if_neg (by show ¬ decide (((2 * pre.length : Nat) : Int) < ((dm b.2.2).length : Int)) = true; rw [h1, gK]; simp)]
  simp
 | s :: suf, pre, m + 1, out, h1, h2, h3 => by
  have hpl : pre.length ≤ 100000000 := by rw [h1] at hb; simp at hb; omega
  have hfl : dm b.2.2 = dm pre ++ s.1 :: s.2 :: dm suf := by rw [h1, oJ]; rfl
  have hid : idx (dm b.2.2) ((2 * pre.length : Nat) : Int) = some s.1 := by rw [hfl, ← gK]; exact jE _ _ _
  have hid2 : idx (dm b.2.2) (((2 * pre.length : Nat) : Int) + 1) = some s.2 := by
   rw [hfl, show dm pre ++ s.1 :: s.2 :: dm suf = (dm pre ++ [s.1]) ++ s.2 :: dm suf by simp, show (((2 * pre.length : Nat) : Int) + 1) = ((dm pre ++ [s.1]).length : Int) by simp [gK]]
   exact jE _ _ _
  simp only [List.length_cons] at h2 h3
  rw [gY.eq_2, if_pos (by show decide (((2 * pre.length : Nat) : Int) < ((dm b.2.2).length : Int)) = true; rw [hfl]; simp [gK]; omega), bU (x := ((2 * pre.length : Nat) : Int) + 1) (by omega) (by omega), bU (x := ((2 * pre.length : Nat) : Int) + 2) (by omega) (by omega)]
  show ((idx (dm b.2.2) _).bind fun VS => (idx (dm b.2.2) _).bind fun VR => _) = _
  rw [hid, Option.bind_some, hid2, Option.bind_some, lU (by simp; omega), Option.bind_some]
  have := JO (K := K) hb suf (pre ++ [s]) m (out ++ [⟨s.1, b.1, s.2, b.2.1⟩]) (by rw [h1]; simp) (by omega) (by simp; omega)
  rw [show ((2 * (pre ++ [s]).length : Nat) : Int) = ((2 * pre.length : Nat) : Int) + 2 by simp; omega] at this
  show gY K (toP b) m (out ++ [⟨s.1, b.1, s.2, b.2.1⟩]) _ = _
  rw [this]
  simp
theorem EY {l : List Bd} (h : Small l) : kC N (l.map toP) = some (fI l) := by
 have key : ∀ (suf : List Bd) (i : Nat) (out : List aQ), (∀ b ∈ suf, b.2.2.length ≤ 100000000) → out.length + (fI suf).length ≤ 4294967296 → fD N (suf.map toP) i out = some (out ++ fI suf) := by
  intro suf
  induction suf with
  | nil => intro i out _ _; rw [List.map_nil, fD.eq_1]; simp [fI]
  | cons b suf ih =>
   intro i out hb ho
   have hb0 := hb b (by simp)
   rw [oD, List.length_append, qh] at ho
   rw [List.map_cons, fD.eq_2]
   have := JO (K := fD N (suf.map toP) (i + 1)) hb0 b.2.2 [] N out rfl (by omega) (by omega)
   rw [show ((2 * ([] : List (Int × Int)).length : Nat) : Int) = 0 from rfl] at this
   rw [this, ih (i + 1) _ (fun c hc => hb c (by simp [hc])) (by simp; omega), oD, List.append_assoc]
   rfl
 have := key l 0 [] h.row (by have := h.tot; simp; omega)
 rw [List.nil_append] at this
 exact this
omit hN in
theorem MG {l : List Bd} (h : (fI l).length ≤ 1000000000000000000) : nG (l.map toP) = some ((fI l).length : Int) := by
 have key : ∀ (suf : List Bd) (i : Nat) (c : Int), 0 ≤ c → c + (fI suf).length ≤ 1000000000000000000 → il (suf.map toP) i c = some (c + ((fI suf).length : Int)) := by
  intro suf
  induction suf with
  | nil => intro i c _ _; rw [List.map_nil, il.eq_1]; simp [fI]
  | cons b suf ih =>
   intro i c h0 ho
   rw [oD, List.length_append, qh] at ho
   have e : Int.tdiv ((toP b).Xs.length : Int) 2 = (b.2.2.length : Int) := by
    show Int.tdiv ((dm b.2.2).length : Int) 2 = _
    rw [gK, Int.tdiv_eq_ediv_of_nonneg (by omega)]; omega
   rw [List.map_cons, il.eq_2, e, bU (x := (b.2.2.length : Int)) (by omega) (by omega), bU (by omega) (by omega), ih (i + 1) _ (by omega) (by omega), oD, List.length_append, qh]
   congr 1
   omega
 have := key l 0 0 (by omega) (by omega)
 rw [Int.zero_add] at this
 exact this
end
instance : DecidableEq aQ := fun _ _ => decidable_of_iff _ yT
def Kk (r : aQ) : Int :=
 if (((within r.X0 (-1000000) 1000000 && within r.Y0 (-1000000) 1000000) && within r.X1 (-1000000) 1000000) && within r.Y1 (-1000000) 1000000) = false then 1
 else if (decide (r.X1 ≤ r.X0) || decide (r.Y1 ≤ r.Y0)) = true then 13 else 0
def D9 : List aQ → Int
 | [] => 0
 | r :: l => if Kk r = 0 then D9 l else Kk r
def rP (l : List aQ) : Int := if 2000 < l.length then 2 else D9 l
theorem Qx {r : aQ} (h : Kk r = 0) : NB r := by
 unfold Kk at h
 split at h
 ·omega
 ·rename_i h1
  split at h
  ·omega
  ·rename_i h2
   rw [Bool.not_eq_false, Bool.and_eq_true, Bool.and_eq_true, Bool.and_eq_true, within_iff, within_iff, within_iff, within_iff] at h1
   rw [Bool.or_eq_true, not_or, decide_eq_true_eq, decide_eq_true_eq] at h2
   exact ⟨h1.1.1.1, h1.1.1.2, h1.1.2, h1.2, by omega, by omega⟩
theorem IL : ∀ {l : List aQ}, D9 l = 0 → ∀ r ∈ l, NB r
 | [], _, r, hr => by simp at hr
 | a :: l, h, r, hr => by
  unfold D9 at h
  split at h
  ·rename_i h1
   rcases List.mem_cons.1 hr with rfl | hr
   ·exact Qx h1
   ·exact IL h r hr
  ·rename_i h1; exact absurd h h1
theorem Cx {l : List aQ} (h : rP l = 0) : l.length ≤ 2000 ∧ ∀ r ∈ l, NB r := by
 unfold rP at h
 split at h
 ·omega
 ·exact ⟨by omega, IL h⟩
theorem F6 (r : aQ) : oz r = some (((within r.X0 (-1000000) 1000000 && within r.Y0 (-1000000) 1000000) && within r.X1 (-1000000) 1000000) && within r.Y1 (-1000000) 1000000) := by
 unfold oz lu qo within
 simp only [Option.bind_some]
 cases decide (-1000000 ≤ r.X0) && decide (r.X0 ≤ 1000000) <;> cases decide (-1000000 ≤ r.Y0) && decide (r.Y0 ≤ 1000000) <;> cases decide (-1000000 ≤ r.X1) && decide (r.X1 ≤ 1000000) <;> rfl
theorem Fw (l : List aQ) : mP l = some (rP l) := by
 have key : ∀ (l : List aQ) (i : Nat), gZ l i = some (D9 l) := by
  intro l
  induction l with
  | nil => intro i; rw [gZ.eq_1]; rfl
  | cons r l ih =>
   intro i
   rw [gZ.eq_2, F6, Option.bind_some, ih]
   show _ = some (if Kk r = 0 then D9 l else Kk r)
   generalize D9 l = z
   unfold Kk
   cases (((within r.X0 (-1000000) 1000000 && within r.Y0 (-1000000) 1000000) && within r.X1 (-1000000) 1000000) && within r.Y1 (-1000000) 1000000)
   ·simp
   ·cases (decide (r.X1 ≤ r.X0) || decide (r.Y1 ≤ r.Y0)) <;> simp
 unfold mP rP
 by_cases h : 2000 < l.length
 ·rw [if_pos (by simp; omega), if_pos h]
 ·rw [if_neg (by simp; omega), if_neg h, key]
def Um (a b : aQ) : Bool := decide (a.Y0 < b.Y0) || (decide (a.Y0 = b.Y0) && decide (a.X0 < b.X0))
def Ov : List aQ → Bool
 | a :: b :: l => Um a b && Ov (b :: l)
 | _ => true
def mW (l : List aQ) : Int := if rP l = 0 then if Ov l = true then if fI (tL l) = l then 0 else 3 else 8 else rP l
theorem E9 {N : Nat} (hN : 10000000000 ≤ N) (l : List aQ) : mh N l = some (mW l) := by
 unfold mh mW
 rw [Fw, Option.bind_some]
 by_cases he : rP l = 0
 ·obtain ⟨hl, hok⟩ := Cx he
  rw [if_neg (by simpa using he), if_pos he]
  have hend : (mD N l).bind (fun U7 => (kC N U7).bind fun U6 => (jd U6 l).bind fun U5 => if (!U5) then some 3 else some 0) = some (if fI (tL l) = l then (0 : Int) else 3) := by
   rw [JN hN (by omega) (fun r hr => (hok r hr).r9), Option.bind_some, EY hN (J8 (by omega)), Option.bind_some]
   obtain ⟨b, h1, h2⟩ := Gq (fI (tL l)) l
   rw [h1, Option.bind_some]
   cases b
   ·rw [if_pos (by simp), if_neg (fun h => by have := h2.2 h; cases this)]
   ·rw [if_neg (by simp), if_pos (h2.1 rfl)]
  have key : ∀ (suf pre : List aQ) (a : aQ) (m : Nat), l = pre ++ a :: suf → suf.length < m → eX N l m ((pre.length : Int) + 1) = some (if Ov (a :: suf) = true then if fI (tL l) = l then 0 else 3 else 8) := by
   intro suf
   induction suf with
   | nil =>
    intro pre a m h1 h2
    obtain ⟨m, rfl⟩ : ∃ k, m = k + 1 := ⟨m - 1, by omega⟩
    rw [eX.eq_2, if_neg (by rw [h1]; simp), hend]
    rfl
   | cons b suf ih =>
    intro pre a m h1 h2
    obtain ⟨m, rfl⟩ : ∃ k, m = k + 1 := ⟨m - 1, by omega⟩
    have hpl : pre.length ≤ 2000 := by rw [h1] at hl; simp at hl; omega
    have ha : idx l (pre.length : Int) = some a := by rw [h1]; exact jE pre _ a
    have hb : idx l ((pre.length : Int) + 1) = some b := by
     rw [h1, show pre ++ a :: b :: suf = (pre ++ [a]) ++ b :: suf by simp, show ((pre.length : Int) + 1) = ((pre ++ [a]).length : Int) by simp]
     exact jE (pre ++ [a]) _ b
    rw [eX.eq_2, if_pos (by rw [h1]; simp; omega), bU (x := (pre.length : Int) + 1 - 1) (by omega) (by omega), show ((pre.length : Int) + 1 - 1) = (pre.length : Int) by omega, ha, Option.bind_some, hb, Option.bind_some, bU (by omega) (by omega)]
    have hlt : ((decide (b.Y0 < a.Y0)) || ((b.Y0 == a.Y0) && (decide (b.X0 ≤ a.X0)))) = !Um a b := by
     unfold Um
     rw [Bool.eq_iff_iff]
     simp
     omega
    rw [hlt]
    have hor : Ov (a :: b :: suf) = (Um a b && Ov (b :: suf)) := rfl
    rw [hor]
    cases Um a b
    ·simp
    ·have := ih (pre ++ [a]) b m (by rw [h1]; simp) (by simp at h2; omega)
     rw [show (((pre ++ [a]).length : Int) + 1) = (pre.length : Int) + 1 + 1 by simp] at this
     rw [this]
     simp
  cases l with
  | nil =>
   obtain ⟨m, hm⟩ : ∃ k, N = k + 1 := ⟨N - 1, by omega⟩
   have hf : eX N ([] : List aQ) N 1 = eX N ([] : List aQ) (m + 1) 1 := congrArg (fun z => eX N ([] : List aQ) z 1) hm
   rw [hf, eX.eq_2, if_neg (by simp), hend]
   rfl
  | cons a suf =>
   exact key suf [] a N rfl (by simp at hl; omega)
 ·rw [if_pos (by simpa using he), if_neg he]
def rowAt : List Bd → Int → List (Int × Int)
 | [], _ => []
 | b :: l, y => if b.1 ≤ y ∧ y < b.2.1 then b.2.2 else rowAt l y
def nV : Int → List Bd → Prop
 | _, [] => True
 | lo, b :: l => lo ≤ b.1 ∧ b.1 < b.2.1 ∧ b.2.2 ≠ [] ∧ (∀ d, l.head? = some d → d.1 = b.2.1 → d.2.2 ≠ b.2.2) ∧ nV b.2.1 l
theorem lX : ∀ {l : List Bd} {lo y : Int}, nV lo l → y < lo → rowAt l y = []
 | [], _, _, _, _ => rfl
 | b :: l, lo, y, h, hy => by
  unfold rowAt
  rw [if_neg (by have := h.1; omega)]
  exact lX h.2.2.2.2 (by have := h.1; have := h.2.1; omega)
theorem nV.uniq : ∀ {l m : List Bd} {lo lo' : Int}, nV lo l → nV lo' m → (∀ y, rowAt l y = rowAt m y) → l = m
 | [], [], _, _, _, _, _ => rfl
 | [], b :: m, _, _, _, h2, h => by
  have := h b.1
  unfold rowAt at this
  rw [if_pos ⟨Int.le_refl _, h2.2.1⟩] at this
  exact absurd this.symm h2.2.2.1
 | b :: l, [], _, _, h1, _, h => by
  have := h b.1
  unfold rowAt at this
  rw [if_pos ⟨Int.le_refl _, h1.2.1⟩] at this
  exact absurd this h1.2.2.1
 | b :: l, d :: m, lo, lo', h1, h2, h => by
  obtain ⟨a1, a2, a3, a4, a5⟩ := h1
  obtain ⟨b1, b2, b3, b4, b5⟩ := h2
  have fst : ∀ {l : List Bd} {b : Bd} {y : Int}, b.1 ≤ y → y < b.2.1 → rowAt (b :: l) y = b.2.2 := fun h1 h2 => by unfold rowAt; rw [if_pos ⟨h1, h2⟩]
  have low : ∀ {l : List Bd} {b : Bd} {y : Int}, nV b.2.1 l → b.1 < b.2.1 → y < b.1 → rowAt (b :: l) y = [] := fun h1 h2 h3 => by
   unfold rowAt
   rw [if_neg (by omega)]
   exact lX h1 (by omega)
  have e1 : b.1 = d.1 := by
   have hb := h b.1
   have hd := h d.1
   rw [fst (Int.le_refl _) a2] at hb
   rw [fst (l := m) (b := d) (Int.le_refl _) b2] at hd
   rcases Int.lt_trichotomy b.1 d.1 with hlt | heq | hgt
   ·rw [low b5 b2 hlt] at hb; exact absurd hb a3
   ·exact heq
   ·rw [low a5 a2 hgt] at hd; exact absurd hd.symm b3
  have e2 : b.2.2 = d.2.2 := by
   have hb := h b.1
   rw [fst (Int.le_refl _) a2, e1, fst (Int.le_refl _) b2] at hb
   exact hb
  have past : ∀ {l : List Bd} {b : Bd}, nV b.2.1 l → (∀ d, l.head? = some d → d.1 = b.2.1 → d.2.2 ≠ b.2.2) → b.2.2 ≠ [] → rowAt (b :: l) b.2.1 ≠ b.2.2 := fun {l b} h1 h2 h3 => by
   unfold rowAt
   rw [if_neg (by omega)]
   cases l with
   | nil => exact fun h => h3 h.symm
   | cons e l =>
    unfold rowAt
    by_cases he : e.1 = b.2.1
    ·rw [if_pos ⟨by omega, by have := h1.2.1; omega⟩]
     exact h2 e rfl he
    ·have hlt : b.2.1 < e.1 := by have := h1.1; omega
     rw [if_neg (by omega), lX h1.2.2.2.2 (by have := h1.2.1; omega)]
     exact fun h => h3 h.symm
  have e3 : b.2.1 = d.2.1 := by
   rcases Int.lt_trichotomy b.2.1 d.2.1 with hlt | heq | hgt
   ·have := h b.2.1
    rw [fst (l := m) (b := d) (by omega) hlt, ← e2] at this
    exact absurd this (past a5 a4 a3)
   ·exact heq
   ·have := h d.2.1
    rw [fst (l := l) (b := b) (by omega) hgt, e2] at this
    exact absurd this.symm (past b5 b4 b3)
  have hbd : b = d := by
   obtain ⟨x, y, z⟩ := b
   obtain ⟨x', y', z'⟩ := d
   simp only at e1 e2 e3
   rw [e1, e2, e3]
  subst hbd
  rw [nV.uniq a5 b5 fun y => by
   by_cases hy : y < b.2.1
   ·rw [lX a5 hy, lX b5 hy]
   ·have := h y
    unfold rowAt at this
    rw [if_neg (by omega), if_neg (by omega)] at this
    exact this]
def qW (x y : Int) (l : List Bd) : Prop := lL x (rowAt l y)
def Rp (x y : Int) (l : List aQ) : Prop := ∃ r ∈ l, (r.X0 ≤ x ∧ x < r.X1) ∧ (r.Y0 ≤ y ∧ y < r.Y1)
structure yw (l : List Bd) : Prop where
 can : ∃ lo, nV lo l
 row : ∀ b ∈ l, ∃ lo, Can lo b.2.2
theorem zy : ∀ {l : List Bd} {y : Int}, rowAt l y = [] ∨ ∃ b ∈ l, b.1 ≤ y ∧ y < b.2.1 ∧ rowAt l y = b.2.2
 | [], _ => .inl rfl
 | b :: l, y => by
  unfold rowAt
  by_cases h : b.1 ≤ y ∧ y < b.2.1
  ·rw [if_pos h]; exact .inr ⟨b, by simp, h.1, h.2, rfl⟩
  ·rw [if_neg h]
   rcases zy (l := l) (y := y) with h1 | ⟨c, h1, h2⟩
   ·exact .inl h1
   ·exact .inr ⟨c, by simp [h1], h2⟩
theorem yw.at {l : List Bd} (h : yw l) (y : Int) : ∃ lo, Can lo (rowAt l y) := by
 rcases zy (l := l) (y := y) with h1 | ⟨b, h1, _, _, h2⟩
 ·rw [h1]; exact ⟨0, trivial⟩
 ·rw [h2]; exact h.row b h1
theorem nV.mem : ∀ {l : List Bd} {lo : Int}, nV lo l → ∀ b ∈ l, lo ≤ b.1 ∧ b.1 < b.2.1 ∧ b.2.2 ≠ []
 | [], _, _, b, hb => by simp at hb
 | c :: l, lo, h, b, hb => by
  rcases List.mem_cons.1 hb with rfl | hb
  ·exact ⟨h.1, h.2.1, h.2.2.1⟩
  ·have hm := h.2.2.2.2.mem b hb
   have := h.1; have := h.2.1
   exact ⟨by omega, hm.2.1, hm.2.2⟩
theorem A9 : ∀ {l : List Bd} {lo y : Int} {b : Bd}, nV lo l → b ∈ l → b.1 ≤ y → y < b.2.1 → rowAt l y = b.2.2
 | [], _, _, _, _, hb, _, _ => by simp at hb
 | c :: l, lo, y, b, h, hb, h1, h2 => by
  unfold rowAt
  rcases List.mem_cons.1 hb with rfl | hb
  ·rw [if_pos ⟨h1, h2⟩]
  ·have := h.2.2.2.2.mem b hb
   rw [if_neg (by omega)]
   exact A9 h.2.2.2.2 hb h1 h2
theorem yw.uniq {l m : List Bd} (h1 : yw l) (h2 : yw m) (h : ∀ x y, qW x y l ↔ qW x y m) : l = m := by
 obtain ⟨lo, c1⟩ := h1.can
 obtain ⟨lo', c2⟩ := h2.can
 refine c1.uniq c2 fun y => ?_
 obtain ⟨a, ha⟩ := h1.at y
 obtain ⟨b, hb⟩ := h2.at y
 exact ha.uniq hb fun x => h x y
theorem OB : ∀ (l : List (Int × Int)), ∃ lo, ∀ p ∈ l, lo < p.1
 | [] => ⟨0, by simp⟩
 | q :: l => by
  obtain ⟨lo, h⟩ := OB l
  refine ⟨min lo (q.1 - 1), fun p hp => ?_⟩
  rcases List.mem_cons.1 hp with rfl | hp
  ·omega
  ·have := h p hp; omega
theorem Tf {l : List (Int × Int)} (h : ∀ p ∈ l, p.1 < p.2) : (∃ lo, Can lo (zM l)) ∧ ∀ x, lL x (zM l) ↔ lL x l := by
 obtain ⟨lo, hlo⟩ := OB l
 obtain ⟨h1, h2⟩ := Di (lo := lo) (l := l) fun p hp => ⟨hlo p hp, h p hp⟩
 exact ⟨⟨lo, h1⟩, h2⟩
theorem A8 {l : List aQ} (h : ∀ r ∈ l, r.X0 < r.X1) (y : Int) : (∃ lo, Can lo (uY l y)) ∧ ∀ x, lL x (uY l y) ↔ Rp x y l := by
 obtain ⟨h1, h2⟩ := Tf (l := (l.filter fun r => decide (r.Y0 ≤ y) && decide (y < r.Y1)).map Dt) fun p hp => by
  obtain ⟨r, hr, rfl⟩ := List.mem_map.1 hp
  exact h r (List.mem_filter.1 hr).1
 refine ⟨h1, fun x => (h2 x).trans ?_⟩
 unfold lL Rp
 constructor
 ·rintro ⟨p, hp, hx⟩
  obtain ⟨r, hr, rfl⟩ := List.mem_map.1 hp
  obtain ⟨hr, hy⟩ := List.mem_filter.1 hr
  simp at hy
  exact ⟨r, hr, hx, hy⟩
 ·rintro ⟨r, hr, hx, hy⟩
  exact ⟨Dt r, List.mem_map.2 ⟨r, List.mem_filter.2 ⟨hr, by simp [hy]⟩, rfl⟩, hx⟩
theorem KQ {l m : List (Int × Int)} (h1 : ∃ lo, Can lo l) (h2 : ∃ lo, Can lo m) (h : ∀ x, lL x l ↔ lL x m) : l = m := by
 obtain ⟨_, h1⟩ := h1
 obtain ⟨_, h2⟩ := h2
 exact h1.uniq h2 h
theorem Rb {l : List (Int × Int)} (h1 : ∃ lo, Can lo l) (h : ∀ x, ¬ lL x l) : l = [] := KQ h1 ⟨0, trivial⟩ fun x => ⟨fun hx => absurd hx (h x), fun hx => absurd hx gI⟩
theorem Ec {c : Bd} {l : List Bd} {b : Bd} (h : l ≠ []) : pushB (c :: l) b = c :: pushB l b := by
 by_cases he : b.2.2 = []
 ·rw [oF he, oF he]
 ·rcases List.eq_nil_or_concat l with rfl | ⟨j, d, hc⟩
  ·exact absurd rfl h
  ·rw [List.concat_eq_append] at hc
   subst hc
   rw [← List.cons_append, ry he, ry he]
   split <;> rfl
theorem Kq {c : Bd} {l : List Bd} {b : Bd} : ∃ e m, pushB (c :: l) b = e :: m ∧ e.1 = c.1 ∧ e.2.2 = c.2.2 := by
 by_cases hl : l = []
 ·subst hl
  by_cases he : b.2.2 = []
  ·rw [oF he]; exact ⟨c, [], rfl, rfl, rfl⟩
  ·have := ry (l := []) (c := c) he
   rw [List.nil_append] at this
   rw [this]
   split
   ·exact ⟨_, _, rfl, rfl, rfl⟩
   ·exact ⟨_, _, rfl, rfl, rfl⟩
 ·rw [Ec hl]; exact ⟨_, _, rfl, rfl, rfl⟩
theorem nV.push : ∀ {l : List Bd} {lo : Int} {b : Bd}, nV lo l → (∀ c ∈ l, c.2.1 ≤ b.1) → lo ≤ b.1 → b.1 < b.2.1 →
  nV lo (pushB l b) ∧ (∀ c ∈ pushB l b, c.2.1 ≤ b.2.1 ∧ (c.2.2 = b.2.2 ∨ ∃ d ∈ l, c.2.2 = d.2.2)) ∧ ∀ y, rowAt (pushB l b) y = if b.1 ≤ y ∧ y < b.2.1 then b.2.2 else rowAt l y
 | [], lo, b, h, h1, h2, h3 => by
  by_cases he : b.2.2 = []
  ·rw [oF he]
   exact ⟨h, by simp, fun y => by unfold rowAt; split <;> simp [he]⟩
  ·rw [zz he]
   exact ⟨⟨h2, h3, he, by simp, trivial⟩, by simp, fun y => by unfold rowAt; rfl⟩
 | [c], lo, b, h, h1, h2, h3 => by
  have hc := h1 c (by simp)
  have h4 := h.2.1
  by_cases he : b.2.2 = []
  ·rw [oF he]
   refine ⟨h, fun d hd => ⟨by have := h1 d hd; omega, .inr ⟨d, hd, rfl⟩⟩, fun y => ?_⟩
   by_cases hy : b.1 ≤ y ∧ y < b.2.1
   ·rw [if_pos hy, he]; unfold rowAt; rw [if_neg (by omega)]; rfl
   ·rw [if_neg hy]
  ·have hp := ry (l := []) (c := c) he
   rw [List.nil_append] at hp
   rw [hp]
   by_cases hj : c.2.1 = b.1 ∧ c.2.2 = b.2.2
   ·rw [if_pos hj]
    refine ⟨⟨h.1, by show c.1 < b.2.1; omega, h.2.2.1, by simp, trivial⟩, fun d hd => ?_, fun y => ?_⟩
    ·simp at hd; subst hd; exact ⟨Int.le_refl _, .inr ⟨c, by simp, rfl⟩⟩
    ·show (if c.1 ≤ y ∧ y < b.2.1 then c.2.2 else []) = if b.1 ≤ y ∧ y < b.2.1 then b.2.2 else if c.1 ≤ y ∧ y < c.2.1 then c.2.2 else []
     rw [hj.2]
     by_cases ha : b.1 ≤ y ∧ y < b.2.1
     ·rw [if_pos ha, if_pos (by omega)]
     ·rw [if_neg ha]
      by_cases hb : c.1 ≤ y ∧ y < c.2.1
      ·rw [if_pos hb, if_pos (by omega)]
      ·rw [if_neg hb, if_neg (by omega)]
   ·rw [if_neg hj]
    refine ⟨⟨h.1, h.2.1, h.2.2.1, fun d hd e => ?_, ⟨hc, h3, he, by simp, trivial⟩⟩, fun d hd => ?_, fun y => ?_⟩
    ·simp at hd; subst hd
     exact fun h' => hj ⟨e.symm, h'.symm⟩
    ·simp at hd
     rcases hd with rfl | rfl
     ·exact ⟨by omega, .inr ⟨d, by simp, rfl⟩⟩
     ·exact ⟨Int.le_refl _, .inl rfl⟩
    ·show (if c.1 ≤ y ∧ y < c.2.1 then c.2.2 else if b.1 ≤ y ∧ y < b.2.1 then b.2.2 else []) = if b.1 ≤ y ∧ y < b.2.1 then b.2.2 else if c.1 ≤ y ∧ y < c.2.1 then c.2.2 else []
     by_cases ha : b.1 ≤ y ∧ y < b.2.1
     ·rw [if_pos ha, if_neg (by omega), if_pos ha]
     ·rw [if_neg ha, if_neg ha]
 | c :: d :: l, lo, b, h, h1, h2, h3 => by
  obtain ⟨i1, i2, i3⟩ := nV.push (l := d :: l) (lo := c.2.1) (b := b) h.2.2.2.2 (fun e he => h1 e (by simp [List.mem_cons.1 he])) (h1 c (by simp)) h3
  rw [Ec (by simp)]
  have hc := h1 c (by simp)
  have h4 := h.2.1
  refine ⟨⟨h.1, h.2.1, h.2.2.1, fun e he e1 => ?_, i1⟩, fun e he => ?_, fun y => ?_⟩
  ·obtain ⟨f, m, p1, p2, p3⟩ := Kq (c := d) (l := l) (b := b)
   rw [p1] at he
   simp at he
   subst he
   rw [p3]
   exact h.2.2.2.1 d rfl (by omega)
  ·rcases List.mem_cons.1 he with rfl | he
   ·exact ⟨by omega, .inr ⟨e, by simp, rfl⟩⟩
   ·obtain ⟨j1, j2 | ⟨f, j2, j3⟩⟩ := i2 e he
    ·exact ⟨j1, .inl j2⟩
    ·exact ⟨j1, .inr ⟨f, by simp [List.mem_cons.1 j2], j3⟩⟩
  ·show (if c.1 ≤ y ∧ y < c.2.1 then c.2.2 else rowAt (pushB (d :: l) b) y) = if b.1 ≤ y ∧ y < b.2.1 then b.2.2 else if c.1 ≤ y ∧ y < c.2.1 then c.2.2 else rowAt (d :: l) y
   rw [i3 y]
   by_cases ha : b.1 ≤ y ∧ y < b.2.1
   ·rw [if_pos ha, if_pos ha, if_neg (by omega)]
   ·rw [if_neg ha, if_neg ha]
def qj (f : Int → List (Int × Int)) : List Int → List Bd → List Bd
 | a :: b :: ys, out => qj f (b :: ys) (pushB out (a, b, f a))
 | _, out => out
theorem Gm (l : List aQ) : ∀ (ys : List Int) (out : List Bd), tu l ys out = qj (uY l) ys out
 | [], _ => rfl
 | [_], _ => rfl
 | a :: b :: ys, out => Gm l (b :: ys) (pushB out (a, b, uY l a))
def Ii (f : Int → List (Int × Int)) : List Int → Prop
 | a :: b :: ys => (∀ y, a ≤ y → y < b → f y = f a) ∧ Ii f (b :: ys)
 | _ => True
theorem Ml {f : Int → List (Int × Int)} {zs : List Int} (hc : ∀ a y, a ≤ y → (∀ z ∈ zs, z ≤ a ∨ y < z) → f y = f a) : ∀ {ys pre : List Int}, zs = pre ++ ys → zs.Pairwise (fun x y => x < y) → Ii f ys
 | [], _, _, _ => trivial
 | [_], _, _, _ => trivial
 | a :: b :: ys, pre, e, h => by
  refine ⟨fun y h1 h2 => hc a y h1 fun z hz => ?_, Ml hc (ys := b :: ys) (pre := pre ++ [a]) (by rw [e]; simp) h⟩
  rw [e] at hz h
  obtain ⟨_, k1, k2⟩ := List.pairwise_append.1 h
  rcases List.mem_append.1 hz with hz | hz
  ·have := k2 z hz a (by simp); exact .inl (by omega)
  ·rcases List.mem_cons.1 hz with rfl | hz
   ·exact .inl (Int.le_refl _)
   ·rcases List.mem_cons.1 hz with rfl | hz
    ·exact .inr h2
    ·have := (List.pairwise_cons.1 (List.pairwise_cons.1 k1).2).1 z hz; exact .inr (by omega)
theorem JB {f : Int → List (Int × Int)} {lo : Int} (hf : ∀ y, ∃ lo, Can lo (f y)) : ∀ (ys : List Int) (out : List Bd), ys.Pairwise (fun x y => x < y) → Ii f ys → nV lo out → (∀ b ∈ out, ∃ lo, Can lo b.2.2) → (∀ a, ys.head? = some a → lo ≤ a ∧ (∀ c ∈ out, c.2.1 ≤ a)) →
  nV lo (qj f ys out) ∧ (∀ b ∈ qj f ys out, ∃ lo, Can lo b.2.2) ∧ ∀ y, rowAt (qj f ys out) y = if (∃ a ∈ ys, a ≤ y) ∧ (∃ z ∈ ys, y < z) then f y else rowAt out y
 | [], out, _, _, h1, h2, _ => ⟨h1, h2, fun y => by rw [if_neg (by simp)]; rfl⟩
 | [a], out, _, _, h1, h2, _ => ⟨h1, h2, fun y => by rw [if_neg (by rintro ⟨⟨c, hc, h1⟩, z, hz, h2⟩; simp at hc hz; omega)]; rfl⟩
 | a :: b :: ys, out, hs, hc, h1, h2, h3 => by
  have hab : a < b := (List.pairwise_cons.1 hs).1 b (by simp)
  have hs2 := (List.pairwise_cons.1 hs).2
  obtain ⟨h5, h6⟩ := h3 a rfl
  obtain ⟨p1, p2, p3⟩ := h1.push (b := (a, b, f a)) h6 h5 hab
  obtain ⟨i1, i2, i3⟩ := JB hf (b :: ys) (pushB out (a, b, f a)) hs2 hc.2 p1 (fun c hc => by
   rcases (p2 c hc).2 with e | ⟨d, hd, e⟩
   ·rw [e]; exact hf a
   ·rw [e]; exact h2 d hd) (fun z hz => by
   simp at hz; subst hz
   exact ⟨by omega, fun c hc => (p2 c hc).1⟩)
  refine ⟨i1, i2, fun y => ?_⟩
  show rowAt (qj f (b :: ys) (pushB out (a, b, f a))) y = _
  rw [i3 y, p3 y]
  show (if (∃ c ∈ b :: ys, c ≤ y) ∧ (∃ z ∈ b :: ys, y < z) then f y else if a ≤ y ∧ y < b then f a else rowAt out y) = _
  by_cases ya : y < a
  ·rw [if_neg (fun h => by
    obtain ⟨⟨c, hc, hcy⟩, _⟩ := h
    rcases List.mem_cons.1 hc with rfl | hc
    ·omega
    ·have := (List.pairwise_cons.1 hs2).1 c hc; omega), if_neg (by omega), if_neg (fun h => by
    obtain ⟨⟨c, hc, hcy⟩, _⟩ := h
    rcases List.mem_cons.1 hc with rfl | hc
    ·omega
    ·have := (List.pairwise_cons.1 hs).1 c hc; omega)]
  ·by_cases yb : y < b
   ·rw [if_neg (fun h => by
     obtain ⟨⟨c, hc, hcy⟩, _⟩ := h
     rcases List.mem_cons.1 hc with rfl | hc
     ·omega
     ·have := (List.pairwise_cons.1 hs2).1 c hc; omega), if_pos (by omega), if_pos ⟨⟨a, by simp, by omega⟩, ⟨b, by simp, yb⟩⟩]
    exact (hc.1 y (by omega) yb).symm
   ·by_cases hz : ∃ z ∈ b :: ys, y < z
    ·obtain ⟨z, hz, hyz⟩ := hz
     rw [if_pos ⟨⟨b, by simp, by omega⟩, z, hz, hyz⟩, if_pos ⟨⟨a, by simp, by omega⟩, z, List.mem_cons_of_mem _ hz, hyz⟩]
    ·rw [if_neg (fun h => hz h.2), if_neg (by omega), if_neg (fun h => by
      obtain ⟨_, z, hm, hyz⟩ := h
      rcases List.mem_cons.1 hm with rfl | hm
      ·omega
      ·exact hz ⟨z, hm, hyz⟩)]
theorem EP {f : Int → List (Int × Int)} {ys : List Int} (hs : ys.Pairwise fun x y => x < y) (hf : ∀ y, ∃ lo, Can lo (f y)) (hc : ∀ a y, a ≤ y → (∀ z ∈ ys, z ≤ a ∨ y < z) → f y = f a) (h0 : ∀ y, (∀ a ∈ ys, y < a) → f y = []) (h1 : ∀ y, (∀ a ∈ ys, a ≤ y) → f y = []) : yw (qj f ys []) ∧ ∀ y, rowAt (qj f ys []) y = f y := by
 obtain ⟨lo, hlo⟩ : ∃ lo : Int, ∀ z ∈ ys, lo ≤ z := by
  have : ∀ m : List Int, ∃ lo : Int, ∀ z ∈ m, lo ≤ z := by
   intro m
   induction m with
   | nil => exact ⟨0, by simp⟩
   | cons a m ih =>
    obtain ⟨lo, h⟩ := ih
    refine ⟨min lo a, fun z hz => ?_⟩
    rcases List.mem_cons.1 hz with rfl | hz
    ·omega
    ·have := h z hz; omega
  exact this _
 obtain ⟨i1, i2, i3⟩ := JB (lo := lo) hf ys [] hs (Ml hc (ys := ys) (pre := []) rfl hs) trivial (by simp) (fun a ha => ⟨hlo a (List.mem_of_mem_head? (by rw [ha]; rfl)), by simp⟩)
 refine ⟨⟨⟨lo, i1⟩, i2⟩, fun y => ?_⟩
 rw [i3 y]
 by_cases ha : ∃ a ∈ ys, a ≤ y
 ·by_cases hz : ∃ z ∈ ys, y < z
  ·rw [if_pos ⟨ha, hz⟩]
  ·rw [if_neg (fun h => hz h.2), h1 y (fun a ham => by
    rcases Int.lt_or_le y a with h | h
    ·exact absurd ⟨a, ham, h⟩ hz
    ·exact h)]; rfl
 ·rw [if_neg (fun h => ha h.1), h0 y (fun a ham => by
   rcases Int.lt_or_le y a with h | h
   ·exact h
   ·exact absurd ⟨a, ham, h⟩ ha)]; rfl
theorem IP {l : List aQ} (hl : ∀ r ∈ l, r.X0 < r.X1) {y : Int} (h : ∀ r ∈ l, ¬ (r.Y0 ≤ y ∧ y < r.Y1)) : uY l y = [] := by
 obtain ⟨c1, c2⟩ := A8 hl y
 exact Rb c1 fun x hx => by
  obtain ⟨r, hr, _, hy⟩ := (c2 x).1 hx
  exact h r hr hy
theorem Kg {l : List aQ} (hl : ∀ r ∈ l, r.X0 < r.X1) {a y : Int} (h : ∀ r ∈ l, (r.Y0 ≤ y ∧ y < r.Y1) ↔ (r.Y0 ≤ a ∧ a < r.Y1)) : uY l y = uY l a := by
 obtain ⟨c1, c2⟩ := A8 hl y
 obtain ⟨c3, c4⟩ := A8 hl a
 refine KQ c1 c3 fun x => (c2 x).trans (Iff.trans ?_ (c4 x).symm)
 unfold Rp
 constructor
 ·rintro ⟨r, hr, hx, hy⟩; exact ⟨r, hr, hx, (h r hr).1 hy⟩
 ·rintro ⟨r, hr, hx, hy⟩; exact ⟨r, hr, hx, (h r hr).2 hy⟩
theorem IQ {l : List aQ} {ys : List Int} (hl : ∀ r ∈ l, r.X0 < r.X1 ∧ r.Y0 < r.Y1) (hy : ∀ r ∈ l, r.Y0 ∈ ys ∧ r.Y1 ∈ ys) : (∀ a y, a ≤ y → (∀ z ∈ ys, z ≤ a ∨ y < z) → uY l y = uY l a) ∧ (∀ y, (∀ a ∈ ys, y < a) → uY l y = []) ∧ (∀ y, (∀ a ∈ ys, a ≤ y) → uY l y = []) := by
 have hx : ∀ r ∈ l, r.X0 < r.X1 := fun r hr => (hl r hr).1
 refine ⟨fun a y hay h => Kg hx fun r hr => ?_, fun y h => IP hx fun r hr hh => ?_, fun y h => IP hx fun r hr hh => ?_⟩
 ·have := h _ (hy r hr).1; have := h _ (hy r hr).2; omega
 ·have := h _ (hy r hr).1; omega
 ·have := h _ (hy r hr).2; omega
theorem NW {l : List aQ} (hl : ∀ r ∈ l, r.X0 < r.X1 ∧ r.Y0 < r.Y1) : yw (tL l) ∧ ∀ y, rowAt (tL l) y = uY l y := by
 obtain ⟨h1, h2, h3⟩ := IQ (ys := wz (tC l)) hl fun r hr => ⟨(tJ _ _).2 (uS.2 ⟨r, hr, .inl rfl⟩), (tJ _ _).2 (uS.2 ⟨r, hr, .inr rfl⟩)⟩
 have := EP (rD (tC l)) (fun y => (A8 (fun r hr => (hl r hr).1) y).1) h1 h2 h3
 unfold tL
 rw [Gm]
 exact this
theorem CW {l : List aQ} (hl : ∀ r ∈ l, r.X0 < r.X1 ∧ r.Y0 < r.Y1) : yw (tL l) ∧ ∀ x y, qW x y (tL l) ↔ Rp x y l := by
 obtain ⟨h1, h2⟩ := NW hl
 refine ⟨h1, fun x y => ?_⟩
 unfold qW
 rw [h2]
 exact (A8 (fun r hr => (hl r hr).1) y).2 x
theorem Ag {l : List Bd} {r : aQ} : r ∈ fI l ↔ ∃ b ∈ l, ∃ s ∈ b.2.2, r = ⟨s.1, b.1, s.2, b.2.1⟩ := by
 unfold fI Bb
 simp only [List.mem_flatMap, List.mem_map]
 constructor
 ·rintro ⟨b, hb, s, hs, rfl⟩; exact ⟨b, hb, s, hs, rfl⟩
 ·rintro ⟨b, hb, s, hs, rfl⟩; exact ⟨b, hb, s, hs, rfl⟩
theorem xQ {l : List Bd} (h : yw l) (x y : Int) : Rp x y (fI l) ↔ qW x y l := by
 obtain ⟨lo, hc⟩ := h.can
 unfold Rp qW
 constructor
 ·rintro ⟨r, hr, hx, hy⟩
  obtain ⟨b, hb, s, hs, rfl⟩ := Ag.1 hr
  rw [A9 hc hb hy.1 hy.2]
  exact ⟨s, hs, hx⟩
 ·intro hx
  rcases zy (l := l) (y := y) with h1 | ⟨b, hb, h1, h2, h3⟩
  ·rw [h1] at hx; exact absurd hx gI
  ·rw [h3] at hx
   obtain ⟨s, hs, hx⟩ := hx
   exact ⟨_, Ag.2 ⟨b, hb, s, hs, rfl⟩, hx, h1, h2⟩
theorem BO {l : List Bd} (h : yw l) : ∀ r ∈ fI l, r.X0 < r.X1 ∧ r.Y0 < r.Y1 := fun r hr => by
 obtain ⟨lo, hc⟩ := h.can
 obtain ⟨b, hb, s, hs, rfl⟩ := Ag.1 hr
 obtain ⟨lo', hr⟩ := h.row b hb
 exact ⟨(hr.mem s hs).2, (hc.mem b hb).2.1⟩
theorem IE {l : List Bd} (h : yw l) : tL (fI l) = l := by
 obtain ⟨a1, a2⟩ := CW (BO h)
 exact a1.uniq h fun x y => by rw [a2, xQ h]
theorem nV.mono {l : List Bd} {lo lo' : Int} (h : nV lo l) (hl : lo' ≤ lo) : nV lo' l := by
 cases l with
 | nil => trivial
 | cons b l => exact ⟨by have := h.1; omega, h.2⟩
theorem xC {l : List aQ} (h : mW l = 0) : rP l = 0 ∧ l.length ≤ 2000 ∧ (∀ r ∈ l, NB r) ∧ fI (tL l) = l := by
 unfold mW at h
 by_cases h1 : rP l = 0
 ·obtain ⟨h2, h3⟩ := Cx h1
  rw [if_pos h1] at h
  split at h
  ·split at h
   ·rename_i h4; exact ⟨h1, h2, h3, h4⟩
   ·omega
  ·omega
 ·rw [if_neg h1] at h; exact absurd h h1
theorem NB.ne {l : List aQ} (h : ∀ r ∈ l, NB r) : ∀ r ∈ l, r.X0 < r.X1 ∧ r.Y0 < r.Y1 := fun r hr => ⟨(h r hr).x, (h r hr).y⟩
theorem Ro {l : List aQ} (h : ∀ r ∈ l, NB r) {x y : Int} (hx : Rp x y l) : (-1000000 ≤ x ∧ x < 1000000) ∧ (-1000000 ≤ y ∧ y < 1000000) := by
 obtain ⟨r, hr, h1, h2⟩ := hx
 have a := h r hr
 have := a.x0; have := a.x1; have := a.y0; have := a.y1
 omega
def par (x : Int) : List Int → Bool
 | [] => false
 | a :: l => xor (decide (a ≤ x)) (par x l)
theorem Ae (x : Int) : ∀ l m : List Int, par x (l ++ m) = xor (par x l) (par x m)
 | [], m => by simp [par]
 | a :: l, m => by rw [List.cons_append, par, Ae x l m, par, Bool.xor_assoc]
theorem xG {x : Int} : ∀ {l : List Int}, (∀ a ∈ l, x < a) → par x l = false
 | [], _ => rfl
 | a :: l, h => by
  rw [par, xG fun b hb => h b (by simp [hb]), decide_eq_false (by have := h a (by simp); omega)]; rfl
theorem Bh (n : Nat) : ((n + 1) % 2 == 1) = !(n % 2 == 1) := by
 rcases Nat.mod_two_eq_zero_or_one n with h | h
 ·have : (n + 1) % 2 = 1 := by omega
  rw [h, this]; rfl
 ·have : (n + 1) % 2 = 0 := by omega
  rw [h, this]; rfl
theorem BR {x : Int} : ∀ {l : List Int}, (∀ a ∈ l, a ≤ x) → par x l = (l.length % 2 == 1)
 | [], _ => rfl
 | a :: l, h => by
  rw [par, BR fun b hb => h b (by simp [hb]), decide_eq_true (h a (by simp)), List.length_cons, Bh, Bool.true_xor]
theorem zJ : ∀ {l : List (Int × Int)} {lo x : Int}, Can lo l → (lL x l ↔ par x (dm l) = true)
 | [], _, _, _ => by simp [gI, uT, par]
 | p :: l, lo, x, h => by
  obtain ⟨h1, h2, h3⟩ := h
  have ih := zJ (x := x) h3
  have hl := fun hx : lL x l => h3.lt hx
  rw [jL, mJ, par, par]
  cases hp : par x (dm l)
  ·rw [hp] at ih
   have : ¬ lL x l := fun hx => by have := ih.1 hx; cases this
   by_cases a : p.1 ≤ x <;> by_cases b : p.2 ≤ x <;> simp [a, b, this] <;> omega
  ·rw [hp] at ih
   have h4 := ih.2 rfl
   have := hl h4
   have a : p.1 ≤ x := by omega
   have b : p.2 ≤ x := by omega
   simp [a, b, h4]
theorem Can.strict : ∀ {l : List (Int × Int)} {lo : Int}, Can lo l → (dm l).Pairwise (fun x y => x < y) ∧ ∀ z ∈ dm l, lo < z
 | [], _, _ => ⟨List.Pairwise.nil, by simp [uT]⟩
 | p :: l, lo, h => by
  obtain ⟨h1, h2, h3⟩ := h
  obtain ⟨i1, i2⟩ := h3.strict
  rw [mJ]
  refine ⟨List.pairwise_cons.2 ⟨fun z hz => ?_, List.pairwise_cons.2 ⟨i2, i1⟩⟩, fun z hz => ?_⟩
  ·rcases List.mem_cons.1 hz with rfl | hz
   ·exact h2
   ·have := i2 z hz; omega
  ·rcases List.mem_cons.1 hz with rfl | hz
   ·exact h1
   ·rcases List.mem_cons.1 hz with rfl | hz
    ·omega
    ·have := i2 z hz; omega
theorem DL : ∀ (l : List Int) (lo : Int), l.Pairwise (fun x y => x < y) → (∀ z ∈ l, lo < z) → (l.length % 2 == 1) = false → ∃ C, Can lo C ∧ dm C = l
 | [], _, _, _, _ => ⟨[], trivial, rfl⟩
 | [a], _, _, _, h => by simp at h
 | a :: b :: l, lo, h1, h2, h3 => by
  have k := List.pairwise_cons.1 h1
  have k2 := List.pairwise_cons.1 k.2
  obtain ⟨C, c1, c2⟩ := DL l b k2.2 k2.1 (by rw [List.length_cons, List.length_cons, Bh, Bh, Bool.not_not] at h3; exact h3)
  exact ⟨(a, b) :: C, ⟨h2 a (by simp), k.1 b (by simp), c1⟩, by rw [mJ, c2]⟩
theorem vo {α : Type} (x : α) (l : List α) : cut (x :: l) 1 ((x :: l).length : Int) = some l := by
 unfold cut
 rw [if_pos ⟨by omega, by simp; omega, by omega⟩]
 simp
structure K4 (k : Bool → Bool → Bool) (a b out : List Int) (inA Cz : Bool) (r : List Int) : Prop where
 strict : r.Pairwise fun x y => x < y
 mem : ∀ z ∈ r, z ∈ out ∨ z ∈ a ∨ z ∈ b
 len : r.length ≤ out.length + a.length + b.length
 hi : ∀ z, (∀ o ∈ out, o ≤ z) → par z r = k (xor inA (par z a)) (xor Cz (par z b))
 lo : ∀ z, (∃ o ∈ out, z < o) → par z r = par z out
theorem wO {k : Bool → Bool → Bool} {f : Bool → Bool → Option Bool} (hf : ∀ a b, f a b = some (k a b)) {m : Nat} {a b a1 b1 out : List Int} {inA Cz inA1 inB1 is : Bool} {X : Int}
  (ih : ∀ (out : List Int) (is : Bool), out.Pairwise (fun x y => x < y) → (∀ o ∈ out, (∀ x ∈ a1, o < x) ∧ ∀ x ∈ b1, o < x) → is = k inA1 inB1 → is = (out.length % 2 == 1) → out.length + a1.length + b1.length ≤ 4000000000 → ∃ r, eU f m a1 b1 out inA1 inB1 is = some r ∧ K4 k a1 b1 out inA1 inB1 r)
  (hs : out.Pairwise fun x y => x < y) (ho : ∀ o ∈ out, o < X) (ha1 : ∀ x ∈ a1, X < x) (hb1 : ∀ x ∈ b1, X < x) (hi : is = k inA Cz) (hp : is = (out.length % 2 == 1)) (hl : out.length + a1.length + b1.length + 1 ≤ out.length + a.length + b.length) (hl2 : out.length + a.length + b.length ≤ 4000000000)
  (pa : ∀ z, X ≤ z → xor inA (par z a) = xor inA1 (par z a1)) (pb : ∀ z, X ≤ z → xor Cz (par z b) = xor inB1 (par z b1)) (pa0 : ∀ z, z < X → par z a = false) (pb0 : ∀ z, z < X → par z b = false)
  (hm : ∀ z, z ∈ a1 → z ∈ a) (hm2 : ∀ z, z ∈ b1 → z ∈ b) (hX : X ∈ a ∨ X ∈ b) :
  ∃ r, lV f out is (eU f m) X a1 inA1 b1 inB1 = some r ∧ K4 k a b out inA Cz r := by
 unfold lV
 rw [hf, Option.bind_some]
 by_cases hk : k inA1 inB1 = is
 ·rw [if_neg (by simp [hk])]
  obtain ⟨r, h1, h2⟩ := ih out is hs (fun o h => ⟨fun x hx => by have := ho o h; have := ha1 x hx; omega, fun x hx => by have := ho o h; have := hb1 x hx; omega⟩) hk.symm hp (by omega)
  refine ⟨r, h1, h2.strict, fun z hz => ?_, by have := h2.len; omega, fun z hz => ?_, h2.lo⟩
  ·rcases h2.mem z hz with h | h | h
   ·exact .inl h
   ·exact .inr (.inl (hm z h))
   ·exact .inr (.inr (hm2 z h))
  ·rw [h2.hi z hz]
   by_cases hxz : X ≤ z
   ·rw [pa z hxz, pb z hxz]
   ·rw [pa0 z (by omega), pb0 z (by omega), xG fun x hx => by have := ha1 x hx; omega, xG fun x hx => by have := hb1 x hx; omega, Bool.xor_false, Bool.xor_false, Bool.xor_false, Bool.xor_false, hk, hi]
 ·rw [if_pos (by simpa using hk), lU (by simp; omega), Option.bind_some]
  obtain ⟨r, h1, h2⟩ := ih (out ++ [X]) (k inA1 inB1) (List.pairwise_append.2 ⟨hs, List.pairwise_singleton _ _, fun o h x hx => by simp at hx; subst hx; exact ho o h⟩) (fun o h => by
   rcases List.mem_append.1 h with h | h
   ·exact ⟨fun x hx => by have := ho o h; have := ha1 x hx; omega, fun x hx => by have := ho o h; have := hb1 x hx; omega⟩
   ·simp at h; subst h; exact ⟨ha1, hb1⟩) rfl (by
   rw [List.length_append, List.length_singleton, Bh, ← hp]
   cases hv : k inA1 inB1 <;> cases is <;> simp_all) (by simp; omega)
  refine ⟨r, h1, h2.strict, fun z hz => ?_, by have := h2.len; simp at this; omega, fun z hz => ?_, fun z hz => ?_⟩
  ·rcases h2.mem z hz with h | h | h
   ·rcases List.mem_append.1 h with h | h
    ·exact .inl h
    ·simp at h; subst h
     rcases hX with h | h
     ·exact .inr (.inl h)
     ·exact .inr (.inr h)
   ·exact .inr (.inl (hm z h))
   ·exact .inr (.inr (hm2 z h))
  ·by_cases hxz : X ≤ z
   ·rw [h2.hi z (fun o h => by
     rcases List.mem_append.1 h with h | h
     ·exact hz o h
     ·simp at h; omega), pa z hxz, pb z hxz]
   ·rw [h2.lo z ⟨X, by simp, by omega⟩, Ae, pa0 z (by omega), pb0 z (by omega), Bool.xor_false, Bool.xor_false, BR hz, ← hp, hi, xG (l := [X]) (fun x hx => by simp at hx; omega), Bool.xor_false]
  ·obtain ⟨o, h, hzo⟩ := hz
   rw [h2.lo z ⟨o, by simp [h], hzo⟩, Ae, xG (l := [X]) (fun x hx => by simp at hx; have := ho o h; omega), Bool.xor_false]
theorem zA {k : Bool → Bool → Bool} {f : Bool → Bool → Option Bool} (hf : ∀ a b, f a b = some (k a b)) : ∀ (m : Nat) (a b out : List Int) (inA Cz is : Bool), a.length + b.length < m → a.Pairwise (fun x y => x < y) → b.Pairwise (fun x y => x < y) → out.Pairwise (fun x y => x < y) → (∀ o ∈ out, (∀ x ∈ a, o < x) ∧ ∀ x ∈ b, o < x) → is = k inA Cz → is = (out.length % 2 == 1) → out.length + a.length + b.length ≤ 4000000000 →
  ∃ r, eU f m a b out inA Cz is = some r ∧ K4 k a b out inA Cz r
 | 0, _, _, _, _, _, _, h, _, _, _, _, _, _, _ => absurd h (Nat.not_lt_zero _)
 | m + 1, [], [], out, inA, Cz, is, _, _, _, hs, _, hi, hp, _ => by
  rw [eU.eq_2, if_neg (by simp)]
  exact ⟨out, rfl, hs, fun z hz => .inl hz, by simp, fun z hz => by rw [BR hz, ← hp, hi]; simp [par], fun _ _ => rfl⟩
 | m + 1, x :: a, [], out, inA, Cz, is, hm, sa, sb, hs, ho, hi, hp, hl => by
  have ha := List.pairwise_cons.1 sa
  rw [eU.eq_2, if_pos (by simp), if_pos (by simp), Option.bind_some, if_pos rfl, show idx (x :: a) 0 = some x from rfl, Option.bind_some]
  unfold jH
  rw [if_pos (by simp), show idx (x :: a) 0 = some x from rfl, Option.bind_some, Option.bind_some, if_pos (by simp), vo, Option.bind_some]
  unfold ky
  rw [if_neg (by simp), Option.bind_some, if_neg (by simp)]
  simp only [List.length_cons, List.length_nil] at hm hl
  refine wO (m := m) (a := x :: a) (b := []) hf (fun o i k1 k2 k3 k4 k5 => zA hf m a [] o (!inA) Cz i (by simp; omega) ha.2 sb k1 k2 k3 k4 k5) hs (fun o h => (ho o h).1 x (by simp)) ha.1 (by simp) hi hp (by simp; omega) (by simp; omega) (fun z hz => ?_) (fun _ _ => rfl) (fun z hz => xG fun y hy => ?_) (fun _ _ => rfl) (fun z h => by simp [h]) (fun z h => h) (.inl (by simp))
  ·rw [par, decide_eq_true hz]; cases inA <;> cases par z a <;> rfl
  ·rcases List.mem_cons.1 hy with rfl | hy
   ·exact hz
   ·have := ha.1 y hy; omega
 | m + 1, [], y :: b, out, inA, Cz, is, hm, sa, sb, hs, ho, hi, hp, hl => by
  have hb := List.pairwise_cons.1 sb
  rw [eU.eq_2, if_pos (by simp), if_neg (by simp; omega), if_neg (by simp), Option.bind_some, Option.bind_some, if_neg (by simp), show idx (y :: b) 0 = some y from rfl, Option.bind_some]
  unfold jH
  rw [if_neg (by simp), Option.bind_some, if_neg (by simp)]
  unfold ky
  rw [if_pos (by simp), show idx (y :: b) 0 = some y from rfl, Option.bind_some, Option.bind_some, if_pos (by simp), vo, Option.bind_some]
  simp only [List.length_cons, List.length_nil] at hm hl
  refine wO (m := m) (a := []) (b := y :: b) hf (fun o i k1 k2 k3 k4 k5 => zA hf m [] b o inA (!Cz) i (by simp; omega) sa hb.2 k1 k2 k3 k4 k5) hs (fun o h => (ho o h).2 y (by simp)) (by simp) hb.1 hi hp (by simp; omega) (by simp; omega) (fun _ _ => rfl) (fun z hz => ?_) (fun _ _ => rfl) (fun z hz => xG fun x hx => ?_) (fun z h => h) (fun z h => by simp [h]) (.inr (by simp))
  ·rw [par, decide_eq_true hz]; cases Cz <;> cases par z b <;> rfl
  ·rcases List.mem_cons.1 hx with rfl | hx
   ·exact hz
   ·have := hb.1 x hx; omega
 | m + 1, x :: a, y :: b, out, inA, Cz, is, hm, sa, sb, hs, ho, hi, hp, hl => by
  have ha := List.pairwise_cons.1 sa
  have hb := List.pairwise_cons.1 sb
  have e1 : idx (x :: a) 0 = some x := rfl
  have e2 : idx (y :: b) 0 = some y := rfl
  simp only [List.length_cons] at hm hl
  rw [eU.eq_2, if_pos (by simp), if_neg (by simp; omega), if_pos (by simp), e1, Option.bind_some, e2, Option.bind_some, Option.bind_some, Option.bind_some]
  simp only [Option.bind_some]
  have hxa : ∀ z, x ≤ z → xor inA (par z (x :: a)) = xor (!inA) (par z a) := fun z hz => by rw [par, decide_eq_true hz]; cases inA <;> cases par z a <;> rfl
  have hyb : ∀ z, y ≤ z → xor Cz (par z (y :: b)) = xor (!Cz) (par z b) := fun z hz => by rw [par, decide_eq_true hz]; cases Cz <;> cases par z b <;> rfl
  have hax : ∀ z, z < x → par z (x :: a) = false := fun z hz => xG fun v hv => by
   rcases List.mem_cons.1 hv with rfl | hv
   ·exact hz
   ·have := ha.1 v hv; omega
  have hby : ∀ z, z < y → par z (y :: b) = false := fun z hz => xG fun v hv => by
   rcases List.mem_cons.1 hv with rfl | hv
   ·exact hz
   ·have := hb.1 v hv; omega
  by_cases hxy : x ≤ y
  ·rw [if_pos (by simpa using hxy)]
   unfold jH
   rw [if_pos (by simp), e1, Option.bind_some, Option.bind_some, if_pos (by simp), vo, Option.bind_some]
   unfold ky
   rw [if_pos (by simp), e2, Option.bind_some, Option.bind_some]
   by_cases he : y = x
   ·subst he
    rw [if_pos (by simp), vo, Option.bind_some]
    exact wO (m := m) (a := y :: a) (b := y :: b) hf (fun o i k1 k2 k3 k4 k5 => zA hf m a b o (!inA) (!Cz) i (by omega) ha.2 hb.2 k1 k2 k3 k4 k5) hs (fun o h => (ho o h).1 y (by simp)) ha.1 hb.1 hi hp (by simp; omega) (by simp; omega) hxa hyb hax hby (fun z h => by simp [h]) (fun z h => by simp [h]) (.inl (by simp))
   ·rw [if_neg (by simpa using he)]
    exact wO (m := m) (a := x :: a) (b := y :: b) hf (fun o i k1 k2 k3 k4 k5 => zA hf m a (y :: b) o (!inA) Cz i (by simp; omega) ha.2 sb k1 k2 k3 k4 k5) hs (fun o h => (ho o h).1 x (by simp)) ha.1 (fun v hv => by
     rcases List.mem_cons.1 hv with rfl | hv
     ·omega
     ·have := hb.1 v hv; omega) hi hp (by simp; omega) (by simp; omega) hxa (fun _ _ => rfl) hax (fun z hz => hby z (by omega)) (fun z h => by simp [h]) (fun z h => h) (.inl (by simp))
  ·rw [if_neg (by simpa using hxy)]
   unfold jH
   rw [if_pos (by simp), e1, Option.bind_some, Option.bind_some, if_neg (by simp; omega)]
   unfold ky
   rw [if_pos (by simp), e2, Option.bind_some, Option.bind_some, if_pos (by simp), vo, Option.bind_some]
   exact wO (m := m) (a := x :: a) (b := y :: b) hf (fun o i k1 k2 k3 k4 k5 => zA hf m (x :: a) b o inA (!Cz) i (by simp; omega) sa hb.2 k1 k2 k3 k4 k5) hs (fun o h => (ho o h).2 y (by simp)) (fun v hv => by
     rcases List.mem_cons.1 hv with rfl | hv
     ·omega
     ·have := ha.1 v hv; omega) hb.1 hi hp (by simp; omega) (by simp; omega) (fun _ _ => rfl) hyb (fun z hz => hax z (by omega)) hby (fun z h => h) (fun z h => by simp [h]) (.inr (by simp))
theorem Rt : ∀ l : List Int, ∃ z, ∀ a ∈ l, a ≤ z
 | [] => ⟨0, by simp⟩
 | b :: l => by
  obtain ⟨z, h⟩ := Rt l
  refine ⟨max z b, fun a ha => ?_⟩
  rcases List.mem_cons.1 ha with rfl | ha
  ·omega
  ·have := h a ha; omega
theorem RG : ∀ l : List Int, ∃ z, ∀ a ∈ l, z < a
 | [] => ⟨0, by simp⟩
 | b :: l => by
  obtain ⟨z, h⟩ := RG l
  refine ⟨min z (b - 1), fun a ha => ?_⟩
  rcases List.mem_cons.1 ha with rfl | ha
  ·omega
  ·have := h a ha; omega
theorem Jp (n : Nat) : (2 * n % 2 == 1) = false := by
 have : 2 * n % 2 = 0 := by omega
 rw [this]; rfl
theorem Hl {k : Bool → Bool → Bool} {f : Bool → Bool → Option Bool} (hf : ∀ a b, f a b = some (k a b)) (hk : k false false = false) {N : Nat} {l m : List (Int × Int)} (hl : ∃ lo, Can lo l) (hm : ∃ lo, Can lo m) (hlen : 2 * l.length + 2 * m.length < N) (hlen2 : 2 * l.length + 2 * m.length ≤ 4000000000) :
  ∃ C, kV N (dm l) (dm m) f = some (dm C) ∧ (∃ lo, Can lo C) ∧ C.length ≤ l.length + m.length ∧ ∀ x, lL x C ↔ ∃ p q, (p = true ↔ lL x l) ∧ (q = true ↔ lL x m) ∧ k p q = true := by
 obtain ⟨lo1, c1⟩ := hl
 obtain ⟨lo2, c2⟩ := hm
 obtain ⟨r, h1, h2⟩ := zA hf N (dm l) (dm m) [] false false false (by rw [gK, gK]; exact hlen) c1.strict.1 c2.strict.1 List.Pairwise.nil (by simp) hk.symm rfl (by rw [gK, gK]; simpa using hlen2)
 have hpar : ∀ z, par z r = k (par z (dm l)) (par z (dm m)) := fun z => by
  have := h2.hi z (by simp)
  rw [Bool.false_xor, Bool.false_xor] at this
  exact this
 have hodd : (r.length % 2 == 1) = false := by
  obtain ⟨z, hz⟩ := Rt (r ++ dm l ++ dm m)
  rw [← BR (x := z) (l := r) (fun a ha => hz a (by simp [ha])), hpar z, BR (x := z) (l := dm l) (fun a ha => hz a (by simp [ha])), BR (x := z) (l := dm m) (fun a ha => hz a (by simp [ha])), gK, gK, Jp, Jp, hk]
 obtain ⟨lo, hlo⟩ := RG r
 obtain ⟨C, d1, d2⟩ := DL r lo h2.strict hlo hodd
 refine ⟨C, by rw [d2]; exact h1, ⟨lo, d1⟩, ?_, fun x => ?_⟩
 ·have := h2.len
  rw [← d2, gK, gK, gK] at this
  simp at this
  omega
 ·rw [zJ d1, d2, hpar]
  constructor
  ·intro h
   exact ⟨_, _, (zJ c1).symm, (zJ c2).symm, h⟩
  ·rintro ⟨p, q, hp, hq, h⟩
   have e1 : p = par x (dm l) := by rw [Bool.eq_iff_iff, hp, zJ c1]
   have e2 : q = par x (dm m) := by rw [Bool.eq_iff_iff, hq, zJ c2]
   rw [← e1, ← e2]; exact h
open PX
def On (s : Sd) (e : Ed) : Prop := ∃ i, i < s.2 ∧ qm s.1 i = e
def Dj (s t : Sd) : Prop := ∀ e, On s e → ¬ On t e
theorem Ql {I : Sq} {L : List Sd} (hp : ∀ s ∈ L, 0 < s.2) (hon : ∀ e, (∃ s ∈ L, On s e) ↔ sF I e) (hd : L.Pairwise Dj) : nP I L where
 pos := hp
 bor := fun s hs i hi => (hon _).1 ⟨s, hs, i, hi, rfl⟩
 all := fun e he => (hon e).2 he
 once := fun a b s t ha hb i j hi hj he => by
  obtain ⟨ha', rfl⟩ := List.getElem?_eq_some_iff.1 ha
  obtain ⟨hb', rfl⟩ := List.getElem?_eq_some_iff.1 hb
  rw [List.pairwise_iff_getElem] at hd
  rcases Nat.lt_trichotomy a b with h | h | h
  ·exact absurd ⟨j, hj, rfl⟩ (hd a b ha' hb' h _ ⟨i, hi, he⟩)
  ·exact h
  ·exact absurd ⟨i, hi, rfl⟩ (hd b a hb' ha' h _ ⟨j, hj, he.symm⟩)
def RA (y0 y1 : Int) (p : Int × Int) : Sd := (⟨p.1, y1, .S⟩, (y1 - y0).toNat)
def RB (y0 y1 : Int) (p : Int × Int) : Sd := (⟨p.2, y0, .N⟩, (y1 - y0).toNat)
def Rz (y : Int) (p : Int × Int) : Sd := (⟨p.2, y, .W⟩, (p.2 - p.1).toNat)
def Sk (y : Int) (p : Int × Int) : Sd := (⟨p.1, y, .E⟩, (p.2 - p.1).toNat)
theorem Ku {y0 y1 : Int} {p : Int × Int} {e : Ed} : On (RA y0 y1 p) e ↔ e.d = .S ∧ e.x = p.1 ∧ y0 < e.y ∧ e.y ≤ y1 := by
 unfold On RA qm
 constructor
 ·rintro ⟨i, hi, rfl⟩
  simp only [Dir.dx, Dir.dy] at *
  exact ⟨trivial, by omega, by omega, by omega⟩
 ·rintro ⟨h1, h2, h3, h4⟩
  refine ⟨(y1 - e.y).toNat, by simp only; omega, Ed.ext' ?_ ?_ h1.symm⟩ <;> simp only [Dir.dx, Dir.dy] <;> omega
theorem Kv {y0 y1 : Int} {p : Int × Int} {e : Ed} : On (RB y0 y1 p) e ↔ e.d = .N ∧ e.x = p.2 ∧ y0 ≤ e.y ∧ e.y < y1 := by
 unfold On RB qm
 constructor
 ·rintro ⟨i, hi, rfl⟩
  simp only [Dir.dx, Dir.dy] at *
  exact ⟨trivial, by omega, by omega, by omega⟩
 ·rintro ⟨h1, h2, h3, h4⟩
  refine ⟨(e.y - y0).toNat, by simp only; omega, Ed.ext' ?_ ?_ h1.symm⟩ <;> simp only [Dir.dx, Dir.dy] <;> omega
theorem Ow {y : Int} {p : Int × Int} {e : Ed} : On (Rz y p) e ↔ e.d = .W ∧ e.y = y ∧ p.1 < e.x ∧ e.x ≤ p.2 := by
 unfold On Rz qm
 constructor
 ·rintro ⟨i, hi, rfl⟩
  simp only [Dir.dx, Dir.dy] at *
  exact ⟨trivial, by omega, by omega, by omega⟩
 ·rintro ⟨h1, h2, h3, h4⟩
  refine ⟨(p.2 - e.x).toNat, by simp only; omega, Ed.ext' ?_ ?_ h1.symm⟩ <;> simp only [Dir.dx, Dir.dy] <;> omega
theorem Ox {y : Int} {p : Int × Int} {e : Ed} : On (Sk y p) e ↔ e.d = .E ∧ e.y = y ∧ p.1 ≤ e.x ∧ e.x < p.2 := by
 unfold On Sk qm
 constructor
 ·rintro ⟨i, hi, rfl⟩
  simp only [Dir.dx, Dir.dy] at *
  exact ⟨trivial, by omega, by omega, by omega⟩
 ·rintro ⟨h1, h2, h3, h4⟩
  refine ⟨(e.x - p.1).toNat, by simp only; omega, Ed.ext' ?_ ?_ h1.symm⟩ <;> simp only [Dir.dx, Dir.dy] <;> omega
open Classical in
noncomputable def yf (A B : List (Int × Int)) : List (Int × Int) := if h : ∃ C, (∃ lo, Can lo C) ∧ ∀ x, lL x C ↔ lL x A ∧ ¬ lL x B then Classical.choose h else []
theorem Jr {A B C : List (Int × Int)} (h1 : ∃ lo, Can lo C) (h2 : ∀ x, lL x C ↔ lL x A ∧ ¬ lL x B) : yf A B = C := by
 have h : ∃ C, (∃ lo, Can lo C) ∧ ∀ x, lL x C ↔ lL x A ∧ ¬ lL x B := ⟨C, h1, h2⟩
 unfold yf
 rw [dif_pos h]
 obtain ⟨g1, g2⟩ := Classical.choose_spec h
 exact KQ g1 h1 fun x => by rw [g2, h2]
structure K8 (A B C : List (Int × Int)) : Prop where
 can : ∃ lo, Can lo C
 mem : ∀ x, lL x C ↔ lL x A ∧ ¬ lL x B
 len : C.length ≤ A.length + B.length
theorem Ja {N : Nat} {A B : List (Int × Int)} (hN : 10000000000 ≤ N) (hA : ∃ lo, Can lo A) (hB : ∃ lo, Can lo B) (hl : A.length + B.length ≤ 1000000000) : K8 A B (yf A B) ∧ kV N (dm A) (dm B) iZ = some (dm (yf A B)) := by
 obtain ⟨C, h1, h2, h3, h4⟩ := Hl (k := fun a b => a && !b) (f := iZ) (fun a b => rfl) rfl (N := N) hA hB (by omega) (by omega)
 have h5 : ∀ x, lL x C ↔ lL x A ∧ ¬ lL x B := fun x => by
  rw [h4]
  constructor
  ·rintro ⟨p, q, g1, g2, g3⟩
   simp only [Bool.and_eq_true, Bool.not_eq_true'] at g3
   exact ⟨g1.1 g3.1, fun hh => by have := g2.2 hh; rw [g3.2] at this; cases this⟩
  ·rintro ⟨g1, g2⟩
   exact ⟨true, false, by simp [g1], by simp [g2], rfl⟩
 rw [Jr h2 h5]
 exact ⟨⟨h2, h5, h3⟩, h1⟩
theorem OE {N : Nat} {A B : List (Int × Int)} (hN : 10000000000 ≤ N) (hA : ∃ lo, Can lo A) (hB : ∃ lo, Can lo B) (hl : A.length + B.length ≤ 1000000000) : K8 B A (yf B A) ∧ kV N (dm A) (dm B) iY = some (dm (yf B A)) := by
 obtain ⟨C, h1, h2, h3, h4⟩ := Hl (k := fun a b => b && !a) (f := iY) (fun a b => rfl) rfl (N := N) hA hB (by omega) (by omega)
 have h5 : ∀ x, lL x C ↔ lL x B ∧ ¬ lL x A := fun x => by
  rw [h4]
  constructor
  ·rintro ⟨p, q, g1, g2, g3⟩
   simp only [Bool.and_eq_true, Bool.not_eq_true'] at g3
   exact ⟨g2.1 g3.1, fun hh => by have := g1.2 hh; rw [g3.2] at this; cases this⟩
  ·rintro ⟨g1, g2⟩
   exact ⟨false, true, by simp [g2], by simp [g1], rfl⟩
 rw [Jr h2 h5]
 exact ⟨⟨h2, h5, by omega⟩, h1⟩
noncomputable def hz (y : Int) (A B : List (Int × Int)) : List Sd := (yf A B).map (Rz y) ++ (yf B A).map (Sk y)
def vt (b : Bd) : List Sd := b.2.2.flatMap fun p => [RA b.1 b.2.1 p, RB b.1 b.2.1 p]
def xI (prev : Option Bd) (b : Bd) : List (Int × Int) := match prev with
 | none => []
 | some c => if c.2.1 < b.1 then [] else c.2.2
noncomputable def xu (b : Bd) (rest : List Bd) : List Sd := match rest with
 | [] => hz b.2.1 b.2.2 []
 | c :: _ => if b.2.1 < c.1 then hz b.2.1 b.2.2 [] else []
noncomputable def mU : Option Bd → List Bd → List Sd
 | _, [] => []
 | prev, b :: rest => vt b ++ hz b.1 (xI prev b) b.2.2 ++ xu b rest ++ mU (some b) rest
theorem TT {y0 y1 : Int} {p : Int × Int} (h : y0 < y1) : toS (RA y0 y1 p) = ⟨⟨p.1, y1⟩, ⟨p.1, y0⟩⟩ := by
 unfold toS qR RA qm ig Ed.p
 simp only [Dir.dx, Dir.dy, fE.mk.injEq, au.mk.injEq]
 exact ⟨trivial, by omega, by omega⟩
theorem TU {y0 y1 : Int} {p : Int × Int} (h : y0 < y1) : toS (RB y0 y1 p) = ⟨⟨p.2, y0⟩, ⟨p.2, y1⟩⟩ := by
 unfold toS qR RB qm ig Ed.p
 simp only [Dir.dx, Dir.dy, fE.mk.injEq, au.mk.injEq]
 exact ⟨trivial, by omega, by omega⟩
theorem TS {y : Int} {p : Int × Int} (h : p.1 < p.2) : toS (Rz y p) = ⟨⟨p.2, y⟩, ⟨p.1, y⟩⟩ := by
 unfold toS qR Rz qm ig Ed.p
 simp only [Dir.dx, Dir.dy, fE.mk.injEq, au.mk.injEq]
 exact ⟨trivial, by omega, by omega⟩
theorem TV {y : Int} {p : Int × Int} (h : p.1 < p.2) : toS (Sk y p) = ⟨⟨p.1, y⟩, ⟨p.2, y⟩⟩ := by
 unfold toS qR Sk qm ig Ed.p
 simp only [Dir.dx, Dir.dy, fE.mk.injEq, au.mk.injEq]
 exact ⟨trivial, by omega, by omega⟩
theorem EA (pre suf : List (Int × Int)) (p : Int × Int) : idx (dm (pre ++ p :: suf)) ((2 * pre.length : Nat) : Int) = some p.1 := by
 have h := jE (dm pre) (p.2 :: dm suf) p.1
 rw [gK] at h
 rw [oJ, mJ]; exact h
theorem Ez (pre suf : List (Int × Int)) (p : Int × Int) : idx (dm (pre ++ p :: suf)) ((2 * pre.length + 1 : Nat) : Int) = some p.2 := by
 have h := jE (dm pre ++ [p.1]) (dm suf) p.2
 rw [List.length_append, gK, List.length_singleton, List.append_assoc] at h
 rw [oJ, mJ]; exact h
theorem zo {a b c d : Int} {out : List fE} (h : out.length < 1000000000) : iT a b c d out = some (out ++ [⟨⟨a, b⟩, ⟨c, d⟩⟩]) := by
 unfold iT
 rw [lU (by simp; omega)]; rfl
theorem vg {l : List (Int × Int)} {C pre suf : List (Int × Int)} (h : C = pre ++ suf) : (dm C).length = 2 * pre.length + 2 * suf.length := by rw [h, gK, List.length_append]; omega
theorem Dn {l : List (Int × Int)} (h : ∃ lo, Can lo l) : ∀ p ∈ l, p.1 < p.2 := fun p hp => by
 obtain ⟨lo, h⟩ := h
 exact (h.mem p hp).2
theorem Gd {y : Int} {C : List (Int × Int)} (hC : ∀ p ∈ C, p.1 < p.2) (hl : C.length ≤ 1000000000) : ∀ (suf pre : List (Int × Int)) (m : Nat) (out : List Sd), C = pre ++ suf → suf.length < m → out.length + suf.length ≤ 100000000 →
  dO y (dm C) m (out.map toS) ((2 * pre.length : Nat) : Int) = some ((out ++ suf.map (Sk y)).map toS)
 | _, _, 0, _, _, hm, _ => absurd hm (Nat.not_lt_zero _)
 | [], pre, m + 1, out, h, _, _ => by
  rw [dO.eq_2, if_neg (by rw [vg (l := C) h]; simp)]; simp
 | p :: suf, pre, m + 1, out, h, hm, ho => by
  have hpl : pre.length ≤ 1000000000 := by rw [h] at hl; simp at hl; omega
  rw [dO.eq_2, if_pos (by rw [vg (l := C) h]; simp; omega)]
  have e1 : bG (((2 * pre.length : Nat) : Int) + 1) = ((2 * pre.length + 1 : Nat) : Int) := by rw [bU (by omega) (by omega)]; omega
  have e2 : bG (((2 * pre.length : Nat) : Int) + 2) = ((2 * (pre ++ [p]).length : Nat) : Int) := by rw [bU (by omega) (by omega)]; simp; omega
  have i1 := EA pre suf p
  have i2 := Ez pre suf p
  rw [← h] at i1 i2
  simp only [List.length_cons] at hm ho
  rw [e1, e2, i1, Option.bind_some, i2, Option.bind_some, zo (by rw [List.length_map]; omega), Option.bind_some]
  have := Gd (y := y) hC hl suf (pre ++ [p]) m (out ++ [Sk y p]) (by rw [h]; simp) (by omega) (by simp; omega)
  rw [List.map_append, List.map_singleton, TV (hC p (by rw [h]; simp))] at this
  rw [this]; simp
theorem Fx {N : Nat} {y : Int} {A B : List Int} {C : List (Int × Int)} (hC : ∀ p ∈ C, p.1 < p.2) (hl : C.length ≤ 1000000000) : ∀ (suf pre : List (Int × Int)) (m : Nat) (out : List Sd), C = pre ++ suf → suf.length < m → out.length + suf.length ≤ 100000000 →
  eG N y A B (dm C) m (out.map toS) ((2 * pre.length : Nat) : Int) = (kV N A B iY).bind fun U8 => dO y U8 N ((out ++ suf.map (Rz y)).map toS) 0
 | _, _, 0, _, _, hm, _ => absurd hm (Nat.not_lt_zero _)
 | [], pre, m + 1, out, h, _, _ => by
  rw [eG.eq_2, if_neg (by rw [vg (l := C) h]; simp)]; simp
 | p :: suf, pre, m + 1, out, h, hm, ho => by
  have hpl : pre.length ≤ 1000000000 := by rw [h] at hl; simp at hl; omega
  rw [eG.eq_2, if_pos (by rw [vg (l := C) h]; simp; omega)]
  have e1 : bG (((2 * pre.length : Nat) : Int) + 1) = ((2 * pre.length + 1 : Nat) : Int) := by rw [bU (by omega) (by omega)]; omega
  have e2 : bG (((2 * pre.length : Nat) : Int) + 2) = ((2 * (pre ++ [p]).length : Nat) : Int) := by rw [bU (by omega) (by omega)]; simp; omega
  have i1 := EA pre suf p
  have i2 := Ez pre suf p
  rw [← h] at i1 i2
  simp only [List.length_cons] at hm ho
  rw [e1, e2, i2, Option.bind_some, i1, Option.bind_some, zo (by rw [List.length_map]; omega), Option.bind_some]
  have := Fx (N := N) (y := y) (A := A) (B := B) hC hl suf (pre ++ [p]) m (out ++ [Rz y p]) (by rw [h]; simp) (by omega) (by simp; omega)
  rw [List.map_append, List.map_singleton, TS (hC p (by rw [h]; simp))] at this
  rw [this]; simp
theorem LV {N : Nat} {y : Int} {A B : List (Int × Int)} {out : List Sd} (hN : 10000000000 ≤ N) (hA : ∃ lo, Can lo A) (hB : ∃ lo, Can lo B) (hl : A.length + B.length ≤ 1000000000) (ho : (out ++ hz y A B).length ≤ 100000000) :
  fG N y (dm A) (dm B) (out.map toS) = some ((out ++ hz y A B).map toS) := by
 obtain ⟨d1, d2⟩ := Ja hN hA hB hl
 obtain ⟨d3, d4⟩ := OE hN hA hB hl
 unfold hz at ho
 simp only [List.length_append, List.length_map] at ho
 unfold fG
 show (kV N (dm A) (dm B) iZ).bind _ = _
 rw [d2, Option.bind_some]
 have h1 := Fx (N := N) (y := y) (A := dm A) (B := dm B) (Dn d1.can) (by have := d1.len; omega) (yf A B) [] N out rfl (by have := d1.len; omega) (by omega)
 have h2 := Gd (y := y) (Dn d3.can) (by have := d3.len; omega) (yf B A) [] N (out ++ (yf A B).map (Rz y)) rfl (by have := d3.len; omega) (by simp; omega)
 have e0 : ((2 * ([] : List (Int × Int)).length : Nat) : Int) = 0 := rfl
 rw [e0] at h1 h2
 rw [h1, d4, Option.bind_some, h2]
 unfold hz
 rw [List.append_assoc]
theorem Lc {N : Nat} {p0 : List aV} {k : List fE → Option (List fE)} {b : Bd} {i : Nat} (hb : b.1 < b.2.1) (hl : b.2.2.length ≤ 1000000000) : ∀ (suf pre : List (Int × Int)) (m : Nat) (out : List Sd), b.2.2 = pre ++ suf → suf.length < m → out.length + 2 * suf.length ≤ 100000000 →
  fP N p0 k (toP b) i m (out.map toS) ((2 * pre.length : Nat) : Int) = fP N p0 k (toP b) i 1 ((out ++ suf.flatMap fun p => [RA b.1 b.2.1 p, RB b.1 b.2.1 p]).map toS) ((2 * b.2.2.length : Nat) : Int)
 | _, _, 0, _, _, hm, _ => absurd hm (Nat.not_lt_zero _)
 | [], pre, m + 1, out, h, _, _ => by
  have e : b.2.2.length = pre.length := by rw [h]; simp
  have hx : (toP b).Xs = dm b.2.2 := rfl
  rw [fP.eq_2, fP.eq_2, e, hx, if_neg (by rw [vg (l := b.2.2) h]; simp), if_neg (c := decide (((2 * pre.length : Nat) : Int) < ((dm b.2.2).length : Int)) = true) (by rw [vg (l := b.2.2) h]; simp)]; simp
 | p :: suf, pre, m + 1, out, h, hm, ho => by
  have hpl : pre.length ≤ 1000000000 := by rw [h] at hl; simp at hl; omega
  have hx : (toP b).Xs = dm b.2.2 := rfl
  have hy0 : (toP b).Y0 = b.1 := rfl
  have hy1 : (toP b).Y1 = b.2.1 := rfl
  rw [fP.eq_2, hx, hy0, hy1, if_pos (by rw [vg (l := b.2.2) h]; simp; omega)]
  have e1 : bG (((2 * pre.length : Nat) : Int) + 1) = ((2 * pre.length + 1 : Nat) : Int) := by rw [bU (by omega) (by omega)]; omega
  have e2 : bG (((2 * pre.length : Nat) : Int) + 2) = ((2 * (pre ++ [p]).length : Nat) : Int) := by rw [bU (by omega) (by omega)]; simp; omega
  have i1 := EA pre suf p
  have i2 := Ez pre suf p
  rw [← h] at i1 i2
  simp only [List.length_cons] at hm ho
  rw [e1, e2, i1, Option.bind_some, Option.bind_some, zo (by rw [List.length_map]; omega), Option.bind_some, i2, Option.bind_some, Option.bind_some, zo (by simp; omega), Option.bind_some]
  have := Lc (N := N) (p0 := p0) (k := k) (i := i) hb hl suf (pre ++ [p]) m (out ++ [RA b.1 b.2.1 p, RB b.1 b.2.1 p]) (by rw [h]; simp) (by omega) (by simp; omega)
  rw [List.map_append, List.map_cons, List.map_singleton, TT hb, TU hb] at this
  rw [show (out.map toS ++ [fE.mk ⟨p.1, b.2.1⟩ ⟨p.1, b.1⟩] ++ [fE.mk ⟨p.2, b.1⟩ ⟨p.2, b.2.1⟩]) = out.map toS ++ [fE.mk ⟨p.1, b.2.1⟩ ⟨p.1, b.1⟩, fE.mk ⟨p.2, b.1⟩ ⟨p.2, b.2.1⟩] from by simp, this]
  simp
theorem Hm {a b : List Sd} {n : Nat} (h : (a ++ b).length ≤ n) : a.length ≤ n := by rw [List.length_append] at h; omega
theorem Cw {N : Nat} (hN : 10000000000 ≤ N) {l : List Bd} (hl : l.length ≤ 1000000000) (hlo : ∀ b ∈ l, b.1 < b.2.1 ∧ b.2.2.length ≤ 100000000 ∧ ∃ lo, Can lo b.2.2) : ∀ (suf pre : List Bd) (out : List Sd), l = pre ++ suf → (out ++ mU pre.getLast? suf).length ≤ 100000000 →
  dn N (l.map toP) (suf.map toP) pre.length (out.map toS) = some ((out ++ mU pre.getLast? suf).map toS)
 | [], pre, out, _, _ => by
  show dn _ _ [] _ _ = _
  rw [dn.eq_1]
  unfold mU
  rw [List.append_nil]
 | b :: rest, pre, out, h, ho => by
  have hbm : b ∈ l := by rw [h]; simp
  obtain ⟨hb1, hb2, hb3⟩ := hlo b hbm
  have hpl : pre.length ≤ 1000000000 := by rw [h] at hl; simp at hl; omega
  unfold mU at ho ⊢
  have eA : out ++ (vt b ++ hz b.1 (xI pre.getLast? b) b.2.2 ++ xu b rest ++ mU (some b) rest) = (((out ++ vt b) ++ hz b.1 (xI pre.getLast? b) b.2.2) ++ xu b rest) ++ mU (some b) rest := by simp only [List.append_assoc]
  rw [eA] at ho ⊢
  have ho3 := Hm ho
  have ho2 := Hm ho3
  have ho1 := Hm ho2
  have hvl : (vt b).length = 2 * b.2.2.length := by
   unfold vt
   rw [List.length_flatMap]
   simp only [List.length_cons, List.length_nil]
   rw [List.map_const', List.sum_replicate_nat]; omega
  rw [List.map_cons, dn.eq_2]
  have hv := Lc (N := N) (p0 := l.map toP) (k := dn N (l.map toP) (rest.map toP) (pre.length + 1)) (b := b) (i := pre.length) hb1 (by omega) b.2.2 [] N out rfl (by omega) (by rw [List.length_append, hvl] at ho1; omega)
  have e0 : ((2 * ([] : List (Int × Int)).length : Nat) : Int) = 0 := rfl
  rw [e0] at hv
  have hx : (toP b).Xs = dm b.2.2 := rfl
  have hy0 : (toP b).Y0 = b.1 := rfl
  have hy1 : (toP b).Y1 = b.2.1 := rfl
  have hvt : (b.2.2.flatMap fun p => [RA b.1 b.2.1 p, RB b.1 b.2.1 p]) = vt b := rfl
  rw [hv, hvt, fP.eq_2, hx, hy0, if_neg (by rw [gK]; simp)]
  have hJ : jf N (l.map toP) (dn N (l.map toP) (rest.map toP) (pre.length + 1)) (toP b) pre.length ((out ++ vt b ++ hz b.1 (xI pre.getLast? b) b.2.2).map toS) = some ((out ++ vt b ++ hz b.1 (xI pre.getLast? b) b.2.2 ++ xu b rest ++ mU (some b) rest).map toS) := by
   have ih := Cw hN hl hlo rest (pre ++ [b]) (out ++ vt b ++ hz b.1 (xI pre.getLast? b) b.2.2 ++ xu b rest) (by rw [h]; simp) (by rw [List.getLast?_append]; exact ho)
   rw [List.getLast?_append, List.length_append] at ih
   have ih : dn N (l.map toP) (rest.map toP) (pre.length + 1) ((out ++ vt b ++ hz b.1 (xI pre.getLast? b) b.2.2 ++ xu b rest).map toS) = some ((out ++ vt b ++ hz b.1 (xI pre.getLast? b) b.2.2 ++ xu b rest ++ mU (some b) rest).map toS) := ih
   unfold jf
   have e1 : bG ((pre.length : Int) + 1) = ((pre ++ [b]).length : Int) := Gw pre b (by omega)
   have hz0 : ∀ {o : List Sd}, (o ++ hz b.2.1 b.2.2 []).length ≤ 100000000 → fG N b.2.1 (dm b.2.2) [] (o.map toS) = some ((o ++ hz b.2.1 b.2.2 []).map toS) := fun {o} ho => LV (B := []) hN hb3 ⟨0, trivial⟩ (by simp; omega) ho
   rw [e1, hx, hy1]
   cases rest with
   | nil =>
    rw [if_pos (by rw [h]; simp), Option.bind_some, if_pos rfl]
    have e2 : xu b [] = hz b.2.1 b.2.2 [] := rfl
    rw [e2] at ih ho3 ⊢
    rw [hz0 ho3, Option.bind_some]; exact ih
   | cons c rest =>
    have e3 : idx (l.map toP) ((pre ++ [b]).length : Int) = some (toP c) := by
     have := jE ((pre ++ [b]).map toP) (rest.map toP) (toP c)
     rw [List.length_map] at this
     rw [h, show pre ++ b :: c :: rest = (pre ++ [b]) ++ c :: rest by simp, List.map_append, List.map_cons]; exact this
    rw [if_neg (by rw [h]; simp; omega), e3, Option.bind_some, Option.bind_some]
    have e4 : (toP c).Y0 = c.1 := rfl
    rw [e4]
    by_cases hc : b.2.1 < c.1
    ·have e2 : xu b (c :: rest) = hz b.2.1 b.2.2 [] := if_pos hc
     rw [if_pos (by simpa using hc)]
     rw [e2] at ih ho3 ⊢
     rw [hz0 ho3, Option.bind_some]; exact ih
    ·have e2 : xu b (c :: rest) = [] := if_neg hc
     rw [if_neg (by simpa using hc)]
     rw [e2, List.append_nil] at ih ⊢
     exact ih
  rcases List.eq_nil_or_concat pre with hp | ⟨q, c, hp⟩
  ·subst hp
   rw [if_pos (by simp), Option.bind_some, if_pos rfl]
   have := LV (N := N) (y := b.1) (A := []) (B := b.2.2) (out := out ++ vt b) hN ⟨0, trivial⟩ hb3 (by simp; omega) ho2
   have e2 : dm [] = [] := rfl
   rw [e2] at this
   rw [this, Option.bind_some]
   exact hJ
  ·rw [List.concat_eq_append] at hp
   subst hp
   have hcm : c ∈ l := by rw [h]; simp
   obtain ⟨hc1, hc2, hc3⟩ := hlo c hcm
   have e1 : bG (((q ++ [c]).length : Int) - 1) = (q.length : Int) := by rw [bU (by omega) (by omega)]; simp
   have e3 : idx (l.map toP) (q.length : Int) = some (toP c) := by
    have := jE (q.map toP) ((b :: rest).map toP) (toP c)
    rw [List.length_map] at this
    rw [h, show (q ++ [c]) ++ b :: rest = q ++ c :: b :: rest by simp, List.map_append, List.map_cons]; exact this
   rw [if_neg (by simp; omega), e1, e3, Option.bind_some, Option.bind_some]
   have e4 : (toP c).Y1 = c.2.1 := rfl
   have e5 : (toP c).Xs = dm c.2.2 := rfl
   have e6 : (q ++ [c]).getLast? = some c := by simp
   rw [e4]
   rw [e6] at hJ ho2 ⊢
   by_cases hc : c.2.1 < b.1
   ·have e2 : xI (some c) b = [] := if_pos hc
    rw [e2] at hJ ho2 ⊢
    rw [if_pos (by simpa using hc)]
    have := LV (N := N) (y := b.1) (A := []) (B := b.2.2) (out := out ++ vt b) hN ⟨0, trivial⟩ hb3 (by simp; omega) ho2
    have e2 : dm [] = [] := rfl
    rw [e2] at this
    rw [this, Option.bind_some]
    exact hJ
   ·have e2 : xI (some c) b = c.2.2 := if_neg hc
    rw [e2] at hJ ho2 ⊢
    rw [if_neg (by simpa using hc), Option.bind_some, e5, LV (N := N) (y := b.1) (out := out ++ vt b) hN hc3 hb3 (by omega) ho2, Option.bind_some]
    exact hJ
theorem MZ {N : Nat} (hN : 10000000000 ≤ N) {l : List Bd} (hl : l.length ≤ 1000000000) (hlo : ∀ b ∈ l, b.1 < b.2.1 ∧ b.2.2.length ≤ 100000000 ∧ ∃ lo, Can lo b.2.2) (hlen : (mU none l).length ≤ 100000000) : oO N (l.map toP) = some ((mU none l).map toS) := Cw hN hl hlo l [] [] rfl hlen
open PX
def Has (L : List Sd) (e : Ed) : Prop := ∃ s ∈ L, On s e
theorem LY (e : Ed) : ¬ Has [] e := fun ⟨_, h, _⟩ => nomatch h
theorem xK {A B : List Sd} {e : Ed} : Has (A ++ B) e ↔ Has A e ∨ Has B e := by
 unfold Has
 constructor
 ·rintro ⟨s, h1, h2⟩
  rcases List.mem_append.1 h1 with h1 | h1
  ·exact .inl ⟨s, h1, h2⟩
  ·exact .inr ⟨s, h1, h2⟩
 ·rintro (⟨s, h1, h2⟩ | ⟨s, h1, h2⟩)
  ·exact ⟨s, List.mem_append_left _ h1, h2⟩
  ·exact ⟨s, List.mem_append_right _ h1, h2⟩
theorem zG : ∀ {l : List (Int × Int)} {lo : Int}, Can lo l → l.Pairwise fun p q => p.2 < q.1
 | [], _, _ => .nil
 | p :: l, lo, h => List.pairwise_cons.2 ⟨fun q hq => (h.2.2.mem q hq).1, zG h.2.2⟩
theorem Kl {α : Type} {R : α → α → Prop} : ∀ {l : List α}, l.Pairwise R → ∀ a ∈ l, ∀ b ∈ l, a = b ∨ R a b ∨ R b a
 | x :: l, h, a, ha, b, hb => by
  obtain ⟨h1, h2⟩ := List.pairwise_cons.1 h
  rcases List.mem_cons.1 ha with ea | ea
  ·rcases List.mem_cons.1 hb with eb | eb
   ·left; rw [ea, eb]
   ·right; left; rw [ea]; exact h1 b eb
  ·rcases List.mem_cons.1 hb with eb | eb
   ·right; right; rw [eb]; exact h1 a ea
   ·exact Kl h2 a ea b eb
theorem Rc {l : List (Int × Int)} (h : ∃ lo, Can lo l) {x : Int} : (∃ p ∈ l, x = p.2) ↔ lL (x - 1) l ∧ ¬ lL x l := by
 obtain ⟨lo, h⟩ := h
 constructor
 ·rintro ⟨p, hp, rfl⟩
  have h1 := (h.mem p hp).2
  refine ⟨⟨p, hp, by omega, by omega⟩, ?_⟩
  rintro ⟨q, hq, g1, g2⟩
  have h2 := (h.mem q hq).2
  rcases Kl (zG h) p hp q hq with e | e | e
  ·subst e; omega
  ·omega
  ·omega
 ·rintro ⟨⟨p, hp, g1, g2⟩, h2⟩
  refine ⟨p, hp, ?_⟩
  rcases Int.lt_or_le x p.2 with h3 | h3
  ·exact absurd ⟨p, hp, by omega, h3⟩ h2
  ·omega
theorem Re {l : List (Int × Int)} (h : ∃ lo, Can lo l) {x : Int} : (∃ p ∈ l, x = p.1) ↔ lL x l ∧ ¬ lL (x - 1) l := by
 obtain ⟨lo, h⟩ := h
 constructor
 ·rintro ⟨p, hp, rfl⟩
  have h1 := (h.mem p hp).2
  refine ⟨⟨p, hp, by omega, by omega⟩, ?_⟩
  rintro ⟨q, hq, g1, g2⟩
  have h2 := (h.mem q hq).2
  rcases Kl (zG h) p hp q hq with e | e | e
  ·subst e; omega
  ·omega
  ·omega
 ·rintro ⟨⟨p, hp, g1, g2⟩, h2⟩
  refine ⟨p, hp, ?_⟩
  rcases Int.lt_or_le (x - 1) p.1 with h3 | h3
  ·omega
  ·exact absurd ⟨p, hp, by omega, by omega⟩ h2
def MF (b : Bd) : Prop := b.1 < b.2.1 ∧ b.2.2.length ≤ 100000000 ∧ ∃ lo, Can lo b.2.2
theorem vZ {A B : List (Int × Int)} (hA : ∃ lo, Can lo A) (hB : ∃ lo, Can lo B) (hl : A.length + B.length ≤ 1000000000) : K8 A B (yf A B) := (Ja (Nat.le_refl _) hA hB hl).1
def wV (A : List (Int × Int)) : Prop := (∃ lo, Can lo A) ∧ A.length ≤ 100000000
theorem wV.nil : wV [] := ⟨⟨0, trivial⟩, by simp⟩
theorem MF.row {b : Bd} (h : MF b) : wV b.2.2 := ⟨h.2.2, h.2.1⟩
theorem Hr {b : Bd} (h : MF b) {e : Ed} : Has (vt b) e ↔ (e.d = .N ∧ (b.1 ≤ e.y ∧ e.y < b.2.1) ∧ lL (e.x - 1) b.2.2 ∧ ¬ lL e.x b.2.2) ∨ (e.d = .S ∧ (b.1 < e.y ∧ e.y ≤ b.2.1) ∧ lL e.x b.2.2 ∧ ¬ lL (e.x - 1) b.2.2) := by
 unfold Has vt
 rw [← Rc h.2.2, ← Re h.2.2]
 constructor
 ·rintro ⟨s, h1, h2⟩
  obtain ⟨p, hp, hs⟩ := List.mem_flatMap.1 h1
  simp only [List.mem_cons, List.not_mem_nil, or_false] at hs
  rcases hs with rfl | rfl
  ·obtain ⟨g1, g2, g3, g4⟩ := Ku.1 h2
   exact .inr ⟨g1, ⟨g3, g4⟩, p, hp, g2⟩
  ·obtain ⟨g1, g2, g3, g4⟩ := Kv.1 h2
   exact .inl ⟨g1, ⟨g3, g4⟩, p, hp, g2⟩
 ·rintro (⟨g1, ⟨g3, g4⟩, p, hp, g2⟩ | ⟨g1, ⟨g3, g4⟩, p, hp, g2⟩)
  ·exact ⟨_, List.mem_flatMap.2 ⟨p, hp, List.mem_cons_of_mem _ (List.mem_cons_self)⟩, Kv.2 ⟨g1, g2, g3, g4⟩⟩
  ·exact ⟨_, List.mem_flatMap.2 ⟨p, hp, List.mem_cons_self⟩, Ku.2 ⟨g1, g2, g3, g4⟩⟩
theorem Ex {y : Int} {A B : List (Int × Int)} (hA : wV A) (hB : wV B) {e : Ed} : Has (hz y A B) e ↔ e.y = y ∧ ((e.d = .W ∧ lL (e.x - 1) A ∧ ¬ lL (e.x - 1) B) ∨ (e.d = .E ∧ lL e.x B ∧ ¬ lL e.x A)) := by
 have d1 := vZ hA.1 hB.1 (by have := hA.2; have := hB.2; omega)
 have d2 := vZ hB.1 hA.1 (by have := hA.2; have := hB.2; omega)
 unfold hz
 rw [xK, ← d1.mem, ← d2.mem]
 unfold Has
 simp only [List.mem_map]
 constructor
 ·rintro (⟨s, ⟨p, hp, rfl⟩, h2⟩ | ⟨s, ⟨p, hp, rfl⟩, h2⟩)
  ·obtain ⟨g1, g2, g3, g4⟩ := Ow.1 h2
   exact ⟨g2, .inl ⟨g1, p, hp, by omega, by omega⟩⟩
  ·obtain ⟨g1, g2, g3, g4⟩ := Ox.1 h2
   exact ⟨g2, .inr ⟨g1, p, hp, by omega, by omega⟩⟩
 ·rintro ⟨g2, (⟨g1, p, hp, g3, g4⟩ | ⟨g1, p, hp, g3, g4⟩)⟩
  ·exact .inl ⟨_, ⟨p, hp, rfl⟩, Ow.2 ⟨g1, g2, by omega, by omega⟩⟩
  ·exact .inr ⟨_, ⟨p, hp, rfl⟩, Ox.2 ⟨g1, g2, by omega, by omega⟩⟩
def K6 (b : Bd) : List Bd → Prop
 | [] => True
 | c :: _ => b.2.1 < c.1
theorem Ht {b : Bd} {rest : List Bd} (h : MF b) {e : Ed} : Has (xu b rest) e ↔ K6 b rest ∧ e.y = b.2.1 ∧ e.d = .W ∧ lL (e.x - 1) b.2.2 := by
 have h1 := Ex (y := b.2.1) h.row wV.nil (e := e)
 have h2 : Has (hz b.2.1 b.2.2 []) e ↔ e.y = b.2.1 ∧ e.d = .W ∧ lL (e.x - 1) b.2.2 := by
  rw [h1]
  constructor
  ·rintro ⟨g1, (⟨g2, g3, _⟩ | ⟨_, g3, _⟩)⟩
   ·exact ⟨g1, g2, g3⟩
   ·exact absurd g3 gI
  ·rintro ⟨g1, g2, g3⟩
   exact ⟨g1, .inl ⟨g2, g3, gI⟩⟩
 cases rest with
 | nil => show Has (hz b.2.1 b.2.2 []) e ↔ _; rw [h2]; simp [K6]
 | cons c rest =>
  unfold xu K6
  by_cases hc : b.2.1 < c.1
  ·simp only [if_pos hc]
   rw [h2]; simp [hc]
  ·simp only [if_neg hc]
   exact ⟨fun hh => absurd hh (LY e), fun hh => absurd hh.1 hc⟩
def gR (prev : Option Bd) : List Bd → Int → List (Int × Int)
 | [], _ => []
 | b :: rest, y => if y = b.1 - 1 then xI prev b else rowAt (b :: rest) y
theorem xL (prev : Option Bd) (b : Bd) (rest : List Bd) (y : Int) : gR prev (b :: rest) y = if y = b.1 - 1 then xI prev b else rowAt (b :: rest) y := rfl
theorem vR (prev : Option Bd) (b : Bd) (rest : List Bd) : mU prev (b :: rest) = vt b ++ hz b.1 (xI prev b) b.2.2 ++ xu b rest ++ mU (some b) rest := by rw [mU]
theorem RH {prev : Option Bd} {l : List Bd} {lo y : Int} (h : nV lo l) (hy : y < lo - 1) : gR prev l y = [] := by
 cases l with
 | nil => rfl
 | cons b rest =>
  rw [xL, if_neg (by have := h.1; omega)]
  exact lX h (by omega)
theorem L8 {b : Bd} {l : List Bd} (h : nV b.2.1 l) (hf : K6 b l) : gR (some b) l (b.2.1 - 1) = [] := by
 cases l with
 | nil => rfl
 | cons c rest =>
  have hf : b.2.1 < c.1 := hf
  rw [xL, if_neg (by omega)]
  exact lX h (by omega)
theorem Jf {b : Bd} {l : List Bd} (h : nV b.2.1 l) (hf : ¬ K6 b l) : gR (some b) l (b.2.1 - 1) = b.2.2 := by
 cases l with
 | nil => exact absurd trivial hf
 | cons c rest =>
  have hf : ¬ b.2.1 < c.1 := hf
  have hc : c.1 = b.2.1 := by have := h.1; omega
  rw [xL, if_pos (by omega)]
  exact if_neg hf
theorem tN {b : Bd} {rest : List Bd} {y : Int} (h1 : b.1 ≤ y) (h2 : y < b.2.1) : rowAt (b :: rest) y = b.2.2 := if_pos ⟨h1, h2⟩
theorem Ba {b : Bd} {rest : List Bd} {y : Int} (h2 : b.2.1 ≤ y) : rowAt (b :: rest) y = rowAt rest y := if_neg (by omega)
theorem RI {b : Bd} {l : List Bd} {y : Int} (h : nV b.2.1 l) (hy : b.2.1 ≤ y) : gR (some b) l y = rowAt l y := by
 cases l with
 | nil => rfl
 | cons c rest =>
  rw [xL]
  by_cases hc : y = c.1 - 1
  ·rw [if_pos hc]
   have hf : b.2.1 < c.1 := by omega
   have : rowAt (c :: rest) y = [] := lX (lo := c.1) ⟨Int.le_refl _, h.2.1, h.2.2.1, h.2.2.2.1, h.2.2.2.2⟩ (by omega)
   rw [this]
   exact if_pos hf
  ·rw [if_neg hc]
structure RQ (prev : Option Bd) : Prop where
 ok : ∀ c, prev = some c → MF c
theorem RQ.low {prev : Option Bd} (h : RQ prev) (b : Bd) : wV (xI prev b) := by
 cases prev with
 | none => exact wV.nil
 | some c =>
  unfold xI
  by_cases hc : c.2.1 < b.1
  ·simp only [if_pos hc]; exact wV.nil
  ·simp only [if_neg hc]; exact (h.ok c rfl).row
def QN (l : List Bd) (e : Ed) : Prop := lL (e.x - 1) (rowAt l e.y) ∧ ¬ lL e.x (rowAt l e.y)
def QS (l : List Bd) (e : Ed) : Prop := lL e.x (rowAt l (e.y - 1)) ∧ ¬ lL (e.x - 1) (rowAt l (e.y - 1))
def QE (prev : Option Bd) (l : List Bd) (e : Ed) : Prop := lL e.x (rowAt l e.y) ∧ ¬ lL e.x (gR prev l (e.y - 1))
def QW (prev : Option Bd) (l : List Bd) (e : Ed) : Prop := lL (e.x - 1) (gR prev l (e.y - 1)) ∧ ¬ lL (e.x - 1) (rowAt l e.y)
theorem OU {prev : Option Bd} {b : Bd} {rest : List Bd} {e : Ed} : Has (mU prev (b :: rest)) e ↔ Has (vt b) e ∨ Has (hz b.1 (xI prev b) b.2.2) e ∨ Has (xu b rest) e ∨ Has (mU (some b) rest) e := by
 rw [vR, xK, xK, xK]
 constructor
 ·rintro (((h | h) | h) | h)
  ·exact .inl h
  ·exact .inr (.inl h)
  ·exact .inr (.inr (.inl h))
  ·exact .inr (.inr (.inr h))
 ·rintro (h | h | h | h)
  ·exact .inl (.inl (.inl h))
  ·exact .inl (.inl (.inr h))
  ·exact .inl (.inr h)
  ·exact .inr h
theorem Cb : ∀ {l : List Bd} {prev : Option Bd} {lo : Int}, nV lo l → (∀ b ∈ l, MF b) → RQ prev → ∀ e, Has (mU prev l) e ↔ (e.d = .N ∧ QN l e) ∨ (e.d = .S ∧ QS l e) ∨ (e.d = .E ∧ QE prev l e) ∨ (e.d = .W ∧ QW prev l e)
 | [], prev, lo, _, _, _, e => by
  constructor
  ·intro h; exact absurd h (LY e)
  ·rintro (⟨_, h, _⟩ | ⟨_, h, _⟩ | ⟨_, h, _⟩ | ⟨_, h, _⟩) <;> exact absurd h gI
 | b :: rest, prev, lo, hc, hok, hp, e => by
  obtain ⟨c1, c2, c3, c4, c5⟩ := hc
  have hb := hok b (by simp)
  have ih := Cb (prev := some b) c5 (fun c hc => hok c (by simp [hc])) ⟨fun c hc => by cases hc; exact hb⟩ e
  have hcan : nV b.1 (b :: rest) := ⟨Int.le_refl _, c2, c3, c4, c5⟩
  rw [OU, Hr hb, Ex (hp.low b) hb.row, Ht hb, ih]
  have nil : ∀ {y : Int}, y < b.2.1 → rowAt rest y = [] := fun hy => lX c5 hy
  have lo0 : ∀ {y : Int}, y < b.1 → rowAt (b :: rest) y = [] := fun hy => lX hcan hy
  have glow : gR prev (b :: rest) (b.1 - 1) = xI prev b := by rw [xL, if_pos rfl]
  have gother : ∀ {y : Int}, y ≠ b.1 - 1 → gR prev (b :: rest) y = rowAt (b :: rest) y := fun hy => by rw [xL, if_neg hy]
  have gnil : ∀ {y : Int}, y < b.2.1 - 1 → gR (some b) rest y = [] := fun hy => RH c5 hy
  cases hd : e.d
  · -- east
   simp only [reduceCtorEq, false_and, false_or, or_false, true_and, and_false]
   unfold QE
   rcases Int.lt_or_le e.y b.1 with h1 | h1
   ·rw [lo0 h1, nil (y := e.y) (by omega)]
    constructor
    ·rintro (⟨h, _⟩ | ⟨h, _⟩)
     ·omega
     ·exact absurd h gI
    ·rintro ⟨h, _⟩; exact absurd h gI
   ·rcases Int.lt_or_le e.y b.2.1 with h2 | h2
    ·rw [tN h1 h2, nil h2]
     by_cases h3 : e.y = b.1
     ·rw [h3, glow]
      constructor
      ·rintro (⟨_, g⟩ | ⟨h, _⟩)
       ·exact g
       ·exact absurd h gI
      ·intro g; exact .inl ⟨rfl, g⟩
     ·rw [gother (by omega), tN (by omega) (by omega)]
      constructor
      ·rintro (⟨h, _⟩ | ⟨h, _⟩)
       ·exact absurd h h3
       ·exact absurd h gI
      ·rintro ⟨g1, g2⟩; exact absurd g1 g2
    ·rw [Ba h2, gother (y := e.y - 1) (by omega)]
     by_cases h3 : e.y = b.2.1
     ·rw [tN (y := e.y - 1) (by omega) (by omega), h3]
      by_cases hf : K6 b rest
      · -- nothing begins there
       have hn : rowAt rest b.2.1 = [] := by
        cases rest with
        | nil => rfl
        | cons c r => exact lX (lo := c.1) ⟨Int.le_refl _, c5.2.1, c5.2.2.1, c5.2.2.2.1, c5.2.2.2.2⟩ hf
       rw [hn]
       constructor
       ·rintro (⟨h, _⟩ | ⟨h, _⟩)
        ·omega
        ·exact absurd h gI
       ·rintro ⟨h, _⟩; exact absurd h gI
      ·rw [Jf c5 hf]
       constructor
       ·rintro (⟨h, _⟩ | g)
        ·omega
        ·exact g
       ·intro g; exact .inr g
     ·rw [Ba (y := e.y - 1) (by omega), RI c5 (y := e.y - 1) (by omega)]
      constructor
      ·rintro (⟨h, _⟩ | g)
       ·omega
       ·exact g
      ·intro g; exact .inr g
  · -- north
   simp only [reduceCtorEq, false_and, false_or, or_false, true_and, and_false]
   unfold QN
   by_cases h1 : b.1 ≤ e.y ∧ e.y < b.2.1
   ·rw [tN h1.1 h1.2, nil h1.2]
    constructor
    ·rintro (⟨_, g⟩ | ⟨h, _⟩)
     ·exact g
     ·exact absurd h gI
    ·intro g; exact .inl ⟨h1, g⟩
   ·have : rowAt (b :: rest) e.y = rowAt rest e.y := if_neg h1
    rw [this]
    constructor
    ·rintro (⟨h, _⟩ | g)
     ·exact absurd h h1
     ·exact g
    ·intro g; exact .inr g
  · -- west
   simp only [reduceCtorEq, false_and, false_or, or_false, true_and, and_false]
   unfold QW
   rcases Int.lt_or_le e.y b.1 with h1 | h1
   ·rw [gother (by omega), lo0 (y := e.y - 1) (by omega), gnil (by omega)]
    constructor
    ·rintro (⟨h, _⟩ | ⟨_, h, _⟩ | ⟨h, _⟩)
     ·omega
     ·omega
     ·exact absurd h gI
    ·rintro ⟨h, _⟩; exact absurd h gI
   ·rcases Int.lt_or_le e.y b.2.1 with h2 | h2
    ·rw [tN h1 h2, nil h2, gnil (by omega)]
     by_cases h3 : e.y = b.1
     ·rw [h3, glow]
      constructor
      ·rintro (⟨_, g⟩ | ⟨_, h, _⟩ | ⟨h, _⟩)
       ·exact g
       ·omega
       ·exact absurd h gI
      ·intro g; exact .inl ⟨rfl, g⟩
     ·rw [gother (by omega), tN (by omega) (by omega)]
      constructor
      ·rintro (⟨h, _⟩ | ⟨_, h, _⟩ | ⟨h, _⟩)
       ·exact absurd h h3
       ·omega
       ·exact absurd h gI
      ·rintro ⟨g1, g2⟩; exact absurd g1 g2
    ·rw [Ba h2, gother (y := e.y - 1) (by omega)]
     by_cases h3 : e.y = b.2.1
     ·rw [tN (y := e.y - 1) (by omega) (by omega), h3]
      by_cases hf : K6 b rest
      ·have hn : rowAt rest b.2.1 = [] := by
        cases rest with
        | nil => rfl
        | cons c r => exact lX (lo := c.1) ⟨Int.le_refl _, c5.2.1, c5.2.2.1, c5.2.2.2.1, c5.2.2.2.2⟩ hf
       rw [hn, L8 c5 hf]
       constructor
       ·rintro (⟨h, _⟩ | ⟨_, _, g⟩ | ⟨h, _⟩)
        ·omega
        ·exact ⟨g, gI⟩
        ·exact absurd h gI
       ·rintro ⟨g, _⟩; exact .inr (.inl ⟨hf, rfl, g⟩)
      ·rw [Jf c5 hf]
       constructor
       ·rintro (⟨h, _⟩ | ⟨h, _⟩ | g)
        ·omega
        ·exact absurd h hf
        ·exact g
       ·intro g; exact .inr (.inr g)
     ·rw [Ba (y := e.y - 1) (by omega), RI c5 (y := e.y - 1) (by omega)]
      constructor
      ·rintro (⟨h, _⟩ | ⟨_, h, _⟩ | g)
       ·omega
       ·exact absurd h h3
       ·exact g
      ·intro g; exact .inr (.inr g)
  · -- south
   simp only [reduceCtorEq, false_and, false_or, or_false, true_and, and_false]
   unfold QS
   by_cases h1 : b.1 < e.y ∧ e.y ≤ b.2.1
   ·rw [tN (by omega) (by omega), nil (y := e.y - 1) (by omega)]
    constructor
    ·rintro (⟨_, g⟩ | ⟨h, _⟩)
     ·exact g
     ·exact absurd h gI
    ·intro g; exact .inl ⟨h1, g⟩
   ·have : rowAt (b :: rest) (e.y - 1) = rowAt rest (e.y - 1) := if_neg (by omega)
    rw [this]
    constructor
    ·rintro (⟨h, _⟩ | g)
     ·exact absurd h h1
     ·exact g
    ·intro g; exact .inr g
theorem GV {A B : List Sd} (hA : A.Pairwise Dj) (hB : B.Pairwise Dj) (h : ∀ e, Has A e → ¬ Has B e) : (A ++ B).Pairwise Dj :=
 List.pairwise_append.2 ⟨hA, hB, fun s hs t ht e h1 h2 => h e ⟨s, hs, h1⟩ ⟨t, ht, h2⟩⟩
theorem Om {y : Int} {A B : List (Int × Int)} (hA : wV A) (hB : wV B) : (hz y A B).Pairwise Dj := by
 obtain ⟨lo1, d1⟩ := (vZ hA.1 hB.1 (by have := hA.2; have := hB.2; omega)).can
 obtain ⟨lo2, d2⟩ := (vZ hB.1 hA.1 (by have := hA.2; have := hB.2; omega)).can
 unfold hz
 refine GV ?_ ?_ ?_
 ·rw [List.pairwise_map]
  exact (zG d1).imp fun {p q} h e h1 h2 => by
   obtain ⟨_, _, g1, g2⟩ := Ow.1 h1
   obtain ⟨_, _, g3, g4⟩ := Ow.1 h2
   omega
 ·rw [List.pairwise_map]
  exact (zG d2).imp fun {p q} h e h1 h2 => by
   obtain ⟨_, _, g1, g2⟩ := Ox.1 h1
   obtain ⟨_, _, g3, g4⟩ := Ox.1 h2
   omega
 ·rintro e ⟨s, hs, h1⟩ ⟨t, ht, h2⟩
  obtain ⟨p, _, rfl⟩ := List.mem_map.1 hs
  obtain ⟨q, _, rfl⟩ := List.mem_map.1 ht
  have g1 := (Ow.1 h1).1
  have g2 := (Ox.1 h2).1
  rw [g1] at g2; cases g2
theorem Uf {b : Bd} (h : MF b) : (vt b).Pairwise Dj := by
 obtain ⟨lo, hc⟩ := h.2.2
 unfold vt
 rw [List.pairwise_flatMap]
 constructor
 ·intro p hp
  refine List.pairwise_cons.2 ⟨fun t ht e h1 h2 => ?_, List.pairwise_cons.2 ⟨fun t ht => (nomatch ht), .nil⟩⟩
  rw [List.mem_singleton.1 ht] at h2
  have g1 := (Ku.1 h1).1
  have g2 := (Kv.1 h2).1
  rw [g1] at g2; cases g2
 ·refine List.Pairwise.imp_of_mem (R := fun p q => p.2 < q.1) (fun {p q} hp hq hpq s hs t ht e h1 h2 => ?_) (zG hc)
  have p1 := (hc.mem p hp).2
  have q1 := (hc.mem q hq).2
  simp only [List.mem_cons, List.not_mem_nil, or_false] at hs ht
  rcases hs with rfl | rfl <;> rcases ht with rfl | rfl
  ·have g1 := (Ku.1 h1).2.1
   have g2 := (Ku.1 h2).2.1
   omega
  ·have g1 := (Ku.1 h1).2.1
   have g2 := (Kv.1 h2).2.1
   omega
  ·have g1 := (Kv.1 h1).2.1
   have g2 := (Ku.1 h2).2.1
   omega
  ·have g1 := (Kv.1 h1).2.1
   have g2 := (Kv.1 h2).2.1
   omega
theorem Sz {b : Bd} {rest : List Bd} (h : MF b) : (xu b rest).Pairwise Dj := by
 cases rest with
 | nil => exact Om h.row wV.nil
 | cons c r =>
  unfold xu
  by_cases hc : b.2.1 < c.1
  ·simp only [if_pos hc]; exact Om h.row wV.nil
  ·simp only [if_neg hc]; exact .nil
theorem IW : ∀ {l : List Bd} {prev : Option Bd} {lo : Int}, nV lo l → (∀ b ∈ l, MF b) → RQ prev → (mU prev l).Pairwise Dj
 | [], _, _, _, _, _ => .nil
 | b :: rest, prev, lo, ⟨c1, c2, c3, c4, c5⟩, hok, hp => by
  have hb := hok b (by simp)
  have hp' : RQ (some b) := ⟨fun c hc => by cases hc; exact hb⟩
  have ih := IW (prev := some b) c5 (fun c hc => hok c (by simp [hc])) hp'
  have hs := Cb (prev := some b) c5 (fun c hc => hok c (by simp [hc])) hp'
  rw [vR]
  refine GV (GV (GV (Uf hb) (Om (hp.low b) hb.row) ?_) (Sz hb) ?_) ih ?_
  ·intro e h1 h2
   rw [Hr hb] at h1
   rw [Ex (hp.low b) hb.row] at h2
   rcases h1 with ⟨g, _⟩ | ⟨g, _⟩ <;> rcases h2 with ⟨_, (⟨g', _⟩ | ⟨g', _⟩)⟩ <;> rw [g] at g' <;> cases g'
  ·intro e h1 h2
   rw [Ht hb] at h2
   obtain ⟨_, g1, g2, _⟩ := h2
   rcases xK.1 h1 with h1 | h1
   ·rw [Hr hb] at h1
    rcases h1 with ⟨g, _⟩ | ⟨g, _⟩ <;> rw [g2] at g <;> cases g
   ·rw [Ex (hp.low b) hb.row] at h1
    omega
  ·intro e h1 h2
   have nil : ∀ {y : Int}, y < b.2.1 → rowAt rest y = [] := fun hy => lX c5 hy
   rw [hs e] at h2
   rw [xK, xK, Hr hb, Ex (hp.low b) hb.row, Ht hb] at h1
   rcases h2 with ⟨g, q1, _⟩ | ⟨g, q1, _⟩ | ⟨g, q1, _⟩ | ⟨g, q1, _⟩ <;> rw [g] at h1 <;> simp only [reduceCtorEq, false_and, false_or, or_false, true_and, and_false] at h1
   ·rw [nil h1.1.2] at q1; exact gI q1
   ·rw [nil (by omega)] at q1; exact gI q1
   ·rw [nil (by omega)] at q1; exact gI q1
   ·rcases h1 with ⟨h1, _⟩ | ⟨hf, h1, _⟩
    ·rw [RH c5 (by omega)] at q1; exact gI q1
    ·rw [h1, L8 c5 hf] at q1; exact gI q1
theorem QU {l : List Bd} {lo : Int} (h : nV lo l) (y : Int) : gR none l y = rowAt l y := by
 cases l with
 | nil => rfl
 | cons b rest =>
  rw [xL]
  by_cases hy : y = b.1 - 1
  ·rw [if_pos hy]
   exact (lX (lo := b.1) (l := b :: rest) ⟨Int.le_refl _, h.2.1, h.2.2.1, h.2.2.2.1, h.2.2.2.2⟩ (by omega)).symm
  ·rw [if_neg hy]
theorem FH : ∀ {l : List Bd} {prev : Option Bd}, (∀ b ∈ l, MF b) → RQ prev → ∀ s ∈ mU prev l, 0 < s.2
 | b :: rest, prev, hok, hp, s, hs => by
  have hb := hok b (by simp)
  have hz0 : ∀ {y : Int} {A B : List (Int × Int)}, wV A → wV B → ∀ s ∈ hz y A B, 0 < s.2 := fun {y A B} hA hB s hs => by
   have d1 := Dn (vZ hA.1 hB.1 (by have := hA.2; have := hB.2; omega)).can
   have d2 := Dn (vZ hB.1 hA.1 (by have := hA.2; have := hB.2; omega)).can
   unfold hz at hs
   rcases List.mem_append.1 hs with hs | hs
   ·obtain ⟨p, hp, rfl⟩ := List.mem_map.1 hs
    have := d1 p hp
    show 0 < (p.2 - p.1).toNat; omega
   ·obtain ⟨p, hp, rfl⟩ := List.mem_map.1 hs
    have := d2 p hp
    show 0 < (p.2 - p.1).toNat; omega
  rw [vR] at hs
  rcases List.mem_append.1 hs with hs | hs
  ·rcases List.mem_append.1 hs with hs | hs
   ·rcases List.mem_append.1 hs with hs | hs
    ·obtain ⟨p, hp, hs⟩ := List.mem_flatMap.1 hs
     have := hb.1
     simp only [List.mem_cons, List.not_mem_nil, or_false] at hs
     rcases hs with rfl | rfl <;> show 0 < (b.2.1 - b.1).toNat <;> omega
    ·exact hz0 (hp.low b) hb.row s hs
   ·cases rest with
    | nil => exact hz0 hb.row wV.nil s hs
    | cons c r =>
     unfold xu at hs
     by_cases hc : b.2.1 < c.1
     ·simp only [if_pos hc] at hs; exact hz0 hb.row wV.nil s hs
     ·simp only [if_neg hc] at hs; cases hs
  ·exact FH (prev := some b) (fun c hc => hok c (by simp [hc])) ⟨fun c hc => by cases hc; exact hb⟩ s hs
theorem J3 {I : Sq} {l : List Bd} (h : yw l) (hlen : ∀ b ∈ l, b.2.2.length ≤ 100000000) (hI : ∀ x y, I x y = true ↔ lL x (rowAt l y)) : nP I (mU none l) := by
 obtain ⟨lo, hc⟩ := h.can
 have hok : ∀ b ∈ l, MF b := fun b hb => ⟨(hc.mem b hb).2.1, hlen b hb, h.row b hb⟩
 have hp : RQ none := ⟨fun c hc => nomatch hc⟩
 have hI' : ∀ x y, I x y = false ↔ ¬ lL x (rowAt l y) := fun x y => by
  rw [← hI]; cases I x y <;> simp
 refine Ql (FH hok hp) (fun e => ?_) (IW hc hok hp)
 refine (Cb hc hok hp e).trans ?_
 unfold QN QS QE QW sF
 rw [QU hc]
 cases hd : e.d <;> simp only [reduceCtorEq, false_and, false_or, or_false, true_and, and_false, lq, Dir.right, hI, hI']
theorem DY {n : Nat} (hn : n ≤ 100000000) : ∀ {l : List Bd} {prev : Option Bd}, (∀ b ∈ l, MF b ∧ b.2.2.length ≤ n) → (∀ c, prev = some c → MF c ∧ c.2.2.length ≤ n) → (mU prev l).length ≤ l.length * (8 * n)
 | [], _, _, _ => by unfold mU; simp
 | b :: rest, prev, hok, hp => by
  obtain ⟨hb, hbn⟩ := hok b (by simp)
  have ih := DY hn (l := rest) (prev := some b) (fun c hc => hok c (by simp [hc])) (fun c hc => by cases hc; exact ⟨hb, hbn⟩)
  have hzl : ∀ {y : Int} {A B : List (Int × Int)}, wV A → wV B → (hz y A B).length ≤ 2 * (A.length + B.length) := fun {y A B} hA hB => by
   have d1 := (vZ hA.1 hB.1 (by have := hA.2; have := hB.2; omega)).len
   have d2 := (vZ hB.1 hA.1 (by have := hA.2; have := hB.2; omega)).len
   unfold hz
   simp only [List.length_append, List.length_map]; omega
  have hlow : (xI prev b).length ≤ n := by
   cases prev with
   | none => exact Nat.zero_le _
   | some c =>
    unfold xI
    by_cases hc : c.2.1 < b.1
    ·simp only [if_pos hc]; exact Nat.zero_le _
    ·simp only [if_neg hc]; exact (hp c rfl).2
  have h1 := hzl (y := b.1) (RQ.low ⟨fun c hc => (hp c hc).1⟩ b) hb.row
  have h2 : (xu b rest).length ≤ 2 * n := by
   have h3 := hzl (y := b.2.1) hb.row wV.nil
   rw [List.length_nil] at h3
   cases rest with
   | nil => exact Nat.le_trans h3 (by omega)
   | cons c r =>
    unfold xu
    by_cases hc : b.2.1 < c.1
    ·simp only [if_pos hc]; omega
    ·simp only [if_neg hc]; exact Nat.zero_le _
  have hvl : (vt b).length = 2 * b.2.2.length := by
   unfold vt
   rw [List.length_flatMap]
   simp only [List.length_cons, List.length_nil]
   rw [List.map_const', List.sum_replicate_nat]; omega
  rw [vR]
  simp only [List.length_append, List.length_cons, hvl]
  rw [Nat.add_mul, Nat.one_mul]
  omega
open PX
def Ca (l : List aQ) : Sq := fun x y => l.any fun r => (decide (r.X0 ≤ x) && decide (x < r.X1)) && (decide (r.Y0 ≤ y) && decide (y < r.Y1))
theorem Ew {l : List aQ} {x y : Int} : Ca l x y = true ↔ Rp x y l := by
 unfold Ca Rp
 rw [List.any_eq_true]
 simp only [Bool.and_eq_true, decide_eq_true_eq]
def PW (I : Sq) : Prop := ∀ x y, I x y = true → (-1000000 ≤ x ∧ x < 1000000) ∧ (-1000000 ≤ y ∧ y < 1000000)
theorem DN {I : Sq} (hI : PW I) {e : Ed} (h : sF I e) : ((-1000000 ≤ e.x ∧ e.x ≤ 1000000) ∧ (-1000000 ≤ e.y ∧ e.y ≤ 1000000)) ∧ ((-1000000 ≤ e.tx ∧ e.tx ≤ 1000000) ∧ (-1000000 ≤ e.ty ∧ e.ty ≤ 1000000)) := by
 obtain ⟨h1, _⟩ := h
 unfold Ed.tx Ed.ty
 cases hd : e.d <;> rw [hd] at h1 <;> simp only [lq, Dir.dx, Dir.dy] at * <;> have := hI _ _ h1 <;> omega
theorem QJ {I : Sq} {L : List Sd} (h : nP I L) (hI : PW I) (hl : L.length ≤ 100000000) : Fv L := by
 refine ⟨hl, fun s hs => ?_⟩
 obtain ⟨a1, _⟩ := DN hI (h.fst hs)
 obtain ⟨_, a2⟩ := DN hI (h.last hs).1
 obtain ⟨t1, t2, _⟩ := Hg (h.pos s hs)
 rw [t1, t2] at a2
 refine ⟨⟨?_, ?_⟩, ?_, ?_⟩
 ·show -1000000000 ≤ s.1.x ∧ s.1.x ≤ 1000000000; omega
 ·show -1000000000 ≤ s.1.y ∧ s.1.y ≤ 1000000000; omega
 ·omega
 ·omega
def Jw : List (List au) → Int → Int
 | [], n => n
 | p :: l, n => Jw l (bG (n + (p.length : Int)))
theorem Mm (y : List (List au)) : ∀ (suf : List (List au)) (i : Nat) (n : Int), iK y suf i n = some (if 2000 < Jw suf n then ([], 2) else (y, 0))
 | [], i, n => by
  rw [iK.eq_1]
  unfold Jw
  by_cases h : 2000 < n
  ·rw [if_pos (by simpa using h), if_pos h]
  ·rw [if_neg (by simpa using h), if_neg h]
 | p :: suf, i, n => by rw [iK.eq_2, Mm y suf]; rfl
theorem yH {l : List aQ} (h : ∀ r ∈ l, NB r) : PW (Ca l) := fun _ _ hx => Ro h (Ew.1 hx)
theorem Np {l : List Bd} (h : ∀ b ∈ l, b.2.2 ≠ []) : l.length ≤ (fI l).length ∧ ∀ b ∈ l, b.2.2.length ≤ (fI l).length := by
 induction l with
 | nil => exact ⟨Nat.le_refl _, fun b hb => nomatch hb⟩
 | cons b l ih =>
  obtain ⟨i1, i2⟩ := ih fun c hc => h c (by simp [hc])
  have hb := List.length_pos_iff.2 (h b (by simp))
  rw [oD, List.length_append, qh]
  refine ⟨by simp only [List.length_cons]; omega, fun c hc => ?_⟩
  rcases List.mem_cons.1 hc with rfl | hc
  ·omega
  ·have := i2 c hc; omega
def Ou (l : List aQ) (ls : List (List (Int × Int))) : List (List au) × Int := if 2000 < Jw (ls.map (List.map ig)) 0 then ([], 2) else (ls.map (List.map ig), 0)
theorem JA {N : Nat} (hN : 10000000000 ≤ N) {l : List aQ} (h : mW l = 0) : ∃ ls, yl (Ca l) ls ∧ (∃ B, vK (Ca l) B) ∧ ls.length ≤ 100000000 ∧ ls.flatten.length ≤ 100000000 ∧ (mD N l).bind (fun y101 => lD N y101) = some (ls.map (List.map ig)) := by
 obtain ⟨_, h2, h3, h4⟩ := xC h
 have hne := NB.ne h3
 obtain ⟨b1, b2⟩ := CW hne
 obtain ⟨lo, hc⟩ := b1.can
 obtain ⟨f1, f2⟩ := Np (l := tL l) fun b hb => (hc.mem b hb).2.2
 rw [h4] at f1 f2
 have hrow : ∀ b ∈ tL l, b.2.2.length ≤ 2000 := fun b hb => by have := f2 b hb; omega
 have hok : ∀ b ∈ tL l, MF b := fun b hb => ⟨(hc.mem b hb).2.1, by have := hrow b hb; omega, b1.row b hb⟩
 have hI : ∀ x y, Ca l x y = true ↔ lL x (rowAt (tL l) y) := fun x y => Ew.trans (b2 x y).symm
 have sys := J3 (I := Ca l) b1 (fun b hb => by have := hrow b hb; omega) hI
 have hlen := DY (n := 2000) (by omega) (l := tL l) (prev := none) (fun b hb => ⟨hok b hb, hrow b hb⟩) (fun c hc => nomatch hc)
 have hlim := QJ sys (yH h3) (by omega)
 obtain ⟨ls, l1, l2, l4, l3⟩ := KU sys hlim (N := N) (by omega)
 refine ⟨ls, l1, sys.fin, by omega, by omega, ?_⟩
 rw [JN hN (by omega) (fun r hr => (h3 r hr).r9), Option.bind_some]
 unfold lD
 rw [MZ hN (by omega) (fun b hb => hok b hb) (by omega), Option.bind_some]
 exact l3
theorem Ig {N : Nat} (hN : 10000000000 ≤ N) (l : List aQ) : ∃ y, mF N l = some y ∧ (mW l ≠ 0 → y = ([], mW l)) ∧ (mW l = 0 → ∃ ls, yl (Ca l) ls ∧ (∃ B, vK (Ca l) B) ∧ ls.length ≤ 100000000 ∧ ls.flatten.length ≤ 100000000 ∧ y = Ou l ls) := by
 unfold mF
 rw [E9 hN, Option.bind_some]
 by_cases h : mW l = 0
 ·rw [if_neg (by simpa using h)]
  obtain ⟨ls, l1, l4, l2, l5, l3⟩ := JA hN h
  refine ⟨Ou l ls, ?_, fun hh => absurd h hh, fun _ => ⟨ls, l1, l4, l2, l5, rfl⟩⟩
  obtain ⟨y, y1, y2⟩ := Option.bind_eq_some_iff.1 l3
  rw [y1, Option.bind_some, y2, Option.bind_some, Mm]; rfl
 ·rw [if_pos (by simpa using h)]
  exact ⟨_, rfl, fun _ => rfl, fun hh => absurd hh h⟩
theorem Jv : ∀ (suf : List (List au)) (n : Nat), n + suf.flatten.length ≤ 100000000 → Jw suf (n : Int) = ((n + suf.flatten.length : Nat) : Int)
 | [], n, _ => by simp [Jw]
 | l :: suf, n, hn => by
  rw [List.flatten_cons, List.length_append] at hn
  unfold Jw
  have e : bG ((n : Int) + (l.length : Int)) = ((n + l.length : Nat) : Int) := by rw [bU (by omega) (by omega)]; omega
  rw [e, Jv suf (n + l.length) (by omega), List.flatten_cons, List.length_append]
  omega
open PX
theorem IR {l : List (Int × Int)} {p0 : Int × Int} (h0 : l.head? = some p0) : ∀ (suf pre : List (Int × Int)), l = pre ++ suf → (∀ s ∈ FT p0 suf, (s.1.1 = s.2.1) ≠ (s.1.2 = s.2.2)) → Fe (l.map ig) (suf.map ig) pre.length = true
 | [], _, _, _ => rfl
 | x :: r, pre, he, h => by
  have hlen : l.length = pre.length + r.length + 1 := by rw [he]; simp; omega
  have hnx : (l.map ig).getD ((pre.length + 1) % (l.map ig).length) ⟨0, 0⟩ = ig (r.headD p0) := by
   rw [List.length_map]
   cases r with
   | nil =>
    rw [hlen, List.length_nil, Nat.add_zero, Nat.mod_self]
    cases l with
    | nil => cases h0
    | cons y t => cases h0; rfl
   | cons y t =>
    rw [Nat.mod_eq_of_lt (by rw [hlen]; simp), List.getD_eq_getElem?_getD, List.getElem?_map, he, List.getElem?_append_right (by omega)]
    simp
  rw [List.map_cons, Fe, hnx]
  have hx := h (x, r.headD p0) List.mem_cons_self
  have ih := IR h0 r (pre ++ [x]) (by rw [he]; simp) (fun s hs => h s (List.mem_cons_of_mem _ hs))
  rw [List.length_append, List.length_singleton] at ih
  rw [if_neg, ih]
  intro hb
  apply hx
  simp only [ig, beq_iff_eq] at hb
  show (x.1 = (r.headD p0).1) = (x.2 = (r.headD p0).2)
  generalize r.headD p0 = q at hb ⊢
  rw [Bool.eq_iff_iff, beq_iff_eq, beq_iff_eq] at hb
  exact propext hb
def xR (l : List au) : Prop := 4 ≤ l.length ∧ (∀ q ∈ l, (-1000000 ≤ q.X ∧ q.X ≤ 1000000) ∧ (-1000000 ≤ q.Y ∧ q.Y ≤ 1000000)) ∧ Fe l l 0 = true
theorem FL {I : Sq} {ls : List (List (Int × Int))} (ho : yl I ls) (hf : ∃ B, vK I B) (hI : PW I) : ∀ l ∈ ls.map (List.map ig), xR l := by
 intro l0 hl0
 obtain ⟨B, hB⟩ := hf
 obtain ⟨l, hl, rfl⟩ := List.mem_map.1 hl0
 obtain ⟨e, he, hle⟩ := ho.is l hl
 have hd := hle.head hB he
 obtain ⟨n, hn, hl2⟩ := hle
 have hr := Ke hB he hn
 rw [← hl2] at hr
 refine ⟨by rw [List.length_map]; exact hr.len, fun q hq => ?_, ?_⟩
 ·obtain ⟨z, hz, rfl⟩ := List.mem_map.1 hq
  obtain ⟨f, hf, rfl⟩ := hr.pts z hz
  have := (DN hI hf).1
  exact this
 ·obtain ⟨r, hr2⟩ := hd
  exact IR (p0 := e.p) (by rw [hr2]; rfl) l [] rfl hr.ax
theorem vS {x : av} : ∀ {o : List (List au)} {d : Int}, x ∈ jr o d → (∃ l ∈ o, x = nY l) ∨ x = qG 1 ∨ x = qG 2
 | [], _, h => by cases h
 | l :: t, d, h => by
  unfold jr at h
  have hk : mQ l = 1 ∨ mQ l = 2 := by unfold mQ; split <;> simp
  split at h
  ·rcases List.mem_cons.1 h with rfl | h
   ·exact .inl ⟨l, List.mem_cons_self, rfl⟩
   ·rcases vS h with ⟨m, hm, e⟩ | h
    ·exact .inl ⟨m, List.mem_cons_of_mem _ hm, e⟩
    ·exact .inr h
  ·rcases List.mem_cons.1 h with rfl | h
   ·rcases hk with h | h
    ·exact .inr (.inl (by rw [h]))
    ·exact .inr (.inr (by rw [h]))
   ·rcases List.mem_cons.1 h with rfl | h
    ·exact .inl ⟨l, List.mem_cons_self, rfl⟩
    ·rcases vS h with ⟨m, hm, e⟩ | h
     ·exact .inl ⟨m, List.mem_cons_of_mem _ hm, e⟩
     ·exact .inr h
theorem Af : ∀ (o : List (List au)) (d : Int), nA (jr o d) ≤ 2 * o.length + o.flatten.length
 | [], d => by show nA [] ≤ _; rw [yF]; omega
 | l :: t, d => by
  have a1 : z8 (nY l) = 1 + l.length := by rw [zm]; show 1 + 0 + l.length + nA [] = _; rw [yF]; omega
  have a2 : ∀ k, z8 (qG k) = 1 := fun k => by rw [zm]; show 1 + 0 + 0 + nA [] = _; rw [yF]
  unfold jr
  rw [List.length_cons, List.flatten_cons, List.length_append]
  split
  ·rw [rJ, a1]
   have := Af t d; omega
  ·rw [rJ, rJ, a1, a2]
   have := Af t (mQ l); omega
theorem De : ∀ {o : List (List au)}, (∀ l ∈ o, 4 ≤ l.length) → 4 * o.length ≤ o.flatten.length
 | [], _ => by simp
 | l :: t, h => by
  rw [List.length_cons, List.flatten_cons, List.length_append]
  have h1 := h l List.mem_cons_self
  have h2 := De (o := t) (fun m hm => h m (List.mem_cons_of_mem _ hm))
  omega
theorem wN {l : List au} : ∀ {o : List (List au)}, l ∈ o → l.length ≤ o.flatten.length
 | m :: t, h => by
  rw [List.flatten_cons, List.length_append]
  rcases List.mem_cons.1 h with rfl | h
  ·omega
  ·have := wN h; omega
def iD (o : List (List au)) : gu := ⟨1, [], jr o 1⟩
theorem of_steps {x : av} {o : List (List au)} (h : x ∈ (iD o).Steps) : x.Steps = [] ∧ x.NX = 0 ∧ x.NY = 0 ∧ x.Name.size = 0 ∧ x.At = ⟨0, 0⟩ ∧ (x.Points = [] ∨ x.Points ∈ o) := by
 rcases vS h with ⟨l, hl, rfl⟩ | rfl | rfl
 ·exact ⟨rfl, rfl, rfl, rfl, rfl, .inr hl⟩
 ·exact ⟨rfl, rfl, rfl, rfl, rfl, .inl rfl⟩
 ·exact ⟨rfl, rfl, rfl, rfl, rfl, .inl rfl⟩
theorem QD {o : List (List au)} (hg : ∀ l ∈ o, xR l) (hf : o.flatten.length ≤ 2000) : BV (iD o).Steps := by
 refine QK fun x hx => ?_
 obtain ⟨h1, h2, h3, h5, h6, h7⟩ := of_steps (o := o) hx
 have z : MH 0 := ⟨by decide, by decide⟩
 rw [LM, h1, h2, h3, h5, h6]
 refine ⟨by omega, ⟨z, z⟩, ?_, ⟨z, z⟩, by simp, by rw [BV]; trivial⟩
 rcases h7 with h7 | h7
 ·rw [h7]; exact ⟨by simp, fun q hq => (by cases hq)⟩
 ·have := wN h7
  refine ⟨by omega, fun q hq => ?_⟩
  have := (hg _ h7).2.1 q hq
  unfold MH; omega
theorem TA {N : Nat} (hN : 20000000000 ≤ N) (r : List aQ) : ∃ y, mF N r = some y ∧ (y.2 ≠ 0 → sV N r = some (⟨0, [], []⟩, y.2)) ∧
  (y.2 = 0 → mW r = 0 ∧ ∃ ls o, yl (Ca r) ls ∧ (∃ B, vK (Ca r) B) ∧ y.1 = ls.map (List.map ig) ∧ uB y.1 o ∧ (∀ l ∈ o, xR l) ∧ o.flatten.length ≤ 2000 ∧ sV N r = some (iD o, 0)) := by
 obtain ⟨y, y1, y2, y3⟩ := Ig (N := N) (by omega) r
 refine ⟨y, y1, fun h => ?_, fun h => ?_⟩
 ·unfold sV
  rw [y1, Option.bind_some, if_pos (by simpa using h)]
 ·have hr : mW r = 0 := by
   apply Classical.byContradiction
   intro hn
   rw [y2 hn] at h
   exact hn h
  obtain ⟨ls, l1, l2, l3, l4, rfl⟩ := y3 hr
  have hc : ¬ 2000 < Jw (ls.map (List.map ig)) 0 := by
   intro hc
   rw [Ou, if_pos hc] at h
   cases h
  have hfl : (ls.map (List.map ig)).flatten.length = ls.flatten.length := by rw [← List.map_flatten, List.length_map]
  have hv := Jv (ls.map (List.map ig)) 0 (by rw [hfl]; omega)
  rw [show ((0 : Nat) : Int) = 0 from rfl] at hv
  rw [hv] at hc
  rw [Ou, if_neg (by rw [hv]; exact hc)]
  have hg := FL l1 l2 (yH (xC hr).2.2.1)
  have Vn : (ls.map (List.map ig)).flatten.length ≤ 2000 := by omega
  obtain ⟨o, o1, o2⟩ := PV hN (ls := ls.map (List.map ig)) (by rw [List.length_map]; exact l3) (fun l hl => by have := wN hl; omega)
  refine ⟨hr, ls, o, l1, l2, rfl, o1, fun l hl => hg l ((o1.mem l).1 hl), by rw [o1.len.flatten.length_eq]; exact Vn, ?_⟩
  unfold sV
  rw [y1, Ou, if_neg (by rw [hv]; exact hc), Option.bind_some, if_neg (by simp)]
  exact o2
end Go.Proofs.YtcjeebkoafonpaaGreatDoor
namespace Go.Proofs.YtcjeebkoafonpaaGreatDoor.PX
def nK (e : Ed) : Int × Int := match e.d with
 | .E => (e.x, e.y)
 | .N => (e.x - 1, e.y)
 | .W => (e.x - 1, e.y - 1)
 | .S => (e.x, e.y - 1)
def oP (e : Ed) : Int × Int := nK ⟨e.x, e.y, e.d.right⟩
theorem OA (I : Sq) (x y : Int) (d : Dir) : lq I x y d = I (nK ⟨x, y, d⟩).1 (nK ⟨x, y, d⟩).2 := by cases d <;> rfl
def sg (x y : Int) (e : Ed) : Int := match e.d with
 | .N => if e.y = y ∧ e.x ≤ x then -1 else 0
 | .S => if e.y = y + 1 ∧ e.x ≤ x then 1 else 0
 | _ => 0
def wd (W : List Ed) (x y : Int) : Int := jo (sg x y) W
def uC (W : List Ed) (e : Ed) : Int := jo (fun f => if f = e then 1 else 0) W
theorem zn {f : Ed → Int} : ∀ {W : List Ed}, (∀ e ∈ W, f e = 0) → jo f W = 0
 | [], _ => rfl
 | e :: W, h => by
  have h1 := h e (by simp)
  have h2 := zn (f := f) (W := W) fun g hg => h g (by simp [hg])
  simp only [jo, h1, h2]; rfl
theorem qg (f g : Ed → Int) : ∀ W : List Ed, jo (fun e => f e + g e) W = jo f W + jo g W
 | [] => rfl
 | e :: W => by
  have := qg f g W
  simp only [jo, this]; omega
theorem rq {f g : Ed → Int} : ∀ {W : List Ed}, (∀ e ∈ W, f e = g e) → jo f W = jo g W
 | [], _ => rfl
 | e :: W, h => by
  have h1 := h e (by simp)
  have h2 := rq (f := f) (g := g) (W := W) fun x hx => h x (by simp [hx])
  simp only [jo, h1, h2]
theorem MV {f : Ed → Int} {W V : List Ed} (h : W.Perm V) : jo f W = jo f V := by
 induction h with
 | nil => rfl
 | cons x _ ih => simp only [jo, ih]
 | swap x y l => simp only [jo]; omega
 | trans _ _ h1 h2 => exact h1.trans h2
theorem Iw (f : Ed → Int) (g : Ed → Ed) : ∀ W : List Ed, jo f (W.map g) = jo (fun e => f (g e)) W
 | [] => rfl
 | e :: W => by
  have := Iw f g W
  simp only [List.map_cons, jo, this]
theorem Ho {W : List Ed} (hn : W.Nodup) {e : Ed} (h : e ∈ W) : uC W e = 1 := by
 induction W with
 | nil => cases h
 | cons f W ih =>
  obtain ⟨n1, n2⟩ := List.nodup_cons.1 hn
  unfold uC at ih ⊢
  rcases List.mem_cons.1 h with h | h
  ·subst h
   have : jo (fun g => if g = e then 1 else 0) W = 0 := zn fun g hg => if_neg fun (hh : g = e) => n1 (hh ▸ hg)
   simp only [jo, this, if_true]; rfl
  ·have h1 := ih n2 h
   have h2 : f ≠ e := fun hh => n1 (hh ▸ h)
   simp only [jo, h1, if_neg h2]; rfl
theorem qz {W : List Ed} {e : Ed} (h : e ∉ W) : uC W e = 0 := zn fun g hg => if_neg fun (hh : g = e) => h (hh ▸ hg)
theorem yA (W : List Ed) (x y : Int) : wd W x y - wd W (x - 1) y = uC W ⟨x, y + 1, .S⟩ - uC W ⟨x, y, .N⟩ := by
 have h : jo (fun e => sg x y e + (if e = ⟨x, y, .N⟩ then 1 else 0)) W = jo (fun e => sg (x - 1) y e + (if e = ⟨x, y + 1, .S⟩ then 1 else 0)) W := by
  refine rq fun e _ => ?_
  obtain ⟨a, b, d⟩ := e
  unfold sg
  cases d <;> simp only [Ed.mk.injEq, reduceCtorEq, and_false, and_true, if_false]
  ·repeat' split
   all_goals omega
  ·repeat' split
   all_goals omega
 rw [qg, qg] at h
 unfold wd uC
 omega
def TB (W : List Ed) : Prop := ∀ x y, uC W ⟨x, y, .E⟩ + uC W ⟨x, y, .N⟩ + uC W ⟨x, y, .W⟩ + uC W ⟨x, y, .S⟩ = uC W ⟨x - 1, y, .E⟩ + uC W ⟨x, y - 1, .N⟩ + uC W ⟨x + 1, y, .W⟩ + uC W ⟨x, y + 1, .S⟩
theorem BU : ∀ W : List Ed, ∃ lo : Int, ∀ e ∈ W, lo < e.x
 | [] => ⟨0, fun _ h => nomatch h⟩
 | e :: W => by
  obtain ⟨lo, h⟩ := BU W
  refine ⟨min lo (e.x - 1), fun f hf => ?_⟩
  rcases List.mem_cons.1 hf with rfl | hf
  ·omega
  ·have := h f hf; omega
theorem Cs {W : List Ed} {lo : Int} (h : ∀ e ∈ W, lo < e.x) {x y : Int} (hx : x ≤ lo) : wd W x y = 0 := by
 refine zn fun e he => ?_
 have := h e he
 obtain ⟨a, b, d⟩ := e
 have this : lo < a := this
 unfold sg
 cases d
 ·rfl
 ·exact if_neg (by omega)
 ·rfl
 ·exact if_neg (by omega)
theorem NK {W : List Ed} (hf : TB W) (x y : Int) : wd W x y - wd W x (y - 1) = uC W ⟨x, y, .E⟩ - uC W ⟨x + 1, y, .W⟩ := by
 obtain ⟨lo, hlo⟩ := BU W
 have hout : ∀ {a b : Int} {d : Dir}, a ≤ lo → uC W ⟨a, b, d⟩ = 0 := fun {a b d} ha => qz fun hm => by
  have h1 : lo < a := hlo _ hm
  omega
 have key : ∀ n : Nat, wd W (lo - 1 + n) y - wd W (lo - 1 + n) (y - 1) = uC W ⟨lo - 1 + n, y, .E⟩ - uC W ⟨lo - 1 + n + 1, y, .W⟩ := by
  intro n
  induction n with
  | zero =>
   rw [Cs hlo (by omega), Cs hlo (by omega), hout (by omega), hout (by omega)]
  | succ n ih =>
   have e : lo - 1 + ((n + 1 : Nat) : Int) = lo - 1 + (n : Int) + 1 := by omega
   rw [e]
   generalize lo - 1 + (n : Int) = z at ih ⊢
   have h1 := yA W (z + 1) y
   have h2 := yA W (z + 1) (y - 1)
   have h3 := hf (z + 1) y
   rw [show z + 1 - 1 = z by omega] at h1 h2 h3
   rw [show y - 1 + 1 = y by omega] at h2
   omega
 rcases Int.lt_or_le x (lo - 1) with h | h
 ·rw [Cs hlo (by omega), Cs hlo (by omega), hout (by omega), hout (by omega)]
 ·have := key (x - (lo - 1)).toNat
  rw [show lo - 1 + ((x - (lo - 1)).toNat : Int) = x by omega] at this
  exact this
theorem CV {W : List Ed} (hf : TB W) (e : Ed) : wd W (nK e).1 (nK e).2 - wd W (oP e).1 (oP e).2 = uC W e - uC W ⟨e.tx, e.ty, e.d.left.left⟩ := by
 obtain ⟨x, y, d⟩ := e
 unfold oP nK Ed.tx Ed.ty
 cases d <;> simp only [Dir.right, Dir.left, Dir.dx, Dir.dy]
 ·rw [Int.add_zero]; exact NK hf x y
 ·have := yA W x y
  rw [Int.add_zero]; omega
 ·have := NK hf (x - 1) y
  rw [show x - 1 + 1 = x by omega] at this
  rw [Int.add_zero, show x + -1 = x - 1 by omega]; omega
 ·have := yA W x (y - 1)
  rw [show y - 1 + 1 = y by omega] at this
  rw [Int.add_zero, show y + -1 = y - 1 by omega]; omega
end Go.Proofs.YtcjeebkoafonpaaGreatDoor.PX
namespace Go.Proofs.YtcjeebkoafonpaaGreatDoor.PX
section
variable {I : Sq}
structure Qf (I : Sq) (W : List Ed) : Prop where
 nd : W.Nodup
 bor : ∀ e ∈ W, sF I e
 flow : TB W
 cl : ∀ e, sF I e → (e ∈ W ↔ sc I e ∈ W)
theorem AL (I : Sq) : ∀ (n : Nat) (e : Ed), (walk I n e).map (sc I) = walk I n (sc I e)
 | 0, _ => rfl
 | n + 1, e => by
  have := AL I n (sc I e)
  simp only [walk, List.map_cons, this]
theorem NL {e : Ed} {n : Nat} (h : it I n e = e) : (walk I n (sc I e)).Perm (walk I n e) := by
 have h1 : walk I (1 + n) e = walk I 1 e ++ walk I n (it I 1 e) := yB I 1 n e
 have h2 : walk I (n + 1) e = walk I n e ++ walk I 1 (it I n e) := yB I n 1 e
 rw [Nat.add_comm 1 n] at h1
 rw [h1] at h2
 have e1 : walk I 1 e = [e] := rfl
 have e2 : it I 1 e = sc I e := rfl
 rw [h, e1, e2, List.singleton_append] at h2
 have h3 : (e :: walk I n (sc I e)).Perm (e :: walk I n e) := by
  rw [h2]
  exact List.perm_append_comm
 exact List.Perm.cons_inv h3
theorem SY (W : List Ed) (x y : Int) : uC W ⟨x, y, .E⟩ + uC W ⟨x, y, .N⟩ + uC W ⟨x, y, .W⟩ + uC W ⟨x, y, .S⟩ = jo (fun f => if f.p = (x, y) then 1 else 0) W := by
 unfold uC
 rw [← qg, ← qg, ← qg]
 refine rq fun f _ => ?_
 obtain ⟨a, b, d⟩ := f
 have e : (Ed.mk a b d).p = (a, b) := rfl
 rw [e]
 cases d <;> simp only [Ed.mk.injEq, reduceCtorEq, and_false, and_true, if_false, Prod.mk.injEq] <;> repeat' split
 all_goals omega
theorem SX (W : List Ed) (x y : Int) : uC W ⟨x - 1, y, .E⟩ + uC W ⟨x, y - 1, .N⟩ + uC W ⟨x + 1, y, .W⟩ + uC W ⟨x, y + 1, .S⟩ = jo (fun f => if (f.tx, f.ty) = (x, y) then 1 else 0) W := by
 unfold uC
 rw [← qg, ← qg, ← qg]
 refine rq fun f _ => ?_
 obtain ⟨a, b, d⟩ := f
 unfold Ed.tx Ed.ty
 cases d <;> simp only [Ed.mk.injEq, reduceCtorEq, and_false, and_true, if_false, Prod.mk.injEq, Dir.dx, Dir.dy] <;> repeat' split
 all_goals omega
theorem O8 {e : Ed} {n : Nat} (he : sF I e) (h : Co I e n) : Qf I (walk I n e) := by
 have hrot := NL h.2.1
 have hw : ∀ f ∈ walk I n e, sF I f := fun f hf => by
  obtain ⟨i, _, rfl⟩ := kE.1 hf
  exact qJ he i
 refine ⟨h.nodup he, hw, fun x y => ?_, fun f hf => ⟨fun hm => ?_, fun hm => ?_⟩⟩
 ·rw [SY, SX, ← MV hrot, ← AL, Iw]
  refine rq fun f _ => ?_
  rw [M0]
 ·have : sc I f ∈ (walk I n e).map (sc I) := List.mem_map_of_mem hm
  rw [AL] at this
  exact hrot.mem_iff.1 this
 ·have h1 := hrot.mem_iff.2 hm
  rw [← AL] at h1
  obtain ⟨g, hg, hgs⟩ := List.mem_map.1 h1
  rwa [← GK (hw g hg) hf hgs]
variable {W : List Ed}
theorem zC (h : Qf I W) {g : Ed} (hg : ¬ sF I g) : uC W g = 0 := qz fun hm => hg (h.bor g hm)
theorem zk (h : Qf I W) {g : Ed} (hs : lq I g.x g.y g.d = lq I g.x g.y g.d.right) : wd W (nK g).1 (nK g).2 = wd W (oP g).1 (oP g).2 := by
 have h1 := CV h.flow g
 obtain ⟨a1, a2⟩ := Ed.wh I g
 have z1 : uC W g = 0 := zC h (g := g) fun hb => by
  obtain ⟨b1, b2⟩ := hb
  rw [hs, b2] at b1
  cases b1
 have z2 : uC W ⟨g.tx, g.ty, g.d.left.left⟩ = 0 := zC h fun hb => by
  obtain ⟨b1, b2⟩ := hb
  have b1 : lq I g.tx g.ty g.d.left.left = true := b1
  have b2 : lq I g.tx g.ty g.d.left.left.right = false := b2
  rw [Dir.lr] at b2
  rw [a2] at b1
  rw [a1, hs, b1] at b2
  cases b2
 rw [z1, z2] at h1
 omega
theorem NT (e : Ed) : nK ⟨e.tx, e.ty, e.d.left⟩ = nK e ∧ nK ⟨e.tx, e.ty, e.d.left.left⟩ = oP e := by
 obtain ⟨x, y, d⟩ := e
 unfold oP nK Ed.tx Ed.ty
 cases d <;> simp only [Dir.left, Dir.right, Dir.dx, Dir.dy, Prod.mk.injEq] <;> omega
theorem Qg (h : Qf I W) {e : Ed} (he : sF I e) : wd W (nK (sc I e)).1 (nK (sc I e)).2 = wd W (nK e).1 (nK e).2 := by
 obtain ⟨s1, s2⟩ := NT e
 obtain ⟨a1, a2⟩ := Ed.wh I e
 rcases wJ he with ⟨h1, h2⟩ | ⟨h1, h2, h3⟩ | ⟨h1, h2, h3⟩
 ·rw [h2, s1]
 ·have g := zk h (g := ⟨e.tx, e.ty, e.d.left⟩) (by
   show lq I e.tx e.ty e.d.left = lq I e.tx e.ty e.d.left.right
   rw [Dir.lr, h1, a1]; exact he.1)
  have er : oP ⟨e.tx, e.ty, e.d.left⟩ = nK ⟨e.tx, e.ty, e.d⟩ := by unfold oP; rw [Dir.lr]
  rw [s1, er] at g
  rw [h3]; exact g.symm
 ·have g := zk h (g := ⟨e.tx, e.ty, e.d.left⟩) (by
   show lq I e.tx e.ty e.d.left = lq I e.tx e.ty e.d.left.right
   rw [Dir.lr, h1, a1]; exact he.1)
  have er : oP ⟨e.tx, e.ty, e.d.left⟩ = nK ⟨e.tx, e.ty, e.d⟩ := by unfold oP; rw [Dir.lr]
  rw [s1, er] at g
  have g2 := zk h (g := ⟨e.tx, e.ty, e.d⟩) (by
   show lq I e.tx e.ty e.d = lq I e.tx e.ty e.d.right
   rw [h1, h2])
  have er2 : oP ⟨e.tx, e.ty, e.d⟩ = nK ⟨e.tx, e.ty, e.d.right⟩ := rfl
  rw [er2] at g2
  rw [h3, g, g2]
theorem NJ (h : Qf I W) {e : Ed} (he : sF I e) : wd W (oP (sc I e)).1 (oP (sc I e)).2 = wd W (oP e).1 (oP e).2 := by
 obtain ⟨s1, s2⟩ := NT e
 obtain ⟨a1, a2⟩ := Ed.wh I e
 have er1 : oP ⟨e.tx, e.ty, e.d.right⟩ = oP e := by
  rw [← s2]
  show nK ⟨e.tx, e.ty, e.d.right.right⟩ = _
  rw [Dir.rr]
 have er2 : oP ⟨e.tx, e.ty, e.d⟩ = nK ⟨e.tx, e.ty, e.d.right⟩ := rfl
 have er3 : oP ⟨e.tx, e.ty, e.d.left⟩ = nK ⟨e.tx, e.ty, e.d⟩ := by unfold oP; rw [Dir.lr]
 have hR : lq I e.tx e.ty e.d.right.right = false := by rw [Dir.rr, a2]; exact he.2
 rcases wJ he with ⟨h1, h2⟩ | ⟨h1, h2, h3⟩ | ⟨h1, h2, h3⟩
 ·rw [h2, er3]
  rcases bc (b := lq I e.tx e.ty e.d.right) with hA | hA
  ·have g1 := zk h (g := ⟨e.tx, e.ty, e.d.right⟩) (by
    show lq I e.tx e.ty e.d.right = lq I e.tx e.ty e.d.right.right
    rw [hA, hR])
   have g2 := zk h (g := ⟨e.tx, e.ty, e.d⟩) (by
    show lq I e.tx e.ty e.d = lq I e.tx e.ty e.d.right
    rw [h1, hA])
   rw [er1] at g1
   rw [er2] at g2
   rw [g2, g1]
  · -- another border passes here
   have g1 := CV h.flow ⟨e.tx, e.ty, e.d.right⟩
   have g2 := CV h.flow ⟨e.tx, e.ty, e.d⟩
   rw [er1] at g1
   rw [er2] at g2
   have b1 : sF I ⟨e.tx, e.ty, e.d.right⟩ := ⟨hA, hR⟩
   have c1 := PX.wh I e.tx e.ty e.d.right
   have c2 := PX.wh I e.tx e.ty e.d
   have hin : sF I ⟨Ed.tx ⟨e.tx, e.ty, e.d⟩, Ed.ty ⟨e.tx, e.ty, e.d⟩, e.d.left.left⟩ := by
    refine ⟨?_, ?_⟩
    ·show lq I (e.tx + e.d.dx) (e.ty + e.d.dy) e.d.left.left = true
     rw [c2.2]; exact hA
    ·show lq I (e.tx + e.d.dx) (e.ty + e.d.dy) e.d.left.left.right = false
     rw [Dir.lr, c2.1]; exact h1
   have hto : Ed.tx ⟨Ed.tx ⟨e.tx, e.ty, e.d⟩, Ed.ty ⟨e.tx, e.ty, e.d⟩, e.d.left.left⟩ = e.tx ∧ Ed.ty ⟨Ed.tx ⟨e.tx, e.ty, e.d⟩, Ed.ty ⟨e.tx, e.ty, e.d⟩, e.d.left.left⟩ = e.ty := by
    generalize e.tx = u
    generalize e.ty = v
    unfold Ed.tx Ed.ty
    cases e.d <;> simp only [Dir.left, Dir.dx, Dir.dy] <;> omega
   have hsc : sc I ⟨Ed.tx ⟨e.tx, e.ty, e.d⟩, Ed.ty ⟨e.tx, e.ty, e.d⟩, e.d.left.left⟩ = ⟨e.tx, e.ty, e.d.right⟩ := by
    rw [Sm (by rw [hto.1, hto.2]; show lq I e.tx e.ty e.d.left.left = false; rw [← Dir.rr]; exact hR), hto.1, hto.2]
    show (⟨e.tx, e.ty, e.d.left.left.left⟩ : Ed) = _
    rw [Dir.VF]
   have hind : uC W ⟨e.tx, e.ty, e.d.right⟩ = uC W ⟨Ed.tx ⟨e.tx, e.ty, e.d⟩, Ed.ty ⟨e.tx, e.ty, e.d⟩, e.d.left.left⟩ := by
    have hcl := h.cl _ hin
    rw [hsc] at hcl
    by_cases hm : (⟨e.tx, e.ty, e.d.right⟩ : Ed) ∈ W
    ·rw [Ho h.nd hm, Ho h.nd (hcl.2 hm)]
    ·rw [qz hm, qz fun hh => hm (hcl.1 hh)]
   have z1 : uC W ⟨Ed.tx ⟨e.tx, e.ty, e.d.right⟩, Ed.ty ⟨e.tx, e.ty, e.d.right⟩, e.d.right.left.left⟩ = 0 := zC h fun hb => by
    have hb1 : lq I (e.tx + e.d.right.dx) (e.ty + e.d.right.dy) e.d.right.left.left = true := hb.1
    rw [c1.2, hR] at hb1
    cases hb1
   have z2 : uC W ⟨e.tx, e.ty, e.d⟩ = 0 := zC h fun hb => by
    have hb1 : lq I e.tx e.ty e.d = true := hb.1
    rw [h1] at hb1; cases hb1
   simp only at g1 g2
   rw [z1] at g1
   rw [z2, ← hind] at g2
   omega
 ·have g := zk h (g := ⟨e.tx, e.ty, e.d.right⟩) (by
   show lq I e.tx e.ty e.d.right = lq I e.tx e.ty e.d.right.right
   rw [h2, hR])
  rw [er1] at g
  rw [h3, er2, g]
 ·rw [h3, er1]
end
end Go.Proofs.YtcjeebkoafonpaaGreatDoor.PX
namespace Go.Proofs.YtcjeebkoafonpaaGreatDoor.PX
section
variable {I : Sq}
structure P9 (I : Sq) (W : List Ed) : Prop where
 cyc : Qf I W
 one : ∃ e n, sF I e ∧ Co I e n ∧ W = walk I n e
theorem Pv {e : Ed} {n : Nat} (he : sF I e) (h : Co I e n) : P9 I (walk I n e) := ⟨O8 he h, e, n, he, h, rfl⟩
theorem beside {W V : List Ed} (hW : Qf I W) (hV : P9 I V) {f g : Ed} (hf : f ∈ V) (hg : g ∈ V) : wd W (nK f).1 (nK f).2 = wd W (nK g).1 (nK g).2 ∧ wd W (oP f).1 (oP f).2 = wd W (oP g).1 (oP g).2 := by
 obtain ⟨e, n, he, hp, rfl⟩ := hV.one
 have key : ∀ k, wd W (nK (it I k e)).1 (nK (it I k e)).2 = wd W (nK e).1 (nK e).2 ∧ wd W (oP (it I k e)).1 (oP (it I k e)).2 = wd W (oP e).1 (oP e).2 := by
  intro k
  induction k with
  | zero => exact ⟨rfl, rfl⟩
  | succ k ih =>
   have hb := qJ he k
   rw [sZ, Qg hW hb, NJ hW hb]
   exact ih
 obtain ⟨i, _, rfl⟩ := kE.1 hf
 obtain ⟨j, _, rfl⟩ := kE.1 hg
 exact ⟨(key i).1.trans (key j).1.symm, (key i).2.trans (key j).2.symm⟩
theorem I1 {W : List Ed} (hW : Qf I W) {f : Ed} (hf : sF I f) : wd W (nK f).1 (nK f).2 = wd W (oP f).1 (oP f).2 + uC W f := by
 have h1 := CV hW.flow f
 have z : uC W ⟨f.tx, f.ty, f.d.left.left⟩ = 0 := zC hW fun hb => by
  have hb1 : lq I f.tx f.ty f.d.left.left = true := hb.1
  rw [(Ed.wh I f).2, hf.2] at hb1
  cases hb1
 omega
theorem QB {W : List Ed} (hW : Qf I W) {f : Ed} (hf : f ∈ W) : wd W (nK f).1 (nK f).2 = wd W (oP f).1 (oP f).2 + 1 := by
 rw [I1 hW (hW.bor f hf), Ho hW.nd hf]
theorem Dc (Ws : List (List Ed)) (x y : Int) : (∀ W ∈ Ws, wd W x y = 0) ∨ ∃ V ∈ Ws, ∃ f ∈ V, ∃ z, (nK f = (z, y) ∨ oP f = (z, y)) ∧ ∀ W ∈ Ws, wd W z y = wd W x y := by
 obtain ⟨lo, hlo⟩ : ∃ lo : Int, ∀ W ∈ Ws, ∀ e ∈ W, lo < e.x := by
  obtain ⟨lo, h⟩ := BU Ws.flatten
  exact ⟨lo, fun W hW e he => h e (List.mem_flatten.2 ⟨W, hW, he⟩)⟩
 have key : ∀ (n : Nat) (x : Int), x ≤ lo + n → (∀ W ∈ Ws, wd W x y = 0) ∨ ∃ V ∈ Ws, ∃ f ∈ V, ∃ z, (nK f = (z, y) ∨ oP f = (z, y)) ∧ ∀ W ∈ Ws, wd W z y = wd W x y := by
  intro n
  induction n with
  | zero => intro x hx; exact .inl fun W hW => Cs (hlo W hW) (by omega)
  | succ n ih =>
   intro x hx
   by_cases hm : ∃ V ∈ Ws, (⟨x, y + 1, .S⟩ : Ed) ∈ V ∨ (⟨x, y, .N⟩ : Ed) ∈ V
   ·right
    obtain ⟨V, hV, hm | hm⟩ := hm
    ·refine ⟨V, hV, _, hm, x, .inl ?_, fun _ _ => rfl⟩
     show (x, y + 1 - 1) = (x, y)
     rw [show y + 1 - 1 = y by omega]
    ·exact ⟨V, hV, _, hm, x, .inr rfl, fun _ _ => rfl⟩
   ·have hstep : ∀ W ∈ Ws, wd W (x - 1) y = wd W x y := fun W hW => by
     have h1 := yA W x y
     rw [qz fun hh => hm ⟨W, hW, .inl hh⟩, qz fun hh => hm ⟨W, hW, .inr hh⟩] at h1
     omega
    rcases ih (x - 1) (by omega) with h | ⟨V, hV, f, hf, z, h1, h2⟩
    ·exact .inl fun W hW => by rw [← hstep W hW]; exact h W hW
    ·exact .inr ⟨V, hV, f, hf, z, h1, fun W hW => (h2 W hW).trans (hstep W hW)⟩
 rcases Int.lt_or_le lo x with h | h
 ·exact key (x - lo).toNat x (by omega)
 ·exact key 0 x (by omega)
theorem xn {W : List Ed} (hW : P9 I W) {f : Ed} (hf : f ∈ W) : (wd W (nK f).1 (nK f).2 = 1 ∧ wd W (oP f).1 (oP f).2 = 0) ∨ (wd W (nK f).1 (nK f).2 = 0 ∧ wd W (oP f).1 (oP f).2 = -1) := by
 have h1 := QB hW.cyc hf
 obtain ⟨lo, hlo⟩ := BU W
 suffices h : wd W (nK f).1 (nK f).2 = 0 ∨ wd W (oP f).1 (oP f).2 = 0 by omega
 have hne : ∃ x y, wd W x y ≠ 0 := by
  rcases Int.lt_trichotomy (wd W (nK f).1 (nK f).2) 0 with h | h | h
  ·exact ⟨(nK f).1, (nK f).2, by omega⟩
  ·exact ⟨(oP f).1, (oP f).2, by omega⟩
  ·exact ⟨(nK f).1, (nK f).2, by omega⟩
 obtain ⟨x, y, hxy⟩ := hne
 have key : ∀ (n : Nat) (x : Int), x ≤ lo + n → wd W x y ≠ 0 → ∃ z, wd W z y ≠ 0 ∧ wd W (z - 1) y = 0 := by
  intro n
  induction n with
  | zero => intro x hx h; exact absurd (Cs hlo (by omega)) h
  | succ n ih =>
   intro x hx h
   by_cases h0 : wd W (x - 1) y = 0
   ·exact ⟨x, h, h0⟩
   ·exact ih (x - 1) (by omega) h0
 obtain ⟨z, z1, z2⟩ := key (x - lo).toNat x (by omega) hxy
 have h2 := yA W z y
 by_cases hS : (⟨z, y + 1, .S⟩ : Ed) ∈ W
 ·have := beside hW.cyc hW hf hS
  right
  rw [this.2]
  show wd W (z - 1) (y + 1 - 1) = 0
  rw [show y + 1 - 1 = y by omega]; exact z2
 ·by_cases hN : (⟨z, y, .N⟩ : Ed) ∈ W
  ·have := beside hW.cyc hW hf hN
   left
   rw [this.1]; exact z2
  ·rw [qz hS, qz hN] at h2
   omega
end
end Go.Proofs.YtcjeebkoafonpaaGreatDoor.PX
namespace Go.Proofs.YtcjeebkoafonpaaGreatDoor.PX
section
variable {I : Sq}
theorem Ni (Ws : List (List Ed)) {x y : Int} (h : ∃ W ∈ Ws, wd W x y ≠ 0) : ∃ V ∈ Ws, ∃ f ∈ V, ∃ z, (nK f = (z, y) ∨ oP f = (z, y)) ∧ ∀ W ∈ Ws, wd W z y = 0 := by
 obtain ⟨lo, hlo⟩ : ∃ lo : Int, ∀ W ∈ Ws, ∀ e ∈ W, lo < e.x := by
  obtain ⟨lo, h⟩ := BU Ws.flatten
  exact ⟨lo, fun W hW e he => h e (List.mem_flatten.2 ⟨W, hW, he⟩)⟩
 have key : ∀ (n : Nat) (x : Int), x ≤ lo + n → (∃ W ∈ Ws, wd W x y ≠ 0) → ∃ V ∈ Ws, ∃ f ∈ V, ∃ z, (nK f = (z, y) ∨ oP f = (z, y)) ∧ ∀ W ∈ Ws, wd W z y = 0 := by
  intro n
  induction n with
  | zero =>
   rintro x hx ⟨W, hW, h⟩
   exact absurd (Cs (hlo W hW) (by omega)) h
  | succ n ih =>
   rintro x hx ⟨W, hW, h⟩
   by_cases h0 : ∃ U ∈ Ws, wd U (x - 1) y ≠ 0
   ·exact ih (x - 1) (by omega) h0
   ·have hz : ∀ U ∈ Ws, wd U (x - 1) y = 0 := fun U hU => by
     by_cases hh : wd U (x - 1) y = 0
     ·exact hh
     ·exact absurd ⟨U, hU, hh⟩ h0
    have h1 := yA W x y
    have h2 := hz W hW
    by_cases hS : (⟨x, y + 1, .S⟩ : Ed) ∈ W
    ·refine ⟨W, hW, _, hS, x - 1, .inr ?_, hz⟩
     show (x - 1, y + 1 - 1) = (x - 1, y)
     rw [show y + 1 - 1 = y by omega]
    ·by_cases hN : (⟨x, y, .N⟩ : Ed) ∈ W
     ·exact ⟨W, hW, _, hN, x - 1, .inl rfl, hz⟩
     ·rw [qz hS, qz hN] at h1
      omega
 obtain ⟨W, hW, hne⟩ := h
 rcases Int.lt_or_le lo x with h | h
 ·exact key (x - lo).toNat x (by omega) ⟨W, hW, hne⟩
 ·exact key 0 x (by omega) ⟨W, hW, hne⟩
def VQ (W : List Ed) (s : Int) : Prop := ∀ f ∈ W, wd W (nK f).1 (nK f).2 + wd W (oP f).1 (oP f).2 = s
theorem DZ {W : List Ed} (hW : P9 I W) : ∃ s, (s = 1 ∨ s = -1) ∧ VQ W s ∧ ∀ x y, wd W x y = 0 ∨ wd W x y = s := by
 obtain ⟨e, n, he, hp, hw⟩ := hW.one
 have hem : e ∈ W := by
  rw [hw]
  exact kE.2 ⟨0, hp.1, rfl⟩
 have h2 := xn hW hem
 refine ⟨wd W (nK e).1 (nK e).2 + wd W (oP e).1 (oP e).2, by omega, fun f hf => ?_, fun x y => ?_⟩
 ·obtain ⟨b1, b2⟩ := beside hW.cyc hW hf hem
  rw [b1, b2]
 ·rcases Dc [W] x y with h | ⟨V, hV, f, hf, z, h3, h4⟩
  ·exact .inl (h W (by simp))
  ·have : V = W := by simpa using hV
   subst this
   have h5 := h4 V (by simp)
   obtain ⟨b1, b2⟩ := beside hW.cyc hW hf hem
   rcases h3 with h3 | h3
   ·rw [h3] at b1
    have b1 : wd V z y = wd V (nK e).1 (nK e).2 := b1
    omega
   ·rw [h3] at b2
    have b2 : wd V z y = wd V (oP e).1 (oP e).2 := b2
    omega
theorem Aq {W V : List Ed} (hW : Qf I W) (hV : P9 I V) (hd : ∀ f ∈ V, f ∉ W) : ∃ c, ∀ f ∈ V, wd W (nK f).1 (nK f).2 = c ∧ wd W (oP f).1 (oP f).2 = c := by
 obtain ⟨e, n, he, hp, hw⟩ := hV.one
 have hem : e ∈ V := by
  rw [hw]
  exact kE.2 ⟨0, hp.1, rfl⟩
 refine ⟨wd W (nK e).1 (nK e).2, fun f hf => ?_⟩
 obtain ⟨b1, b2⟩ := beside hW hV hf hem
 have h1 := I1 hW (hV.cyc.bor e hem)
 rw [qz (hd e hem)] at h1
 exact ⟨b1, by rw [b2]; omega⟩
theorem tK {W : List Ed} {c x y : Int} {f : Ed} (h : wd W (nK f).1 (nK f).2 = c ∧ wd W (oP f).1 (oP f).2 = c) (hs : nK f = (x, y) ∨ oP f = (x, y)) : wd W x y = c := by
 rcases hs with hs | hs
 ·rw [hs] at h; exact h.1
 ·rw [hs] at h; exact h.2
theorem Uj {W V : List Ed} (hW : P9 I W) (hV : P9 I V) (hd : ∀ f ∈ V, f ∉ W) :
  (∀ x y, ¬ (wd W x y ≠ 0 ∧ wd V x y ≠ 0)) ∨ ((∀ x y, wd V x y ≠ 0 → wd W x y ≠ 0) ∧ ∀ f ∈ V, wd W (nK f).1 (nK f).2 ≠ 0 ∧ wd W (oP f).1 (oP f).2 ≠ 0) ∨ ((∀ x y, wd W x y ≠ 0 → wd V x y ≠ 0) ∧ ∀ f ∈ W, wd V (nK f).1 (nK f).2 ≠ 0 ∧ wd V (oP f).1 (oP f).2 ≠ 0) := by
 obtain ⟨a, ha⟩ := Aq hW.cyc hV hd
 obtain ⟨b, hb⟩ := Aq hV.cyc hW fun f hf hh => hd f hh hf
 by_cases ha0 : a = 0
 ·by_cases hb0 : b = 0
  ·left
   rintro x y ⟨h1, h2⟩
   rcases Dc [W, V] x y with h | ⟨U, hU, f, hf, z, h3, h4⟩
   ·exact h1 (h W (by simp))
   ·have e1 := h4 W (by simp)
    have e2 := h4 V (by simp)
    simp only [List.mem_cons, List.not_mem_nil, or_false] at hU
    rcases hU with rfl | rfl
    ·have := tK (hb f hf) h3
     omega
    ·have := tK (ha f hf) h3
     omega
  ·right; right
   refine ⟨fun x y h1 h2 => ?_, fun f hf => by rw [(hb f hf).1, (hb f hf).2]; exact ⟨hb0, hb0⟩⟩
   rcases Dc [W, V] x y with h | ⟨U, hU, f, hf, z, h3, h4⟩
   ·exact h1 (h W (by simp))
   ·have e1 := h4 W (by simp)
    have e2 := h4 V (by simp)
    simp only [List.mem_cons, List.not_mem_nil, or_false] at hU
    rcases hU with rfl | rfl
    ·have := tK (hb f hf) h3
     omega
    ·have := tK (ha f hf) h3
     omega
 ·by_cases hb0 : b = 0
  ·right; left
   refine ⟨fun x y h1 h2 => ?_, fun f hf => by rw [(ha f hf).1, (ha f hf).2]; exact ⟨ha0, ha0⟩⟩
   rcases Dc [W, V] x y with h | ⟨U, hU, f, hf, z, h3, h4⟩
   ·exact h1 (h V (by simp))
   ·have e1 := h4 W (by simp)
    have e2 := h4 V (by simp)
    simp only [List.mem_cons, List.not_mem_nil, or_false] at hU
    rcases hU with rfl | rfl
    ·have := tK (hb f hf) h3
     omega
    ·have := tK (ha f hf) h3
     omega
  · -- not both: the first of them that is met from far left
   exfalso
   obtain ⟨e, n, he, hp, hw⟩ := hV.one
   have hem : e ∈ V := by
    rw [hw]
    exact kE.2 ⟨0, hp.1, rfl⟩
   obtain ⟨U, hU, f, hf, z, h3, h4⟩ := Ni [W, V] (x := (nK e).1) (y := (nK e).2) ⟨W, by simp, by rw [(ha e hem).1]; exact ha0⟩
   have e1 := h4 W (by simp)
   have e2 := h4 V (by simp)
   simp only [List.mem_cons, List.not_mem_nil, or_false] at hU
   rcases hU with rfl | rfl
   ·have := tK (hb f hf) h3
    omega
   ·have := tK (ha f hf) h3
    omega
end
end Go.Proofs.YtcjeebkoafonpaaGreatDoor.PX
namespace Go.Proofs.YtcjeebkoafonpaaGreatDoor.PX
section
variable {I : Sq}
def uu (g : List Ed → Int) : List (List Ed) → Int
 | [] => 0
 | W :: Ws => g W + uu g Ws
theorem wI {g : List Ed → Int} : ∀ {Ws : List (List Ed)}, (∀ W ∈ Ws, g W = 0) → uu g Ws = 0
 | [], _ => rfl
 | W :: Ws, h => by
  have h1 := h W (by simp)
  have h2 := wI (g := g) (Ws := Ws) fun V hV => h V (by simp [hV])
  simp only [uu, h1, h2]; rfl
theorem xw {g k : List Ed → Int} : ∀ {Ws : List (List Ed)}, (∀ W ∈ Ws, g W = k W) → uu g Ws = uu k Ws
 | [], _ => rfl
 | W :: Ws, h => by
  have h1 := h W (by simp)
  have h2 := xw (g := g) (k := k) (Ws := Ws) fun V hV => h V (by simp [hV])
  simp only [uu, h1, h2]
theorem DJ (g k : List Ed → Int) : ∀ Ws : List (List Ed), uu (fun W => g W - k W) Ws = uu g Ws - uu k Ws
 | [] => rfl
 | W :: Ws => by
  have := DJ g k Ws
  simp only [uu, this]; omega
theorem GU {α : Type} {R : α → α → Prop} : ∀ {l : List α}, l.Pairwise R → ∀ a ∈ l, ∀ b ∈ l, a = b ∨ R a b ∨ R b a
 | x :: l, h, a, ha, b, hb => by
  obtain ⟨h1, h2⟩ := List.pairwise_cons.1 h
  rcases List.mem_cons.1 ha with ea | ea
  ·rcases List.mem_cons.1 hb with eb | eb
   ·left; rw [ea, eb]
   ·right; left; rw [ea]; exact h1 b eb
  ·rcases List.mem_cons.1 hb with eb | eb
   ·right; right; rw [eb]; exact h1 a ea
   ·exact GU h2 a ea b eb
structure Full (I : Sq) (Ws : List (List Ed)) : Prop where
 bd : ∀ W ∈ Ws, P9 I W
 dis : Ws.Pairwise fun W V => ∀ f ∈ W, f ∉ V
 all : ∀ e, sF I e → ∃ W ∈ Ws, e ∈ W
theorem Full.uC {Ws : List (List Ed)} (h : Full I Ws) (e : Ed) : (sF I e → uu (fun W => PX.uC W e) Ws = 1) ∧ (¬ sF I e → uu (fun W => PX.uC W e) Ws = 0) := by
 refine ⟨fun he => ?_, fun he => wI fun W hW => zC (h.bd W hW).cyc he⟩
 have key : ∀ Ws : List (List Ed), (∀ W ∈ Ws, W.Nodup) → Ws.Pairwise (fun W V => ∀ f ∈ W, f ∉ V) → (∃ W ∈ Ws, e ∈ W) → uu (fun W => PX.uC W e) Ws = 1 := by
  intro Ws
  induction Ws with
  | nil => rintro _ _ ⟨W, hW, _⟩; cases hW
  | cons V Ws ih =>
   rintro hn hd ⟨W, hW, heW⟩
   obtain ⟨d1, d2⟩ := List.pairwise_cons.1 hd
   by_cases hV : e ∈ V
   ·have : uu (fun W => PX.uC W e) Ws = 0 := wI fun U hU => qz (d1 U hU e hV)
    simp only [uu, this, Ho (hn V (by simp)) hV]; rfl
   ·have hm : ∃ W ∈ Ws, e ∈ W := by
     rcases List.mem_cons.1 hW with rfl | hW
     ·exact absurd heW hV
     ·exact ⟨W, hW, heW⟩
    have := ih (fun U hU => hn U (by simp [hU])) d2 hm
    simp only [uu, this, qz hV]; rfl
 exact key Ws (fun W hW => (h.bd W hW).cyc.nd) h.dis (h.all e he)
theorem Full.tot {Ws : List (List Ed)} (h : Full I Ws) (hfin : ∀ y, ∃ lo, ∀ x, x ≤ lo → I x y = false) (x y : Int) : uu (fun W => wd W x y) Ws = if I x y = true then 1 else 0 := by
 obtain ⟨lo1, hlo1⟩ : ∃ lo : Int, ∀ W ∈ Ws, ∀ e ∈ W, lo < e.x := by
  obtain ⟨lo, h⟩ := BU Ws.flatten
  exact ⟨lo, fun W hW e he => h e (List.mem_flatten.2 ⟨W, hW, he⟩)⟩
 obtain ⟨lo2, hlo2⟩ := hfin y
 have base : ∀ x, x ≤ min lo1 lo2 → uu (fun W => wd W x y) Ws = if I x y = true then 1 else 0 := fun x hx => by
  rw [hlo2 x (by omega), if_neg (by simp)]
  exact wI fun W hW => Cs (hlo1 W hW) (by omega)
 have key : ∀ n : Nat, uu (fun W => wd W (min lo1 lo2 + n) y) Ws = if I (min lo1 lo2 + n) y = true then 1 else 0 := by
  intro n
  induction n with
  | zero => exact base _ (by omega)
  | succ n ih =>
   rw [show min lo1 lo2 + ((n + 1 : Nat) : Int) = min lo1 lo2 + (n : Int) + 1 by omega]
   generalize min lo1 lo2 + (n : Int) = z at ih ⊢
   have hs : uu (fun W => wd W (z + 1) y - wd W z y) Ws = uu (fun W => PX.uC W ⟨z + 1, y + 1, .S⟩ - PX.uC W ⟨z + 1, y, .N⟩) Ws := xw fun W _ => by
    have := yA W (z + 1) y
    rw [show z + 1 - 1 = z by omega] at this
    exact this
   rw [DJ, DJ, ih] at hs
   obtain ⟨s1, s2⟩ := h.uC ⟨z + 1, y + 1, .S⟩
   obtain ⟨n1, n2⟩ := h.uC ⟨z + 1, y, .N⟩
   have bS : sF I ⟨z + 1, y + 1, .S⟩ ↔ I (z + 1) y = true ∧ I z y = false := by
    unfold sF
    simp only [lq, Dir.right]
    rw [show y + 1 - 1 = y by omega, show z + 1 - 1 = z by omega]
   have bN : sF I ⟨z + 1, y, .N⟩ ↔ I z y = true ∧ I (z + 1) y = false := by
    unfold sF
    simp only [lq, Dir.right]
    rw [show z + 1 - 1 = z by omega]
   rw [bS] at s1 s2
   rw [bN] at n1 n2
   cases hz : I z y <;> cases hz1 : I (z + 1) y <;> simp only [hz, hz1, Bool.false_eq_true, reduceCtorEq, and_self, and_true, true_and, false_and, and_false, if_true, if_false, not_true, not_false_iff, forall_const, false_implies, true_implies] at s1 s2 n1 n2 hs ⊢ <;> omega
 rcases Int.lt_or_le (min lo1 lo2) x with hx | hx
 ·have := key (x - min lo1 lo2).toNat
  rw [show min lo1 lo2 + ((x - min lo1 lo2).toNat : Int) = x by omega] at this
  exact this
 ·exact base x hx
theorem Full.inner {Ws : List (List Ed)} (h : Full I Ws) (hfin : ∀ y, ∃ lo, ∀ x, x ≤ lo → I x y = false) {W : List Ed} (hW : W ∈ Ws) {s x y : Int} (hs : VQ W s) (hxy : wd W x y ≠ 0) (hin : ∀ V ∈ Ws, wd V x y ≠ 0 → V = W ∨ ∀ f ∈ W, wd V (nK f).1 (nK f).2 ≠ 0 ∧ wd V (oP f).1 (oP f).2 ≠ 0) : (I x y = true ↔ s = 1) := by
 have hB := h.bd W hW
 obtain ⟨e, n, he, hp, hw⟩ := hB.one
 have hem : e ∈ W := by
  rw [hw]
  exact kE.2 ⟨0, hp.1, rfl⟩
 have hse := hs e hem
 obtain ⟨s', h1, h2, h3⟩ := DZ hB
 have hss : s' = s := by rw [← h2 e hem, hse]
 subst hss
 have htv := xn hB hem
 have hIL : I (nK e).1 (nK e).2 = true := by rw [← OA I e.x e.y e.d]; exact he.1
 have hIR : I (oP e).1 (oP e).2 = false := by
  unfold oP
  rw [← OA I e.x e.y e.d.right]; exact he.2
 have hoth : ∀ V ∈ Ws, V ≠ W → wd V (nK e).1 (nK e).2 = wd V x y ∧ wd V (oP e).1 (oP e).2 = wd V x y := fun V hV hne => by
  have hVB := h.bd V hV
  have hd : ∀ f ∈ W, f ∉ V := fun f hf hfV => by
   have := GU h.dis V hV W hW
   rcases this with hh | hh | hh
   ·exact hne hh
   ·exact hh f hfV hf
   ·exact hh f hf hfV
  obtain ⟨c, hc⟩ := Aq hVB.cyc hB hd
  obtain ⟨sv, v1, v2, v3⟩ := DZ hVB
  rw [(hc e hem).1, (hc e hem).2]
  suffices hh : c = wd V x y from ⟨hh, hh⟩
  by_cases h0 : wd V x y = 0
  ·rw [h0]
   by_cases hc0 : c = 0
   ·exact hc0
   ·exfalso
    rcases Uj hVB hB hd with hn | ⟨hn, _⟩ | ⟨hn, _⟩
    ·rcases htv with ⟨t1, t2⟩ | ⟨t1, t2⟩
     ·exact hn _ _ ⟨by rw [(hc e hem).1]; exact hc0, by rw [t1]; decide⟩
     ·exact hn _ _ ⟨by rw [(hc e hem).2]; exact hc0, by rw [t2]; decide⟩
    ·exact hn x y hxy h0
    ·rcases htv with ⟨t1, t2⟩ | ⟨t1, t2⟩
     ·exact hn _ _ (by rw [(hc e hem).2]; exact hc0) t2
     ·exact hn _ _ (by rw [(hc e hem).1]; exact hc0) t1
  ·rcases hin V hV h0 with hh | hh
   ·exact absurd hh hne
   ·have g1 := (hh e hem).1
    have g2 := v3 (nK e).1 (nK e).2
    have g3 := v3 x y
    rw [(hc e hem).1] at g1 g2
    omega
 have hown := h3 x y
 have hT := h.tot hfin x y
 rcases htv with ⟨t1, t2⟩ | ⟨t1, t2⟩
 · -- its squares lie within
  have hs1 : s' = 1 := by omega
  have hTL := h.tot hfin (nK e).1 (nK e).2
  have : uu (fun V => wd V x y) Ws = uu (fun V => wd V (nK e).1 (nK e).2) Ws := xw fun V hV => by
   by_cases hVW : V = W
   ·subst hVW; omega
   ·exact (hoth V hV hVW).1.symm
  rw [this, hTL, hIL, if_pos rfl] at hT
  constructor
  ·intro _; exact hs1
  ·intro _
   cases hi : I x y with
   | true => rfl
   | false => rw [hi] at hT; simp at hT
 ·have hs1 : s' = -1 := by omega
  have hTR := h.tot hfin (oP e).1 (oP e).2
  have : uu (fun V => wd V x y) Ws = uu (fun V => wd V (oP e).1 (oP e).2) Ws := xw fun V hV => by
   by_cases hVW : V = W
   ·subst hVW; omega
   ·exact (hoth V hV hVW).2.symm
  rw [this, hTR, hIR, if_neg (by simp)] at hT
  constructor
  ·intro hi; rw [hi] at hT; simp at hT
  ·intro hh; omega
end
end Go.Proofs.YtcjeebkoafonpaaGreatDoor.PX
namespace Go.Proofs.YtcjeebkoafonpaaGreatDoor.PX
section
variable {I : Sq}
theorem yl.full {B : List Ed} (hB : vK I B) {ls : List (List (Int × Int))} (h : yl I ls) : ∃ ws, ws.length = ls.length ∧ Full I ws ∧ ∀ (i : Nat) (l : List (Int × Int)) (w : List Ed), ls[i]? = some l → ws[i]? = some w → ∃ e n, zN I e ∧ Co I e n ∧ l = zL I n e ∧ w = walk I n e ∧ Tz I e n l := by
 obtain ⟨ws, w1, w2, w3, w4, w5⟩ := yl.steps hB h.is h.ord
 rw [List.Nodup, List.pairwise_flatten] at w2
 refine ⟨ws, w1, ⟨fun W hW => ?_, w2.2.imp fun {W V} hd f hf hfV => hd f hf f hfV rfl, fun f hf => ?_⟩, w3⟩
 ·obtain ⟨i, hi⟩ := List.mem_iff_getElem?.1 hW
  have hil : i < ls.length := by have := (List.getElem?_eq_some_iff.1 hi).1; omega
  obtain ⟨e, n, he, hn, _, rfl, _⟩ := w3 i _ _ (List.getElem?_eq_getElem hil) hi
  exact Pv he.1 hn
 ·obtain ⟨n, hn⟩ := per hB hf
  obtain ⟨j, hj, hl⟩ := LZ hf hn
  obtain ⟨l, hl1, m, hm, hl2⟩ := h.has _ hl
  have := w5 l hl1 _ m hl hm hl2 f (kE.2 ⟨(n - j) % n, by
   have := (hn.shift hf j).uniq hm
   rw [← this]; exact Nat.mod_lt _ hn.1, by
   rw [← (hn.shift hf j).mod, ← kR, show n - j + j = n from by omega, hn.2.1]⟩)
  obtain ⟨W, hW, hfW⟩ := List.mem_flatten.1 this
  exact ⟨W, hW, hfW⟩
end
theorem RL (x y : Int) : ∀ W : List Ed, ∃ k : Int, (cl x (W.filterMap (vx y)) : Int) = wd W x y + 2 * k
 | [] => ⟨0, rfl⟩
 | e :: W => by
  obtain ⟨k, hk⟩ := RL x y W
  have hw : wd (e :: W) x y = sg x y e + wd W x y := rfl
  rw [hw]
  obtain ⟨a, b, d⟩ := e
  have one : ∀ z : Int, ∀ l : List Int, (cl x (z :: l) : Int) = (if z ≤ x then 1 else 0) + (cl x l : Int) := fun z l => by
   unfold cl
   by_cases h : z ≤ x
   ·rw [List.filter_cons, if_pos (by simpa using h), if_pos h, List.length_cons]; omega
   ·rw [List.filter_cons, if_neg (by simpa using h), if_neg h]; omega
  cases d
  ·exact ⟨k, by rw [List.filterMap_cons_none (by rfl), hk]; show _ = 0 + wd W x y + 2 * k; omega⟩
  ·by_cases hb : b = y
   ·rw [List.filterMap_cons_some (show vx y ⟨a, b, .N⟩ = some a from if_pos hb), one, hk]
    by_cases ha : a ≤ x
    ·exact ⟨k + 1, by rw [if_pos ha]; show _ = (if b = y ∧ a ≤ x then -1 else 0) + wd W x y + 2 * (k + 1); rw [if_pos ⟨hb, ha⟩]; omega⟩
    ·exact ⟨k, by rw [if_neg ha]; show _ = (if b = y ∧ a ≤ x then -1 else 0) + wd W x y + 2 * k; rw [if_neg (by omega)]; omega⟩
   ·exact ⟨k, by rw [List.filterMap_cons_none (show vx y ⟨a, b, .N⟩ = none from if_neg hb), hk]; show _ = (if b = y ∧ a ≤ x then -1 else 0) + wd W x y + 2 * k; rw [if_neg (by omega)]; omega⟩
  ·exact ⟨k, by rw [List.filterMap_cons_none (by rfl), hk]; show _ = 0 + wd W x y + 2 * k; omega⟩
  ·by_cases hb : b = y + 1
   ·rw [List.filterMap_cons_some (show vx y ⟨a, b, .S⟩ = some a from if_pos hb), one, hk]
    by_cases ha : a ≤ x
    ·exact ⟨k, by rw [if_pos ha]; show _ = (if b = y + 1 ∧ a ≤ x then 1 else 0) + wd W x y + 2 * k; rw [if_pos ⟨hb, ha⟩]; omega⟩
    ·exact ⟨k, by rw [if_neg ha]; show _ = (if b = y + 1 ∧ a ≤ x then 1 else 0) + wd W x y + 2 * k; rw [if_neg (by omega)]; omega⟩
   ·exact ⟨k, by rw [List.filterMap_cons_none (show vx y ⟨a, b, .S⟩ = none from if_neg hb), hk]; show _ = (if b = y + 1 ∧ a ≤ x then 1 else 0) + wd W x y + 2 * k; rw [if_neg (by omega)]; omega⟩
theorem Sv {I : Sq} {W : List Ed} (hW : P9 I W) (x y : Int) : cl x (W.filterMap (vx y)) % 2 = 1 ↔ wd W x y ≠ 0 := by
 obtain ⟨s, s1, _, s3⟩ := DZ hW
 obtain ⟨k, hk⟩ := RL x y W
 have := s3 x y
 constructor
 ·intro h; omega
 ·intro h; omega
def mi (g : Int → Int) (lo : Int) : Nat → Int
 | 0 => 0
 | n + 1 => mi g lo n + g (lo + n)
theorem nM {g k : Int → Int} {lo : Int} : ∀ {n : Nat}, (∀ z, lo ≤ z → z < lo + n → g z = k z) → mi g lo n = mi k lo n
 | 0, _ => rfl
 | n + 1, h => by
  have h1 := nM (g := g) (k := k) (lo := lo) (n := n) fun z a b => h z a (by omega)
  have h2 := h (lo + n) (by omega) (by omega)
  simp only [mi, h1, h2]
theorem Iy (g k : Int → Int) (lo : Int) : ∀ n : Nat, mi (fun z => g z + k z) lo n = mi g lo n + mi k lo n
 | 0 => rfl
 | n + 1 => by
  have := Iy g k lo n
  simp only [mi, this]; omega
theorem pI (lo : Int) : ∀ n : Nat, mi (fun _ => 0) lo n = 0
 | 0 => rfl
 | n + 1 => by
  have := pI lo n
  simp only [mi, this]; rfl
theorem BG (a lo : Int) : ∀ n : Nat, lo ≤ a → a ≤ lo + n → mi (fun z => if a ≤ z then 1 else 0) lo n = lo + n - a
 | 0, h1, h2 => by simp only [mi]; omega
 | n + 1, h1, h2 => by
  simp only [mi]
  by_cases h : a ≤ lo + n
  ·rw [BG a lo n h1 h, if_pos h]; omega
  ·rw [if_neg h, nM (k := fun _ => 0) fun z g1 g2 => if_neg (by omega), pI]; omega
theorem DK (a v lo : Int) : ∀ n : Nat, lo ≤ a → a < lo + n → mi (fun z => if a = z then v else 0) lo n = v
 | 0, h1, h2 => by omega
 | n + 1, h1, h2 => by
  simp only [mi]
  by_cases h : a = lo + n
  ·rw [if_pos h, nM (k := fun _ => 0) fun z g1 g2 => if_neg (by omega), pI]; omega
  ·rw [if_neg h, DK a v lo n h1 (by omega)]; omega
theorem BF (F : Int → Ed → Int) (lo : Int) (n : Nat) : ∀ W : List Ed, mi (fun z => jo (F z) W) lo n = jo (fun e => mi (fun z => F z e) lo n) W
 | [] => pI lo n
 | e :: W => by
  have := BF F lo n W
  have h2 := Iy (fun z => F z e) (fun z => jo (F z) W) lo n
  simp only [jo]
  rw [h2, this]
end Go.Proofs.YtcjeebkoafonpaaGreatDoor.PX
namespace Go.Proofs.YtcjeebkoafonpaaGreatDoor.PX
theorem AQ (c : Int) (g : Int → Int) (lo : Int) : ∀ n : Nat, mi (fun z => c * g z) lo n = c * mi g lo n
 | 0 => by simp [mi]
 | n + 1 => by
  have := AQ c g lo n
  simp only [mi, this, Int.mul_add]
theorem AR {g k : Int → Int} {lo : Int} : ∀ {n : Nat}, (∀ z, lo ≤ z → z < lo + n → g z ≤ k z) → mi g lo n ≤ mi k lo n
 | 0, _ => Int.le_refl _
 | n + 1, h => by
  have h1 := AR (g := g) (k := k) (lo := lo) (n := n) fun z a b => h z a (by omega)
  have h2 := h (lo + n) (by omega) (by omega)
  simp only [mi]; omega
theorem GD {g k : Int → Int} {lo : Int} : ∀ {n : Nat}, (∀ z, lo ≤ z → z < lo + n → g z ≤ k z) → (∃ z, lo ≤ z ∧ z < lo + n ∧ g z < k z) → mi g lo n < mi k lo n
 | 0, _, ⟨z, h1, h2, _⟩ => by omega
 | n + 1, h, ⟨z, h1, h2, h3⟩ => by
  have hl := h (lo + n) (by omega) (by omega)
  simp only [mi]
  by_cases hz : z = lo + n
  ·subst hz
   have := AR (g := g) (k := k) (lo := lo) (n := n) fun z a b => h z a (by omega)
   omega
  ·have := GD (g := g) (k := k) (lo := lo) (n := n) (fun z a b => h z a (by omega)) ⟨z, h1, by omega, h3⟩
   omega
theorem DI (c : Int) (f : Ed → Int) : ∀ W : List Ed, jo (fun e => c * f e) W = c * jo f W
 | [] => by simp [jo]
 | e :: W => by
  have := DI c f W
  simp only [jo, this, Int.mul_add]
def P7 (lo : Int) (n : Nat) (W : List Ed) : Prop := ∀ e ∈ W, (lo < e.x ∧ e.x < lo + n) ∧ (lo < e.y ∧ e.y < lo + n)
def ar (W : List Ed) : Int := jo (fun e => e.x * e.d.dy) W
theorem Tm {lo : Int} {n : Nat} {e : Ed} (h : (lo < e.x ∧ e.x < lo + n) ∧ (lo < e.y ∧ e.y < lo + n)) : mi (fun y => mi (fun x => sg x y e) lo n) lo n = e.x * e.d.dy + -(lo + n) * e.d.dy := by
 obtain ⟨a, b, d⟩ := e
 obtain ⟨⟨h1, h2⟩, h3, h4⟩ := h
 simp only at h1 h2 h3 h4
 have z0 : mi (fun y => mi (fun x => (0 : Int)) lo n) lo n = 0 := by
  rw [nM (k := fun _ => 0) fun z _ _ => pI lo n, pI]
 cases d
 ·show mi (fun y => mi (fun x => (0 : Int)) lo n) lo n = a * 0 + -(lo + n) * 0
  rw [z0]; omega
 ·show mi (fun y => mi (fun x => if b = y ∧ a ≤ x then (-1 : Int) else 0) lo n) lo n = a * 1 + -(lo + n) * 1
  rw [nM (k := fun y => if b = y then -(lo + n - a) else 0) fun y _ _ => by
   by_cases hb : b = y
   ·simp only [hb, true_and, if_true]
    rw [nM (k := fun x => -1 * (if a ≤ x then 1 else 0)) fun x _ _ => by by_cases ha : a ≤ x <;> simp [ha], AQ, BG a lo n (by omega) (by omega)]
    omega
   ·simp only [hb, false_and, if_false]
    exact pI lo n, DK b _ lo n (by omega) (by omega)]
  omega
 ·show mi (fun y => mi (fun x => (0 : Int)) lo n) lo n = a * 0 + -(lo + n) * 0
  rw [z0]; omega
 ·show mi (fun y => mi (fun x => if b = y + 1 ∧ a ≤ x then (1 : Int) else 0) lo n) lo n = a * -1 + -(lo + n) * -1
  rw [nM (k := fun y => if b - 1 = y then lo + n - a else 0) fun y _ _ => by
   by_cases hb : b = y + 1
   ·have hb2 : b - 1 = y := by omega
    simp only [hb, true_and]
    rw [if_pos (by omega), BG a lo n (by omega) (by omega)]
   ·have hb2 : ¬ b - 1 = y := by omega
    simp only [hb, false_and, if_false, if_neg hb2]
    exact pI lo n, DK (b - 1) _ lo n (by omega) (by omega)]
  omega
theorem Tk {W : List Ed} {lo : Int} {n : Nat} (hin : P7 lo n W) (hc : jo (fun e => e.d.dy) W = 0) : mi (fun y => mi (fun x => wd W x y) lo n) lo n = ar W := by
 have e1 : mi (fun y => mi (fun x => wd W x y) lo n) lo n = jo (fun e => mi (fun y => mi (fun x => sg x y e) lo n) lo n) W := by
  rw [← BF (fun y e => mi (fun x => sg x y e) lo n) lo n W]
  exact nM fun y _ _ => BF (fun x e => sg x y e) lo n W
 rw [e1, rq (g := fun e => e.x * e.d.dy + -(lo + n) * e.d.dy) fun e he => Tm (hin e he), qg, DI, hc]
 unfold ar
 omega
def cnt (W : List Ed) (lo : Int) (n : Nat) : Int := mi (fun y => mi (fun x => if wd W x y = 0 then 0 else 1) lo n) lo n
section
variable {I : Sq}
theorem Q0 {W : List Ed} (hW : P9 I W) : jo (fun e => e.d.dy) W = 0 := by
 obtain ⟨e, n, _, hp, rfl⟩ := hW.one
 rw [(Dv n e).2, hp.2.1]; omega
theorem Pz {W : List Ed} (hW : P9 I W) {s : Int} (hs : ∀ x y, wd W x y = 0 ∨ wd W x y = s) {lo : Int} {n : Nat} (hin : P7 lo n W) : ar W = s * cnt W lo n := by
 rw [← Tk hin (Q0 hW)]
 unfold cnt
 rw [← AQ]
 refine nM fun y _ _ => ?_
 rw [← AQ]
 refine nM fun x _ _ => ?_
 by_cases h : wd W x y = 0
 ·rw [if_pos h, h]; omega
 ·rw [if_neg h]
  have := hs x y
  omega
theorem cnt_lt {W V : List Ed} {lo : Int} {n : Nat} (h : ∀ x y, wd V x y ≠ 0 → wd W x y ≠ 0) (hs : ∃ x y, (lo ≤ x ∧ x < lo + n) ∧ (lo ≤ y ∧ y < lo + n) ∧ wd W x y ≠ 0 ∧ wd V x y = 0) : cnt V lo n < cnt W lo n := by
 have hle : ∀ x y : Int, (if wd V x y = 0 then (0 : Int) else 1) ≤ if wd W x y = 0 then 0 else 1 := fun x y => by
  by_cases hv : wd V x y = 0
  ·rw [if_pos hv]; split <;> omega
  ·rw [if_neg hv, if_neg (h x y hv)]; omega
 obtain ⟨x, y, ⟨x1, x2⟩, ⟨y1, y2⟩, h1, h2⟩ := hs
 unfold cnt
 refine GD (fun z _ _ => AR fun u _ _ => hle u z) ⟨y, y1, y2, GD (fun u _ _ => hle u y) ⟨x, x1, x2, ?_⟩⟩
 rw [if_pos h2, if_neg h1]; omega
end
end Go.Proofs.YtcjeebkoafonpaaGreatDoor.PX
namespace Go.Proofs.YtcjeebkoafonpaaGreatDoor.PX
def yV (s : (Int × Int) × (Int × Int)) : Int := s.1.1 * s.2.2 - s.2.1 * s.1.2
def J6 (l : List (Int × Int)) : Int := ((FT (l.headD (0, 0)) l).map yV).sum
theorem yG (f : Ed → Int) : ∀ W V : List Ed, jo f (W ++ V) = jo f W + jo f V
 | [], V => by simp [jo]
 | e :: W, V => by
  have := yG f W V
  simp only [List.cons_append, jo, this]; omega
theorem Fz (f : Ed → Int) (g : Sd → List Ed) : ∀ sl : List Sd, jo f (sl.flatMap g) = (sl.map fun s => jo f (g s)).sum
 | [] => rfl
 | s :: sl => by
  have := Fz f g sl
  rw [List.flatMap_cons, yG, this, List.map_cons, List.sum_cons]
theorem MP (s : Sd) : jo (fun e => e.x * e.d.dy - e.y * e.d.dx) (unit s) = yV (s.1.p, (qm s.1 s.2).p) := by
 obtain ⟨⟨x, y, d⟩, m⟩ := s
 unfold unit
 have key : ∀ m : Nat, jo (fun e => e.x * e.d.dy - e.y * e.d.dx) ((List.range m).map (qm ⟨x, y, d⟩)) = yV ((x, y), (x + m * d.dx, y + m * d.dy)) := by
  intro m
  induction m with
  | zero => unfold yV; simp [jo]
  | succ m ih =>
   rw [List.range_succ, List.map_append, yG, ih]
   unfold yV
   simp only [List.map_cons, List.map_nil, jo, qm]
   cases d <;> simp only [Dir.dx, Dir.dy, Int.mul_zero, Int.mul_one, Int.add_zero, Int.sub_zero, Int.zero_add]
   ·have e1 : (x + ((m + 1 : Nat) : Int)) * y = (x + (m : Int)) * y + y := by
     rw [show x + ((m + 1 : Nat) : Int) = (x + (m : Int)) + 1 by omega, Int.add_mul]; omega
    rw [e1]; omega
   ·have e1 : x * (y + ((m + 1 : Nat) : Int)) = x * (y + (m : Int)) + x := by
     rw [show y + ((m + 1 : Nat) : Int) = (y + (m : Int)) + 1 by omega, Int.mul_add]; omega
    rw [e1]; omega
   ·have e1 : (x + ((m + 1 : Nat) : Int) * -1) * y = (x + (m : Int) * -1) * y - y := by
     rw [show x + ((m + 1 : Nat) : Int) * -1 = (x + (m : Int) * -1) - 1 by omega, Int.sub_mul]; omega
    rw [e1]; omega
   ·have e1 : x * (y + ((m + 1 : Nat) : Int) * -1) = x * (y + (m : Int) * -1) - x := by
     rw [show y + ((m + 1 : Nat) : Int) * -1 = (y + (m : Int) * -1) - 1 by omega, Int.mul_sub]; omega
    rw [e1]; omega
 exact key m
section
variable {I : Sq}
theorem Io : ∀ (n : Nat) (e : Ed), jo (fun e => e.tx * e.ty - e.x * e.y) (walk I n e) = (it I n e).x * (it I n e).y - e.x * e.y
 | 0, e => by simp [walk, jo, it]
 | n + 1, e => by
  have := Io n (sc I e)
  have h := M0 (I := I) e
  have hx : (sc I e).x = e.tx := congrArg Prod.fst h
  have hy : (sc I e).y = e.ty := congrArg Prod.snd h
  simp only [walk, jo, it, this, hx, hy]; omega
theorem Qs {B : List Ed} (hB : vK I B) {e : Ed} (he : zN I e) {n : Nat} (hn : Co I e n) : J6 (zL I n e) = 2 * ar (walk I n e) := by
 have hc := he.EI hB
 obtain ⟨sl, s1, s2, s3, s4⟩ := stretches I n e he.1 hc (by rw [hn.2.1]; exact hc)
 rw [hn.2.1] at s1
 obtain ⟨m, r, hr⟩ := s2 hn.1
 have hhead : (zL I n e).headD (0, 0) = e.p := by rw [← s3, hr]; rfl
 unfold J6
 rw [hhead, ← s3, G7 s1, List.map_map]
 have h1 : (sl.map (yV ∘ fun s => (s.1.p, (qm s.1 s.2).p))) = sl.map fun s => jo (fun e => e.x * e.d.dy - e.y * e.d.dx) (unit s) := List.map_congr_left fun s _ => (MP s).symm
 rw [h1, ← Fz, ← s4]
 have h2 : jo (fun e => (e.x * e.d.dy - e.y * e.d.dx) + (e.tx * e.ty - e.x * e.y)) (walk I n e) = jo (fun e => 2 * (e.x * e.d.dy)) (walk I n e) := rq fun f _ => by
  obtain ⟨x, y, d⟩ := f
  unfold Ed.tx Ed.ty
  cases d <;> simp only [Dir.dx, Dir.dy, Int.mul_zero, Int.mul_one, Int.add_zero, Int.sub_zero, Int.zero_add]
  ·rw [Int.add_mul]; omega
  ·rw [Int.mul_add]; omega
  ·rw [show x + -1 = x - 1 by omega, Int.sub_mul]; omega
  ·rw [show y + -1 = y - 1 by omega, Int.mul_sub]; omega
 rw [qg, Io, hn.2.1, DI] at h2
 unfold ar
 omega
end
end Go.Proofs.YtcjeebkoafonpaaGreatDoor.PX
namespace Go.Proofs.YtcjeebkoafonpaaGreatDoor.PX
def yI (img : Int → Int → Prop) (W : List Ed) : Int → Int → Prop := fun x y => if ar W < 0 then img x y ∧ wd W x y = 0 else img x y ∨ wd W x y ≠ 0
def yc (x y : Int) : List (List Ed) → Option (List Ed)
 | [] => none
 | W :: Ws => match yc x y Ws with
  | some V => some V
  | none => if wd W x y = 0 then none else some W
theorem Ai {x y : Int} : ∀ {Ws : List (List Ed)}, yc x y Ws = none → ∀ W ∈ Ws, wd W x y = 0
 | V :: Ws, h, W, hW => by
  unfold yc at h
  cases hl : yc x y Ws with
  | some U => rw [hl] at h; cases h
  | none =>
   rw [hl] at h
   simp only at h
   rcases List.mem_cons.1 hW with rfl | hW
   ·by_cases h0 : wd W x y = 0
    ·exact h0
    ·rw [if_neg h0] at h; cases h
   ·exact Ai hl W hW
theorem En {x y : Int} {W : List Ed} : ∀ {Ws : List (List Ed)}, yc x y Ws = some W → wd W x y ≠ 0 ∧ ∃ A B, Ws = A ++ W :: B ∧ ∀ V ∈ B, wd V x y = 0
 | V :: Ws, h => by
  unfold yc at h
  cases hl : yc x y Ws with
  | some U =>
   rw [hl] at h
   have e : U = W := Option.some.inj h
   subst e
   obtain ⟨h1, A, B, rfl, h2⟩ := En hl
   exact ⟨h1, V :: A, B, rfl, h2⟩
  | none =>
   rw [hl] at h
   simp only at h
   by_cases h0 : wd V x y = 0
   ·rw [if_pos h0] at h; cases h
   ·rw [if_neg h0] at h
    have e : V = W := Option.some.inj h
    subst e
    exact ⟨h0, [], Ws, rfl, Ai hl⟩
theorem Ky (x y : Int) (W : List Ed) (Ws : List (List Ed)) : yc x y (W :: Ws) = match yc x y Ws with
  | some V => some V
  | none => if wd W x y = 0 then none else some W := rfl
theorem Eg (x y : Int) : ∀ (Ws : List (List Ed)) (img : Int → Int → Prop), (Ws.foldl yI img) x y ↔ (match yc x y Ws with | some V => ¬ ar V < 0 | none => img x y)
 | [], img => Iff.rfl
 | W :: Ws, img => by
  rw [List.foldl_cons, Eg x y Ws, Ky]
  cases hl : yc x y Ws with
  | some V => exact Iff.rfl
  | none =>
   show yI img W x y ↔ (match (if wd W x y = 0 then none else some W) with | some V => ¬ ar V < 0 | none => img x y)
   unfold yI
   by_cases h0 : wd W x y = 0
   ·rw [if_pos h0]
    by_cases ha : ar W < 0
    ·rw [if_pos ha]; simp [h0]
    ·rw [if_neg ha]; simp [h0]
   ·rw [if_neg h0]
    by_cases ha : ar W < 0
    ·rw [if_pos ha]; simp [h0, ha]
    ·rw [if_neg ha]; simp [h0, ha]
section
variable {I : Sq}
theorem Tp : ∀ Ws : List (List Ed), ∃ (lo : Int) (n : Nat), ∀ W ∈ Ws, P7 lo n W := by
 have one : ∀ W : List Ed, ∃ B : Nat, ∀ e ∈ W, (-(B : Int) < e.x ∧ e.x < B) ∧ (-(B : Int) < e.y ∧ e.y < B) := by
  intro W
  induction W with
  | nil => exact ⟨0, fun _ h => nomatch h⟩
  | cons e W ih =>
   obtain ⟨B, h⟩ := ih
   refine ⟨B + e.x.natAbs + e.y.natAbs + 1, fun f hf => ?_⟩
   rcases List.mem_cons.1 hf with rfl | hf
   ·omega
   ·have := h f hf; omega
 intro Ws
 obtain ⟨B, h⟩ := one Ws.flatten
 refine ⟨-(B : Int), 2 * B, fun W hW e he => ?_⟩
 have := h e (List.mem_flatten.2 ⟨W, hW, he⟩)
 omega
theorem Ao (W : List Ed) (lo : Int) (n : Nat) : 0 ≤ cnt W lo n := by
 have h := AR (g := fun _ => 0) (k := fun y => mi (fun x => if wd W x y = 0 then (0 : Int) else 1) lo n) (lo := lo) (n := n) fun y _ _ => by
  have h2 := AR (g := fun _ => (0 : Int)) (k := fun x => if wd W x y = 0 then (0 : Int) else 1) (lo := lo) (n := n) fun x _ _ => by
   show (0 : Int) ≤ if wd W x y = 0 then 0 else 1
   split <;> omega
  rw [pI] at h2
  exact h2
 rw [pI] at h
 exact h
theorem QA {Ws : List (List Ed)} (h : Full I Ws) (hfin : ∀ y, ∃ lo, ∀ x, x ≤ lo → I x y = false) (hord : Ws.Pairwise fun W V => max (ar V) (-(ar V)) ≤ max (ar W) (-(ar W))) (x y : Int) : (Ws.foldl yI fun _ _ => False) x y ↔ I x y = true := by
 rw [Eg]
 cases hl : yc x y Ws with
 | none =>
  simp only
  have ht := h.tot hfin x y
  rw [wI fun W hW => Ai hl W hW] at ht
  constructor
  ·intro hh; exact hh.elim
  ·intro hi; rw [if_pos hi] at ht; omega
 | some W =>
  simp only
  obtain ⟨hw, A, C, hWs, hC⟩ := En hl
  have hWm : W ∈ Ws := by rw [hWs]; simp
  have hB := h.bd W hWm
  obtain ⟨s, s1, s2, s3⟩ := DZ hB
  obtain ⟨lo, n, hbox⟩ := Tp Ws
  have hca := Pz hB s3 (hbox W hWm)
  obtain ⟨e, k, he, hp, hwk⟩ := hB.one
  have hem : e ∈ W := by rw [hwk]; exact kE.2 ⟨0, hp.1, rfl⟩
  have inb : ∀ (V : List Ed), V ∈ Ws → ∀ f ∈ V, ((lo ≤ (nK f).1 ∧ (nK f).1 < lo + n) ∧ (lo ≤ (nK f).2 ∧ (nK f).2 < lo + n)) ∧ ((lo ≤ (oP f).1 ∧ (oP f).1 < lo + n) ∧ (lo ≤ (oP f).2 ∧ (oP f).2 < lo + n)) := fun V hV f hf => by
   have := hbox V hV f hf
   obtain ⟨a, b, d⟩ := f
   unfold oP nK
   cases d <;> simp only [Dir.right] at * <;> omega
  have hin : ∀ V ∈ Ws, wd V x y ≠ 0 → V = W ∨ ∀ f ∈ W, wd V (nK f).1 (nK f).2 ≠ 0 ∧ wd V (oP f).1 (oP f).2 ≠ 0 := fun V hV hv => by
   by_cases hVW : V = W
   ·exact .inl hVW
   ·right
    have hVB := h.bd V hV
    have hd : ∀ f ∈ W, f ∉ V := fun f hf hfV => by
     rcases GU h.dis V hV W hWm with hh | hh | hh
     ·exact hVW hh
     ·exact hh f hfV hf
     ·exact hh f hf hfV
    have hVA : V ∈ A := by
     rw [hWs] at hV
     rcases List.mem_append.1 hV with hV | hV
     ·exact hV
     ·rcases List.mem_cons.1 hV with hV | hV
      ·exact absurd hV hVW
      ·exact absurd (hC V hV) hv
    rw [hWs] at hord
    have hle := (List.pairwise_append.1 hord).2.2 V hVA W (by simp)
    rcases Uj hVB hB hd with hn | ⟨_, hn⟩ | ⟨hn1, hn2⟩
    ·exact absurd ⟨hv, hw⟩ (hn x y)
    ·exact hn
    ·exfalso
     obtain ⟨s', t1, _, t3⟩ := DZ hVB
     have hcv := Pz hVB t3 (hbox V hV)
     obtain ⟨g, k', _, hp', hwk'⟩ := hVB.one
     have hgm : g ∈ V := by rw [hwk']; exact kE.2 ⟨0, hp'.1, rfl⟩
     have hlt : cnt V lo n < cnt W lo n := cnt_lt hn1 (by
      have hb := inb V hV g hgm
      rcases xn hVB hgm with ⟨v1, v2⟩ | ⟨v1, v2⟩
      ·exact ⟨_, _, hb.2.1, hb.2.2, (hn2 g hgm).2, v2⟩
      ·exact ⟨_, _, hb.1.1, hb.1.2, (hn2 g hgm).1, v1⟩)
     have p1 := Ao V lo n
     have p2 := Ao W lo n
     rcases s1 with rfl | rfl <;> rcases t1 with rfl | rfl <;> omega
  rw [h.inner hfin hWm s2 hw hin]
  have hpos : 0 < cnt W lo n := by
   have hb := inb W hWm e hem
   have h0 := Ao [] lo n
   have hlt : cnt [] lo n < cnt W lo n := cnt_lt (V := []) (fun _ _ hh => absurd rfl hh) (by
    rcases xn hB hem with ⟨v1, v2⟩ | ⟨v1, v2⟩
    ·exact ⟨_, _, hb.1.1, hb.1.2, by rw [v1]; decide, rfl⟩
    ·exact ⟨_, _, hb.2.1, hb.2.2, by rw [v2]; decide, rfl⟩)
   omega
  rcases s1 with rfl | rfl
  ·constructor
   ·intro _; rfl
   ·intro _; omega
  ·constructor
   ·intro hh; omega
   ·intro hh; cases hh
end
end Go.Proofs.YtcjeebkoafonpaaGreatDoor.PX
namespace Go.Proofs.YtcjeebkoafonpaaGreatDoor.PX
variable {I : Sq}
theorem Full.perm {Ws Vs : List (List Ed)} (h : Full I Ws) (hp : Vs.Perm Ws) : Full I Vs :=
 ⟨fun W hW => h.bd W (hp.mem_iff.1 hW), (hp.pairwise_iff (R := fun (W V : List Ed) => ∀ f ∈ W, f ∉ V) (fun {W V} hd f hf hfW => hd f hfW hf)).2 h.dis, fun e he => by
  obtain ⟨W, hW, heW⟩ := h.all e he
  exact ⟨W, hp.mem_iff.2 hW, heW⟩⟩
def lk : List (List (Int × Int) × List Ed) → List (Int × Int) → List Ed
 | [], _ => []
 | p :: t, l => if p.1 = l then p.2 else lk t l
theorem OC : ∀ {Z : List (List (Int × Int) × List Ed)}, (Z.map (·.1)).Nodup → (Z.map (·.1)).map (lk Z) = Z.map (·.2)
 | [], _ => rfl
 | p :: t, h => by
  rw [List.map_cons, List.nodup_cons] at h
  rw [List.map_cons, List.map_cons, List.map_cons]
  congr 1
  ·exact if_pos rfl
  ·rw [← OC h.2]
   apply List.map_congr_left
   intro l hl
   exact if_neg fun (e : p.1 = l) => h.1 (by rw [e]; exact hl)
theorem Kr {ls : List (List (Int × Int))} (h : yl I ls) : ls.Nodup := h.ord.imp fun {a b} hab e => by
 subst e
 exact pJ _ hab
theorem GY {B : List Ed} (hB : vK I B) {ls : List (List (Int × Int))} (h : yl I ls) (hfin : ∀ y, ∃ lo, ∀ x, x ≤ lo → I x y = false) :
  ∃ wf : List (Int × Int) → List Ed, (∀ l ∈ ls, (∀ x y, cl x (Ux y l) % 2 = 1 ↔ wd (wf l) x y ≠ 0) ∧ J6 l = 2 * ar (wf l)) ∧
   ∀ os : List (List (Int × Int)), os.Perm ls → os.Pairwise (fun a b => max (ar (wf b)) (-(ar (wf b))) ≤ max (ar (wf a)) (-(ar (wf a)))) → ∀ x y, ((os.map wf).foldl yI fun _ _ => False) x y ↔ I x y = true := by
 obtain ⟨ws, w1, w2, w3⟩ := h.full hB
 have e1 : (ls.zip ws).map (·.1) = ls := List.map_fst_zip (by omega)
 have e2 : (ls.zip ws).map (·.2) = ws := List.map_snd_zip (by omega)
 have hm : ls.map (lk (ls.zip ws)) = ws := by
  have := OC (Z := ls.zip ws) (by rw [e1]; exact Kr h)
  rw [e1, e2] at this
  exact this
 refine ⟨lk (ls.zip ws), fun l hl => ?_, fun os hp ho => ?_⟩
 ·obtain ⟨i, hi⟩ := List.mem_iff_getElem?.1 hl
  have hwi : ws[i]? = some (lk (ls.zip ws) l) := by
   have := congrArg (fun z => z[i]?) hm
   simp only [List.getElem?_map, hi, Option.map_some] at this
   exact this.symm
  obtain ⟨e, n, he, hn, hl2, hw, hr⟩ := w3 i l _ hi hwi
  have hd : l.headD (0, 0) = e.p := JS.headD hB he ⟨n, hn, hl2⟩
  rw [hw]
  refine ⟨fun x y => ?_, ?_⟩
  ·have : Ux y l = (walk I n e).filterMap (vx y) := by
    unfold Ux
    rw [hd]; exact hr.crs y
   rw [this]
   exact Sv (Pv he.1 hn) x y
  ·rw [hl2]
   exact Qs hB he hn
 ·have hpw : (os.map (lk (ls.zip ws))).Perm ws := by
   have := hp.map (lk (ls.zip ws))
   rw [hm] at this
   exact this
  exact QA (w2.perm hpw) hfin (List.pairwise_map.2 ho)
end Go.Proofs.YtcjeebkoafonpaaGreatDoor.PX
