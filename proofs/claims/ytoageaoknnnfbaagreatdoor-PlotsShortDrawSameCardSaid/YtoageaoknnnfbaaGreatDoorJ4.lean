/- What a closed row goes around, as the program finds it. Plain Lean about the plain functions. Conditions: none beyond each theorem's own. The machine that draws plots: what it does, step by step, as a total function. Plain Lean about the plain functions. Conditions: none beyond each theorem's own. The machine that draws plots: the program's run is the total function's. Plain Lean about the plain functions. Conditions: none beyond each theorem's own. The machine that draws plots: images, needless steps. Plain Lean about the plain functions. Conditions: none beyond each theorem's own. Plots without repeats: what the program and the reference write out. Plain. Conditions: none beyond each theorem's own. Plots: a plot is the same as itself. Plain. Conditions: none beyond each theorem's own. Plots without repeats: Flat of the program and of the reference. Plain. Conditions: none beyond each theorem's own. Plots without the steps that do nothing: which step does nothing. Plain. Conditions: none beyond each theorem's own. Plots without repeats draw the same. Plain Lean about the plain functions. Conditions: none beyond each theorem's own. Machines that differ in what no longer matters. Plain Lean about the plain functions. Conditions: none beyond each theorem's own. A plot without one of its steps. Plain Lean about the plain functions. Conditions: none beyond each theorem's own. Steps that do nothing leave the image as it is. Plain Lean about the plain functions. Conditions: none beyond each theorem's own. Short draws the same, and once is enough. Plain Lean about the plain functions. Conditions: none beyond each theorem's own. -/
import Derived.Test.YtoageaoknnnfbaaGreatDoorJ3
namespace Go.Proofs.YtoageaoknnnfbaaGreatDoor
theorem zdB (xs : List Int) (x : Int) : (stk xs x).length ≤ xs.length + 1 := by
 unfold stk
 split
 ·rw [List.length_dropLast]; omega
 ·simp
theorem zNs : ∀ (l xs : List Int), (l.foldl stk xs).length ≤ xs.length + l.length
 | [], xs => by simp
 | x :: l, xs => by
  have h1 := zdB xs x
  have h2 := zNs l (stk xs x)
  rw [List.foldl_cons, List.length_cons]; omega
theorem zcI (l : List Int) : (zUe l).length ≤ l.length := by
 have := zNs l []
 unfold zUe
 simpa using this
theorem zJ2 {ys : List Int} {out : List ze} {k : Nat} {K : List ze → Int → Option (List ze)} {a b : Int} (ha : idx ys (k : Int) = some a) (hb : idx ys (w64 ((k : Int) + 1)) = some b) : ∀ (suf : List zQ) (i : Nat) (xs : List Int), xs.length + suf.length ≤ 1000000 →
  KC ys out (k : Int) K suf i xs = (Jj out ⟨a, b, (zDf suf a).foldl stk xs⟩).bind fun y => K y (w64 ((k : Int) + 1))
 | [], i, xs, _ => by
  rw [KC, ha, Option.bind_some, hb, Option.bind_some]; rfl
 | s :: l, i, xs, h => by
  simp at h
  rw [KC, ha, Option.bind_some]
  by_cases hc : s.Y0 ≤ a ∧ a < s.Y1
  ·have e1 : zDf (s :: l) a = s.X0 :: zDf l a := by
    unfold zDf
    rw [List.filter_cons, if_pos (by simpa using hc)]; rfl
   rw [if_neg (by simp <;> omega), Option.bind_some, Option.bind_some, if_neg (by simp <;> omega), e1, List.foldl_cons]
   rcases List.eq_nil_or_concat xs with hx | ⟨zs, z, hx⟩
   ·subst hx
    rw [if_neg (by simp), Option.bind_some, if_neg (by simp), zCQ (by simp), Option.bind_some, zJ2 ha hb l (i + 1) _ (by simp <;> omega)]
    rfl
   ·rw [List.concat_eq_append] at hx
    subst hx
    simp at h
    have hz : idx (zs ++ [z]) (w64 (((zs ++ [z]).length : Int) - 1)) = some z := by
     rw [Qh (by simp <;> omega) (by simp <;> omega), show ((zs ++ [z]).length : Int) - 1 = (zs.length : Int) by simp]
     exact KO zs [] z
    rw [if_pos (by simp), hz, Option.bind_some, Option.bind_some]
    by_cases he : z = s.X0
    ·have hp : pre (zs ++ [z]) (w64 (((zs ++ [z]).length : Int) - 1)) = some zs := by
      rw [Qh (by simp <;> omega) (by simp <;> omega), show ((zs ++ [z]).length : Int) - 1 = (zs.length : Int) by simp]
      unfold pre
      rw [if_pos ⟨by omega, by simp <;> omega⟩]
      simp
     rw [if_pos (by simpa using he), hp, Option.bind_some, zJ2 ha hb l (i + 1) _ (by omega)]
     unfold stk
     rw [if_pos (by simp [he]), List.dropLast_concat]
    ·rw [if_neg (by simpa using he), zCQ (by simp <;> omega), Option.bind_some, zJ2 ha hb l (i + 1) _ (by simp <;> omega)]
     have : stk (zs ++ [z]) s.X0 = zs ++ [z] ++ [s.X0] := by unfold stk; rw [if_neg (by simp [he])]
     rw [this]
  ·have e1 : zDf (s :: l) a = zDf l a := by
    unfold zDf
    rw [List.filter_cons, if_neg (by simpa using hc)]
   rw [e1]
   by_cases h0 : a < s.Y0
   ·rw [if_pos (decide_eq_true h0), Option.bind_some, if_pos rfl, zJ2 ha hb l (i + 1) _ (by omega)]
   ·rw [if_neg (by simpa using h0), Option.bind_some, Option.bind_some, if_pos (by simp <;> omega), zJ2 ha hb l (i + 1) _ (by omega)]
theorem zPy {ys : List Int} {up : List zQ} (hy : ys.Pairwise fun x y => x < y) (hs : up.Pairwise fun a b => a.X0 ≤ b.X0) (hev : ∀ y, (zDf up y).length % 2 = 0) (hl : ys.length ≤ 100000) (hu : up.length ≤ 100000) : ∀ (suf pre : List Int) (m : Nat) (out : List Bd), ys = pre ++ suf → suf.length < m → out.length + suf.length ≤ 1000000 →
  KD ys up m (out.map toP) (pre.length : Int) = some ((zCm (fA up) suf out).map toP)
 | [], pre, m, out, he, hm, _ => by
  obtain ⟨m, rfl⟩ : ∃ k, m = k + 1 := ⟨m - 1, by omega⟩
  have hlen : ys.length = pre.length := by rw [he]; simp
  rw [KD, if_neg (by rw [Qh (by omega) (by omega)]; simp; omega)]
  rfl
 | [a], pre, m, out, he, hm, _ => by
  obtain ⟨m, rfl⟩ : ∃ k, m = k + 1 := ⟨m - 1, by omega⟩
  have hlen : ys.length = pre.length + 1 := by rw [he]; simp
  rw [KD, if_neg (by rw [Qh (by omega) (by omega)]; simp; omega)]
  rfl
 | a :: b :: l, pre, m, out, he, hm, ho => by
  obtain ⟨m, rfl⟩ : ∃ k, m = k + 1 := ⟨m - 1, by simp at hm; omega⟩
  simp at hm ho
  have hlen : ys.length = pre.length + (l.length + 2) := by rw [he]; simp
  have hab : a < b := by
   rw [he] at hy
   have := (List.pairwise_append.1 hy).2.1
   exact (List.pairwise_cons.1 this).1 b List.mem_cons_self
  have hia : idx ys (pre.length : Int) = some a := by rw [he]; exact KO _ _ _
  have hib : idx ys (w64 ((pre.length : Int) + 1)) = some b := by
   rw [zEl pre a (by omega), he, show pre ++ a :: b :: l = (pre ++ [a]) ++ b :: l by simp]; exact KO _ _ _
  rw [KD, if_pos (by rw [Qh (by omega) (by omega)]; simp; omega), zJ2 hia hib up 0 [] (by simp; omega)]
  have hpu := zOB (l := out) (b := (a, b, fA up a)) (by omega) hab
  have e : toP (a, b, fA up a) = ⟨a, b, (zDf up a).foldl stk []⟩ := by
   show (⟨a, b, Qu (fA up a)⟩ : ze) = _
   rw [(zXV hs hev a).1]; rfl
  rw [e] at hpu
  rw [hpu, Option.bind_some, zEl pre a (by omega)]
  have hpl := zHP out (a, b, fA up a)
  have := zPy hy hs hev hl hu (b :: l) (pre ++ [a]) m (pushB out (a, b, fA up a)) (by rw [he]; simp) (by simp; omega) (by simp; omega)
  rw [this]; rfl
def zLP (s : zJ × zJ) : Option zQ := if s.1.X = s.2.X then some ⟨s.1.X, min s.1.Y s.2.Y, 0, max s.1.Y s.2.Y⟩ else none
theorem zLg (p0 x : zJ) (r : List zJ) : nxt p0 (x :: r) = (x, (r ++ [p0]).headD p0) :: nxt p0 r := by
 cases r with
 | nil => rfl
 | cons y r => rfl
theorem zQn {pre r : List zJ} {x p0 : zJ} (h0 : (pre ++ x :: r).head? = some p0) : (pre ++ x :: r).getD ((pre.length + 1) % (pre ++ x :: r).length) ⟨0, 0⟩ = (r ++ [p0]).headD p0 := by
 cases r with
 | nil =>
  have : (pre.length + 1) % (pre ++ [x]).length = 0 := by simp
  rw [this]
  cases pre with
  | nil => simp at h0 ⊢; exact h0
  | cons z pre => simp at h0 ⊢; exact h0
 | cons y r =>
  have : (pre.length + 1) % (pre ++ x :: y :: r).length = pre.length + 1 := Nat.mod_eq_of_lt (by simp)
  rw [this]
  simp [List.getD]
theorem zKw {l : List zJ} {p0 : zJ} (h0 : l.head? = some p0) (hl : l.length ≤ 100000) {K : List Int → List zQ → Option (List ze)} : ∀ (suf pre : List zJ) (ys : List Int) (up : List zQ), l = pre ++ suf → ys.length ≤ pre.length → up.length ≤ pre.length →
  Ka K l suf pre.length ys up = K (ys ++ suf.map (·.Y)) (up ++ (nxt p0 suf).filterMap zLP)
 | [], pre, ys, up, he, hy, hu => by rw [Ka]; simp [nxt]
 | x :: r, pre, ys, up, he, hy, hu => by
  have hlen : l.length = pre.length + (r.length + 1) := by rw [he]; simp
  have hnx : l.getD ((pre.length + 1) % l.length) ⟨0, 0⟩ = (r ++ [p0]).headD p0 := by
   have := zQn (pre := pre) (r := r) (x := x) (p0 := p0) (by rw [← he]; exact h0)
   rw [he]; exact this
  rw [Ka, zTV (by omega) (by omega), hnx, zCQ (by simp; omega), Option.bind_some, zLg]
  by_cases hx : x.X = ((r ++ [p0]).headD p0).X
  ·have hv : zLP (x, (r ++ [p0]).headD p0) = some ⟨x.X, min x.Y ((r ++ [p0]).headD p0).Y, 0, max x.Y ((r ++ [p0]).headD p0).Y⟩ := if_pos hx
   rw [if_pos (by simpa using hx), zCQ (by simp; omega), Option.bind_some, List.filterMap_cons_some hv]
   have := zKw h0 hl (K := K) r (pre ++ [x]) (ys ++ [x.Y]) (up ++ [⟨x.X, min x.Y ((r ++ [p0]).headD p0).Y, 0, max x.Y ((r ++ [p0]).headD p0).Y⟩]) (by rw [he]; simp) (by simp; omega) (by simp; omega)
   rw [show (pre ++ [x]).length = pre.length + 1 by simp] at this
   rw [this]; simp
  ·have hv : zLP (x, (r ++ [p0]).headD p0) = none := if_neg hx
   rw [if_neg (by simpa using hx), List.filterMap_cons_none hv]
   have := zKw h0 hl (K := K) r (pre ++ [x]) (ys ++ [x.Y]) up (by rw [he]; simp) (by simp; omega) (by simp; omega)
   rw [show (pre ++ [x]).length = pre.length + 1 by simp] at this
   rw [this]; simp
theorem zOl (y : Int) : ∀ (S : List (zJ × zJ)), ((S.filterMap zLP).filter fun s => decide (s.Y0 ≤ y) && decide (y < s.Y1)).map (·.X0) = (zIR y S).map (·.1.X)
 | [] => rfl
 | s :: S => by
  have ih := zOl y S
  unfold zIR at ih ⊢
  by_cases hx : s.1.X = s.2.X
  ·have hv : zLP s = some ⟨s.1.X, min s.1.Y s.2.Y, 0, max s.1.Y s.2.Y⟩ := if_pos hx
   rw [List.filterMap_cons_some hv, List.filter_cons, List.filter_cons, decide_eq_true hx, Bool.true_and]
   by_cases hc : (decide (min s.1.Y s.2.Y ≤ y) && decide (y < max s.1.Y s.2.Y)) = true
   ·rw [if_pos hc, if_pos hc, List.map_cons, List.map_cons, ih]
   ·rw [if_neg hc, if_neg hc, ih]
  ·have hv : zLP s = none := if_neg hx
   rw [List.filterMap_cons_none hv, List.filter_cons, decide_eq_false hx, Bool.false_and, if_neg (by simp), ih]
theorem zWx (p0 : zJ) : ∀ (l : List zJ), (nxt p0 l).length = l.length
 | [] => rfl
 | x :: r => by rw [zLg, List.length_cons, List.length_cons, zWx p0 r]
theorem zRx {p0 : zJ} : ∀ {l : List zJ} {s : zJ × zJ}, s ∈ nxt p0 l → s.1 ∈ l ∧ (s.2 ∈ l ∨ s.2 = p0)
 | [], s, h => by cases h
 | x :: r, s, h => by
  rw [zLg] at h
  rcases List.mem_cons.1 h with rfl | h
  ·refine ⟨List.mem_cons_self, ?_⟩
   cases r with
   | nil => exact .inr rfl
   | cons y r => exact .inl (by simp)
  ·obtain ⟨h1, h2⟩ := zRx h
   exact ⟨List.mem_cons_of_mem _ h1, h2.imp (List.mem_cons_of_mem _) id⟩
def zXB (l : List zJ) (x y : Int) : Prop := cle x ((zIR y (zD4 l)).map (·.1.X)) % 2 = 1
theorem zP0 {f : Int → List (Int × Int)} {R : Nat} (hf : ∀ y, (f y).length ≤ R) : ∀ (ys : List Int) (out : List Bd), (∀ c ∈ out, c.2.2.length ≤ R) → (zCm f ys out).length ≤ out.length + ys.length ∧ ∀ c ∈ zCm f ys out, c.2.2.length ≤ R
 | [], out, h => ⟨by simp [zCm], h⟩
 | [a], out, h => ⟨by simp [zCm], h⟩
 | a :: b :: ys, out, h => by
  have h1 := zHP out (a, b, f a)
  obtain ⟨h2, h3⟩ := zP0 hf (b :: ys) (pushB out (a, b, f a)) (zQk h (hf a))
  rw [zCm]
  exact ⟨by simp at h2 ⊢; omega, h3⟩
theorem zWg {N : Nat} (hN : 10000000000 ≤ N) {l : List zJ} (hne : l ≠ []) (hl : l.length ≤ 2000) (hb : ∀ p ∈ l, -1000000000 ≤ p.X ∧ p.X ≤ 1000000000) (hax : axS (zD4 l)) :
  ∃ A, zCs N [l] = some (A.map toP) ∧ BOk A ∧ A.length ≤ 2000 ∧ (∀ b ∈ A, b.2.2.length ≤ 2000) ∧ ∀ x y, InB x y A ↔ zXB l x y := by
 obtain ⟨p0, r0, rfl⟩ : ∃ p0 r, l = p0 :: r := by
  cases l with
  | nil => exact absurd rfl hne
  | cons p r => exact ⟨p, r, rfl⟩
 obtain ⟨V, hV⟩ : ∃ V, V = (zD4 (p0 :: r0)).filterMap zLP := ⟨_, rfl⟩
 have hVm : ∀ v ∈ V, (v.X0 ∈ (p0 :: r0).map (·.X)) ∧ v.Y0 ∈ (p0 :: r0).map (·.Y) ∧ v.Y1 ∈ (p0 :: r0).map (·.Y) := fun v hv => by
  rw [hV] at hv
  obtain ⟨s, hs, hsv⟩ := List.mem_filterMap.1 hv
  obtain ⟨s1, s2⟩ := zRx (show s ∈ nxt p0 (p0 :: r0) from hs)
  have s2' : s.2 ∈ p0 :: r0 := s2.elim id fun e => e ▸ List.mem_cons_self
  unfold zLP at hsv
  split at hsv
  ·cases Option.some.inj hsv
   refine ⟨List.mem_map.2 ⟨s.1, s1, rfl⟩, ?_, ?_⟩
   ·show min s.1.Y s.2.Y ∈ _
    rcases (show min s.1.Y s.2.Y = s.1.Y ∨ min s.1.Y s.2.Y = s.2.Y by omega) with e | e <;> rw [e]
    ·exact List.mem_map.2 ⟨s.1, s1, rfl⟩
    ·exact List.mem_map.2 ⟨s.2, s2', rfl⟩
   ·show max s.1.Y s.2.Y ∈ _
    rcases (show max s.1.Y s.2.Y = s.2.Y ∨ max s.1.Y s.2.Y = s.1.Y by omega) with e | e <;> rw [e]
    ·exact List.mem_map.2 ⟨s.2, s2', rfl⟩
    ·exact List.mem_map.2 ⟨s.1, s1, rfl⟩
  ·cases hsv
 have hVl : V.length ≤ 2000 := by
  rw [hV]
  refine Nat.le_trans (List.length_filterMap_le _ _) ?_
  have := zWx p0 (p0 :: r0)
  show (nxt p0 (p0 :: r0)).length ≤ 2000
  omega
 have hVx : ∀ v ∈ V, -1000000000 ≤ v.X0 ∧ v.X0 ≤ 1000000000 := fun v hv => by
  obtain ⟨p, hp, e⟩ := List.mem_map.1 (hVm v hv).1
  have := hb p hp
  omega
 obtain ⟨U, u1, u2, u3⟩ := zOs (c := fun z0 z1 => zAk z0 z1) (k := fun r => r.X0) (l := V) (by omega) (fun x hx y hy => by
  have a := hVx x hx; have b := hVx y hy
  unfold zAk
  rw [Qh (by omega) (by omega)])
 have hxs : ∀ y, (zDf U y).Perm ((zIR y (zD4 (p0 :: r0))).map (·.1.X)) := fun y => by
  rw [← zOl, ← hV]
  exact (u2.filter _).map _
 have hev : ∀ y, (zDf U y).length % 2 = 0 := fun y => by
  rw [(hxs y).length_eq, List.length_map]; exact zWQ y hax
 have hcle : ∀ x y, cle x (zDf U y) = cle x ((zIR y (zD4 (p0 :: r0))).map (·.1.X)) := fun x y => ((hxs y).filter _).length_eq
 obtain ⟨ys, hys⟩ : ∃ ys, ys = zHC ((p0 :: r0).map (·.Y)) := ⟨_, rfl⟩
 have hysl : ys.length ≤ 2000 := by rw [hys]; exact Nat.le_trans (zOq _) (by simpa using hl)
 obtain ⟨b1, b2⟩ := zb3 (up := U) (ys := ys) (by rw [hys]; exact zDj _) u3 hev (fun s hs => by
  have := hVm s (u2.subset hs)
  rw [hys, zE8, zE8]; exact this.2)
 have hUl : U.length ≤ 2000 := by rw [u2.length_eq]; exact hVl
 have hrow : ∀ y, (fA U y).length ≤ 2000 := fun y => by
  have h1 := KJ (fA U y)
  rw [(zXV u3 hev y).1] at h1
  have h2 := zcI (zDf U y)
  have h3 : (zDf U y).length ≤ U.length := by unfold zDf; rw [List.length_map]; exact List.length_filter_le _ _
  omega
 obtain ⟨c1, c2⟩ := zP0 hrow ys [] (fun c hc => by cases hc)
 refine ⟨zCm (fA U) ys [], ?_, b1, by simp at c1; omega, c2, fun x y => by rw [b2, hcle]; rfl⟩
 unfold zCs
 rw [KE]
 have hsl := zKw (l := p0 :: r0) (p0 := p0) rfl (by omega) (K := KE N [] (0 + 1)) (p0 :: r0) [] [] [] rfl (by simp) (by simp)
 rw [show ([] : List zJ).length = 0 from rfl] at hsl
 rw [hsl, List.nil_append, List.nil_append, KE]
 have hso := zWi (l := (p0 :: r0).map (·.Y)) (by rw [List.length_map]; omega)
 rw [zRs (by rw [List.length_map]; omega), Option.bind_some] at hso ⊢
 rw [hso, Option.bind_some, show (nxt p0 (p0 :: r0)).filterMap zLP = V from hV.symm, u1, Option.bind_some, ← hys]
 exact zPy (by rw [hys]; exact zDj _) u3 hev (by omega) (by omega) ys [] N [] rfl (by omega) (by simp; omega)
def ptB (q : zJ) : Bool := (decide (-1000000 ≤ q.X) && decide (q.X ≤ 1000000)) && (decide (-1000000 ≤ q.Y) && decide (q.Y ≤ 1000000))
theorem zWr {q : zJ} : ptB q = true ↔ (-1000000 ≤ q.X ∧ q.X ≤ 1000000) ∧ (-1000000 ≤ q.Y ∧ q.Y ≤ 1000000) := by unfold ptB; simp
theorem zSj (q : zJ) : zAU q = some (ptB q) := by
 unfold zAU Wv zCp ptB
 cases (decide (-1000000 ≤ q.X) && decide (q.X ≤ 1000000)) <;> rfl
def zWf (c : Bool) (I S : List Bd) (x y : Int) : Prop := if c then InB x y I ∧ ¬ InB x y S else InB x y I ∨ InB x y S
open Classical in
noncomputable def cmb (c : Bool) (I S : List Bd) : List Bd := if h : ∃ C, BOk C ∧ ∀ x y, InB x y C ↔ zWf c I S x y then h.choose else []
theorem zWU {c : Bool} {I S C : List Bd} (h1 : BOk C) (h2 : ∀ x y, InB x y C ↔ zWf c I S x y) : cmb c I S = C := by
 have h : ∃ C, BOk C ∧ ∀ x y, InB x y C ↔ zWf c I S x y := ⟨C, h1, h2⟩
 unfold cmb
 rw [dif_pos h]
 exact h.choose_spec.1.uniq h1 fun x y => by rw [h.choose_spec.2, h2]
open Classical in
noncomputable def arB (l : List zJ) : List Bd := if h : ∃ A, BOk A ∧ ∀ x y, InB x y A ↔ zXB l x y then h.choose else []
theorem zjC {l : List zJ} {A : List Bd} (h1 : BOk A) (h2 : ∀ x y, InB x y A ↔ zXB l x y) : arB l = A := by
 have h : ∃ A, BOk A ∧ ∀ x y, InB x y A ↔ zXB l x y := ⟨A, h1, h2⟩
 unfold arB
 rw [dif_pos h]
 exact h.choose_spec.1.uniq h1 fun x y => by rw [h.choose_spec.2, h2]
structure zNu (I : List Bd) : Prop where
 ok : BOk I
 few : (Qm I).length ≤ 2000
 lim : (Qm I).all lim = true
structure zMR (S : List Bd) : Prop where
 ok : BOk S
 few : S.length ≤ 100000
 row : ∀ b ∈ S, b.2.2.length ≤ 10000
 tot : (Qm S).length ≤ 100000000
theorem zNu.drw {I : List Bd} (h : zNu I) : zMR I := by
 have h1 := h.ok.le
 have h2 := h.few
 exact ⟨h.ok, by omega, fun b hb => by have := zO3 hb; omega, by omega⟩
noncomputable def drw (c : Bool) (I S : List Bd) : Int × List Bd := if (Qm S).all lim then (if 2000 < (Qm (cmb c I S)).length then (2, cmb c I S) else (0, cmb c I S)) else (1, I)
theorem zR2 {I : List Bd} (h : BOk I) : (Qm I).all lim = true ↔ ∀ x y, InB x y I → (-1000000 ≤ x ∧ x < 1000000) ∧ (-1000000 ≤ y ∧ y < 1000000) := by
 rw [List.all_eq_true]
 constructor
 ·intro hl x y hx
  obtain ⟨r, hr, h1, h2⟩ := (zGS h x y).2 hx
  have := zGq.1 (hl r hr)
  omega
 ·intro hp r hr
  have := zO4 h (m := 1000000) hp r hr
  rw [zGq]; omega
theorem zWT {c : Bool} {I S : List Bd} (hI : zMR I) (hS : zMR S) {N : Nat} (hN : 10000000000 ≤ N) : (if c then zAL N (I.map toP) (S.map toP) else zA7 N (I.map toP) (S.map toP)) = some ((cmb c I S).map toP) ∧ BOk (cmb c I S) ∧ (∀ x y, InB x y (cmb c I S) ↔ zWf c I S x y) ∧ (Qm (cmb c I S)).length ≤ 1000000000000 := by
 cases c
 ·obtain ⟨C, c1, c2, c3, c4⟩ := zf9 hN hI.ok hS.ok hI.row hS.row hI.few hS.few
  have := zWU (c := false) c2 c3
  rw [this]
  exact ⟨c1, c2, c3, c4⟩
 ·obtain ⟨C, c1, c2, c3, c4⟩ := zaE hN hI.ok hS.ok hI.row hS.row hI.few hS.few
  have := zWU (c := true) c2 c3
  rw [this]
  exact ⟨c1, c2, c3, c4⟩
theorem zSO {c : Bool} {I S : List Bd} (hI : zNu I) (hS : zMR S) (h : (drw c I S).1 = 0) : zNu (drw c I S).2 := by
 obtain ⟨_, c2, c3, _⟩ := zWT (c := c) hI.drw hS (Nat.le_refl _)
 unfold drw at h ⊢
 by_cases hl : (Qm S).all lim = true
 ·rw [if_pos hl] at h ⊢
  by_cases hm : 2000 < (Qm (cmb c I S)).length
  ·rw [if_pos hm] at h; cases h
  ·rw [if_neg hm]
   refine ⟨c2, Nat.le_of_not_lt hm, (zR2 c2).2 fun x y hx => ?_⟩
   have h1 := (zR2 hI.ok).1 hI.lim x y
   have h2 := (zR2 hS.ok).1 hl x y
   rw [c3] at hx
   unfold zWf at hx
   cases c
   ·rcases hx with hx | hx
    ·exact h1 hx
    ·exact h2 hx
   ·exact h1 hx.1
 ·rw [if_neg hl] at h; cases h
theorem zSP {N : Nat} (hN : 10000000000 ≤ N) {m : QU} {I S : List Bd} (hI : zNu I) (hm : m.image = I.map toP) (hS : zMR S) : VM N m (S.map toP) = some ((drw m.clear I S).1, (drw m.clear I S).2.map toP) := by
 obtain ⟨c1, c2, c3, c4⟩ := zWT (c := m.clear) hI.drw hS hN
 have hf := zeY (L := Qm S) hS.tot (zKA hS.ok)
 rw [zTF hS.ok] at hf
 unfold VM drw
 rw [hf, Option.bind_some]
 by_cases hl : (Qm S).all lim = true
 ·rw [hl, if_neg (by simp), if_pos rfl]
  have hj : ∀ C : List Bd, (Qm C).length ≤ 1000000000000 → KV (C.map toP) = some ((if 2000 < (Qm C).length then ((2 : Int), C) else (0, C)).1, (if 2000 < (Qm C).length then ((2 : Int), C) else (0, C)).2.map toP) := fun C hC => by
   unfold KV
   rw [zX1 (by omega), Option.bind_some]
   by_cases hm : 2000 < (Qm C).length
   ·rw [if_pos (by simp; omega), if_pos hm]
   ·rw [if_neg (by simp; omega), if_neg hm]
  rw [hm]
  cases hc : m.clear
  ·rw [hc] at c1 c4
   simp only [Bool.false_eq_true, if_false] at c1 ⊢
   rw [c1, Option.bind_some, hj _ c4]
  ·rw [hc] at c1 c4
   simp only [if_true] at c1 ⊢
   rw [c1, Option.bind_some, hj _ c4]
 ·have hl' : (Qm S).all lim = false := by simpa using hl
  rw [hl', if_pos (by rfl), if_neg (by simp), hm]
structure MS where
 img : List Bd
 clear : Bool
 tool : Int
 place : zJ
 placed : Bool
 off : Int
 on : Int
def toM (p : QB) (TT : List (List zQ)) (s : MS) : QU := ⟨p, TT.map fun T => (zCz T).map toP, s.img.map toP, s.clear, s.tool, s.place, s.placed, s.off, s.on⟩
def zmn (p q : zJ) : Int := w64 ((max (w64 (p.X - q.X)) (w64 (q.X - p.X))) + (max (w64 (p.Y - q.Y)) (w64 (q.Y - p.Y))))
def zAp (s : MS) (q : zJ) : Int × MS := if ptB q then (0, { s with place := q, placed := true, off := if s.placed then w64 (s.off + zmn s.place q) else s.off }) else (1, s)
def zFc (s : MS) (q : zJ) : Int × MS := if ptB q then (0, { s with place := q, placed := true, on := if s.placed then w64 (s.on + zmn s.place q) else s.on }) else (1, s)
noncomputable def zL6 (s : MS) (S : List Bd) : Int × MS := ((drw s.clear s.img S).1, { s with img := (drw s.clear s.img S).2 })
def swT (TT : List (List zQ)) (s : MS) (p q : zJ) : List Bd := zCz ((TT.getD s.tool.toNat []).map (swR (min p.X q.X) (max p.X q.X) (min p.Y q.Y) (max p.Y q.Y)))
noncomputable def zBc (TT : List (List zQ)) (s : MS) (q : zJ) : Int × MS := if s.tool < 0 then (11, s) else if (zAp s q).1 = 0 then zL6 (zAp s q).2 (swT TT s q q) else zAp s q
noncomputable def zDl (TT : List (List zQ)) (s : MS) (q : zJ) : Int × MS := if s.tool < 0 ∨ s.placed = false then (11, s) else if q.X ≠ s.place.X ∧ q.Y ≠ s.place.Y then (3, s) else if (zFc s q).1 = 0 then zL6 (zFc s q).2 (swT TT s s.place q) else zFc s q
def atM (U : Int) (q by_ : zJ) : zJ := ⟨w64 (w64 (q.X * U) + by_.X), w64 (w64 (q.Y * U) + by_.Y)⟩
def byM (U : Int) (by_ a : zJ) (j i : Nat) : zJ := ⟨w64 (by_.X + w64 (w64 ((i : Int) * a.X) * U)), w64 (by_.Y + w64 (w64 ((j : Int) * a.Y) * U))⟩
noncomputable def zFg (s : MS) (row : List zJ) : Int × MS := if 2000 < (Qm (arB row)).length then (2, s) else if row.any (fun q => !ptB q) then (1, s) else zL6 s (arB row)
noncomputable def zAH (p : QB) (TT : List (List zQ)) (x : zC) (by_ : zJ) (s : MS) : Int × MS :=
 if x.Kind = 1 ∨ x.Kind = 2 then (0, { s with clear := x.Kind == 2 }) else if x.Kind = 3 then (0, { s with tool := zD2 x.Name p.Tools }) else if x.Kind = 4 then zAp s (atM p.Unit x.At by_) else if x.Kind = 5 then zBc TT s (atM p.Unit x.At by_)
 else if x.Kind = 6 then zDl TT s (atM p.Unit x.At by_) else if x.Kind = 7 then zFg s (x.Points.map fun q => atM p.Unit q by_) else (0, s)
def zDm {β : Type} (f : β → MS → Int × MS) : List β → MS → Int × MS
 | [], s => (0, s)
 | b :: l, s => if (f b s).1 = 0 then zDm f l (f b s).2 else f b s
mutual
noncomputable def Wz (p : QB) (TT : List (List zQ)) : zC → zJ → MS → Int × MS
 | ⟨k, n, a, ps, nx, ny, l⟩, b, s => if k = 8 then zDm (fun j s => zDm (fun i s => zAA p TT l (byM p.Unit b a j i) s) (List.range' 0 nx.toNat) s) (List.range' 0 ny.toNat) s else zAH p TT ⟨k, n, a, ps, nx, ny, l⟩ b s
noncomputable def zAA (p : QB) (TT : List (List zQ)) : List zC → zJ → MS → Int × MS
 | [], _, s => (0, s)
 | x :: l, b, s => if (Wz p TT x b s).1 = 0 then zAA p TT l b (Wz p TT x b s).2 else Wz p TT x b s
end
theorem zE7 (p : QB) (TT : List (List zQ)) (x : zC) (b : zJ) (s : MS) : Wz p TT x b s = if x.Kind = 8 then zDm (fun j s => zDm (fun i s => zAA p TT x.Steps (byM p.Unit b x.At j i) s) (List.range' 0 x.NX.toNat) s) (List.range' 0 x.NY.toNat) s else zAH p TT x b s := by
 cases x; rw [Wz]
theorem WQ (p : QB) (TT : List (List zQ)) (b : zJ) (s : MS) : zAA p TT [] b s = (0, s) := by rw [zAA]
theorem Vz (p : QB) (TT : List (List zQ)) (x : zC) (l : List zC) (b : zJ) (s : MS) : zAA p TT (x :: l) b s = if (Wz p TT x b s).1 = 0 then zAA p TT l b (Wz p TT x b s).2 else Wz p TT x b s := by rw [zAA]
structure zC6 (TT : List (List zQ)) (s : MS) : Prop where
 img : zNu s.img
 tool : -1 ≤ s.tool ∧ s.tool < (TT.length : Int)
 place : s.placed = true → ptB s.place = true
structure zEj (T : List zQ) : Prop where
 few : T.length ≤ 2000
 ne : Ne T
 lim : ∀ r ∈ T, (-1000000 ≤ r.X0 ∧ r.X1 ≤ 1000000) ∧ (-1000000 ≤ r.Y0 ∧ r.Y1 ≤ 1000000)
def encR (r : Int × MS) : Int × Bool × Int × Int × Int × Bool × Int × Int × List ze := (r.1, r.2.clear, r.2.tool, r.2.place.X, r.2.place.Y, r.2.placed, r.2.off, r.2.on, r.2.img.map toP)
theorem zTG {L : List zQ} (hl : L.length ≤ 2000) (hne : Ne L) : zMR (zCz L) := by
 obtain ⟨b1, _⟩ := zGl hne
 obtain ⟨s1, s2⟩ := zOw L
 have ht := zGH (R := 2000) (l := zCz L) fun b hb => Nat.le_trans (s2 b hb) hl
 exact ⟨b1, by omega, fun b hb => by have := s2 b hb; omega, by omega⟩
theorem zN8 {TT : List (List zQ)} (hT : ∀ T ∈ TT, zEj T) {s : MS} {p q : zJ} : zMR (swT TT s p q) := by
 have hg : zEj (TT.getD s.tool.toNat []) := by
  rw [List.getD_eq_getElem?_getD]
  cases h : TT[s.tool.toNat]? with
  | none => exact ⟨by simp, fun r hr => by simp at hr, fun r hr => by simp at hr⟩
  | some T => exact hT T (List.mem_of_getElem? h)
 exact zTG (by rw [List.length_map]; exact hg.few) (zTB (by omega) (by omega) hg.ne)
section
variable {N : Nat} (hN : 10000000000 ≤ N) {p : QB} {TT : List (List zQ)} (hT : ∀ T ∈ TT, zEj T) {s : MS}
theorem zQi (q : zJ) : KU (toM p TT s) q = some ((zAp s q).1, (zAp s q).2.place.X, (zAp s q).2.place.Y, (zAp s q).2.placed, (zAp s q).2.off) := by
 unfold KU Jq zAp
 rw [zSj, Option.bind_some]
 cases ptB q
 ·rfl
 ·simp only [Bool.not_true, Bool.false_eq_true, if_false, if_true]
  show (if s.placed = true then _ else _) = _
  cases s.placed <;> rfl
theorem zZn (q : zJ) : VL (toM p TT s) q = some ((zFc s q).1, (zFc s q).2.place.X, (zFc s q).2.place.Y, (zFc s q).2.placed, (zFc s q).2.on) := by
 unfold VL Jp zFc
 rw [zSj, Option.bind_some]
 cases ptB q
 ·rfl
 ·simp only [Bool.not_true, Bool.false_eq_true, if_false, if_true]
  show (if s.placed = true then _ else _) = _
  cases s.placed <;> rfl
theorem zS9 (hi : zC6 TT s) (h0 : 0 ≤ s.tool) : idx ((toM p TT s).tools) s.tool = some ((zCz (TT.getD s.tool.toNat [])).map toP) := by
 have := hi.tool
 have hlt : s.tool.toNat < TT.length := by omega
 unfold idx
 rw [if_pos h0]
 show (TT.map fun T => (zCz T).map toP)[s.tool.toNat]? = _
 rw [List.getElem?_map, List.getD_eq_getElem?_getD, List.getElem?_eq_getElem hlt]; rfl
theorem zc2 (hT : ∀ T ∈ TT, zEj T) (hi : zC6 TT s) (h0 : 0 ≤ s.tool) : zEj (TT.getD s.tool.toNat []) := by
 have := hi.tool
 have hlt : s.tool.toNat < TT.length := by omega
 rw [List.getD_eq_getElem?_getD, List.getElem?_eq_getElem hlt]
 exact hT _ (List.getElem_mem hlt)
include hN hT
theorem zQe (hi : zC6 TT s) (h0 : 0 ≤ s.tool) {a q : zJ} (ha : ptB a = true) (hq : ptB q = true) : zB5 N ((zCz (TT.getD s.tool.toNat [])).map toP) a q = some ((swT TT s a q).map toP) := by
 have ht := zc2 hT hi h0
 exact zZk hN ht.few ht.ne ht.lim (zWr.1 ha) (zWr.1 hq)
theorem zY3 (hi : zC6 TT s) (q : zJ) : Wo N (toM p TT s) q = some ((zBc TT s q).1, (zBc TT s q).2.place.X, (zBc TT s q).2.place.Y, (zBc TT s q).2.placed, (zBc TT s q).2.off, (zBc TT s q).2.img.map toP) ∧ (zBc TT s q).2.clear = s.clear ∧ (zBc TT s q).2.tool = s.tool ∧ (zBc TT s q).2.on = s.on ∧ ((zBc TT s q).1 = 0 → zC6 TT (zBc TT s q).2) := by
 unfold Wo zBc
 by_cases h0 : s.tool < 0
 ·rw [if_pos (show decide ((toM p TT s).tool < 0) = true from decide_eq_true h0), if_pos h0]
  exact ⟨rfl, rfl, rfl, rfl, fun h => by cases h⟩
 ·rw [if_neg (show ¬ decide ((toM p TT s).tool < 0) = true by rw [decide_eq_true_eq]; exact h0), if_neg h0, zQi, Option.bind_some]
  unfold zAp
  cases hq : ptB q
  ·simp only [Bool.false_eq_true, if_false]
   exact ⟨rfl, rfl, rfl, rfl, fun h => by cases h⟩
  ·simp only [if_true, bne_self_eq_false, Bool.false_eq_true, if_false]
   rw [show (toM p TT s).tool = s.tool from rfl, zS9 hi (by omega), Option.bind_some, zQe hN hT hi (by omega) hq hq, Option.bind_some, zSP hN hi.img rfl (zN8 hT), Option.bind_some]
   refine ⟨rfl, rfl, rfl, rfl, fun h => ⟨zSO hi.img (zN8 hT) h, hi.tool, fun _ => hq⟩⟩
theorem zaC (hi : zC6 TT s) (q : zJ) : zAC N (toM p TT s) q = some ((zDl TT s q).1, (zDl TT s q).2.place.X, (zDl TT s q).2.place.Y, (zDl TT s q).2.placed, (zDl TT s q).2.on, (zDl TT s q).2.img.map toP) ∧ (zDl TT s q).2.clear = s.clear ∧ (zDl TT s q).2.tool = s.tool ∧ (zDl TT s q).2.off = s.off ∧ ((zDl TT s q).1 = 0 → zC6 TT (zDl TT s q).2) := by
 unfold zAC zDl
 by_cases h0 : s.tool < 0 ∨ s.placed = false
 ·rw [if_pos (show (decide ((toM p TT s).tool < 0) || !(toM p TT s).placed) = true by rw [Bool.or_eq_true, decide_eq_true_eq, Bool.not_eq_true']; exact h0), if_pos h0]
  exact ⟨rfl, rfl, rfl, rfl, fun h => by cases h⟩
 ·rw [if_neg (show ¬ (decide ((toM p TT s).tool < 0) || !(toM p TT s).placed) = true by rw [Bool.or_eq_true, decide_eq_true_eq, Bool.not_eq_true']; exact h0), if_neg h0]
  obtain ⟨h1, h2⟩ := not_or.1 h0
  have hpl : s.placed = true := by simpa using h2
  by_cases hx : q.X ≠ s.place.X ∧ q.Y ≠ s.place.Y
  ·rw [if_pos (show (q.X != (toM p TT s).place.X && q.Y != (toM p TT s).place.Y) = true by simpa [toM] using hx), if_pos hx]
   exact ⟨rfl, rfl, rfl, rfl, fun h => by cases h⟩
  ·rw [if_neg (show ¬ (q.X != (toM p TT s).place.X && q.Y != (toM p TT s).place.Y) = true by simpa [toM] using hx), if_neg hx, zZn, Option.bind_some]
   unfold zFc
   cases hq : ptB q
   ·simp only [Bool.false_eq_true, if_false]
    exact ⟨rfl, rfl, rfl, rfl, fun h => by cases h⟩
   ·simp only [if_true, bne_self_eq_false, Bool.false_eq_true, if_false]
    rw [show (toM p TT s).tool = s.tool from rfl, zS9 hi (by omega), Option.bind_some, show (toM p TT s).place = s.place from rfl, zQe hN hT hi (by omega) (hi.place hpl) hq, Option.bind_some, zSP hN hi.img rfl (zN8 hT), Option.bind_some]
    refine ⟨rfl, rfl, rfl, rfl, fun h => ⟨zSO hi.img (zN8 hT) h, hi.tool, fun _ => hq⟩⟩
end
theorem zEq {n u : Int} (hu : 1 ≤ u) (h : zL5 n u = true) : -1000000 ≤ n * u ∧ n * u ≤ 1000000 := by
 unfold zL5 at h
 rw [Bool.and_eq_true, decide_eq_true_eq, decide_eq_true_eq] at h
 have h1 := Int.mul_le_mul_of_nonneg_right h.2 (show 0 ≤ u by omega)
 have h2 := Int.mul_le_mul_of_nonneg_right h.1 (show 0 ≤ u by omega)
 have h3 := Int.ediv_mul_le 1000000 (show u ≠ 0 by omega)
 rw [Int.neg_mul] at h2
 omega
def zFx (d : Int) (b : zJ) : Prop := (-(d * 100000000) ≤ b.X ∧ b.X ≤ d * 100000000) ∧ (-(d * 100000000) ≤ b.Y ∧ b.Y ≤ d * 100000000)
theorem zSg {U d : Int} {q b : zJ} (hu : 1 ≤ U) (hq : zCB q U = true) (hd : d ≤ 5) (hb : zFx d b) : atM U q b = ⟨q.X * U + b.X, q.Y * U + b.Y⟩ ∧ (-1000000 ≤ q.X * U ∧ q.X * U ≤ 1000000) ∧ (-1000000 ≤ q.Y * U ∧ q.Y * U ≤ 1000000) := by
 unfold zCB at hq
 rw [Bool.and_eq_true] at hq
 have h1 := zEq hu hq.1
 have h2 := zEq hu hq.2
 unfold zFx at hb
 refine ⟨?_, h1, h2⟩
 unfold atM
 generalize q.X * U = a at h1 ⊢
 generalize q.Y * U = c at h2 ⊢
 rw [Qh (x := a) (by omega) (by omega), Qh (x := c) (by omega) (by omega), Qh (by omega) (by omega), Qh (by omega) (by omega)]
theorem zcM {U d : Int} {a b : zJ} {j i : Nat} (hu : 1 ≤ U) (ha : zCB a U = true) (hd : 0 ≤ d ∧ d < 5) (hb : zFx d b) (hj : j < 100) (hi : i < 100) : byM U b a j i = ⟨b.X + (i : Int) * a.X * U, b.Y + (j : Int) * a.Y * U⟩ ∧ zFx (d + 1) (byM U b a j i) := by
 unfold zCB at ha
 rw [Bool.and_eq_true] at ha
 have h1 := zEq hu ha.1
 have h2 := zEq hu ha.2
 have key : ∀ (n : Int) (k : Nat), k < 100 → -1000000 ≤ n * U ∧ n * U ≤ 1000000 → (-99000000 ≤ (k : Int) * n * U ∧ (k : Int) * n * U ≤ 99000000) ∧ -99000000 ≤ (k : Int) * n ∧ (k : Int) * n ≤ 99000000 := fun n k hk h => by
  have e : (k : Int) * n * U = (k : Int) * (n * U) := Int.mul_assoc _ _ _
  have a1 : (k : Int) * (n * U) ≤ 99 * 1000000 := by
   refine Int.le_trans (Int.mul_le_mul_of_nonneg_left h.2 (by omega)) (Int.mul_le_mul_of_nonneg_right (by omega) (by omega))
  have a2 : 99 * (-1000000) ≤ (k : Int) * (n * U) := by
   refine Int.le_trans ?_ (Int.mul_le_mul_of_nonneg_left h.1 (show (0 : Int) ≤ (k : Int) by omega))
   omega
  have hn : -1000000 ≤ n ∧ n ≤ 1000000 := by
   refine ⟨?_, ?_⟩
   ·refine Int.not_lt.1 fun hl => ?_
    have := Int.mul_le_mul_of_nonpos_left (show n ≤ 0 by omega) hu
    omega
   ·refine Int.not_lt.1 fun hl => ?_
    have := Int.mul_le_mul_of_nonneg_left hu (show 0 ≤ n by omega)
    omega
  have b1 : (k : Int) * n ≤ 99 * 1000000 := Int.le_trans (Int.mul_le_mul_of_nonneg_left hn.2 (by omega)) (Int.mul_le_mul_of_nonneg_right (by omega) (by omega))
  have b2 : (k : Int) * (-1000000) ≤ (k : Int) * n := Int.mul_le_mul_of_nonneg_left hn.1 (by omega)
  omega
 obtain ⟨x1, x2⟩ := key a.X i hi h1
 obtain ⟨y1, y2⟩ := key a.Y j hj h2
 unfold zFx at hb ⊢
 have e : byM U b a j i = ⟨b.X + (i : Int) * a.X * U, b.Y + (j : Int) * a.Y * U⟩ := by
  unfold byM
  rw [Qh (x := (i : Int) * a.X) (by omega) (by omega), Qh (x := (j : Int) * a.Y) (by omega) (by omega)]
  generalize (i : Int) * a.X * U = p at x1 ⊢
  generalize (j : Int) * a.Y * U = q at y1 ⊢
  rw [Qh (x := p) (by omega) (by omega), Qh (x := q) (by omega) (by omega), Qh (by omega) (by omega), Qh (by omega) (by omega)]
 rw [e]
 refine ⟨rfl, ?_⟩
 simp only
 omega
theorem zWo {l : List zJ} {p0 : zJ} (h0 : l.head? = some p0) : ∀ (suf pre : List zJ), l = pre ++ suf → zN0 l suf pre.length = true → axS (nxt p0 suf)
 | [], _, _, _ => fun s hs => by cases hs
 | x :: r, pre, he, h => by
  have hnx : l.getD ((pre.length + 1) % l.length) ⟨0, 0⟩ = (r ++ [p0]).headD p0 := by
   have := zQn (pre := pre) (r := r) (x := x) (p0 := p0) (by rw [← he]; exact h0)
   rw [he]; exact this
  rw [zN0, hnx] at h
  split at h
  ·cases h
  rename_i hne
  have ih := zWo h0 r (pre ++ [x]) (by rw [he]; simp) (by rw [List.length_append]; exact h)
  rw [zLg]
  intro s hs
  rcases List.mem_cons.1 hs with rfl | hs
  ·intro hc
   refine hne ?_
   simp only at hc
   rw [beq_iff_eq, Bool.eq_iff_iff, beq_iff_eq, beq_iff_eq]
   rw [hc]
  ·exact ih s hs
theorem zZ1 {l : List zJ} (h : zN0 l l 0 = true) : axS (zD4 l) := by
 cases l with
 | nil => intro s hs; cases hs
 | cons p r => exact zWo (p0 := p) rfl (p :: r) [] rfl h
theorem zWw (f : zJ → zJ) (p0 : zJ) : ∀ (l : List zJ), nxt (f p0) (l.map f) = (nxt p0 l).map fun s => (f s.1, f s.2)
 | [] => rfl
 | [x] => rfl
 | x :: y :: r => by
  have := zWw f p0 (y :: r)
  rw [List.map_cons, List.map_cons, nxt, nxt, List.map_cons]
  rw [List.map_cons] at this
  rw [this]
theorem zVF (f : zJ → zJ) (l : List zJ) : zD4 (l.map f) = (zD4 l).map fun s => (f s.1, f s.2) := by
 cases l with
 | nil => rfl
 | cons x r => exact zWw f x (x :: r)
theorem zVE {l : List zJ} {s : zJ × zJ} (h : s ∈ zD4 l) : s.1 ∈ l ∧ s.2 ∈ l := by
 cases l with
 | nil => cases h
 | cons p r =>
  obtain ⟨h1, h2⟩ := zRx (show s ∈ nxt p (p :: r) from h)
  exact ⟨h1, h2.elim id fun e => e ▸ List.mem_cons_self⟩
theorem znA {U d : Int} {b : zJ} {l : List zJ} (hu : 1 ≤ U) (hl : ∀ q ∈ l, zCB q U = true) (hd : d ≤ 5) (hb : zFx d b) (h : axS (zD4 l)) : axS (zD4 (l.map fun q => atM U q b)) := by
 rw [zVF]
 intro s hs
 obtain ⟨t, ht, rfl⟩ := List.mem_map.1 hs
 obtain ⟨t1, t2⟩ := zVE ht
 have e1 := (zSg hu (hl _ t1) hd hb).1
 have e2 := (zSg hu (hl _ t2) hd hb).1
 have hc : ∀ m n c : Int, (m * U + c = n * U + c) = (m = n) := fun m n c => propext ⟨fun e => Int.eq_of_mul_eq_mul_right (a := U) (by omega) (by omega), fun e => by rw [e]⟩
 have := h t ht
 show ¬ (((atM U t.1 b).X = (atM U t.2 b).X) = ((atM U t.1 b).Y = (atM U t.2 b).Y))
 rw [e1, e2]
 show ¬ ((t.1.X * U + b.X = t.2.X * U + b.X) = (t.1.Y * U + b.Y = t.2.Y * U + b.Y))
 rw [hc, hc]
 exact this
theorem zcU {l : List zJ} : JN l (fun z0 => KG z0) = some (l.any fun q => !ptB q) := by
 have key : ∀ (l : List zJ) (i : Nat), Qo (fun z0 => KG z0) l i = some (zEP (fun q => !ptB q) l (i : Int)) := by
  intro l
  induction l with
  | nil => intro i; rfl
  | cons x r ih =>
   intro i
   rw [Qo, zEP, ih]
   have e : KG x = some (!ptB x) := by
    unfold KG
    rw [zSj]; rfl
   rw [e, Option.bind_some]
   split <;> rfl
 unfold JN Vm
 rw [key, Option.bind_some]
 exact congrArg some (zPM _ l 0 (by omega))
section
variable {N : Nat} (hN : 10000000000 ≤ N) {p : QB} {TT : List (List zQ)} {s : MS}
theorem zPB (q b : zJ) : Wm (toM p TT s) q b = some (atM p.Unit q b) := rfl
theorem zXz (b : zJ) : ∀ (suf : List zJ) (i : Nat) (out : List zJ), out.length + suf.length ≤ 1000000 → JJ N (toM p TT s) b suf i out = JJ N (toM p TT s) b [] 0 (out ++ suf.map fun q => atM p.Unit q b)
 | [], i, out, _ => by rw [List.map_nil, List.append_nil]; rfl
 | x :: r, i, out, h => by
  simp at h
  rw [JJ.eq_2, zPB, Option.bind_some, zCQ (by simp; omega), Option.bind_some, zXz b r (i + 1) _ (by simp; omega)]
  simp
include hN
theorem zcV (hu : 1 ≤ p.Unit) (hi : zC6 TT s) {d : Int} (hd : d ≤ 5) {b : zJ} (hb : zFx d b) {l : List zJ} (h1 : ∀ q ∈ l, zCB q p.Unit = true) (h2 : 4 ≤ l.length ∧ l.length ≤ 2000) (h3 : zN0 l l 0 = true) :
  zAD N (toM p TT s) l b = some ((zFg s (l.map fun q => atM p.Unit q b)).1, (zFg s (l.map fun q => atM p.Unit q b)).2.img.map toP) ∧ (zFg s (l.map fun q => atM p.Unit q b)).2 = { s with img := (zFg s (l.map fun q => atM p.Unit q b)).2.img } ∧ ((zFg s (l.map fun q => atM p.Unit q b)).1 = 0 → zC6 TT (zFg s (l.map fun q => atM p.Unit q b)).2) := by
 obtain ⟨A, a1, a2, a3, a4, a5⟩ := zWg hN (l := l.map fun q => atM p.Unit q b) (by
  intro h
  have := List.map_eq_nil_iff.1 h
  rw [this] at h2; simp at h2) (by simpa using h2.2) (fun q hq => by
  obtain ⟨z, hz, rfl⟩ := List.mem_map.1 hq
  obtain ⟨e, b1, b2⟩ := zSg hu (h1 z hz) hd hb
  unfold zFx at hb
  rw [e]; simp only; omega) (znA hu h1 hd hb (zZ1 h3))
 have hA := zjC a2 a5
 have htot := zGH a4
 have hD : zMR A := ⟨a2, by omega, fun b hb => by have := a4 b hb; omega, Nat.le_trans htot (by have := Nat.mul_le_mul_left 2000 a3; omega)⟩
 unfold zAD
 rw [zXz b l 0 [] (by simp; omega), List.nil_append]
 rw [JJ, a1, Option.bind_some, zX1 (by have := hD.tot; omega), Option.bind_some, zcU, Option.bind_some]
 unfold zFg
 rw [hA]
 by_cases hm : 2000 < (Qm A).length
 ·rw [if_pos (by simp; omega), if_pos hm]
  exact ⟨rfl, rfl, fun h => by cases h⟩
 ·rw [if_neg (by simp; omega), if_neg hm]
  by_cases hr : ((l.map fun q => atM p.Unit q b).any fun q => !ptB q) = true
  ·rw [if_pos hr, if_pos hr]
   exact ⟨rfl, rfl, fun h => by cases h⟩
  ·rw [if_neg hr, if_neg hr, zSP hN hi.img rfl hD, Option.bind_some]
   exact ⟨rfl, rfl, fun h => ⟨zSO hi.img hD h, hi.tool, hi.place⟩⟩
end
abbrev RTy := Int × Bool × Int × Int × Int × Bool × Int × Int × List ze
def zUn (rec : QU → List zC → zJ → Option RTy) (p : QB) (TT : List (List zQ)) (l : List zC) (b : zJ) (s : MS) : Prop :=
 rec (toM p TT s) l b = some (encR (zAA p TT l b s)) ∧ ((zAA p TT l b s).1 = 0 → zC6 TT (zAA p TT l b s).2)
section
variable {N : Nat} (hN : 10000000000 ≤ N) {p : QB} {TT : List (List zQ)} (hT : ∀ T ∈ TT, zEj T) (hl : TT.length = p.Tools.length) (hu : 1 ≤ p.Unit)
include hN hT hl hu
theorem zdR {s : MS} (hi : zC6 TT s) {d : Int} (hd : d ≤ 5) {b : zJ} (hb : zFx d b) {x : zC} (hx : zHG p x d) (h8 : x.Kind ≠ 8) (rec : QU → List zC → zJ → Option RTy) :
  Kg rec N (toM p TT s) x b = some (encR (zAH p TT x b s)) ∧ ((zAH p TT x b s).1 = 0 → zC6 TT (zAH p TT x b s).2) := by
 have hk := hx.kind
 unfold Kg
 rw [zPB, Option.bind_some]
 unfold zAH
 by_cases h1 : x.Kind = 1
 ·rw [if_pos (by simp [h1]), if_pos (.inl h1)]
  have e : (x.Kind == 2) = false := by simp [h1]
  unfold Jg
  rw [if_pos (by simp [h1])]
  unfold JI
  exact ⟨rfl, fun _ => ⟨hi.img, hi.tool, hi.place⟩⟩
 rw [if_neg (by simpa using h1)]
 unfold Jg
 by_cases h2 : x.Kind = 2
 ·rw [if_pos (by simp [h2]), if_pos (.inr h2)]
  unfold JI
  exact ⟨rfl, fun _ => ⟨hi.img, hi.tool, hi.place⟩⟩
 rw [if_neg (by simpa using h2), if_neg (show ¬ (x.Kind = 1 ∨ x.Kind = 2) by omega)]
 by_cases h3 : x.Kind = 3
 ·have ht := hx.tool h3
  have hlt := zXA (fun t : zZ => sEq t.Name x.Name) p.Tools 0 (by omega)
  have hto : zD2 x.Name p.Tools = zEP (fun t : zZ => sEq t.Name x.Name) p.Tools 0 := rfl
  rw [if_pos (by simp [h3]), if_pos h3, show (toM p TT s).p = p from rfl, zQb, Option.bind_some]
  unfold JI
  refine ⟨rfl, fun _ => ⟨hi.img, ⟨?_, ?_⟩, hi.place⟩⟩
  ·show -1 ≤ zD2 x.Name p.Tools; omega
  ·show zD2 x.Name p.Tools < (TT.length : Int)
   rw [hl]
   rcases hlt with h | h <;> omega
 rw [if_neg (by simpa using h3), if_neg h3]
 by_cases h4 : x.Kind = 4
 ·rw [if_pos (by simp [h4]), if_pos h4, zQi, Option.bind_some]
  refine ⟨?_, ?_⟩
  ·unfold zAp
   cases ptB (atM p.Unit x.At b) <;> rfl
  ·intro h
   unfold zAp at h ⊢
   cases hp : ptB (atM p.Unit x.At b)
   ·rw [hp] at h; cases h
   ·exact ⟨hi.img, hi.tool, fun _ => hp⟩
 rw [if_neg (by simpa using h4), if_neg h4]
 by_cases h5 : x.Kind = 5
 ·obtain ⟨f1, f2, f3, f4, f5⟩ := zY3 (p := p) hN hT hi (atM p.Unit x.At b)
  rw [if_pos (by simp [h5]), if_pos h5, f1, Option.bind_some]
  refine ⟨?_, f5⟩
  unfold encR
  rw [f2, f3, f4]; rfl
 rw [if_neg (by simpa using h5), if_neg h5]
 by_cases h6 : x.Kind = 6
 ·obtain ⟨f1, f2, f3, f4, f5⟩ := zaC (p := p) hN hT hi (atM p.Unit x.At b)
  rw [if_pos (by simp [h6]), if_pos h6, f1, Option.bind_some]
  refine ⟨?_, f5⟩
  unfold encR
  rw [f2, f3, f4]; rfl
 rw [if_neg (by simpa using h6), if_neg h6]
 have h7 : x.Kind = 7 := by omega
 obtain ⟨a1, a2, a3, a4⟩ := hx.area h7
 obtain ⟨f1, f2, f3⟩ := zcV hN (p := p) (TT := TT) hu hi hd hb (l := x.Points) (List.all_eq_true.1 a1) ⟨a2, a3⟩ a4
 rw [if_pos (by simp [h7]), if_pos h7, f1, Option.bind_some]
 refine ⟨?_, f3⟩
 unfold encR
 generalize hg : zFg s (x.Points.map fun q => atM p.Unit q b) = g at f2 ⊢
 rw [f2]; rfl
omit hT hl hu hN in
theorem zTQ {rec : QU → List zC → zJ → Option RTy} {s0 : MS} {x : zC} {b : zJ} {j : Nat} {K : List ze → Bool → Int → Int → Int → Bool → Int → Int → Int → Option RTy} (hNX : x.NX ≤ 100)
  (hrec : ∀ (i : Nat) (s : MS), (i : Int) < x.NX → zC6 TT s → zUn rec p TT x.Steps (byM p.Unit b x.At j i) s) : ∀ (r m i : Nat) (s : MS), zC6 TT s → (i : Int) + r = x.NX → r < m →
  ∃ q, q = zDm (fun i s => zAA p TT x.Steps (byM p.Unit b x.At j i) s) (List.range' i r) s ∧ (q.1 = 0 → zC6 TT q.2) ∧
   Jf (toM p TT s0) x b rec (j : Int) K m (s.img.map toP) s.clear s.tool s.place.X s.place.Y s.placed s.off s.on (i : Int) = if q.1 = 0 then K (q.2.img.map toP) q.2.clear q.2.tool q.2.place.X q.2.place.Y q.2.placed q.2.off q.2.on (w64 ((j : Int) + 1)) else some (encR q)
 | 0, m, i, s, hs, hi, hm => by
  obtain ⟨m, rfl⟩ : ∃ k, m = k + 1 := ⟨m - 1, by omega⟩
  refine ⟨_, rfl, fun _ => hs, ?_⟩
  rw [Jf, if_neg (by simp; omega)]
  rfl
 | r + 1, m, i, s, hs, hi, hm => by
  obtain ⟨m, rfl⟩ : ∃ k, m = k + 1 := ⟨m - 1, by omega⟩
  obtain ⟨h1, h2⟩ := hrec i s (by omega) hs
  refine ⟨_, rfl, ?_⟩
  rw [Jf, if_pos (by simp; omega)]
  have h1' : rec (QU.mk (toM p TT s0).p (toM p TT s0).tools (s.img.map toP) s.clear s.tool (zJ.mk s.place.X s.place.Y) s.placed s.off s.on) x.Steps (zJ.mk (w64 (b.X + (w64 ((w64 ((i : Int) * x.At.X)) * (toM p TT s0).p.Unit)))) (w64 (b.Y + (w64 ((w64 ((j : Int) * x.At.Y)) * (toM p TT s0).p.Unit))))) = some (encR (zAA p TT x.Steps (byM p.Unit b x.At j i) s)) := h1
  rw [h1', Option.bind_some, List.range'_succ, zDm]
  generalize hg : zAA p TT x.Steps (byM p.Unit b x.At j i) s = g at h2 ⊢
  by_cases h0 : g.1 = 0
  ·obtain ⟨q, q1, q2, q3⟩ := zTQ hNX hrec r m (i + 1) g.2 (h2 h0) (by omega) (by omega) (s0 := s0) (K := K)
   rw [if_neg (show ¬ ((encR g).1 != 0) = true by show ¬ (g.1 != 0) = true; simp [h0]), if_pos h0, ← q1]
   refine ⟨q2, ?_⟩
   rw [← q3, Qh (by omega) (by omega)]
   rfl
  ·rw [if_pos (show ((encR g).1 != 0) = true by show (g.1 != 0) = true; simp [h0]), if_neg h0]
   refine ⟨fun h => absurd h h0, ?_⟩
   rw [if_neg h0]
omit hT hl hu in
theorem zWq {rec : QU → List zC → zJ → Option RTy} {s0 : MS} {x : zC} {b : zJ} (hNX : 1 ≤ x.NX ∧ x.NX ≤ 100) (hNY : x.NY ≤ 100)
  (hrec : ∀ (j i : Nat) (s : MS), (j : Int) < x.NY → (i : Int) < x.NX → zC6 TT s → zUn rec p TT x.Steps (byM p.Unit b x.At j i) s) : ∀ (r m j : Nat) (s : MS), zC6 TT s → (j : Int) + r = x.NY → r < m →
  ∃ q, q = zDm (fun j s => zDm (fun i s => zAA p TT x.Steps (byM p.Unit b x.At j i) s) (List.range' 0 x.NX.toNat) s) (List.range' j r) s ∧ (q.1 = 0 → zC6 TT q.2) ∧
   Qv N (toM p TT s0) x b rec m (s.img.map toP) s.clear s.tool s.place.X s.place.Y s.placed s.off s.on (j : Int) = some (encR q)
 | 0, m, j, s, hs, hi, hm => by
  obtain ⟨m, rfl⟩ : ∃ k, m = k + 1 := ⟨m - 1, by omega⟩
  refine ⟨_, rfl, fun _ => hs, ?_⟩
  rw [Qv, if_neg (by simp; omega)]
  rfl
 | r + 1, m, j, s, hs, hi, hm => by
  obtain ⟨m, rfl⟩ : ∃ k, m = k + 1 := ⟨m - 1, by omega⟩
  obtain ⟨q, q1, q2, q3⟩ := zTQ (x := x) (rec := rec) (s0 := s0) (K := Qv N (toM p TT s0) x b rec m) hNX.2 (fun i s => hrec j i s (by omega)) x.NX.toNat N 0 s hs (by omega) (by omega)
  refine ⟨_, rfl, ?_⟩
  rw [Qv, if_pos (by simp; omega)]
  rw [List.range'_succ, zDm, ← q1]
  rw [show ((0 : Nat) : Int) = 0 from rfl] at q3
  rw [q3]
  by_cases h0 : q.1 = 0
  ·obtain ⟨z, z1, z2, z3⟩ := zWq hNX hNY hrec r m (j + 1) q.2 (q2 h0) (by omega) (by omega) (s0 := s0)
   rw [if_pos h0, if_pos h0, ← z1]
   refine ⟨z2, ?_⟩
   rw [← z3, Qh (by omega) (by omega)]
   rfl
  ·rw [if_neg h0, if_neg h0]
   exact ⟨fun h => absurd h h0, rfl⟩
theorem zZl {s : MS} (hi : zC6 TT s) {d : Int} (hd : 0 ≤ d ∧ d ≤ 5) {b : zJ} (hb : zFx d b) {x : zC} (hx : zHG p x d) {rec : QU → List zC → zJ → Option RTy} (hrec : d < 5 → ∀ b s, zFx (d + 1) b → zC6 TT s → zUn rec p TT x.Steps b s) :
  Kg rec N (toM p TT s) x b = some (encR (Wz p TT x b s)) ∧ ((Wz p TT x b s).1 = 0 → zC6 TT (Wz p TT x b s).2) := by
 rw [zE7]
 by_cases h8 : x.Kind = 8
 ·obtain ⟨t1, t2, t3, t4⟩ := hx.times h8
  rw [if_pos h8]
  unfold Kg
  rw [zPB, Option.bind_some, if_neg (by simp [h8])]
  unfold Jg
  rw [if_neg (by simp [h8]), if_neg (by simp [h8]), if_neg (by simp [h8]), if_neg (by simp [h8]), if_neg (by simp [h8]), if_neg (by simp [h8]), if_pos (by simp [h8])]
  obtain ⟨q, q1, q2, q3⟩ := zWq hN (p := p) (TT := TT) (rec := rec) (s0 := s) (b := b) t1 t2.2 (fun j i s hj hx' hs => hrec t4 _ s (zcM hu hx.place ⟨hd.1, t4⟩ hb (by omega) (by omega)).2 hs) x.NY.toNat N 0 s hi (by omega) (by omega)
  rw [← q1]
  exact ⟨q3, q2⟩
 ·rw [if_neg h8]
  exact zdR hN hT hl hu hi hd.2 hb hx h8 rec
theorem zWn {d : Int} (hd : 0 ≤ d ∧ d ≤ 5) {b : zJ} (hb : zFx d b) {rec : QU → List zC → zJ → Option RTy} {s0 : MS} : ∀ (l : List zC) (i : Nat) (s : MS), (∀ x ∈ l, zHG p x d ∧ (d < 5 → ∀ b s, zFx (d + 1) b → zC6 TT s → zUn rec p TT x.Steps b s)) → zC6 TT s →
  Jc N (toM p TT s0) b rec l i (s.img.map toP) s.clear s.tool s.place.X s.place.Y s.placed s.off s.on = some (encR (zAA p TT l b s)) ∧ ((zAA p TT l b s).1 = 0 → zC6 TT (zAA p TT l b s).2)
 | [], i, s, _, hs => by
  rw [Jc, WQ]
  exact ⟨rfl, fun _ => hs⟩
 | x :: l, i, s, hx, hs => by
  obtain ⟨h1, h2⟩ := zZl hN hT hl hu hs hd hb (hx x List.mem_cons_self).1 (rec := rec) (hx x List.mem_cons_self).2
  rw [Jc, Vz]
  have h1' : Kg rec N (QU.mk (toM p TT s0).p (toM p TT s0).tools (s.img.map toP) s.clear s.tool (zJ.mk s.place.X s.place.Y) s.placed s.off s.on) x b = some (encR (Wz p TT x b s)) := h1
  rw [h1', Option.bind_some]
  generalize hg : Wz p TT x b s = g at h2 ⊢
  by_cases h0 : g.1 = 0
  ·have ih := zWn hd hb (rec := rec) (s0 := s0) l (i + 1) g.2 (fun y hy => hx y (List.mem_cons_of_mem _ hy)) (h2 h0)
   rw [if_neg (show ¬ ((encR g).1 != 0) = true by show ¬ (g.1 != 0) = true; simp [h0]), if_pos h0]
   exact ih
  ·rw [if_pos (show ((encR g).1 != 0) = true by show (g.1 != 0) = true; simp [h0]), if_neg h0]
   exact ⟨rfl, fun h => absurd h h0⟩
omit hN in
theorem zVL : ∀ (k : Nat) (d : Int) (N : Nat) (l : List zC) (b : zJ) (s : MS), d + k = 5 → 0 ≤ d → 10000000000 + k + 1 ≤ N → zDy p d l → zFx d b → zC6 TT s → zUn (WW N) p TT l b s
 | k, d, N, l, b, s, hk, hd, hN, hv, hb, hs => by
  obtain ⟨N, rfl⟩ : ∃ m, N = m + 1 := ⟨N - 1, by omega⟩
  have := zWn (N := N) (by omega) hT hl hu (d := d) (by omega) hb (rec := WW N) (s0 := s) l 0 s (fun x hx => by
   have h1 := (zAw p d x).1 ((zJu p d l).1 hv x hx)
   refine ⟨zA4.1 h1.1, fun h5 b s hb hs => ?_⟩
   cases k with
   | zero => omega
   | succ k => exact zVL k (d + 1) N x.Steps b s (by omega) (by omega) (by omega) h1.2 hb hs) hs
  exact this
end
def scR (u : Int) (r : zQ) : zQ := ⟨r.X0 * u, r.Y0 * u, r.X1 * u, r.Y1 * u⟩
def zBv (p : QB) : List (List zQ) := p.Tools.map fun t => t.Rects.map (scR p.Unit)
def zD7 : MS := ⟨[], false, -1, ⟨0, 0⟩, false, 0, 0⟩
theorem zKy {r : zQ} {u : Int} (hu : 1 ≤ u) (h : zO5 r u = 0) : ((-1000000 ≤ r.X0 * u ∧ r.X0 * u ≤ 1000000) ∧ (-1000000 ≤ r.Y0 * u ∧ r.Y0 * u ≤ 1000000) ∧ (-1000000 ≤ r.X1 * u ∧ r.X1 * u ≤ 1000000) ∧ (-1000000 ≤ r.Y1 * u ∧ r.Y1 * u ≤ 1000000)) ∧ r.X0 * u < r.X1 * u ∧ r.Y0 * u < r.Y1 * u := by
 unfold zO5 at h
 split at h
 ·rename_i hf
  simp only [Bool.and_eq_true] at hf
  split at h
  ·cases h
  rename_i hn
  simp at hn
  exact ⟨⟨zEq hu hf.1.1.1, zEq hu hf.1.1.2, zEq hu hf.1.2, zEq hu hf.2⟩, Int.mul_lt_mul_of_pos_right hn.1 (by omega), Int.mul_lt_mul_of_pos_right hn.2 (by omega)⟩
 ·cases h
theorem zNd {u : Int} : ∀ {l : List zQ}, zMl u l = 0 → ∀ r ∈ l, zO5 r u = 0
 | r :: l, h, x, hx => by
  rw [zMl] at h
  split at h
  ·rename_i h0
   rcases List.mem_cons.1 hx with rfl | hx
   ·exact h0
   ·exact zNd h x hx
  ·rename_i h0; exact absurd h h0
theorem zOn {t : zZ} {u : Int} (h : zFb t u = 0) : t.Rects ≠ [] ∧ t.Rects.length ≤ 2000 ∧ ∀ r ∈ t.Rects, zO5 r u = 0 := by
 unfold zFb at h
 split at h
 ·cases h
 split at h
 ·cases h
 rename_i h1 h2
 exact ⟨fun e => h1 (by rw [e]; rfl), by omega, zNd h⟩
theorem zQa {t : zZ} {u : Int} (hu : 1 ≤ u) (h : zFb t u = 0) : zEj (t.Rects.map (scR u)) := by
 obtain ⟨_, h1, h2⟩ := zOn h
 refine ⟨by simpa using h1, fun r hr => ?_, fun r hr => ?_⟩
 ·obtain ⟨q, hq, rfl⟩ := List.mem_map.1 hr
  exact (zKy hu (h2 q hq)).2
 ·obtain ⟨q, hq, rfl⟩ := List.mem_map.1 hr
  have := (zKy hu (h2 q hq)).1
  exact ⟨⟨this.1.1, this.2.2.1.2⟩, this.2.1.1, this.2.2.2.2⟩
theorem WS.zBv {N : Nat} {p : QB} (h : WS N p) : ∀ T ∈ zBv p, zEj T := fun T hT => by
 obtain ⟨t, ht, rfl⟩ := List.mem_map.1 hT
 exact zQa h.unit.1 (h.tools t ht).2
section
variable {N : Nat} (hN : 10000000000 ≤ N)
include hN
theorem zTW {p : QB} {t : zZ} (hu : 1 ≤ p.Unit) (ht : zFb t p.Unit = 0) {acc : List (List ze)} (ha : acc.length ≤ 1000) {K : List (List ze) → Option QU} : ∀ (suf pre : List zQ) (i : Nat), t.Rects = pre ++ suf →
  KF N p acc K suf i (pre.map (scR p.Unit)) = K (acc ++ [(zCz (t.Rects.map (scR p.Unit))).map toP])
 | [], pre, i, he => by
  rw [List.append_nil] at he
  have hk := zQa hu ht
  rw [KF, ← he, zUm hN (by have := hk.few; omega) (fun r hr => by
   have h1 := hk.ne r hr
   have h2 := hk.lim r hr
   exact ⟨by omega, by omega, by omega, by omega, h1.1, h1.2⟩), Option.bind_some, zCQ (by simp; omega), Option.bind_some]
 | r :: l, pre, i, he => by
  obtain ⟨_, h1, h2⟩ := zOn ht
  have hlen : t.Rects.length = pre.length + (l.length + 1) := by rw [he]; simp
  have hr := (zKy hu (h2 r (by rw [he]; simp))).1
  rw [KF, Qh (by omega) (by omega), Qh (by omega) (by omega), Qh (by omega) (by omega), Qh (by omega) (by omega), zCQ (by simp; omega), Option.bind_some]
  have := zTW hu ht ha (K := K) l (pre ++ [r]) (i + 1) (by rw [he]; simp)
  rw [List.map_append] at this
  exact this
theorem zTX {p : QB} (hu : 1 ≤ p.Unit) (hp : ∀ t ∈ p.Tools, zFb t p.Unit = 0) (hl : p.Tools.length ≤ 200) : ∀ (suf pre : List zZ) (i : Nat), p.Tools = pre ++ suf →
  JE N p suf i (pre.map fun t => (zCz (t.Rects.map (scR p.Unit))).map toP) = some (toM p (zBv p) zD7)
 | [], pre, i, he => by
  rw [List.append_nil] at he
  rw [JE, ← he]
  unfold toM zBv
  rw [List.map_map]; rfl
 | t :: l, pre, i, he => by
  have hlen : p.Tools.length = pre.length + (l.length + 1) := by rw [he]; simp
  rw [JE]
  have h1 := zTW hN hu (hp t (by rw [he]; simp)) (acc := pre.map fun t => (zCz (t.Rects.map (scR p.Unit))).map toP) (by simp; omega) (K := JE N p l (i + 1)) t.Rects [] 0 rfl
  rw [List.map_nil] at h1
  rw [h1]
  have := zTX hu hp hl l (pre ++ [t]) (i + 1) (by rw [he]; simp)
  rw [List.map_append] at this
  exact this
theorem zdK {p : QB} {M : Nat} (h : WS M p) : zBN N p = some (toM p (zBv p) zD7) := by
 unfold zBN
 exact zTX hN h.unit.1 (fun t ht => (h.tools t ht).2) h.few p.Tools [] 0 rfl
end
theorem zTm (TT : List (List zQ)) : zC6 TT zD7 := by
 exact ⟨⟨⟨⟨0, trivial⟩, fun b hb => by cases hb⟩, by simp [zD7, Qm], by simp [zD7, Qm]⟩, ⟨by simp [zD7], by simp [zD7]; omega⟩, fun h => by cases h⟩
noncomputable def zDN (p : QB) : Int × MS := zAA p (zBv p) p.Steps ⟨0, 0⟩ zD7
theorem zUS {N M : Nat} (hN : 20000000000 ≤ N) {p : QB} (h : WS M p) : zEM N p = some (toM p (zBv p) (zDN p).2, (zDN p).1) ∧ ((zDN p).1 = 0 → zC6 (zBv p) (zDN p).2) := by
 obtain ⟨h1, h2⟩ := zVL h.zBv (by unfold zBv; simp) h.unit.1 5 0 N p.Steps ⟨0, 0⟩ zD7 (by omega) (by omega) (by omega) h.steps (by unfold zFx; simp) (zTm _)
 unfold zEM
 rw [zdK (by omega) h, Option.bind_some, h1, Option.bind_some]
 exact ⟨rfl, h2⟩
theorem zUr {N : Nat} {p : QB} (hN : Fu p N) (hL : zHj p) : ∃ e, Ji N p = some e ∧ (e = 0 ↔ WS N p) := by
 have hw : VP p.Unit 1 1000 = some (decide (1 ≤ p.Unit) && decide (p.Unit ≤ 1000)) := rfl
 unfold Ji
 rw [hw, Option.bind_some]
 by_cases hu : 1 ≤ p.Unit ∧ p.Unit ≤ 1000
 ·rw [if_neg (by simpa using hu)]
  by_cases ht : 200 < (p.Tools.length : Int)
  ·rw [if_pos (decide_eq_true ht)]
   exact ⟨2, rfl, fun h => (by cases h), fun h => by have := h.few; omega⟩
  ·rw [if_neg (by simpa using ht)]
   obtain ⟨e, e1, e2⟩ := zMo hN hL hu p.Tools [] rfl (by omega)
   exact ⟨e, e1, e2 (fun _ h => by cases h) trivial⟩
 ·rw [if_pos (by simp; omega)]
  exact ⟨1, rfl, fun h => (by cases h), fun h => absurd h.unit hu⟩
theorem zNu.small {I : List Bd} (h : zNu I) : Small I := by
 have h1 := h.drw
 have h2 := h.few
 exact ⟨by have := h1.few; omega, fun b hb => by have := h1.row b hb; omega, by omega⟩
theorem zcd {N : Nat} (hN : 20000000000 ≤ N) {p : QB} (hF : Fu p N) (hL : zHj p) : ∃ I e, WU N p = some (I, e) ∧ (e ≠ 0 → I = []) ∧ (e = 0 → WS N p ∧ (zDN p).1 = 0 ∧ I = Qm (zDN p).2.img) ∧ (WS N p → (zDN p).1 = 0 → e = 0) := by
 obtain ⟨e, e1, e2⟩ := zUr hF hL
 unfold WU zCu
 rw [e1, Option.bind_some]
 by_cases h : e = 0
 ·have hp := e2.1 h
  obtain ⟨d1, d2⟩ := zUS hN hp
  rw [if_neg (by simpa using h), d1, Option.bind_some]
  by_cases h0 : (zDN p).1 = 0
  ·rw [if_neg (by simpa using h0), Option.bind_some]
   show ∃ I e, ((Vw N ((zDN p).2.img.map toP)).bind _) = _ ∧ _
   rw [zHi (by omega) (d2 h0).img.small, Option.bind_some]
   exact ⟨_, _, rfl, fun h => absurd rfl h, fun _ => ⟨hp, h0, rfl⟩, fun _ _ => rfl⟩
  ·rw [if_pos (by simpa using h0), Option.bind_some]
   have := zHi (N := N) (by omega) (l := []) ⟨by simp, by simp, by simp [Qm]⟩
   rw [List.map_nil] at this
   rw [this, Option.bind_some]
   exact ⟨_, _, rfl, fun _ => rfl, fun h => absurd h h0, fun _ h => absurd h h0⟩
 ·rw [if_pos (by simpa using h), Option.bind_some]
  have := zHi (N := N) (by omega) (l := []) ⟨by simp, by simp, by simp [Qm]⟩
  rw [List.map_nil] at this
  rw [this, Option.bind_some]
  exact ⟨_, _, rfl, fun _ => rfl, fun h' => absurd h' h, fun hp => absurd (e2.2 hp) h⟩
theorem WS.zXN {N : Nat} {p : QB} (hN : Fu p N) (hL : zHj p) (h : WS N p) : zfZ p := by
 obtain ⟨g1, g2⟩ := h.good hN hL
 have hc := h.cnt
 have key : ∀ (k : Nat) (l : List zC) (d : Int), Ja l ≤ k → zDy p d l → zIv 40 l ∧ (zC1 l : Int) ≤ zBo l := by
  intro k
  induction k with
  | zero =>
   intro l d hk _
   cases l with
   | nil => exact ⟨zRK _, by rw [zNe, zEE]; simp⟩
   | cons x l => have := VA x; rw [Jw] at hk; omega
  | succ k ih =>
   intro l
   induction l with
   | nil => intro d _ _; exact ⟨zRK _, by rw [zNe, zEE]; simp⟩
   | cons x l ihl =>
    intro d hk hv
    have hs := VA x
    rw [Jw] at hk
    rw [WC, zAw] at hv
    obtain ⟨i1, i2⟩ := ih x.Steps (d + 1) (by omega) hv.1.2
    obtain ⟨j1, j2⟩ := ihl d (by omega) hv.2
    refine ⟨(zPg _ _ _).2 ⟨(zUE _ _).2 ⟨zVB g1 hv.1.1, i1⟩, j1⟩, ?_⟩
    rw [zH4, zMq, zBe, zIS]
    have h1 := zKv x.NX x.NY
    have h2 := Int.mul_le_mul_of_nonneg_right h1.1 (zED x.Steps)
    omega
 obtain ⟨k1, k2⟩ := key _ p.Steps 0 (Nat.le_refl _) h.steps
 exact ⟨h.unit, h.few, fun t ht => ⟨g1 t ht, zVA (h.tools t ht).2⟩, k1, by omega⟩
noncomputable def zgZ (p : QB) : List zQ × Int := if (zDN p).1 = 0 then (Qm (zDN p).2.img, 0) else ([], (zDN p).1)
theorem zZD {N : Nat} (hN : 20000000000 ≤ N) {p : QB} (hF : Fu p N) (hL : zHj p) (hp : WS N p) : WU N p = some (zgZ p) := by
 obtain ⟨d1, d2⟩ := zUS hN hp
 unfold WU zCu zgZ
 rw [(zIV hF hL).2 hp, Option.bind_some, if_neg (by simp), d1, Option.bind_some]
 by_cases h0 : (zDN p).1 = 0
 ·rw [if_neg (by simpa using h0), if_pos h0, Option.bind_some]
  show ((Vw N ((zDN p).2.img.map toP)).bind _) = _
  rw [zHi (by omega) (d2 h0).img.small, Option.bind_some]
 ·rw [if_pos (by simpa using h0), if_neg h0, Option.bind_some]
  have := zHi (N := N) (by omega) (l := []) ⟨by simp, by simp, by simp [Qm]⟩
  rw [List.map_nil] at this
  rw [this, Option.bind_some]; rfl
def mvP (b q : zJ) : zJ := ⟨w64 (q.X + b.X), w64 (q.Y + b.Y)⟩
def plc (k : Int) : Bool := k == 4 || k == 5 || k == 6
def zN1 (b : zJ) (x : zC) : zC := ⟨x.Kind, x.Name, if plc x.Kind then mvP b x.At else x.At, x.Points.map (mvP b), x.NX, x.NY, x.Steps⟩
def zK8 (b a : zJ) (j i : Nat) : zJ := ⟨w64 (b.X + w64 ((i : Int) * a.X)), w64 (b.Y + w64 ((j : Int) * a.Y))⟩
mutual
def flT : zC → zJ → List zC
 | ⟨k, n, a, ps, nx, ny, l⟩, b => if k = 8 then (List.range' 0 ny.toNat).flatMap fun j => (List.range' 0 nx.toNat).flatMap fun i => flL l (zK8 b a j i) else [zN1 b ⟨k, n, a, ps, nx, ny, l⟩]
def flL : List zC → zJ → List zC
 | [], _ => []
 | x :: l, b => flT x b ++ flL l b
end
theorem zSM (x : zC) (b : zJ) : flT x b = if x.Kind = 8 then (List.range' 0 x.NY.toNat).flatMap fun j => (List.range' 0 x.NX.toNat).flatMap fun i => flL x.Steps (zK8 b x.At j i) else [zN1 b x] := by cases x; rw [flT]
theorem zL3 (b : zJ) : flL [] b = [] := by rw [flL]
theorem zJl (x : zC) (l : List zC) (b : zJ) : flL (x :: l) b = flT x b ++ flL l b := by rw [flL]
theorem zGv {α β : Type} {f : α → List β} {c : Nat} : ∀ {l : List α}, (∀ x ∈ l, (f x).length ≤ c) → (l.flatMap f).length ≤ l.length * c
 | [], _ => by simp
 | x :: l, h => by
  have h1 := h x List.mem_cons_self
  have h2 := zGv (f := f) (c := c) (l := l) (fun y hy => h y (List.mem_cons_of_mem _ hy))
  rw [List.flatMap_cons, List.length_append, List.length_cons, Nat.succ_mul]; omega
theorem zL4 {p : QB} : ∀ (k : Nat) (l : List zC) (d : Int) (b : zJ), Ja l ≤ k → zDy p d l → ((flL l b).length : Int) ≤ zBo l
 | _, [], _, _, _, _ => by rw [zL3, zEE]; simp
 | k, x :: l, d, b, hk, hv => by
  rw [Jw, VA] at hk
  obtain ⟨hx, hl⟩ := (WC _ _ _ _).1 hv
  obtain ⟨h0, hs⟩ := (zAw _ _ _).1 hx
  have ho := zA4.1 h0
  cases k with
  | zero => omega
  | succ k =>
   have ih := zL4 k l d b (by omega) hl
   rw [zJl, zBe, List.length_append, zIS, zSM]
   have hp := zED x.Steps
   have ht := zKv x.NX x.NY
   by_cases h8 : x.Kind = 8
   ·rw [if_pos h8]
    obtain ⟨t1, t2, _, _⟩ := ho.times h8
    have e1 : tm x.NX = x.NX := if_pos t1
    have e2 : tm x.NY = x.NY := if_pos t2
    obtain ⟨c, hc⟩ : ∃ c : Nat, zBo x.Steps = (c : Int) := ⟨(zBo x.Steps).toNat, by omega⟩
    have hin : ∀ j ∈ List.range' 0 x.NY.toNat, ((List.range' 0 x.NX.toNat).flatMap fun i => flL x.Steps (zK8 b x.At j i)).length ≤ x.NX.toNat * c := fun j _ => by
     have := zGv (l := List.range' 0 x.NX.toNat) (f := fun i => flL x.Steps (zK8 b x.At j i)) (c := c) (fun i _ => by
      have := zL4 k x.Steps (d + 1) (zK8 b x.At j i) (by omega) hs
      omega)
     rwa [List.length_range'] at this
    have := zGv hin
    rw [List.length_range'] at this
    rw [e1, e2, hc]
    have e3 : ((x.NY.toNat * (x.NX.toNat * c) : Nat) : Int) = x.NX * x.NY * (c : Int) := by
     push_cast
     rw [Int.toNat_of_nonneg (by omega), Int.toNat_of_nonneg (by omega), ← Int.mul_assoc, Int.mul_comm x.NY x.NX]
    omega
   ·rw [if_neg h8]
    have := Int.mul_nonneg (show 0 ≤ tm x.NX * tm x.NY by omega) hp
    simp only [List.length_singleton]
    omega
theorem zJT {α : Type} (pre suf : List α) (x y : α) : sets (pre ++ x :: suf) (pre.length : Int) y = some (pre ++ y :: suf) := by
 unfold sets
 rw [if_pos (by simp)]
 simp
theorem set_mid {α : Type} (pre suf : List α) (x y : α) : (pre ++ x :: suf).set ((pre.length : Int).toNat) y = pre ++ y :: suf := by simp
theorem zWZ {α : Type} {l : List α} (h : l.length ≤ 4294967296) : apd ([] : List α) l = some l := by
 rw [zCQ (by simpa using h)]; rfl
theorem zRM {b : zJ} {acc : List zC} {k : List zC → Option (List zC)} {x : zC} {ax ay : Int} {y : List zJ} : ∀ (suf pre : List zJ) (m : Nat), y.length = (pre ++ suf).length → y.length ≤ 2000 → suf.length < m →
  Wd b acc k x ax ay y m (pre ++ suf) (pre.length : Int) = (apd acc [⟨x.Kind, x.Name, ⟨ax, ay⟩, pre ++ suf.map (mvP b), x.NX, x.NY, x.Steps⟩]).bind k
 | [], pre, m, he, hl, hm => by
  obtain ⟨m, rfl⟩ : ∃ k, m = k + 1 := ⟨m - 1, by omega⟩
  rw [Wd, if_neg (by rw [he]; simp)]
  simp
 | q :: l, pre, m, he, hl, hm => by
  obtain ⟨m, rfl⟩ : ∃ k, m = k + 1 := ⟨m - 1, by simp at hm; omega⟩
  simp at hm
  have he' := he
  simp at he'
  rw [Wd, if_pos (by simp; omega), KO, Option.bind_some, Option.bind_some, zJT, Option.bind_some, KO, Option.bind_some, Option.bind_some, zJT, Option.bind_some, zEl _ q (by omega)]
  have := zRM (b := b) (acc := acc) (k := k) (x := x) (ax := ax) (ay := ay) (y := y) l (pre ++ [mvP b q]) m (by rw [he]; simp) hl (by omega)
  rw [show (pre ++ [mvP b q]).length = (pre ++ [q]).length by simp] at this
  rw [show pre ++ (⟨w64 (q.X + b.X), w64 (q.Y + b.Y)⟩ : zJ) :: l = (pre ++ [mvP b q]) ++ l by simp [mvP], this]
  simp
theorem zXO {N : Nat} (hN : 3000 ≤ N) {b : zJ} {acc : List zC} {k : List zC → Option (List zC)} {x : zC} {ax ay : Int} (hp : x.Points.length ≤ 2000) (ha : acc.length ≤ 4000000000) : zAV N b acc k x ax ay = k (acc ++ [⟨x.Kind, x.Name, ⟨ax, ay⟩, x.Points.map (mvP b), x.NX, x.NY, x.Steps⟩]) := by
 unfold zAV
 have hcl : Ke x.Points = some x.Points := by
  unfold Ke
  rw [zWZ (by omega)]; rfl
 rw [hcl, Option.bind_some]
 have := zRM (b := b) (acc := acc) (k := k) (x := x) (ax := ax) (ay := ay) (y := x.Points) x.Points [] N rfl hp (by omega)
 simp only [List.nil_append, List.length_nil] at this
 rw [show ((0 : Nat) : Int) = 0 from rfl] at this
 rw [this, zCQ (by simp; omega), Option.bind_some]
theorem zUP {b : zJ} {rec : List zC → zJ → Option (List zC)} {x : zC} {j : Nat} {k : List zC → Int → Option (List zC)} {c : Nat} (hr : ∀ b', rec x.Steps b' = some (flL x.Steps b') ∧ (flL x.Steps b').length ≤ c) (hnx : x.NX ≤ 100) : ∀ (n i m : Nat) (acc : List zC), ((i + n : Nat) : Int) = x.NX → acc.length + n * c ≤ 4000000000 → n < m →
  WZ b rec x (j : Int) k m acc (i : Int) = k (acc ++ (List.range' i n).flatMap fun i => flL x.Steps (zK8 b x.At j i)) (w64 ((j : Int) + 1))
 | 0, i, m, acc, he, ha, hm => by
  obtain ⟨m, rfl⟩ : ∃ k, m = k + 1 := ⟨m - 1, by omega⟩
  rw [WZ, if_neg (by simp; omega)]
  simp
 | n + 1, i, m, acc, he, ha, hm => by
  obtain ⟨m, rfl⟩ : ∃ k, m = k + 1 := ⟨m - 1, by omega⟩
  obtain ⟨r1, r2⟩ := hr (zK8 b x.At j i)
  rw [Nat.succ_mul] at ha
  rw [WZ, if_pos (by simp; omega), show rec x.Steps ⟨w64 (b.X + w64 ((i : Int) * x.At.X)), w64 (b.Y + w64 ((j : Int) * x.At.Y))⟩ = some (flL x.Steps (zK8 b x.At j i)) from r1, Option.bind_some, zCQ (by omega), Option.bind_some, Qh (by omega) (by omega),
   show (i : Int) + 1 = ((i + 1 : Nat) : Int) by omega, zUP hr hnx n (i + 1) m _ (by omega) (by rw [List.length_append]; omega) (by omega)]
  rw [List.range'_succ, List.flatMap_cons, List.append_assoc]
theorem zRN {N : Nat} (hN : 3000 ≤ N) {b : zJ} {rec : List zC → zJ → Option (List zC)} {x : zC} {k : List zC → Option (List zC)} {c : Nat} (hr : ∀ b', rec x.Steps b' = some (flL x.Steps b') ∧ (flL x.Steps b').length ≤ c) (hnx : 1 ≤ x.NX ∧ x.NX ≤ 100) (hny : x.NY ≤ 100) : ∀ (n j m : Nat) (acc : List zC), ((j + n : Nat) : Int) = x.NY → acc.length + n * (x.NX.toNat * c) ≤ 4000000000 → n < m →
  Ko N b rec k x m acc (j : Int) = k (acc ++ (List.range' j n).flatMap fun j => (List.range' 0 x.NX.toNat).flatMap fun i => flL x.Steps (zK8 b x.At j i))
 | 0, j, m, acc, he, ha, hm => by
  obtain ⟨m, rfl⟩ : ∃ k, m = k + 1 := ⟨m - 1, by omega⟩
  rw [Ko, if_neg (by simp; omega)]
  simp
 | n + 1, j, m, acc, he, ha, hm => by
  obtain ⟨m, rfl⟩ : ∃ k, m = k + 1 := ⟨m - 1, by omega⟩
  rw [Nat.succ_mul] at ha
  have hin := zGv (l := List.range' 0 x.NX.toNat) (f := fun i => flL x.Steps (zK8 b x.At j i)) (c := c) (fun i _ => (hr _).2)
  rw [List.length_range'] at hin
  have h1 := zUP (b := b) (j := j) (k := Ko N b rec k x m) hr hnx.2 x.NX.toNat 0 N acc (by omega) (by omega) (by omega)
  rw [show ((0 : Nat) : Int) = 0 from rfl] at h1
  rw [Ko, if_pos (by simp; omega), h1, Qh (by omega) (by omega), show (j : Int) + 1 = ((j + 1 : Nat) : Int) by omega,
   zRN hN hr hnx hny n (j + 1) m _ (by omega) (by rw [List.length_append]; omega) (by omega)]
  rw [List.range'_succ, List.flatMap_cons, List.append_assoc]
def zod (rec : List zC → zJ → Option (List zC)) (l : List zC) : Prop := ∀ b, rec l b = some (flL l b)
theorem zXU {N : Nat} (hN : 3000 ≤ N) {p : QB} {d : Int} {b : zJ} {rec : List zC → zJ → Option (List zC)} : ∀ (l : List zC) (i : Nat) (acc : List zC), zDy p d l → (∀ x ∈ l, x.Kind = 8 → zod rec x.Steps) → zBo l ≤ 3000 → acc.length + 3000 ≤ 1000000 + (3000 - zBo l).toNat →
  Qj N b rec l i acc = some (acc ++ flL l b)
 | [], i, acc, _, _, _, _ => by rw [Qj, zL3, List.append_nil]
 | x :: l, i, acc, hv, hr, hc, ha => by
  obtain ⟨hx, hl⟩ := (WC _ _ _ _).1 hv
  obtain ⟨h0, hs⟩ := (zAw _ _ _).1 hx
  have ho := zA4.1 h0
  rw [zBe] at hc ha
  have hcl := zED l
  have hcx := zMF x
  have hlen : ((flT x b).length : Int) ≤ zUX x := by
   have h1 : zDy p d [x] := (WC _ _ _ _).2 ⟨hx, zJt _ _⟩
   have := zL4 _ [x] d b (Nat.le_refl _) h1
   rw [zJl, zL3, List.append_nil, zBe, zEE] at this
   omega
  have ih := zXU hN (b := b) (rec := rec) l (i + 1) (acc ++ flT x b) hl (fun y hy => hr y (List.mem_cons_of_mem _ hy)) (by omega) (by rw [List.length_append]; omega)
  rw [zJl, ← List.append_assoc, ← ih]
  have hf := zSM x b
  by_cases h8 : x.Kind = 8
  ·rw [if_pos h8] at hf
   obtain ⟨t1, t2, _, _⟩ := ho.times h8
   have e1 : tm x.NX = x.NX := if_pos t1
   have e2 : tm x.NY = x.NY := if_pos t2
   have hp := zED x.Steps
   have hcs := zIS x
   rw [e1, e2] at hcs
   have hle : x.NX * x.NY * zBo x.Steps ≤ 3000 := by omega
   obtain ⟨c, hcc⟩ : ∃ c : Nat, zBo x.Steps = (c : Int) := ⟨(zBo x.Steps).toNat, by omega⟩
   have hR : ∀ b', rec x.Steps b' = some (flL x.Steps b') ∧ (flL x.Steps b').length ≤ c := fun b' => ⟨hr x List.mem_cons_self h8 b', by
    have := zL4 _ x.Steps (d + 1) b' (Nat.le_refl _) hs
    omega⟩
   have e3 : ((x.NY.toNat * (x.NX.toNat * c) : Nat) : Int) = x.NX * x.NY * (c : Int) := by
    push_cast
    rw [Int.toNat_of_nonneg (by omega), Int.toNat_of_nonneg (by omega), ← Int.mul_assoc, Int.mul_comm x.NY x.NX]
   have h1 := zRN hN (b := b) (k := Qj N b rec l (i + 1)) hR t1 t2.2 x.NY.toNat 0 N acc (by omega) (by rw [hcc] at hle; omega) (by omega)
   rw [show ((0 : Nat) : Int) = 0 from rfl] at h1
   rw [Qj, if_pos (by simpa using h8), h1, ← hf]
  ·rw [if_neg h8] at hf
   have hpl : x.Points.length ≤ 2000 := by
    by_cases h7 : x.Kind = 7
    ·exact (ho.area h7).2.2.1
    ·rw [ho.points h7]; simp
   have h8' : (x.Kind == 8) = false := by simpa using h8
   rw [Qj, if_neg (by simpa using h8), zNl, Option.bind_some, hf]
   simp only [h8', Bool.or_false]
   cases hpp : plc x.Kind
   ·have : (x.Kind == 4 || x.Kind == 5 || x.Kind == 6) = false := hpp
    rw [this, if_neg (by simp), zXO hN hpl (by omega)]
    unfold zN1; rw [hpp]; rfl
   ·have : (x.Kind == 4 || x.Kind == 5 || x.Kind == 6) = true := hpp
    rw [this, if_pos rfl, zXO hN hpl (by omega)]
    unfold zN1; rw [hpp]; rfl
set_option maxRecDepth 100000 in
theorem zXR {p : QB} : ∀ (k : Nat) (l : List zC) (N : Nat) (d : Int) (b : zJ), Ja l ≤ k → k + 4000 ≤ N → zDy p d l → zBo l ≤ 3000 → zDt N l b = some (flL l b)
 | k, l, N, d, b, hk, hN, hv, hc => by
  obtain ⟨N, rfl⟩ : ∃ n, N = n + 1 := ⟨N - 1, by omega⟩
  show zDS N _ l b = _
  unfold zDS
  have := zXU (N := N) (by omega) (b := b) (rec := zDt N) l 0 [] hv (fun x hx h8 b' => by
   have a1 := zCe hx
   have a2 := VA x
   have a3 := (zAw _ _ _).1 ((zJu _ _ _).1 hv x hx)
   have a4 := zUY hx
   have a5 := zWS x
   cases k with
   | zero => omega
   | succ k => exact zXR k x.Steps N (d + 1) b' (by omega) (by omega) a3.2 (by omega)) hc (by simp; omega)
  simpa using this
theorem zLV : ∀ (suf pre : List zJ) (m : Nat), suf.length < m → (pre ++ suf).length ≤ 9223372036854775807 → JA (pre ++ suf) (pre ++ suf) m (pre.length : Int) = some true
 | [], pre, m, hm, hl => by
  obtain ⟨m, rfl⟩ : ∃ k, m = k + 1 := ⟨m - 1, by omega⟩
  rw [JA, zVV, if_neg (by simp)]
 | q :: l, pre, m, hm, hl => by
  obtain ⟨m, rfl⟩ : ∃ k, m = k + 1 := ⟨m - 1, by simp at hm; omega⟩
  simp at hm hl
  rw [JA, zMr, if_pos rfl, KO, Option.bind_some, Option.bind_some, show QQ q q = true from zFp.2 rfl, if_neg (by simp), zEl _ q (by omega), zGB, zLV l (pre ++ [q]) m (by omega) (by simp; omega)]
theorem zVJ {N : Nat} {l : List zJ} (hN : l.length < N) (hl : l.length ≤ 9223372036854775807) : VO N l l = some true := by
 unfold VO
 rw [if_neg (by simp)]
 exact zLV l [] N hN hl
theorem zLU : ∀ (suf pre : List zQ) (m : Nat), suf.length < m → (pre ++ suf).length ≤ 9223372036854775807 → JG (pre ++ suf) (pre ++ suf) m (pre.length : Int) = some true
 | [], pre, m, hm, hl => by
  obtain ⟨m, rfl⟩ : ∃ k, m = k + 1 := ⟨m - 1, by omega⟩
  rw [JG, zVV, if_neg (by simp)]
 | q :: l, pre, m, hm, hl => by
  obtain ⟨m, rfl⟩ : ∃ k, m = k + 1 := ⟨m - 1, by simp at hm; omega⟩
  simp at hm hl
  rw [JG, zMr, if_pos rfl, KO, Option.bind_some, Option.bind_some, show zFo q q = true from zGw.2 rfl, if_neg (by simp), zEl _ q (by omega), zGB, zLU l (pre ++ [q]) m (by omega) (by simp; omega)]
theorem zVI {N : Nat} {l : List zQ} (hN : l.length < N) (hl : l.length ≤ 9223372036854775807) : Va N l l = some true := by
 unfold Va
 rw [if_neg (by simp)]
 exact zLU l [] N hN hl
theorem zLT {N : Nat} {rec : List zC → List zC → Option Bool} : ∀ (suf pre : List zC) (m : Nat), suf.length < m → (pre ++ suf).length ≤ 9223372036854775807 → (∀ x ∈ suf, x.Points.length < N ∧ x.Points.length ≤ 9223372036854775807 ∧ rec x.Steps x.Steps = some true) → JF N (pre ++ suf) (pre ++ suf) rec m (pre.length : Int) = some true
 | [], pre, m, hm, hl, h => by
  obtain ⟨m, rfl⟩ : ∃ k, m = k + 1 := ⟨m - 1, by omega⟩
  rw [JF, zVV, if_neg (by simp)]
 | x :: l, pre, m, hm, hl, h => by
  obtain ⟨m, rfl⟩ : ∃ k, m = k + 1 := ⟨m - 1, by simp at hm; omega⟩
  simp at hm hl
  obtain ⟨h1, h2, h3⟩ := h x List.mem_cons_self
  rw [JF, zMr, if_pos rfl, KO, Option.bind_some, Option.bind_some]
  simp only [bne_self_eq_false, zEn.2 rfl, zFp.2 rfl, Bool.not_true, Bool.or_self, Bool.false_eq_true, if_false, zVJ h1 h2, h3, Option.bind_some]
  rw [zEl _ x (by omega), zGB, zLT l (pre ++ [x]) m (by omega) (by simp; omega) (fun y hy => h y (List.mem_cons_of_mem _ hy))]
theorem zOx : ∀ (k : Nat) (l : List zC) (N : Nat), Ja l ≤ k → k + 5 ≤ N → l.length ≤ 9223372036854775807 → zK2 l → VZ N l l = some true
 | k, l, N, hk, hN, hl, hA => by
  obtain ⟨N, rfl⟩ : ∃ n, N = n + 1 := ⟨N - 1, by omega⟩
  have hlen := zJQ l
  show VF N _ l l = _
  unfold VF
  rw [if_neg (by simp)]
  exact zLT l [] N (by omega) (by simpa using hl) (fun s hs => by
   have h1 := zCe hs
   have h2 := VA s
   have h3 := (zKD s).1 (zJW hA hs)
   cases k with
   | zero => omega
   | succ k => exact ⟨by omega, h3.2.2.1.1, zOx k s.Steps N (by omega) (by omega) h3.2.2.2.2.1 h3.2.2.2.2.2⟩)
theorem zNc {N : Nat} {p : QB} : ∀ (suf pre : List zZ) (m : Nat), p.Tools = pre ++ suf → suf.length < m → p.Tools.length ≤ 9223372036854775807 → (∀ t ∈ suf, t.Rects.length < N ∧ t.Rects.length ≤ 9223372036854775807) → JO N p p m (pre.length : Int) = some true
 | [], pre, m, he, hm, hl, h => by
  obtain ⟨m, rfl⟩ : ∃ k, m = k + 1 := ⟨m - 1, by omega⟩
  rw [JO, if_neg (by rw [he]; simp)]
 | t :: l, pre, m, he, hm, hl, h => by
  obtain ⟨m, rfl⟩ : ∃ k, m = k + 1 := ⟨m - 1, by simp at hm; omega⟩
  simp at hm
  have hlen : p.Tools.length = pre.length + (l.length + 1) := by rw [he]; simp
  obtain ⟨h1, h2⟩ := h t List.mem_cons_self
  have hj : idx p.Tools (pre.length : Int) = some t := by rw [he]; exact KO _ _ _
  rw [JO, if_pos (by simp; omega), hj]
  simp only [Option.bind_some, zEn.2 rfl, Bool.not_true, Bool.false_eq_true, if_false, zVI h1 h2]
  rw [zEl _ t (by omega), zNc l (pre ++ [t]) m (by rw [he]; simp) (by omega) hl (fun y hy => h y (List.mem_cons_of_mem _ hy))]
theorem zYn {N : Nat} {p : QB} (hN : Ja p.Steps + 5 ≤ N) (hs : p.Steps.length ≤ 9223372036854775807) (hL : zK2 p.Steps) (ht : p.Tools.length < N) (ht2 : p.Tools.length ≤ 9223372036854775807) (hr : ∀ t ∈ p.Tools, t.Rects.length < N ∧ t.Rects.length ≤ 9223372036854775807) : KH N p p = some true := by
 unfold KH
 simp only [bne_self_eq_false, Bool.or_self, Bool.false_eq_true, if_false, zOx (Ja p.Steps) p.Steps N (Nat.le_refl _) hN hs hL, Option.bind_some, Bool.not_true]
 exact zNc p.Tools [] N rfl ht ht2 hr
theorem zN7 (x : Int) : J64 (w64 x) := by
 unfold J64 w64
 simp [IntKind.wrap, IntKind.bits, IntKind.signed]
 omega
theorem zSN {p : QB} : ∀ (k : Nat) (l : List zC) (d : Int) (b : zJ) (y : zC), Ja l ≤ k → zDy p d l → zK2 l → y ∈ flL l b → ∃ x b' d', zHG p x d' ∧ x.Kind ≠ 8 ∧ zQQ x ∧ y = zN1 b' x
 | _, [], _, _, _, _, _, _, hy => by rw [zL3] at hy; cases hy
 | k, x :: l, d, b, y, hk, hv, hA, hy => by
  rw [Jw, VA] at hk
  obtain ⟨hx, hl⟩ := (WC _ _ _ _).1 hv
  obtain ⟨h0, hs⟩ := (zAw _ _ _).1 hx
  obtain ⟨a1, a2⟩ := (zMs _ _).1 hA
  cases k with
  | zero => omega
  | succ k =>
   rw [zJl, List.mem_append] at hy
   rcases hy with hy | hy
   ·rw [zSM] at hy
    by_cases h8 : x.Kind = 8
    ·rw [if_pos h8, List.mem_flatMap] at hy
     obtain ⟨j, _, hy⟩ := hy
     rw [List.mem_flatMap] at hy
     obtain ⟨i, _, hy⟩ := hy
     exact zSN k x.Steps (d + 1) _ y (by omega) hs ((zKD x).1 a1).2.2.2.2.2 hy
    ·rw [if_neg h8, List.mem_singleton] at hy
     exact ⟨x, b, d, zA4.1 h0, h8, a1, hy⟩
   ·exact zSN k l d b y (by omega) hl a2 hy
theorem zU9 {nm : ByteArray} {l : List zZ} (h : 0 ≤ zD2 nm l) (hl : ∀ t ∈ l, t.Name.size ≤ 40) : nm.size ≤ 40 := by
 obtain ⟨t, ht, rfl⟩ := zMh (by omega : ¬ zD2 nm l < 0)
 exact hl t ht
theorem zHG.sz {p : QB} {x : zC} {d : Int} (h : zHG p x d) (h8 : x.Kind ≠ 8) (ht : ∀ t ∈ p.Tools, t.Name.size ≤ 40) : zHz x ≤ 2041 := by
 have h1 : x.Points.length ≤ 2000 := by
  by_cases h7 : x.Kind = 7
  ·exact (h.area h7).2.2.1
  ·rw [h.points h7]; simp
 have h2 : x.Name.size ≤ 40 := by
  by_cases h3 : x.Kind = 3
  ·exact zU9 (h.tool h3) ht
  ·rw [h.name h3]; simp
 rw [VA, (h.rep h8).2.2, zJP]; omega
theorem zOo {c : Nat} : ∀ {l : List zC}, (∀ x ∈ l, zHz x ≤ c) → Ja l ≤ l.length * c
 | [], _ => by rw [zJP]; simp
 | x :: l, h => by
  have h1 := h x List.mem_cons_self
  have h2 := zOo (c := c) (l := l) (fun y hy => h y (List.mem_cons_of_mem _ hy))
  rw [Jw, List.length_cons, Nat.succ_mul]; omega
theorem zdM (b : zJ) (x : zC) : zHz (zN1 b x) = zHz x := by
 rw [VA, VA]; simp [zN1]
theorem zZ8 {b : zJ} {x : zC} (h : zQQ x) : zQQ (zN1 b x) := by
 rw [zKD] at h ⊢
 obtain ⟨h1, h2, h3, h4⟩ := h
 refine ⟨h1, ?_, ⟨by simpa [zN1] using h3.1, fun q hq => ?_⟩, h4⟩
 ·unfold zN1
  cases plc x.Kind
  ·exact h2
  ·exact ⟨zN7 _, zN7 _⟩
 ·obtain ⟨q0, _, rfl⟩ := List.mem_map.1 hq
  exact ⟨zN7 _, zN7 _⟩
def FuG (p : QB) (N : Nat) : Prop := Ja p.Steps + zHy p.Tools + 20000000 ≤ N
theorem FuG.fu {p : QB} {N : Nat} (h : FuG p N) : Fu p N := by unfold FuG at h; unfold Fu; omega
def tlG (g : zQ → zQ) (t : zZ) : zZ := ⟨t.Name, t.Rects.map g⟩
theorem zNY {g : zQ → zQ} {f : zQ → Option zQ} (hf : ∀ r, f r = some (g r)) {l0 : List zZ} {j : Int} {t0 : zZ} (hj : ∃ t, idx l0 j = some t) {k : List zZ → Int → Option (List zZ)} : ∀ (suf pre : List zQ),
  Kk f l0 j k t0 suf pre.length (pre ++ suf) = k (l0.set j.toNat ⟨t0.Name, pre ++ suf.map g⟩) (w64 (j + 1))
 | [], pre => by rw [Kk]; simp
 | r :: l, pre => by
  obtain ⟨t, ht⟩ := hj
  rw [Kk, KO, Option.bind_some, ht, Option.bind_some, hf, Option.bind_some, Option.bind_some, zJT, Option.bind_some]
  have := zNY hf ⟨t, ht⟩ l (pre ++ [g r]) (t0 := t0) (k := k)
  rw [show (pre ++ [g r]).length = pre.length + 1 by simp] at this
  rw [show pre ++ g r :: l = (pre ++ [g r]) ++ l by simp, this]
  simp
theorem zQl {g : zQ → zQ} {f : zQ → Option zQ} (hf : ∀ r, f r = some (g r)) {l0 : List zZ} : ∀ (suf pre : List zZ) (m : Nat), (pre ++ suf).length = l0.length → l0.length ≤ 2000 → (∀ t ∈ suf, t.Rects.length ≤ 2000) → suf.length < m →
  Jl f l0 m (pre ++ suf) (pre.length : Int) = some (pre ++ suf.map (tlG g))
 | [], pre, m, hl, h2, h, hm => by
  obtain ⟨m, rfl⟩ : ∃ k, m = k + 1 := ⟨m - 1, by omega⟩
  simp at hl
  rw [Jl, if_neg (by simp; omega)]
  simp
 | t :: l, pre, m, hl, h2, h, hm => by
  obtain ⟨m, rfl⟩ : ∃ k, m = k + 1 := ⟨m - 1, by simp at hm; omega⟩
  simp at hm
  have hl' := hl
  simp at hl'
  have hcl : Jr t.Rects = some t.Rects := by
   unfold Jr
   rw [zWZ (by have := h t List.mem_cons_self; omega)]; rfl
  rw [Jl, if_pos (by simp; omega), KO, Option.bind_some, hcl, Option.bind_some, Option.bind_some, Option.bind_some]
  have hr := zNY hf (l0 := pre ++ t :: l) (j := (pre.length : Int)) (t0 := t) ⟨t, KO _ _ _⟩ (k := Jl f l0 m) t.Rects []
  simp only [List.nil_append, List.length_nil] at hr
  rw [hr, set_mid, zEl _ t (by omega), show (pre ++ [t]).length = (pre ++ [tlG g t]).length by simp, show pre ++ (⟨t.Name, t.Rects.map g⟩ : zZ) :: l = (pre ++ [tlG g t]) ++ l by simp [tlG],
   zQl hf l (pre ++ [tlG g t]) m (by simpa using hl) h2 (fun x hx => h x (List.mem_cons_of_mem _ hx)) (by omega)]
  simp
theorem zdG {g : zQ → zQ} {f : zQ → Option zQ} (hf : ∀ r, f r = some (g r)) {l : List zZ} {N : Nat} (hl : l.length ≤ 2000) (h : ∀ t ∈ l, t.Rects.length ≤ 2000) (hN : 3000 ≤ N) : zCF N l f = some (l.map (tlG g)) := by
 unfold zCF
 have hcl : Jo l = some l := by
  unfold Jo
  rw [zWZ (by omega)]; rfl
 rw [hcl, Option.bind_some]
 exact zQl hf l [] N rfl hl h (by omega)
theorem zZf (l : List zZ) : l.map (tlG fun r => r) = l := by
 induction l with
 | nil => rfl
 | cons t l ih => rw [List.map_cons, ih]; simp [tlG]
theorem zb1 {N : Nat} {p : QB} (hG : zfZ p) (hL : zHj p) (hO : WS N p) (b : zJ) : (flL p.Steps b).length ≤ 3000 ∧ Ja (flL p.Steps b) ≤ 3000 * 2041 ∧ zK2 (flL p.Steps b) := by
 have h1 := zL4 _ p.Steps 0 b (Nat.le_refl _) hO.steps
 have hc := hO.cnt
 have hm := fun y hy => zSN _ p.Steps 0 b y (Nat.le_refl _) hO.steps hL.steps hy
 have h2 := zOo (c := 2041) (l := flL p.Steps b) (fun y hy => by
  obtain ⟨x, b', d', x1, x2, _, rfl⟩ := hm y hy
  rw [zdM]; exact x1.sz x2 (fun t ht => (hG.tools t ht).1))
 refine ⟨by omega, Nat.le_trans h2 (Nat.mul_le_mul_right _ (by omega)), zOD fun y hy => ?_⟩
 obtain ⟨x, b', d', x1, x2, x3, rfl⟩ := hm y hy
 exact zZ8 x3
def scan (t f : Int → Bool) : List zC → Bool
 | [] => true
 | x :: l => if t x.Kind then true else if f x.Kind then false else scan t f l
def zJV (ks : List Int) : List zC → Int
 | [] => 0
 | x :: l => if ks.contains x.Kind then x.Kind else zJV ks l
theorem zQs (k : Int) : ∀ (l : List Int) (i : Nat), ∃ r, KN k l i = some r ∧ (decide (0 ≤ r)) = l.contains k
 | [], i => ⟨-1, rfl, by simp⟩
 | x :: l, i => by
  rw [KN]
  by_cases h : k = x
  ·subst h; exact ⟨i, by simp, by simp⟩
  ·obtain ⟨r, r1, r2⟩ := zQs k l (i + 1)
   refine ⟨r, by rw [if_neg (by simpa using h)]; exact r1, r2.trans ?_⟩
   rw [List.contains_cons, show (k == x) = false by simpa using h, Bool.false_or]
theorem zSa (k : Int) (l : List Int) : Wl l k = some (l.contains k) := by
 obtain ⟨r, r1, r2⟩ := zQs k l 0
 unfold Wl zB3
 rw [r1, Option.bind_some, r2]
theorem zO9 (ks : List Int) (l : List zC) : zDs l ks = some (zJV ks l) := by
 have key : ∀ (l : List zC) (i : Nat), zAB ks l i = some (zJV ks l) := by
  intro l
  induction l with
  | nil => intro i; rfl
  | cons x l ih =>
   intro i
   rw [zAB, zSa, Option.bind_some, zJV, ih]
   split <;> rfl
 exact key l 0
def isL (k : Int) : Bool := k == 1 || k == 2
def isD (k : Int) : Bool := k == 5 || k == 6 || k == 7 || k == 8
def zTl (k : Int) : Bool := (k == 5 || k == 6 || k == 7 || k == 8) && k != 7
def isP (k : Int) : Bool := k == 4 || k == 5
def isQ (k : Int) : Bool := k == 6 || k == 8
theorem zjy (l : List zC) : (!isD (zJV [1, 2, 5, 6, 7, 8] l)) = scan isL isD l := by
 induction l with
 | nil => rfl
 | cons x l ih =>
  rw [zJV, scan]
  generalize x.Kind = k at *
  by_cases h : k = 1 ∨ k = 2 ∨ k = 5 ∨ k = 6 ∨ k = 7 ∨ k = 8
  ·rcases h with rfl | rfl | rfl | rfl | rfl | rfl <;> rfl
  ·have h1 : ([1, 2, 5, 6, 7, 8] : List Int).contains k = false := by rw [Bool.eq_false_iff]; simpa using h
   have h2 : isL k = false := by unfold isL; rw [Bool.eq_false_iff]; simp; omega
   have h3 : isD k = false := by unfold isD; rw [Bool.eq_false_iff]; simp; omega
   rw [h1, h2, h3, if_neg (by simp), if_neg (by simp), if_neg (by simp)]; exact ih
theorem zjw (l : List zC) : (!isD (zJV [3, 5, 6, 8] l)) = scan (fun k => k == 3) zTl l := by
 induction l with
 | nil => rfl
 | cons x l ih =>
  rw [zJV, scan]
  generalize x.Kind = k at *
  by_cases h : k = 3 ∨ k = 5 ∨ k = 6 ∨ k = 8
  ·rcases h with rfl | rfl | rfl | rfl <;> rfl
  ·have h1 : ([3, 5, 6, 8] : List Int).contains k = false := by rw [Bool.eq_false_iff]; simpa using h
   have h2 : (k == 3) = false := by rw [Bool.eq_false_iff]; simp; omega
   have h3 : zTl k = false := by unfold zTl; rw [Bool.eq_false_iff]; simp; omega
   rw [h1, h2, h3, if_neg (by simp), if_neg (by simp), if_neg (by simp)]; exact ih
theorem zjx (l : List zC) : (zJV [4, 5, 6, 8] l != 6 && zJV [4, 5, 6, 8] l != 8) = scan isP isQ l := by
 induction l with
 | nil => rfl
 | cons x l ih =>
  rw [zJV, scan]
  generalize x.Kind = k at *
  by_cases h : k = 4 ∨ k = 5 ∨ k = 6 ∨ k = 8
  ·rcases h with rfl | rfl | rfl | rfl <;> rfl
  ·have h1 : ([4, 5, 6, 8] : List Int).contains k = false := by rw [Bool.eq_false_iff]; simpa using h
   have h2 : isP k = false := by unfold isP; rw [Bool.eq_false_iff]; simp; omega
   have h3 : isQ k = false := by unfold isQ; rw [Bool.eq_false_iff]; simp; omega
   rw [h1, h2, h3, if_neg (by simp), if_neg (by simp), if_neg (by simp)]; exact ih
theorem zJU (p : QB) (TT : List (List zQ)) (b : zJ) : ∀ (a l : List zC) (s : MS), zAA p TT (a ++ l) b s = if (zAA p TT a b s).1 = 0 then zAA p TT l b (zAA p TT a b s).2 else zAA p TT a b s
 | [], l, s => by rw [WQ]; rfl
 | x :: a, l, s => by
  rw [List.cons_append, Vz, Vz]
  by_cases h : (Wz p TT x b s).1 = 0
  ·rw [if_pos h, if_pos h, zJU p TT b a l]
  ·rw [if_neg h, if_neg h, if_neg h]
theorem zH2 {β : Type} (p : QB) (TT : List (List zQ)) (b : zJ) (f : β → List zC) : ∀ (l : List β) (s : MS), zAA p TT (l.flatMap f) b s = zDm (fun c s => zAA p TT (f c) b s) l s
 | [], s => by rw [List.flatMap_nil, WQ]; rfl
 | c :: l, s => by
  rw [List.flatMap_cons, zJU, zDm]
  by_cases h : (zAA p TT (f c) b s).1 = 0
  ·rw [if_pos h, if_pos h, zH2 p TT b f l]
  ·rw [if_neg h, if_neg h]
theorem zFA {β : Type} {f g : β → MS → Int × MS} : ∀ {l : List β} {s : MS}, (∀ b ∈ l, ∀ s, f b s = g b s) → zDm f l s = zDm g l s
 | [], _, _ => rfl
 | b :: l, s, h => by
  rw [zDm, zDm, h b List.mem_cons_self, zFA (l := l) fun c hc => h c (List.mem_cons_of_mem _ hc)]
def scB (U : Int) (b : zJ) : zJ := ⟨b.X * U, b.Y * U⟩
theorem zGo {n U c : Int} (hu : 1 ≤ U) (hc : 0 ≤ c) (h : -c ≤ n * U ∧ n * U ≤ c) : -c ≤ n ∧ n ≤ c := by
 refine ⟨Int.not_lt.1 fun hl => ?_, Int.not_lt.1 fun hl => ?_⟩
 ·have := Int.mul_le_mul_of_nonpos_left (show n ≤ 0 by omega) hu
  omega
 ·have := Int.mul_le_mul_of_nonneg_left hu (show 0 ≤ n by omega)
  omega
theorem zcT {U d : Int} {q b : zJ} (hu : 1 ≤ U) (hq : zCB q U = true) (hd : 0 ≤ d ∧ d ≤ 5) (hb : zFx d (scB U b)) : atM U (mvP b q) ⟨0, 0⟩ = atM U q (scB U b) := by
 obtain ⟨e, h1, h2⟩ := zSg hu hq hd.2 hb
 rw [e]
 unfold zFx scB at hb
 simp only at hb
 have b1 := zGo hu (by omega) hb.1
 have b2 := zGo hu (by omega) hb.2
 have q1 := zGo (c := 1000000) hu (by omega) h1
 have q2 := zGo (c := 1000000) hu (by omega) h2
 have e1 : (q.X + b.X) * U = q.X * U + b.X * U := Int.add_mul _ _ _
 have e2 : (q.Y + b.Y) * U = q.Y * U + b.Y * U := Int.add_mul _ _ _
 unfold atM mvP
 simp only
 rw [Qh (x := q.X + b.X) (by omega) (by omega), Qh (x := q.Y + b.Y) (by omega) (by omega), e1, e2, Int.add_zero, Int.add_zero, Qh (x := q.X * U + b.X * U) (by omega) (by omega), Qh (x := q.Y * U + b.Y * U) (by omega) (by omega), Qh (x := q.X * U + b.X * U) (by omega) (by omega), Qh (x := q.Y * U + b.Y * U) (by omega) (by omega)]
 rfl
theorem zi9 {U d : Int} {a b : zJ} {j i : Nat} (hu : 1 ≤ U) (ha : zCB a U = true) (hd : 0 ≤ d ∧ d < 5) (hb : zFx d (scB U b)) (hj : j < 100) (hi : i < 100) : scB U (zK8 b a j i) = byM U (scB U b) a j i ∧ zFx (d + 1) (scB U (zK8 b a j i)) := by
 obtain ⟨e, h⟩ := zcM hu ha hd hb hj hi
 have hb' := hb
 unfold zCB at ha
 rw [Bool.and_eq_true] at ha
 have f1 := zGo (c := 1000000) hu (by omega) (zEq hu ha.1)
 have f2 := zGo (c := 1000000) hu (by omega) (zEq hu ha.2)
 unfold zFx scB at hb
 simp only at hb
 have b1 := zGo hu (by omega) hb.1
 have b2 := zGo hu (by omega) hb.2
 have key : ∀ (n : Int) (k : Nat), k < 100 → -1000000 ≤ n ∧ n ≤ 1000000 → -99000000 ≤ (k : Int) * n ∧ (k : Int) * n ≤ 99000000 := fun n k hk hn => by
  have b1 : (k : Int) * n ≤ (k : Int) * 1000000 := Int.mul_le_mul_of_nonneg_left hn.2 (by omega)
  have b2 : (k : Int) * (-1000000) ≤ (k : Int) * n := Int.mul_le_mul_of_nonneg_left hn.1 (by omega)
  omega
 have k1 := key _ i hi f1
 have k2 := key _ j hj f2
 have e2 : scB U (zK8 b a j i) = byM U (scB U b) a j i := by
  rw [e]
  unfold scB zK8
  simp only
  rw [Qh (x := (i : Int) * a.X) (by omega) (by omega), Qh (x := (j : Int) * a.Y) (by omega) (by omega), Qh (x := b.X + (i : Int) * a.X) (by omega) (by omega), Qh (x := b.Y + (j : Int) * a.Y) (by omega) (by omega), Int.add_mul, Int.add_mul]
 exact ⟨e2, by rw [e2]; exact h⟩
theorem zaI {p q : QB} (hq : q.Unit = p.Unit) (ht : q.Tools = p.Tools) {d : Int} (hu : 1 ≤ p.Unit) {x : zC} (hx : zHG p x d) {b : zJ} (hd : 0 ≤ d ∧ d ≤ 5) (hb : zFx d (scB p.Unit b)) (TT : List (List zQ)) (s : MS) : zAH q TT (zN1 b x) ⟨0, 0⟩ s = zAH p TT x (scB p.Unit b) s := by
 have h1 : (x.Points.map (mvP b)).map (fun c => atM p.Unit c ⟨0, 0⟩) = x.Points.map fun c => atM p.Unit c (scB p.Unit b) := by
  rw [List.map_map]
  refine List.map_congr_left fun c hc => ?_
  by_cases h7 : x.Kind = 7
  ·exact zcT hu (List.all_eq_true.1 (hx.area h7).1 c hc) hd hb
  ·rw [hx.points h7] at hc; cases hc
 unfold zAH
 show (if x.Kind = 1 ∨ x.Kind = 2 then _ else if x.Kind = 3 then (0, { s with tool := zD2 x.Name q.Tools }) else if x.Kind = 4 then zAp s (atM q.Unit (if plc x.Kind then mvP b x.At else x.At) ⟨0, 0⟩) else if x.Kind = 5 then zBc TT s (atM q.Unit (if plc x.Kind then mvP b x.At else x.At) ⟨0, 0⟩) else if x.Kind = 6 then zDl TT s (atM q.Unit (if plc x.Kind then mvP b x.At else x.At) ⟨0, 0⟩) else if x.Kind = 7 then zFg s ((x.Points.map (mvP b)).map fun c => atM q.Unit c ⟨0, 0⟩) else (0, s)) = _
 rw [hq, ht, h1]
 have h2 := zcT hu hx.place hd hb
 by_cases c1 : x.Kind = 1 ∨ x.Kind = 2
 ·rw [if_pos c1, if_pos c1]; rfl
 rw [if_neg c1, if_neg c1]
 by_cases c3 : x.Kind = 3
 ·rw [if_pos c3, if_pos c3]
 rw [if_neg c3, if_neg c3]
 by_cases c4 : x.Kind = 4
 ·rw [if_pos c4, if_pos c4, if_pos (by unfold plc; simp [c4]), h2]
 rw [if_neg c4, if_neg c4]
 by_cases c5 : x.Kind = 5
 ·rw [if_pos c5, if_pos c5, if_pos (by unfold plc; simp [c5]), h2]
 rw [if_neg c5, if_neg c5]
 by_cases c6 : x.Kind = 6
 ·rw [if_pos c6, if_pos c6, if_pos (by unfold plc; simp [c6]), h2]
 rw [if_neg c6, if_neg c6]
theorem zVN {p q : QB} (hq : q.Unit = p.Unit) (ht : q.Tools = p.Tools) (hu : 1 ≤ p.Unit) (TT : List (List zQ)) : ∀ (k : Nat) (l : List zC) (d : Int) (b : zJ) (s : MS), Ja l ≤ k → 0 ≤ d → d ≤ 5 → zDy p d l → zFx d (scB p.Unit b) → zAA q TT (flL l b) ⟨0, 0⟩ s = zAA p TT l (scB p.Unit b) s
 | k, [], d, b, s, _, _, _, _, _ => by rw [zL3, WQ, WQ]
 | 0, x :: l, d, b, s, hk, _, _, _, _ => by
  have := VA x
  rw [Jw] at hk
  omega
 | k + 1, x :: l, d, b, s, hk, h0, h5, hv, hb => by
  have hs := VA x
  rw [Jw] at hk
  rw [WC, zAw] at hv
  have hx := zA4.1 hv.1.1
  have he : zAA q TT (flT x b) ⟨0, 0⟩ s = Wz p TT x (scB p.Unit b) s := by
   rw [zSM, zE7]
   by_cases h8 : x.Kind = 8
   ·obtain ⟨t1, t2, _, t4⟩ := hx.times h8
    rw [if_pos h8, if_pos h8, zH2]
    refine zFA fun j hj s => ?_
    rw [zH2]
    refine zFA fun i hi s => ?_
    have hj' := List.mem_range'.1 hj
    have hi' := List.mem_range'.1 hi
    obtain ⟨e1, e2⟩ := zi9 hu hx.place ⟨h0, t4⟩ hb (j := j) (i := i) (by omega) (by omega)
    rw [zVN hq ht hu TT k x.Steps (d + 1) (zK8 b x.At j i) s (by omega) (by omega) (by omega) hv.1.2 e2, e1]
   ·rw [if_neg h8, if_neg h8, Vz, zE7]
    have hk8 : (zN1 b x).Kind = x.Kind := rfl
    rw [hk8, if_neg h8, zaI hq ht hu hx ⟨h0, h5⟩ hb]
    by_cases h : (zAH p TT x (scB p.Unit b) s).1 = 0
    ·rw [if_pos h, WQ]
     exact Prod.ext h.symm rfl
    ·rw [if_neg h]
  rw [zJl, zJU, he, Vz]
  by_cases h : (Wz p TT x (scB p.Unit b) s).1 = 0
  ·rw [if_pos h, if_pos h]
   exact zVN hq ht hu TT k l d b _ (by omega) h0 h5 hv.2 hb
  ·rw [if_neg h, if_neg h]
def zKh (p : QB) : QB := ⟨p.Unit, p.Tools, flL p.Steps ⟨0, 0⟩⟩
theorem zaZ {N : Nat} {p : QB} (h : WS N p) : zDN (zKh p) = zDN p := by
 have := zVN (p := p) (q := zKh p) rfl rfl h.unit.1 (zBv p) _ p.Steps 0 ⟨0, 0⟩ zD7 (Nat.le_refl _) (by omega) (by omega) h.steps (by unfold zFx scB; simp)
 have e : scB p.Unit ⟨0, 0⟩ = ⟨0, 0⟩ := by unfold scB; simp
 rw [e] at this
 exact this
theorem zce {N : Nat} {p : QB} (hN : FuG p N) (hL : zHj p) (hp : WS N p) : ∃ q e, zFP N p = some (q, e) ∧ (e = 0 → q = zKh p ∧ WS N (zKh p) ∧ Fu (zKh p) N ∧ zHj (zKh p)) := by
 have hN' := hN
 unfold FuG at hN'
 have hG := hp.zXN hN.fu hL
 obtain ⟨f1, f2, f3⟩ := zb1 hG hL hp ⟨0, 0⟩
 have hfu : Fu (zKh p) N := by
  unfold Fu
  show Ja (flL p.Steps ⟨0, 0⟩) + zHy p.Tools + 10000 ≤ N
  omega
 have hlen : zHj (zKh p) := ⟨hL.unit, hL.tools, by show (flL p.Steps ⟨0, 0⟩).length ≤ _; omega, f3⟩
 obtain ⟨e, e1, e2⟩ := zUr hfu hlen
 unfold zFP zDc
 rw [(zIV hN.fu hL).2 hp, Option.bind_some, if_neg (by simp), zdG (g := fun r => r) (f := fun z0 => zDT z0) (fun r => rfl) (by have := hG.few; omega) (fun t ht => (hG.tools t ht).2) (by omega), Option.bind_some, zXR _ p.Steps N 0 ⟨0, 0⟩ (Nat.le_refl _) (by omega) hp.steps hp.cnt, Option.bind_some, Option.bind_some, zZf]
 unfold zG3
 show ∃ q e', (((Ji N (zKh p)).bind _).bind _) = _ ∧ _
 rw [e1, Option.bind_some]
 by_cases h : e = 0
 ·rw [if_neg (by simpa using h), Option.bind_some]
  exact ⟨_, _, rfl, fun _ => ⟨rfl, e2.1 h, hfu, hlen⟩⟩
 ·rw [if_pos (by simpa using h), Option.bind_some]
  exact ⟨_, _, rfl, fun h' => absurd h' h⟩
structure zGR (c t q : Prop) (s z : MS) : Prop where
 img : s.img = z.img
 clear : c ∨ s.clear = z.clear
 tool : t ∨ s.tool = z.tool
 place : q ∨ (s.place = z.place ∧ s.placed = z.placed)
theorem zGR.refl (s : MS) : zGR False False False s s := ⟨rfl, .inr rfl, .inr rfl, .inr ⟨rfl, rfl⟩⟩
def zIU (c t q : Prop) (a b : Int × MS) : Prop := a.1 = b.1 ∧ (a.1 = 0 → zGR c t q a.2 b.2)
theorem zOv {c t q : Prop} {s z : MS} (h : zGR c t q s z) (a : zJ) : zIU c t False (zAp s a) (zAp z a) := by
 unfold zAp
 cases ptB a
 ·exact ⟨rfl, fun h => by cases h⟩
 ·exact ⟨rfl, fun _ => ⟨h.img, h.clear, h.tool, .inr ⟨rfl, rfl⟩⟩⟩
theorem zYl {c t q : Prop} {s z : MS} (h : zGR c t q s z) (a : zJ) : zIU c t False (zFc s a) (zFc z a) := by
 unfold zFc
 cases ptB a
 ·exact ⟨rfl, fun h => by cases h⟩
 ·exact ⟨rfl, fun _ => ⟨h.img, h.clear, h.tool, .inr ⟨rfl, rfl⟩⟩⟩
theorem zNN {t q : Prop} {s z : MS} (h : zGR False t q s z) (S : List Bd) : zIU False t q (zL6 s S) (zL6 z S) := by
 have hc : s.clear = z.clear := h.clear.resolve_left id
 unfold zL6
 rw [hc, h.img]
 exact ⟨rfl, fun _ => ⟨rfl, .inr rfl, h.tool, h.place⟩⟩
theorem zWN {q : Prop} {s z : MS} {TT : List (List zQ)} (h : zGR False False q s z) (a : zJ) : zIU False False False (zBc TT s a) (zBc TT z a) := by
 have ht : s.tool = z.tool := h.tool.resolve_left id
 unfold zBc
 rw [ht]
 by_cases h0 : z.tool < 0
 ·rw [if_pos h0, if_pos h0]
  exact ⟨rfl, fun h => by cases h⟩
 ·rw [if_neg h0, if_neg h0]
  obtain ⟨e1, e2⟩ := zOv h a
  have hs : swT TT s a a = swT TT z a a := by unfold swT; rw [ht]
  rw [e1, hs]
  by_cases hz : (zAp z a).1 = 0
  ·rw [if_pos hz, if_pos hz]
   exact zNN (e2 (by rw [e1]; exact hz)) _
  ·rw [if_neg hz, if_neg hz]
   exact ⟨e1, fun h => absurd (e1 ▸ h) hz⟩
theorem zYv {s z : MS} {TT : List (List zQ)} (h : zGR False False False s z) (a : zJ) : zIU False False False (zDl TT s a) (zDl TT z a) := by
 have ht : s.tool = z.tool := h.tool.resolve_left id
 obtain ⟨hp, hpl⟩ := h.place.resolve_left id
 unfold zDl
 rw [ht, hp, hpl]
 by_cases h0 : z.tool < 0 ∨ z.placed = false
 ·rw [if_pos h0, if_pos h0]
  exact ⟨rfl, fun h => by cases h⟩
 rw [if_neg h0, if_neg h0]
 by_cases h1 : a.X ≠ z.place.X ∧ a.Y ≠ z.place.Y
 ·rw [if_pos h1, if_pos h1]
  exact ⟨rfl, fun h => by cases h⟩
 rw [if_neg h1, if_neg h1]
 obtain ⟨e1, e2⟩ := zYl h a
 have hs : swT TT s z.place a = swT TT z z.place a := by unfold swT; rw [ht]
 rw [e1, hs]
 by_cases hz : (zFc z a).1 = 0
 ·rw [if_pos hz, if_pos hz]
  exact zNN (e2 (by rw [e1]; exact hz)) _
 ·rw [if_neg hz, if_neg hz]
  exact ⟨e1, fun h => absurd (e1 ▸ h) hz⟩
theorem zZB {t q : Prop} {s z : MS} (h : zGR False t q s z) (row : List zJ) : zIU False t q (zFg s row) (zFg z row) := by
 unfold zFg
 by_cases h1 : 2000 < (Qm (arB row)).length
 ·rw [if_pos h1, if_pos h1]
  exact ⟨rfl, fun h => by cases h⟩
 rw [if_neg h1, if_neg h1]
 by_cases h2 : (row.any fun q => !ptB q) = true
 ·rw [if_pos h2, if_pos h2]
  exact ⟨rfl, fun h => by cases h⟩
 rw [if_neg h2, if_neg h2]
 exact zNN h _
section
variable {p : QB} {TT : List (List zQ)} {x : zC} {b : zJ} {c t q : Prop} {s z : MS}
theorem zR3 (hk : x.Kind = 1 ∨ x.Kind = 2) (h : zGR c t q s z) : zIU False t q (zAH p TT x b s) (zAH p TT x b z) := by
 unfold zAH
 rw [if_pos hk, if_pos hk]
 exact ⟨rfl, fun _ => ⟨h.img, .inr rfl, h.tool, h.place⟩⟩
theorem zW1 (hk : x.Kind = 3) (h : zGR c t q s z) : zIU c False q (zAH p TT x b s) (zAH p TT x b z) := by
 unfold zAH
 rw [if_neg (show ¬ (x.Kind = 1 ∨ x.Kind = 2) by omega), if_neg (show ¬ (x.Kind = 1 ∨ x.Kind = 2) by omega), if_pos hk, if_pos hk]
 exact ⟨rfl, fun _ => ⟨h.img, h.clear, .inr rfl, h.place⟩⟩
theorem zW0 (hk : x.Kind = 4) (h : zGR c t q s z) : zIU c t False (zAH p TT x b s) (zAH p TT x b z) := by
 unfold zAH
 rw [if_neg (show ¬ (x.Kind = 1 ∨ x.Kind = 2) by omega), if_neg (show ¬ (x.Kind = 1 ∨ x.Kind = 2) by omega), if_neg (show ¬ x.Kind = 3 by omega), if_neg (show ¬ x.Kind = 3 by omega), if_pos hk, if_pos hk]
 exact zOv h _
theorem zex (hk : x.Kind = 5) (h : zGR False False q s z) : zIU False False False (zAH p TT x b s) (zAH p TT x b z) := by
 unfold zAH
 rw [if_neg (show ¬ (x.Kind = 1 ∨ x.Kind = 2) by omega), if_neg (show ¬ (x.Kind = 1 ∨ x.Kind = 2) by omega), if_neg (show ¬ x.Kind = 3 by omega), if_neg (show ¬ x.Kind = 3 by omega), if_neg (show ¬ x.Kind = 4 by omega), if_neg (show ¬ x.Kind = 4 by omega), if_pos hk, if_pos hk]
 exact zWN h _
theorem zj6 (hk : x.Kind = 6) (h : zGR False False False s z) : zIU False False False (zAH p TT x b s) (zAH p TT x b z) := by
 unfold zAH
 rw [if_neg (show ¬ (x.Kind = 1 ∨ x.Kind = 2) by omega), if_neg (show ¬ (x.Kind = 1 ∨ x.Kind = 2) by omega), if_neg (show ¬ x.Kind = 3 by omega), if_neg (show ¬ x.Kind = 3 by omega), if_neg (show ¬ x.Kind = 4 by omega), if_neg (show ¬ x.Kind = 4 by omega), if_neg (show ¬ x.Kind = 5 by omega), if_neg (show ¬ x.Kind = 5 by omega), if_pos hk, if_pos hk]
 exact zYv h _
theorem zaJ (hk : x.Kind = 7) (h : zGR False t q s z) : zIU False t q (zAH p TT x b s) (zAH p TT x b z) := by
 unfold zAH
 rw [if_neg (show ¬ (x.Kind = 1 ∨ x.Kind = 2) by omega), if_neg (show ¬ (x.Kind = 1 ∨ x.Kind = 2) by omega), if_neg (show ¬ x.Kind = 3 by omega), if_neg (show ¬ x.Kind = 3 by omega), if_neg (show ¬ x.Kind = 4 by omega), if_neg (show ¬ x.Kind = 4 by omega), if_neg (show ¬ x.Kind = 5 by omega), if_neg (show ¬ x.Kind = 5 by omega), if_neg (show ¬ x.Kind = 6 by omega), if_neg (show ¬ x.Kind = 6 by omega), if_pos hk, if_pos hk]
 exact zZB h _
end
theorem zMw {β : Type} {c t q : Prop} {f g : β → MS → Int × MS} : ∀ {l : List β} {s z : MS}, (∀ b ∈ l, ∀ s z, zGR c t q s z → zIU c t q (f b s) (g b z)) → zGR c t q s z → zIU c t q (zDm f l s) (zDm g l z)
 | [], _, _, _, h => ⟨rfl, fun _ => h⟩
 | b :: l, s, z, hf, h => by
  obtain ⟨h1, h2⟩ := hf b List.mem_cons_self s z h
  rw [zDm, zDm, h1]
  by_cases h0 : (g b z).1 = 0
  ·rw [if_pos h0, if_pos h0]
   exact zMw (fun c hc => hf c (List.mem_cons_of_mem _ hc)) (h2 (by rw [h1]; exact h0))
  ·rw [if_neg h0, if_neg h0]
   exact ⟨h1, fun h' => absurd (h1 ▸ h') h0⟩
theorem zJ5 {p : QB} {TT : List (List zQ)} : ∀ (k : Nat) (l : List zC) (d : Int) (b : zJ) (s z : MS), Ja l ≤ k → zDy p d l → zGR False False False s z → zIU False False False (zAA p TT l b s) (zAA p TT l b z)
 | k, [], d, b, s, z, _, _, h => by rw [WQ, WQ]; exact ⟨rfl, fun _ => h⟩
 | 0, x :: l, d, b, s, z, hk, _, _ => by
  have := VA x
  rw [Jw] at hk
  omega
 | k + 1, x :: l, d, b, s, z, hk, hv, h => by
  have hs := VA x
  rw [Jw] at hk
  rw [WC, zAw] at hv
  have hx := zA4.1 hv.1.1
  have hkd := hx.kind
  have he : zIU False False False (Wz p TT x b s) (Wz p TT x b z) := by
   rw [zE7, zE7]
   by_cases h8 : x.Kind = 8
   ·rw [if_pos h8, if_pos h8]
    exact zMw (fun j _ s z h => zMw (fun i _ s z h => zJ5 k x.Steps (d + 1) _ s z (by omega) hv.1.2 h) h) h
   ·rw [if_neg h8, if_neg h8]
    by_cases h12 : x.Kind = 1 ∨ x.Kind = 2
    ·exact zR3 h12 h
    by_cases h3 : x.Kind = 3
    ·exact zW1 h3 h
    by_cases h4 : x.Kind = 4
    ·exact zW0 h4 h
    by_cases h5 : x.Kind = 5
    ·exact zex h5 h
    by_cases h6 : x.Kind = 6
    ·exact zj6 h6 h
    exact zaJ (by omega) h
  rw [Vz, Vz, he.1]
  by_cases h0 : (Wz p TT x b z).1 = 0
  ·rw [if_pos h0, if_pos h0]
   exact zJ5 k l d b _ _ (by omega) hv.2 (he.2 (by rw [he.1]; exact h0))
  ·rw [if_neg h0, if_neg h0]
   exact ⟨he.1, fun h' => absurd (he.1 ▸ h') h0⟩
def zSk (a b : Int × MS) : Prop := a.1 = b.1 ∧ (a.1 = 0 → a.2.img = b.2.img)
theorem zIU.img {c t q : Prop} {a b : Int × MS} (h : zIU c t q a b) : zSk a b := ⟨h.1, fun h0 => (h.2 h0).img⟩
theorem zHf {p : QB} {TT : List (List zQ)} {x : zC} {l : List zC} {b : zJ} {s z : MS} {c t q : Prop} (he : zIU c t q (Wz p TT x b s) (Wz p TT x b z)) (hl : ∀ s z, zGR c t q s z → zSk (zAA p TT l b s) (zAA p TT l b z)) : zSk (zAA p TT (x :: l) b s) (zAA p TT (x :: l) b z) := by
 rw [Vz, Vz, he.1]
 by_cases h0 : (Wz p TT x b z).1 = 0
 ·rw [if_pos h0, if_pos h0]
  exact hl _ _ (he.2 (by rw [he.1]; exact h0))
 ·rw [if_neg h0, if_neg h0]
  exact ⟨he.1, fun h' => absurd (he.1 ▸ h') h0⟩
theorem Vy {p : QB} {TT : List (List zQ)} {x : zC} {b : zJ} (s : MS) (h8 : x.Kind ≠ 8) : Wz p TT x b s = zAH p TT x b s := by rw [zE7, if_neg h8]
section
variable {p : QB} {TT : List (List zQ)} {b : zJ} {d : Int}
theorem zTJ : ∀ (l : List zC) (s z : MS), zDy p d l → scan isL isD l = true → zGR True False False s z → zSk (zAA p TT l b s) (zAA p TT l b z)
 | [], s, z, _, _, h => by rw [WQ, WQ]; exact ⟨rfl, fun _ => h.img⟩
 | x :: l, s, z, hv, hsc, h => by
  rw [WC, zAw] at hv
  have hx := zA4.1 hv.1.1
  have hkd := hx.kind
  rw [scan] at hsc
  by_cases h12 : isL x.Kind = true
  ·have h12' : x.Kind = 1 ∨ x.Kind = 2 := by unfold isL at h12; simpa using h12
   refine zHf (c := False) (t := False) (q := False) ?_ fun s z h => (zJ5 _ l d b s z (Nat.le_refl _) hv.2 h).img
   rw [Vy _ (by omega), Vy _ (by omega)]
   exact zR3 h12' h
  ·rw [if_neg h12] at hsc
   by_cases hD : isD x.Kind = true
   ·rw [if_pos hD] at hsc; cases hsc
   rw [if_neg hD] at hsc
   refine zHf (c := True) (t := False) (q := False) ?_ fun s z h => zTJ l s z hv.2 hsc h
   have h34 : x.Kind = 3 ∨ x.Kind = 4 := by
    unfold isL at h12; unfold isD at hD
    simp at h12 hD; omega
   rw [Vy _ (by omega), Vy _ (by omega)]
   rcases h34 with h3 | h4
   ·exact zW1 h3 h
   ·exact zW0 h4 h
theorem zTH : ∀ (l : List zC) (s z : MS), zDy p d l → scan (fun k => k == 3) zTl l = true → zGR False True False s z → zSk (zAA p TT l b s) (zAA p TT l b z)
 | [], s, z, _, _, h => by rw [WQ, WQ]; exact ⟨rfl, fun _ => h.img⟩
 | x :: l, s, z, hv, hsc, h => by
  rw [WC, zAw] at hv
  have hx := zA4.1 hv.1.1
  have hkd := hx.kind
  rw [scan] at hsc
  by_cases h3 : (x.Kind == 3) = true
  ·have h3' : x.Kind = 3 := by simpa using h3
   refine zHf (c := False) (t := False) (q := False) ?_ fun s z h => (zJ5 _ l d b s z (Nat.le_refl _) hv.2 h).img
   rw [Vy _ (by omega), Vy _ (by omega)]
   exact zW1 h3' h
  ·rw [if_neg h3] at hsc
   by_cases hD : zTl x.Kind = true
   ·rw [if_pos hD] at hsc; cases hsc
   rw [if_neg hD] at hsc
   refine zHf (c := False) (t := True) (q := False) ?_ fun s z h => zTH l s z hv.2 hsc h
   have hr : (x.Kind = 1 ∨ x.Kind = 2) ∨ x.Kind = 4 ∨ x.Kind = 7 := by
    unfold zTl at hD
    simp at h3 hD; omega
   rw [Vy _ (by omega), Vy _ (by omega)]
   rcases hr with h12 | h4 | h7
   ·exact zR3 h12 h
   ·exact zW0 h4 h
   ·exact zaJ h7 h
theorem zTI : ∀ (l : List zC) (s z : MS), zDy p d l → scan isP isQ l = true → zGR False False True s z → zSk (zAA p TT l b s) (zAA p TT l b z)
 | [], s, z, _, _, h => by rw [WQ, WQ]; exact ⟨rfl, fun _ => h.img⟩
 | x :: l, s, z, hv, hsc, h => by
  rw [WC, zAw] at hv
  have hx := zA4.1 hv.1.1
  have hkd := hx.kind
  rw [scan] at hsc
  by_cases hP : isP x.Kind = true
  ·have hP' : x.Kind = 4 ∨ x.Kind = 5 := by unfold isP at hP; simpa using hP
   refine zHf (c := False) (t := False) (q := False) ?_ fun s z h => (zJ5 _ l d b s z (Nat.le_refl _) hv.2 h).img
   rw [Vy _ (by omega), Vy _ (by omega)]
   rcases hP' with h4 | h5
   ·exact zW0 h4 h
   ·exact zex h5 h
  ·rw [if_neg hP] at hsc
   by_cases hD : isQ x.Kind = true
   ·rw [if_pos hD] at hsc; cases hsc
   rw [if_neg hD] at hsc
   refine zHf (c := False) (t := False) (q := True) ?_ fun s z h => zTI l s z hv.2 hsc h
   have hr : (x.Kind = 1 ∨ x.Kind = 2) ∨ x.Kind = 3 ∨ x.Kind = 7 := by
    unfold isP at hP; unfold isQ at hD
    simp at hP hD; omega
   rw [Vy _ (by omega), Vy _ (by omega)]
   rcases hr with h12 | h3 | h7
   ·exact zR3 h12 h
   ·exact zW1 h3 h
   ·exact zaJ h7 h
end
def zDL (l : List zC) (i : Nat) : List zC := l.take i ++ l.drop (i + 1)
theorem zY4 {l : List zC} {i : Int} (h0 : 0 ≤ i) (h1 : i < (l.length : Int)) (hl : l.length ≤ 1000000) : VB l i (w64 (i + 1)) = some (zDL l i.toNat) := by
 rw [Qh (by omega) (by omega)]
 unfold VB
 have c1 : cut l i (i + 1) = some ((l.take (i + 1).toNat).drop i.toNat) := if_pos ⟨h0, by omega, by omega⟩
 have c2 : pre l i = some (l.take i.toNat) := if_pos ⟨h0, by omega⟩
 have c3 : cut l (i + 1) (l.length : Int) = some (l.drop (i.toNat + 1)) := by
  unfold cut
  rw [if_pos ⟨by omega, by omega, by omega⟩, Int.toNat_natCast, List.take_length, show (i + 1).toNat = i.toNat + 1 by omega]
 have c4 : leO i (i + 1) = some () := if_pos (by omega)
 rw [c1, Option.bind_some, if_neg (by simp; omega), c2, Option.bind_some, c3, Option.bind_some, c4, Option.bind_some]
 have hs := zN9 c2 c3 (by omega)
 have c5 : cut (shf (l.take i.toNat) (l.drop (i.toNat + 1)) l) ((l.take i.toNat ++ l.drop (i.toNat + 1)).length : Int) (l.length : Int) = some (((shf (l.take i.toNat) (l.drop (i.toNat + 1)) l).take (l.length : Int).toNat).drop ((l.take i.toNat ++ l.drop (i.toNat + 1)).length : Int).toNat) := if_pos ⟨by omega, by simp; omega, by rw [hs]; omega⟩
 rw [c5]; rfl
theorem zTa {l : List zC} {i : Nat} {x : zC} (h : x ∈ zDL l i) : x ∈ l := by
 rcases List.mem_append.1 h with h | h
 ·exact List.mem_of_mem_take h
 ·exact List.mem_of_mem_drop h
theorem zWz {pre suf : List zC} {x : zC} : zDL (pre ++ x :: suf) pre.length = pre ++ suf := by
 unfold zDL
 rw [List.take_left, show pre ++ x :: suf = (pre ++ [x]) ++ suf by simp, show pre.length + 1 = (pre ++ [x]).length by simp, List.drop_left]
theorem zPF {l : List zC} {i : Nat} (h : i < l.length) : ∃ pre x suf, l = pre ++ x :: suf ∧ pre.length = i := by
 refine ⟨l.take i, l[i], l.drop (i + 1), ?_, by simp; omega⟩
 rw [← List.drop_eq_getElem_cons h, List.take_append_drop]
theorem zJR (l m : List zC) : Ja (l ++ m) = Ja l + Ja m := by
 induction l with
 | nil => rw [zJP]; simp
 | cons x l ih => rw [List.cons_append, Jw, Jw, ih]; omega
theorem zRc {p q : QB} (hu : p.Unit = q.Unit) (ht : p.Tools = q.Tools) : ∀ (k : Nat) (l : List zC) (d : Int), Ja l ≤ k → zDy p d l → zDy q d l
 | k, l, d, hk, h => by
  rw [zJu] at h ⊢
  intro x hx
  have h1 := (zAw p d x).1 (h x hx)
  have hs := zCe hx
  have he := VA x
  rw [zAw]
  refine ⟨?_, ?_⟩
  ·have : zIp q x d = zIp p x d := by unfold zIp; rw [hu, ht]
   rw [this]; exact h1.1
  ·cases k with
   | zero => omega
   | succ k => exact zRc hu ht k x.Steps (d + 1) (by omega) h1.2
def zGr (p : QB) (i : Nat) : QB := ⟨p.Unit, p.Tools, zDL p.Steps i⟩
theorem zaF {N : Nat} {p : QB} (h : WS N p) {i : Nat} (hi : i < p.Steps.length) : WS N (zGr p i) := by
 obtain ⟨pre, x, suf, he, hp⟩ := zPF hi
 refine ⟨h.unit, h.few, h.tools, h.ord, ?_, ?_⟩
 ·show zBo (zDL p.Steps i) ≤ 3000
  have h1 := h.cnt
  have h2 := zMF x
  rw [he, zNp, zBe] at h1
  rw [he, ← hp, zWz, zNp]; omega
 ·refine zRc (p := p) (q := zGr p i) rfl rfl _ _ _ (Nat.le_refl _) ?_
  rw [zJu]
  exact fun y hy => (zJu p 0 p.Steps).1 h.steps y (zTa hy)
theorem zaG {N : Nat} {p : QB} (h : Fu p N) {i : Nat} (hi : i < p.Steps.length) : Fu (zGr p i) N := by
 obtain ⟨pre, x, suf, he, hp⟩ := zPF hi
 unfold Fu at h ⊢
 have : Ja (zGr p i).Steps ≤ Ja p.Steps := by
  show Ja (zDL p.Steps i) ≤ _
  rw [he, ← hp, zWz, zJR, zJR, Jw]; omega
 have e : (zGr p i).Tools = p.Tools := rfl
 rw [e]; omega
theorem zYw {p : QB} (h : zHj p) {i : Nat} : zHj (zGr p i) := by
 refine ⟨h.unit, h.tools, ?_, zOD fun x hx => zJW h.steps (zTa hx)⟩
 have := h.sl
 show (zDL p.Steps i).length ≤ _
 unfold zDL; simp; omega
def lastB (x : zC) (k : VK) : Bool := (((((((k.placed && (QQ k.place x.At)) && (k.last.Kind != 0)) && (QQ k.last.At x.At)) && (!sEq k.tool ByteArray.empty)) && (sEq k.last.Name k.tool)) && (k.dark != 0)) && (k.last.NX == k.dark))
def zC0 (x : zC) (k : VK) (rest : List zC) : Bool :=
 if x.Kind = 1 ∨ x.Kind = 2 then (x.Kind == k.dark) || scan isL isD rest else if x.Kind = 3 then sEq x.Name k.tool || scan (fun k => k == 3) zTl rest else if x.Kind = 4 then scan isP isQ rest else if x.Kind = 6 then lastB x k else false
theorem zTY (x : zC) (k : VK) (rest : List zC) : zBB x k rest = some (zC0 x k rest) := by
 have hd : ∀ n, zEL n = some (isD n) := fun _ => rfl
 have hj : Kl x k rest true = some ((x.Kind == k.dark) || scan isL isD rest) := by
  unfold Kl
  rw [if_pos rfl, zO9, Option.bind_some, hd, Option.bind_some, zjy]
  cases (x.Kind == k.dark) <;> rfl
 have hj2 : Kl x k rest false = some (if x.Kind = 3 then sEq x.Name k.tool || scan (fun k => k == 3) zTl rest else if x.Kind = 4 then scan isP isQ rest else if x.Kind = 6 then lastB x k else false) := by
  unfold Kl
  rw [if_neg (by simp)]
  by_cases h3 : x.Kind = 3
  ·rw [if_pos (by simp [h3]), if_pos h3, zO9, Option.bind_some, hd, Option.bind_some, zjw]
   cases sEq x.Name k.tool <;> rfl
  rw [if_neg (by simpa using h3), if_neg h3]
  by_cases h4 : x.Kind = 4
  ·rw [if_pos (by simp [h4]), if_pos h4, zO9, Option.bind_some, zjx]
  rw [if_neg (by simpa using h4), if_neg h4]
  by_cases h6 : x.Kind = 6
  ·rw [if_pos (by simp [h6]), if_pos h6]; rfl
  rw [if_neg (by simpa using h6), if_neg h6]
 unfold zBB zC0
 by_cases h1 : x.Kind = 1
 ·rw [if_pos (by simp [h1]), if_pos (.inl h1), show (x.Kind == 1) = true by simp [h1], hj]
 rw [if_neg (by simpa using h1)]
 by_cases h2 : x.Kind = 2
 ·rw [if_pos (.inr h2), show (x.Kind == 2) = true by simp [h2], hj]
 rw [show (x.Kind == 2) = false by simpa using h2, hj2, if_neg (show ¬ (x.Kind = 1 ∨ x.Kind = 2) by omega)]
def zVC : zC := ⟨0, ⟨#[]⟩, ⟨0, 0⟩, [], 0, 0, []⟩
def zEx (k : VK) (x : zC) : VK :=
 if x.Kind = 1 ∨ x.Kind = 2 then { k with dark := x.Kind } else if x.Kind = 3 then { k with tool := x.Name } else if x.Kind = 4 then { k with place := x.At, placed := true }
 else if x.Kind = 5 ∨ x.Kind = 6 then { k with place := x.At, placed := true, last := ⟨x.Kind, k.tool, x.At, [], k.dark, 0, []⟩ } else if x.Kind = 7 then { k with last := zVC } else if x.Kind = 8 then ⟨0, ⟨#[]⟩, ⟨0, 0⟩, false, zVC⟩ else k
theorem zer (x : zC) : zC.mk x.Kind x.Name (zJ.mk x.At.X x.At.Y) x.Points x.NX x.NY x.Steps = x := by cases x; rfl
theorem zY8 (k : VK) (x : zC) : WI k x = some (zEx k x) := by
 obtain ⟨kd, kt, kp, kl, ⟨a, b, c, d, e, f, g⟩⟩ := k
 unfold WI zEx
 by_cases h1 : x.Kind = 1
 ·rw [if_pos (by simp [h1]), if_pos (.inl h1)]
  unfold KW
  rw [if_pos (by simp [h1])]; rfl
 rw [if_neg (by simpa using h1)]
 unfold KW
 by_cases h2 : x.Kind = 2
 ·rw [if_pos (by simp [h2]), if_pos (.inr h2)]; rfl
 rw [if_neg (by simpa using h2), if_neg (show ¬ (x.Kind = 1 ∨ x.Kind = 2) by omega)]
 by_cases h3 : x.Kind = 3
 ·rw [if_pos (by simp [h3]), if_pos h3]; rfl
 rw [if_neg (by simpa using h3), if_neg h3]
 by_cases h4 : x.Kind = 4
 ·rw [if_pos (by simp [h4]), if_pos h4]; rfl
 rw [if_neg (by simpa using h4), if_neg h4]
 by_cases h5 : x.Kind = 5
 ·rw [if_pos (by simp [h5]), if_pos (.inl h5)]
  unfold KX
  rw [if_pos (by simp [h5])]; rfl
 rw [if_neg (by simpa using h5)]
 unfold KX
 by_cases h6 : x.Kind = 6
 ·rw [if_pos (by simp [h6]), if_pos (.inr h6)]; rfl
 rw [if_neg (by simpa using h6), if_neg (show ¬ (x.Kind = 5 ∨ x.Kind = 6) by omega)]
 by_cases h7 : x.Kind = 7
 ·rw [if_pos (by simp [h7]), if_pos h7]; rfl
 rw [if_neg (by simpa using h7), if_neg h7]
 by_cases h8 : x.Kind = 8
 ·rw [if_pos (by simp [h8]), if_pos h8]; rfl
 rw [if_neg (by simpa using h8), if_neg h8]; rfl
def zAo : List zC → VK → Nat → Int
 | [], _, _ => -1
 | x :: l, k, i => if zC0 x k l then (i : Int) else zAo l (zEx k x) (i + 1)
def zLl : VK := ⟨1, ⟨#[]⟩, ⟨0, 0⟩, false, zVC⟩
theorem zOj {l : List zC} (hl : l.length ≤ 1000000) : zEI l = some (zAo l zLl 0) := by
 have key : ∀ (suf pre : List zC) (k : VK), l = pre ++ suf → Vi l suf pre.length k.dark k.tool k.place.X k.place.Y k.placed k.last.Kind k.last.Name k.last.At.X k.last.At.Y k.last.Points k.last.NX k.last.NY k.last.Steps = some (zAo suf k pre.length) := by
  intro suf
  induction suf with
  | nil => intro pre k _; rfl
  | cons x suf ih =>
   intro pre k he
   have hlen : l.length = pre.length + (suf.length + 1) := by rw [he]; simp
   have c3 : cut l (w64 ((pre.length : Int) + 1)) (l.length : Int) = some suf := by
    rw [Qh (by omega) (by omega)]
    unfold cut
    rw [if_pos ⟨by omega, by omega, by omega⟩, Int.toNat_natCast, List.take_length, show ((pre.length : Int) + 1).toNat = pre.length + 1 by omega, he, show pre ++ x :: suf = (pre ++ [x]) ++ suf by simp, show pre.length + 1 = (pre ++ [x]).length by simp, List.drop_left]
   rw [Vi, c3, Option.bind_some]
   have hn : zBB x (VK.mk k.dark k.tool (zJ.mk k.place.X k.place.Y) k.placed (zC.mk k.last.Kind k.last.Name (zJ.mk k.last.At.X k.last.At.Y) k.last.Points k.last.NX k.last.NY k.last.Steps)) suf = some (zC0 x k suf) := by rw [zer]; exact zTY x k suf
   have hb : WI (VK.mk k.dark k.tool (zJ.mk k.place.X k.place.Y) k.placed (zC.mk k.last.Kind k.last.Name (zJ.mk k.last.At.X k.last.At.Y) k.last.Points k.last.NX k.last.NY k.last.Steps)) x = some (zEx k x) := by rw [zer]; exact zY8 k x
   rw [hn, Option.bind_some, zAo]
   cases zC0 x k suf
   ·rw [if_neg (by simp), if_neg (by simp), hb, Option.bind_some]
    have := ih (pre ++ [x]) (zEx k x) (by rw [he]; simp)
    rw [show (pre ++ [x]).length = pre.length + 1 by simp] at this
    exact this
   ·rw [if_pos rfl, if_pos rfl]
 exact key l [] zLl rfl
def swN (TT : List (List zQ)) (n : Int) (p q : zJ) : List Bd := zCz ((TT.getD n.toNat []).map (swR (min p.X q.X) (max p.X q.X) (min p.Y q.Y) (max p.Y q.Y)))
structure KOk (p : QB) (TT : List (List zQ)) (k : VK) (s : MS) : Prop where
 dark : k.dark = 0 ∨ ((k.dark = 1 ∨ k.dark = 2) ∧ s.clear = (k.dark == 2))
 tool : k.tool = ByteArray.empty ∨ s.tool = zD2 k.tool p.Tools
 place : k.placed = true → s.placed = true ∧ s.place = atM p.Unit k.place ⟨0, 0⟩
 last : k.last.Kind ≠ 0 → k.last.Name ≠ ByteArray.empty → k.last.NX ≠ 0 → ∀ x y, InB x y (swN TT (zD2 k.last.Name p.Tools) (atM p.Unit k.last.At ⟨0, 0⟩) (atM p.Unit k.last.At ⟨0, 0⟩)) → ((k.last.NX == 2) = true → ¬ InB x y s.img) ∧ ((k.last.NX == 2) = false → InB x y s.img)
theorem zJn {s : MS} {S : List Bd} (h : (zL6 s S).1 = 0) : (zL6 s S).2 = { s with img := cmb s.clear s.img S } := by
 unfold zL6 at h ⊢
 unfold drw at h ⊢
 by_cases hl : (Qm S).all lim = true
 ·rw [if_pos hl] at h ⊢
  by_cases hm : 2000 < (Qm (cmb s.clear s.img S)).length
  ·rw [if_pos hm] at h; cases h
  ·rw [if_neg hm]
 ·rw [if_neg hl] at h; cases h
theorem zUO {TT : List (List zQ)} {s : MS} {q : zJ} (h : (zBc TT s q).1 = 0) : ∃ o, (zBc TT s q).2 = { s with img := cmb s.clear s.img (swN TT s.tool q q), place := q, placed := true, off := o } := by
 unfold zBc at h ⊢
 by_cases h0 : s.tool < 0
 ·rw [if_pos h0] at h; cases h
 rw [if_neg h0] at h ⊢
 by_cases h1 : (zAp s q).1 = 0
 ·rw [if_pos h1] at h ⊢
  rw [zJn h]
  unfold zAp at h1 ⊢
  cases hp : ptB q
  ·rw [hp] at h1; cases h1
  ·exact ⟨_, rfl⟩
 ·rw [if_neg h1] at h; exact absurd h h1
theorem zPE {TT : List (List zQ)} {s : MS} {q : zJ} (h : (zDl TT s q).1 = 0) : ∃ o, (zDl TT s q).2 = { s with img := cmb s.clear s.img (swN TT s.tool s.place q), place := q, placed := true, on := o } := by
 unfold zDl at h ⊢
 by_cases h0 : s.tool < 0 ∨ s.placed = false
 ·rw [if_pos h0] at h; cases h
 rw [if_neg h0] at h ⊢
 by_cases h2 : q.X ≠ s.place.X ∧ q.Y ≠ s.place.Y
 ·rw [if_pos h2] at h; cases h
 rw [if_neg h2] at h ⊢
 by_cases h1 : (zFc s q).1 = 0
 ·rw [if_pos h1] at h ⊢
  rw [zJn h]
  unfold zFc at h1 ⊢
  cases hp : ptB q
  ·rw [hp] at h1; cases h1
  ·exact ⟨_, rfl⟩
 ·rw [if_neg h1] at h; exact absurd h h1
theorem zWX {s : MS} {row : List zJ} (h : (zFg s row).1 = 0) : ∃ I, (zFg s row).2 = { s with img := I } := by
 unfold zFg at h ⊢
 by_cases h1 : 2000 < (Qm (arB row)).length
 ·rw [if_pos h1] at h; cases h
 rw [if_neg h1] at h ⊢
 by_cases h2 : (row.any fun q => !ptB q) = true
 ·rw [if_pos h2] at h; cases h
 rw [if_neg h2] at h ⊢
 exact ⟨_, zJn h⟩
theorem zQm {s : MS} {q : zJ} (h : (zAp s q).1 = 0) : ∃ o, (zAp s q).2 = { s with place := q, placed := true, off := o } := by
 unfold zAp at h ⊢
 cases hp : ptB q
 ·rw [hp] at h; cases h
 ·exact ⟨_, rfl⟩
theorem zWh {TT : List (List zQ)} (hT : ∀ T ∈ TT, zEj T) (n : Nat) : zEj (TT.getD n []) := by
 rw [List.getD_eq_getElem?_getD]
 cases h : TT[n]? with
 | none => exact ⟨by simp, fun r hr => by simp at hr, fun r hr => by simp at hr⟩
 | some T => exact hT T (List.mem_of_getElem? h)
theorem zc9 {TT : List (List zQ)} (hT : ∀ T ∈ TT, zEj T) {n : Int} {a q : zJ} {x y : Int} (h : InB x y (swN TT n q q)) : InB x y (swN TT n a q) := by
 have hk := zWh hT n.toNat
 unfold swN at h ⊢
 rw [(zGl (zTB (by omega) (by omega) hk.ne)).2, zWe (by omega) (by omega) hk.ne] at h ⊢
 obtain ⟨u, v, h1, h2, h3⟩ := h
 exact ⟨u, v, h1, by omega, by omega⟩
theorem zdA {TT : List (List zQ)} (hT : ∀ T ∈ TT, zEj T) {n : Int} {a q : zJ} : zMR (swN TT n a q) := by
 have hk := zWh hT n.toNat
 exact zTG (by rw [List.length_map]; exact hk.few) (zTB (by omega) (by omega) hk.ne)
section
variable {p : QB} {TT : List (List zQ)} (hT : ∀ T ∈ TT, zEj T)
include hT
theorem zW9 {k : VK} {s : MS} (hK : KOk p TT k s) (hi : zC6 TT s) {a q : zJ} (h1 : k.tool ≠ ByteArray.empty) (h2 : k.dark ≠ 0) {x y : Int} (hx : InB x y (swN TT (zD2 k.tool p.Tools) q q)) :
  ((k.dark == 2) = true → ¬ InB x y (cmb s.clear s.img (swN TT s.tool a q))) ∧ ((k.dark == 2) = false → InB x y (cmb s.clear s.img (swN TT s.tool a q))) := by
 have ht := hK.tool.resolve_left h1
 have hc := (hK.dark.resolve_left h2).2
 obtain ⟨_, _, c3, _⟩ := zWT (c := s.clear) hi.img.drw (zdA hT (n := s.tool) (a := a) (q := q)) (Nat.le_refl _)
 have hx' : InB x y (swN TT s.tool a q) := by rw [ht]; exact zc9 hT hx
 rw [c3, ← hc]
 unfold zWf
 exact ⟨fun h => by rw [if_pos h]; exact fun h' => h'.2 hx', fun h => by rw [if_neg (by simp [h])]; exact .inr hx'⟩
omit hT in
theorem zcW {k : VK} {s : MS} (hK : KOk p TT k s) (hi : zC6 TT s) {x : zC} (hb : lastB x k = true) : cmb s.clear s.img (swN TT s.tool (atM p.Unit x.At ⟨0, 0⟩) (atM p.Unit x.At ⟨0, 0⟩)) = s.img ∧ s.place = atM p.Unit x.At ⟨0, 0⟩ ∧ s.placed = true := by
 unfold lastB at hb
 simp only [Bool.and_eq_true, zFp, bne_iff_ne, zEn, Bool.not_eq_true', beq_iff_eq] at hb
 obtain ⟨⟨⟨⟨⟨⟨⟨b1, b2⟩, b3⟩, b4⟩, b5⟩, b6⟩, b7⟩, b8⟩ := hb
 have b5' : k.tool ≠ ByteArray.empty := fun e => by rw [e, zTK] at b5; cases b5
 have ht := hK.tool.resolve_left b5'
 have hc := (hK.dark.resolve_left b7).2
 obtain ⟨p1, p2⟩ := hK.place b1
 rw [b2] at p2
 have hl := hK.last b3 (by rw [b6]; exact b5') (by rw [b8]; exact b7)
 rw [b6, b4, b8] at hl
 refine ⟨zWU hi.img.ok fun x y => ?_, p2, p1⟩
 unfold zWf
 by_cases h2 : (k.dark == 2) = true
 ·rw [hc, if_pos h2, ht]
  exact ⟨fun h => ⟨h, fun h' => (hl x y h').1 h2 h⟩, fun h => h.1⟩
 ·rw [hc, if_neg h2, ht]
  exact ⟨.inl, fun h => h.elim id fun h' => (hl x y h').2 (by simpa using h2)⟩
theorem zSf {k : VK} {s : MS} (hK : KOk p TT k s) (hi : zC6 TT s) {x : zC} {d : Int} (hx : zHG p x d) (h0 : (Wz p TT x ⟨0, 0⟩ s).1 = 0) : KOk p TT (zEx k x) (Wz p TT x ⟨0, 0⟩ s).2 := by
 have hk := hx.kind
 unfold zEx
 by_cases h8 : x.Kind = 8
 ·rw [if_neg (show ¬ (x.Kind = 1 ∨ x.Kind = 2) by omega), if_neg (show ¬ x.Kind = 3 by omega), if_neg (show ¬ x.Kind = 4 by omega), if_neg (show ¬ (x.Kind = 5 ∨ x.Kind = 6) by omega), if_neg (show ¬ x.Kind = 7 by omega), if_pos h8]
  exact ⟨.inl rfl, .inl rfl, fun h => (by cases h), fun h => absurd rfl h⟩
 rw [Vy _ h8] at h0 ⊢
 unfold zAH at h0 ⊢
 by_cases h12 : x.Kind = 1 ∨ x.Kind = 2
 ·rw [if_pos h12, if_pos h12]
  exact ⟨.inr ⟨h12, rfl⟩, hK.tool, hK.place, hK.last⟩
 rw [if_neg h12] at h0
 rw [if_neg h12, if_neg h12]
 by_cases h3 : x.Kind = 3
 ·rw [if_pos h3, if_pos h3]
  exact ⟨hK.dark, .inr rfl, hK.place, hK.last⟩
 rw [if_neg h3] at h0
 rw [if_neg h3, if_neg h3]
 by_cases h4 : x.Kind = 4
 ·rw [if_pos h4] at h0
  rw [if_pos h4, if_pos h4]
  obtain ⟨o, e⟩ := zQm h0
  rw [e]
  exact ⟨hK.dark, hK.tool, fun _ => ⟨rfl, rfl⟩, hK.last⟩
 rw [if_neg h4] at h0
 rw [if_neg h4, if_neg h4]
 by_cases h5 : x.Kind = 5
 ·rw [if_pos h5] at h0
  rw [if_pos (show x.Kind = 5 ∨ x.Kind = 6 from .inl h5), if_pos h5]
  obtain ⟨o, e⟩ := zUO h0
  rw [e]
  exact ⟨hK.dark, hK.tool, fun _ => ⟨rfl, rfl⟩, fun _ a1 a2 x y hxy => zW9 hT hK hi a1 a2 hxy⟩
 rw [if_neg h5] at h0
 by_cases h6 : x.Kind = 6
 ·rw [if_pos h6] at h0
  rw [if_pos (show x.Kind = 5 ∨ x.Kind = 6 from .inr h6), if_neg h5, if_pos h6]
  obtain ⟨o, e⟩ := zPE h0
  rw [e]
  exact ⟨hK.dark, hK.tool, fun _ => ⟨rfl, rfl⟩, fun _ a1 a2 x y hxy => zW9 hT hK hi a1 a2 hxy⟩
 rw [if_neg h6] at h0
 have h7 : x.Kind = 7 := by omega
 rw [if_pos h7] at h0
 rw [if_neg (show ¬ (x.Kind = 5 ∨ x.Kind = 6) by omega), if_pos h7, if_neg h5, if_neg h6, if_pos h7]
 obtain ⟨I, e⟩ := zWX h0
 rw [e]
 exact ⟨hK.dark, hK.tool, hK.place, fun h => absurd rfl h⟩
omit hT in
theorem zRz (hne : ∀ t ∈ p.Tools, t.Name ≠ ByteArray.empty) {k : VK} {s : MS} (hK : KOk p TT k s) (hi : zC6 TT s) {x : zC} {l : List zC} {d : Int} (hv : zDy p d (x :: l)) (hn : zC0 x k l = true) (h0 : (Wz p TT x ⟨0, 0⟩ s).1 = 0) : zSk (zAA p TT l ⟨0, 0⟩ (Wz p TT x ⟨0, 0⟩ s).2) (zAA p TT l ⟨0, 0⟩ s) := by
 rw [WC, zAw] at hv
 have hx := zA4.1 hv.1.1
 have hrun : ∀ z, zGR False False False z s → zSk (zAA p TT l ⟨0, 0⟩ z) (zAA p TT l ⟨0, 0⟩ s) := fun z h => (zJ5 _ l d _ z s (Nat.le_refl _) hv.2 h).img
 unfold zC0 at hn
 by_cases h12 : x.Kind = 1 ∨ x.Kind = 2
 ·rw [if_pos h12, Bool.or_eq_true, beq_iff_eq] at hn
  rw [Vy _ (by omega)]
  unfold zAH
  rw [if_pos h12]
  rcases hn with h | h
  ·refine hrun _ ⟨rfl, .inr ?_, .inr rfl, .inr ⟨rfl, rfl⟩⟩
   have := (hK.dark.resolve_left (by omega)).2
   rw [this, h]
  ·exact zTJ l _ _ hv.2 h ⟨rfl, .inl trivial, .inr rfl, .inr ⟨rfl, rfl⟩⟩
 rw [if_neg h12] at hn
 by_cases h3 : x.Kind = 3
 ·rw [if_pos h3, Bool.or_eq_true, zEn] at hn
  rw [Vy _ (by omega)]
  unfold zAH
  rw [if_neg h12, if_pos h3]
  rcases hn with h | h
  ·refine hrun _ ⟨rfl, .inr rfl, .inr ?_, .inr ⟨rfl, rfl⟩⟩
   have h4 : k.tool ≠ ByteArray.empty := fun e => by
    have ht := hx.tool h3
    rw [h, e] at ht
    obtain ⟨t, t1, t2⟩ := zMh (show ¬ zD2 ByteArray.empty p.Tools < 0 by omega)
    exact hne t t1 t2
   have := hK.tool.resolve_left h4
   rw [this, h]
  ·exact zTH l _ _ hv.2 h ⟨rfl, .inr rfl, .inl trivial, .inr ⟨rfl, rfl⟩⟩
 rw [if_neg h3] at hn
 by_cases h4 : x.Kind = 4
 ·rw [if_pos h4] at hn
  rw [Vy _ (by omega)] at h0 ⊢
  unfold zAH at h0 ⊢
  rw [if_neg h12, if_neg h3, if_pos h4] at h0 ⊢
  obtain ⟨o, e⟩ := zQm h0
  rw [e]
  exact zTI l _ _ hv.2 hn ⟨rfl, .inr rfl, .inr rfl, .inl trivial⟩
 rw [if_neg h4] at hn
 by_cases h6 : x.Kind = 6
 ·rw [if_pos h6] at hn
  obtain ⟨a1, a2, a3⟩ := zcW hK hi hn
  rw [Vy _ (by omega)] at h0 ⊢
  unfold zAH at h0 ⊢
  rw [if_neg h12, if_neg h3, if_neg h4, if_neg (show ¬ x.Kind = 5 by omega), if_pos h6] at h0 ⊢
  obtain ⟨o, e⟩ := zPE h0
  rw [e]
  refine hrun _ ⟨?_, .inr rfl, .inr rfl, .inr ⟨a2.symm, a3.symm⟩⟩
  show cmb s.clear s.img (swN TT s.tool s.place (atM p.Unit x.At ⟨0, 0⟩)) = s.img
  rw [a2]; exact a1
 ·rw [if_neg h6] at hn; cases hn
theorem zaX (hl : TT.length = p.Tools.length) (hu : 1 ≤ p.Unit) {s : MS} (hi : zC6 TT s) {x : zC} (hv : zDy p 0 [x]) (h0 : (Wz p TT x ⟨0, 0⟩ s).1 = 0) : zC6 TT (Wz p TT x ⟨0, 0⟩ s).2 := by
 have h := (zVL hT hl hu 5 0 10000000006 [x] ⟨0, 0⟩ s (by omega) (by omega) (by omega) hv (by unfold zFx; simp) hi).2
 rw [Vz, if_pos h0, WQ] at h
 exact h rfl
theorem zNX (hl : TT.length = p.Tools.length) (hu : 1 ≤ p.Unit) (hne : ∀ t ∈ p.Tools, t.Name ≠ ByteArray.empty) : ∀ (l : List zC) (k : VK) (s : MS) (i : Nat), zDy p 0 l → KOk p TT k s → zC6 TT s →
  zAo l k i = -1 ∨ ∃ j, zAo l k i = ((i + j : Nat) : Int) ∧ j < l.length ∧ ((zAA p TT l ⟨0, 0⟩ s).1 = 0 → zSk (zAA p TT l ⟨0, 0⟩ s) (zAA p TT (zDL l j) ⟨0, 0⟩ s))
 | [], k, s, i, _, _, _ => .inl rfl
 | x :: l, k, s, i, hv, hK, hi => by
  rw [zAo]
  have hv' := (WC p 0 x l).1 hv
  have hx := zA4.1 ((zAw p 0 x).1 hv'.1).1
  have hcode : (zAA p TT (x :: l) ⟨0, 0⟩ s).1 = 0 → (Wz p TT x ⟨0, 0⟩ s).1 = 0 := fun h => by
   rw [Vz] at h
   by_cases h0 : (Wz p TT x ⟨0, 0⟩ s).1 = 0
   ·exact h0
   ·rw [if_neg h0] at h; exact h
  by_cases hn : zC0 x k l = true
  ·rw [if_pos hn]
   refine .inr ⟨0, by simp, by simp, fun h => ?_⟩
   have h0 := hcode h
   have := zRz hne hK hi hv hn h0
   rw [Vz, if_pos h0]
   exact this
  ·rw [if_neg hn]
   by_cases h0 : (Wz p TT x ⟨0, 0⟩ s).1 = 0
   ·have hi' := zaX hT hl hu hi ((WC p 0 x []).2 ⟨hv'.1, zJt p 0⟩) h0
    rcases zNX hl hu hne l (zEx k x) _ (i + 1) hv'.2 (zSf hT hK hi hx h0) hi' with h | ⟨j, h1, h2, h3⟩
    ·exact .inl h
    ·refine .inr ⟨j + 1, by rw [h1]; omega, by simp; omega, fun h => ?_⟩
     have e : zDL (x :: l) (j + 1) = x :: zDL l j := rfl
     rw [e]
     rw [Vz, if_pos h0] at h
     rw [Vz, if_pos h0, Vz, if_pos h0]
     exact h3 h
   ·have hany : ∀ (l : List zC) (k : VK) (i : Nat), zAo l k i = -1 ∨ ∃ j, zAo l k i = ((i + j : Nat) : Int) ∧ j < l.length := by
     intro l
     induction l with
     | nil => intro k i; exact .inl rfl
     | cons y l ih =>
      intro k i
      rw [zAo]
      by_cases hy : zC0 y k l = true
      ·rw [if_pos hy]; exact .inr ⟨0, by simp, by simp⟩
      ·rw [if_neg hy]
       rcases ih (zEx k y) (i + 1) with h | ⟨j, h1, h2⟩
       ·exact .inl h
       ·exact .inr ⟨j + 1, by rw [h1]; omega, by simp; omega⟩
    rcases hany l (zEx k x) (i + 1) with h | ⟨j, h1, h2⟩
    ·exact .inl h
    ·exact .inr ⟨j + 1, by rw [h1]; omega, by simp; omega, fun h => absurd (hcode h) h0⟩
end
theorem zVc (p : QB) (TT : List (List zQ)) : KOk p TT zLl zD7 := ⟨.inr ⟨.inl rfl, rfl⟩, .inl rfl, fun h => (by cases h), fun h => absurd rfl h⟩
theorem zfW (q : zJ) : VY q = some q := rfl
theorem zRT {y : zJ} : ∀ (suf pre : List zJ), QY y suf pre.length (pre ++ suf) = some (y.X, y.Y, pre ++ suf)
 | [], pre => by rw [QY]
 | q :: l, pre => by
  rw [QY, KO, Option.bind_some, zfW, Option.bind_some, Option.bind_some, zJT, Option.bind_some]
  have := zRT (y := y) l (pre ++ [q])
  rw [show (pre ++ [q]).length = pre.length + 1 by simp, ← zGB] at this
  exact this
theorem zm2 (x : zC) : JZ x = some (x.At.X, x.At.Y, x.Points) := by
 unfold JZ
 rw [zfW, Option.bind_some]
 exact zRT x.Points []
theorem zRU {rec : List zC → Option (List zC)} {l0 : List zC} : ∀ (suf pre : List zC) (m : Nat), (pre ++ suf).length = l0.length → l0.length ≤ 4000 →
  (∀ x ∈ suf, x.Points.length ≤ 2000 ∧ rec x.Steps = some x.Steps) → suf.length < m →
  QX rec l0 m (pre ++ suf) (pre.length : Int) = some (pre ++ suf)
 | [], pre, m, hl, h2, h, hm => by
  obtain ⟨m, rfl⟩ : ∃ k, m = k + 1 := ⟨m - 1, by omega⟩
  simp at hl
  rw [QX, if_neg (by simp; omega)]
 | x :: l, pre, m, hl, h2, h, hm => by
  obtain ⟨m, rfl⟩ : ∃ k, m = k + 1 := ⟨m - 1, by simp at hm; omega⟩
  simp at hm
  have hl' := hl
  simp at hl'
  obtain ⟨hx1, hx2⟩ := h x List.mem_cons_self
  have hcl : Ke x.Points = some x.Points := by
   unfold Ke
   rw [zWZ (by omega)]; rfl
  have hx : (⟨x.Kind, x.Name, x.At, x.Points, x.NX, x.NY, x.Steps⟩ : zC) = x := by cases x; rfl
  rw [QX, if_pos (by simp; omega), KO, Option.bind_some, hcl, Option.bind_some, Option.bind_some, Option.bind_some, hx2, Option.bind_some, Option.bind_some, Option.bind_some, zm2, Option.bind_some, set_mid]
  have ih := zRU (rec := rec) l (pre ++ [x]) m (by simpa using hl) h2 (fun y hy => h y (List.mem_cons_of_mem _ hy)) (by omega)
  rw [← zGB, ← zEl _ x (by omega)] at ih
  rw [show (zC.mk x.Kind x.Name (zJ.mk x.At.X x.At.Y) x.Points x.NX x.NY x.Steps) = x from hx]
  exact ih
theorem zSZ : ∀ (k : Nat) (l : List zC) (N : Nat), Ja l ≤ k → k + 5 ≤ N → zIv 40 l → zC1 l ≤ 3000 → JD N l = some l
 | k, l, N, hk, hN, hg, hn => by
  obtain ⟨N, rfl⟩ : ∃ n, N = n + 1 := ⟨N - 1, by omega⟩
  have hlen := zJQ l
  have hnl : l.length ≤ zC1 l := by
   clear hk hg hn hlen
   induction l with
   | nil => simp
   | cons x l ih => have := zMq x; rw [zH4, List.length_cons]; omega
  have hcl : WE l = some l := by
   unfold WE
   rw [zWZ (by omega)]; rfl
  show Qy N _ l = _
  unfold Qy
  rw [hcl, Option.bind_some]
  exact zRU l [] N rfl (by omega) (fun x hx => by
   have h1 := zCe hx
   have h2 := VA x
   have h3 := zNf hx
   have h4 := zMq x
   have h5 := (zUE 40 x).1 (zRL hg hx)
   cases k with
   | zero => omega
   | succ k => exact ⟨h5.1.1, zSZ k x.Steps N (by omega) (by omega) h5.2 (by omega)⟩) (by omega)
theorem zUT {l0 : List zZ} {j : Int} {t0 : zZ} (hj : ∃ t, idx l0 j = some t) {k : List zZ → Int → Option (List zZ)} : ∀ (suf pre : List zQ),
  QZ l0 j k t0 suf pre.length (pre ++ suf) = k (l0.set j.toNat ⟨t0.Name, pre ++ suf⟩) (w64 (j + 1))
 | [], pre => by rw [QZ]
 | r :: l, pre => by
  obtain ⟨t, ht⟩ := hj
  have hr : Wh r = some r := rfl
  rw [QZ, KO, Option.bind_some, ht, Option.bind_some, hr, Option.bind_some, Option.bind_some, zJT, Option.bind_some]
  have := zUT ⟨t, ht⟩ l (pre ++ [r]) (t0 := t0) (k := k)
  rw [show (pre ++ [r]).length = pre.length + 1 by simp, ← zGB] at this
  exact this
theorem zNn {l0 : List zZ} : ∀ (suf pre : List zZ) (m : Nat), (pre ++ suf).length = l0.length → l0.length ≤ 2000 → (∀ t ∈ suf, t.Rects.length ≤ 2000) → suf.length < m →
  QJ l0 m (pre ++ suf) (pre.length : Int) = some (pre ++ suf)
 | [], pre, m, hl, h2, h, hm => by
  obtain ⟨m, rfl⟩ : ∃ k, m = k + 1 := ⟨m - 1, by omega⟩
  simp at hl
  rw [QJ, if_neg (by simp; omega)]
 | t :: l, pre, m, hl, h2, h, hm => by
  obtain ⟨m, rfl⟩ : ∃ k, m = k + 1 := ⟨m - 1, by simp at hm; omega⟩
  simp at hm
  have hl' := hl
  simp at hl'
  have hcl : Jr t.Rects = some t.Rects := by
   unfold Jr
   rw [zWZ (by have := h t List.mem_cons_self; omega)]; rfl
  rw [QJ, if_pos (by simp; omega), KO, Option.bind_some, hcl, Option.bind_some, Option.bind_some, Option.bind_some]
  have hr := zUT (l0 := pre ++ t :: l) (j := (pre.length : Int)) (t0 := t) ⟨t, KO _ _ _⟩ (k := QJ l0 m) t.Rects []
  simp only [List.nil_append, List.length_nil] at hr
  have ih := zNn l (pre ++ [t]) m (by simpa using hl) h2 (fun x hx => h x (List.mem_cons_of_mem _ hx)) (by omega)
  rw [← zGB, ← zEl _ t (by omega)] at ih
  rw [hr, set_mid]
  exact ih
theorem zRR {l : List zZ} {N : Nat} (hl : l.length ≤ 2000) (h : ∀ t ∈ l, t.Rects.length ≤ 2000) (hN : 3000 ≤ N) : Je N l = some l := by
 unfold Je
 have hcl : Jo l = some l := by
  unfold Jo
  rw [zWZ (by omega)]; rfl
 rw [hcl, Option.bind_some]
 exact zNn l [] N rfl hl h (by omega)
theorem zaD {l : List zC} {i : Nat} (h : i < l.length) : (zDL l i).length + 1 = l.length := by
 unfold zDL; simp; omega
theorem zWO {N : Nat} (hN : 1 ≤ N) : WM N ByteArray.empty = some false := by
 obtain ⟨N, rfl⟩ : ∃ m, N = m + 1 := ⟨N - 1, by omega⟩
 rfl
theorem zZ7 {N : Nat} {p : QB} (hN : 1 ≤ N) (h : WS N p) : ∀ t ∈ p.Tools, t.Name ≠ ByteArray.empty := fun t ht e => by
 have := (h.tools t ht).1
 rw [e, zWO hN] at this; cases this
theorem zYj {N : Nat} (hN : 1 ≤ N) {p : QB} (hp : WS N p) (h0 : (zDN p).1 = 0) {r : Int} (hr : zAo p.Steps zLl 0 = r) (hne : r ≠ -1) : ∃ j : Nat, r = (j : Int) ∧ j < p.Steps.length ∧ WS N (zGr p j) ∧ (zDN (zGr p j)).1 = 0 ∧ (zDN (zGr p j)).2.img = (zDN p).2.img := by
 rcases zNX hp.zBv (by unfold zBv; simp) hp.unit.1 (zZ7 hN hp) p.Steps zLl zD7 0 hp.steps (zVc p _) (zTm _) with h | ⟨j, h1, h2, h3⟩
 ·exact absurd (hr.symm.trans h) hne
 ·have hk := zaF hp h2
  obtain ⟨e1, e2⟩ := h3 h0
  have key : ∀ (k : Nat) (l : List zC) (d : Int) (b : zJ) (s : MS), Ja l ≤ k → zAA (zGr p j) (zBv p) l b s = zAA p (zBv p) l b s := by
   intro k
   induction k with
   | zero =>
    intro l d b s hk
    cases l with
    | nil => rw [WQ, WQ]
    | cons x l => have := VA x; rw [Jw] at hk; omega
   | succ k ih =>
    intro l
    induction l with
    | nil => intro d b s _; rw [WQ, WQ]
    | cons x l ihl =>
     intro d b s hk
     have hs := VA x
     rw [Jw] at hk
     have he : Wz (zGr p j) (zBv p) x b s = Wz p (zBv p) x b s := by
      rw [zE7, zE7]
      by_cases h8 : x.Kind = 8
      ·rw [if_pos h8, if_pos h8]
       exact zFA fun a _ s => zFA fun i _ s => ih x.Steps d _ s (by omega)
      ·rw [if_neg h8, if_neg h8]; rfl
     rw [Vz, Vz, he]
     by_cases h : (Wz p (zBv p) x b s).1 = 0
     ·rw [if_pos h, if_pos h]; exact ihl d b _ (by omega)
     ·rw [if_neg h, if_neg h]
  have e : zDN (zGr p j) = zAA p (zBv p) (zDL p.Steps j) ⟨0, 0⟩ zD7 := key _ (zDL p.Steps j) 0 ⟨0, 0⟩ zD7 (Nat.le_refl _)
  refine ⟨j, by rw [← hr, h1, Nat.zero_add], h2, hk, ?_, ?_⟩
  ·rw [e, ← e1]; exact h0
  ·rw [e]; exact (e2 h0).symm
theorem zY5 {l : List zC} {j : Nat} (h1 : j < l.length) (hl : l.length ≤ 1000000) : VB l (j : Int) (w64 ((j : Int) + 1)) = some (zDL l j) := by
 have := zY4 (l := l) (i := (j : Int)) (by omega) (by omega) hl
 rw [Int.toNat_natCast] at this
 exact this
theorem zOu {N : Nat} (hN : 1 ≤ N) {p0 : QB} : ∀ (k : Nat) (p : QB) (m : Nat), p.Unit = p0.Unit → p.Tools = p0.Tools → p.Steps.length ≤ k → p.Steps.length ≤ 1000000 → p.Steps.length < m → WS N p → Fu p N → zHj p → (zDN p).1 = 0 →
  ∃ q, Vs p0 m p.Steps = some (q, 0) ∧ WS N q ∧ Fu q N ∧ zHj q ∧ (zDN q).1 = 0 ∧ (zDN q).2.img = (zDN p).2.img ∧ q.Steps.length ≤ p.Steps.length ∧ zAo q.Steps zLl 0 = -1 ∧ q.Tools = p0.Tools ∧ q.Unit = p0.Unit
 | k, p, m, hu, ht, hk, hl, hm, hp, hF, hL, h0 => by
  obtain ⟨m, rfl⟩ : ∃ n, m = n + 1 := ⟨m - 1, by omega⟩
  rw [Vs, zOj hl, Option.bind_some]
  by_cases hr : zAo p.Steps zLl 0 = -1
  ·rw [hr, if_pos (by decide)]
   refine ⟨p, ?_, hp, hF, hL, h0, rfl, Nat.le_refl _, hr, ht, hu⟩
   rw [← hu, ← ht]
  ·obtain ⟨j, j1, j2, j3, j4, j5⟩ := zYj hN hp h0 rfl hr
   have hlen := zaD j2
   rw [j1, if_neg (by simp), zY5 j2 hl, Option.bind_some]
   cases k with
   | zero => omega
   | succ k =>
    obtain ⟨q, q1, q2, q3, q4, q5, q6, q7, q8, q9, q10⟩ := zOu hN (p0 := p0) k (zGr p j) m hu ht (by show (zDL p.Steps j).length ≤ k; omega) (by show (zDL p.Steps j).length ≤ _; omega) (by show (zDL p.Steps j).length < m; omega) j3 (zaG hF j2) (zYw hL) j4
    refine ⟨q, q1, q2, q3, q4, q5, q6.trans j5, ?_, q8, q9, q10⟩
    have : (zGr p j).Steps.length = (zDL p.Steps j).length := rfl
    omega
theorem zZC {N : Nat} {p : QB} (hF : Fu p N) (hL : zHj p) (hp : WS N p) (h0 : (zDN p).1 = 0) : ∃ q, zAf N p = some (q, 0) ∧ WS N q ∧ Fu q N ∧ zHj q ∧ (zDN q).1 = 0 ∧ (zDN q).2.img = (zDN p).2.img ∧ q.Steps.length ≤ p.Steps.length ∧ zAo q.Steps zLl 0 = -1 := by
 have hN' := hF
 unfold Fu at hN'
 have hG := hp.zXN hF hL
 have hf := hG.few
 have hlen := (hp.good hF hL).2
 obtain ⟨q, q1, q2, q3, q4, q5, q6, q7, q8, _, _⟩ := zOu (N := N) (by omega) (p0 := p) _ p N rfl rfl (Nat.le_refl _) (by omega) (by omega) hp hF hL h0
 refine ⟨q, ?_, q2, q3, q4, q5, q6, q7, q8⟩
 unfold zAf
 rw [(zIV hF hL).2 hp, Option.bind_some, if_neg (by simp)]
 unfold WJ
 rw [zRR (by omega) (fun t ht => (hG.tools t ht).2) (by omega), Option.bind_some, zSZ _ p.Steps N (Nat.le_refl _) (by omega) hG.steps hG.nd, Option.bind_some, Option.bind_some]
 exact q1
theorem zUl {N : Nat} {q : QB} (hF : Fu q N) (hL : zHj q) (hq : WS N q) (hw : zAo q.Steps zLl 0 = -1) : zAf N q = some (q, 0) := by
 have hN' := hF
 unfold Fu at hN'
 have hG := hq.zXN hF hL
 have hf := hG.few
 have hlen := (hq.good hF hL).2
 obtain ⟨M, hM⟩ : ∃ m, N = m + 1 := ⟨N - 1, by omega⟩
 unfold zAf
 rw [(zIV hF hL).2 hq, Option.bind_some, if_neg (by simp)]
 unfold WJ
 rw [zRR (by omega) (fun t ht => (hG.tools t ht).2) (by omega), Option.bind_some, zSZ _ q.Steps N (Nat.le_refl _) (by omega) hG.steps hG.nd, Option.bind_some, Option.bind_some]
 show Vs q N q.Steps = _
 rw [hM, Vs, zOj (by omega), Option.bind_some, hw, if_pos (by decide)]
end Go.Proofs.YtoageaoknnnfbaaGreatDoor
