/- What a closed row goes around, as the program finds it. Plain Lean about the plain functions. Conditions: none beyond each theorem's own. The machine that draws plots: what it does, step by step, as a total function. Plain Lean about the plain functions. Conditions: none beyond each theorem's own. The machine that draws plots: the program's run is the total function's. Plain Lean about the plain functions. Conditions: none beyond each theorem's own. The machine that draws plots: images, needless steps. Plain Lean about the plain functions. Conditions: none beyond each theorem's own. Chapter 1: turns of points, the plain words of it. Plain Lean about the plain functions. Rectangles, turned: program and reference. Plain Lean about the plain functions. Sets: what the program tells of them. Plain Lean about the plain functions. Turned regions, and turns that go back: the program. Plain Lean about the plain functions. What is drawn, turned: rows of points, rectangles. Plain Lean about the plain functions. Conditions: none beyond each theorem's own. Machines that draw turned. Plain Lean about the plain functions. Conditions: none beyond each theorem's own. Plots without repeats: what the program and the reference write out. Plain. Conditions: none beyond each theorem's own. Plots without repeats: Flat of the program and of the reference. Plain. Conditions: none beyond each theorem's own. Plots without repeats draw the same. Plain Lean about the plain functions. Conditions: none beyond each theorem's own. Plots moved: what the program and the reference move. Plain. Conditions: none beyond each theorem's own. Plots moved and turned: they draw moved and turned. Plain Lean about the plain functions. Conditions: none beyond each theorem's own. Turns in machine numbers. Plain. Conditions: none beyond each theorem's own. Plots turned: what the program turns. Plain. Conditions: none beyond each theorem's own. Plots moved and turned: what the program answers. Plain. Conditions: none beyond each theorem's own. -/
import Derived.Test.YtneghcpnehiffaaGreatDoorJ3
import Derived.Test.YtneghcpnehiffaaGreatDoorXF
import Derived.Test.YtneghcpnehiffaaGreatDoorJ2
namespace Go.Proofs.YtneghcpnehiffaaGreatDoor
theorem zb9 (xs : List Int) (x : Int) : (stk xs x).length ≤ xs.length + 1 := by
 unfold stk
 split
 ·rw [List.length_dropLast]; omega
 ·simp
theorem zNB : ∀ (l xs : List Int), (l.foldl stk xs).length ≤ xs.length + l.length
 | [], xs => by simp
 | x :: l, xs => by
  have h1 := zb9 xs x
  have h2 := zNB l (stk xs x)
  rw [List.foldl_cons, List.length_cons]; omega
theorem zbF (l : List Int) : (zUB l).length ≤ l.length := by
 have := zNB l []
 unfold zUB
 simpa using this
theorem zJB {ys : List Int} {out : List zZ} {k : Nat} {K : List zZ → Int → Option (List zZ)} {a b : Int} (ha : idx ys (k : Int) = some a) (hb : idx ys (w64 ((k : Int) + 1)) = some b) : ∀ (suf : List zK) (i : Nat) (xs : List Int), xs.length + suf.length ≤ 1000000 →
  Jr ys out (k : Int) K suf i xs = (JZ out ⟨a, b, (zC9 suf a).foldl stk xs⟩).bind fun y => K y (w64 ((k : Int) + 1))
 | [], i, xs, _ => by
  rw [Jr, ha, Option.bind_some, hb, Option.bind_some]; rfl
 | s :: l, i, xs, h => by
  simp at h
  rw [Jr, ha, Option.bind_some]
  by_cases hc : s.Y0 ≤ a ∧ a < s.Y1
  ·have e1 : zC9 (s :: l) a = s.X0 :: zC9 l a := by
    unfold zC9
    rw [List.filter_cons, if_pos (by simpa using hc)]; rfl
   rw [if_neg (by simp <;> omega), Option.bind_some, Option.bind_some, if_neg (by simp <;> omega), e1, List.foldl_cons]
   rcases List.eq_nil_or_concat xs with hx | ⟨zs, z, hx⟩
   ·subst hx
    rw [if_neg (by simp), Option.bind_some, if_neg (by simp), zB0 (by simp), Option.bind_some, zJB ha hb l (i + 1) _ (by simp <;> omega)]
    rfl
   ·rw [List.concat_eq_append] at hx
    subst hx
    simp at h
    have hz : idx (zs ++ [z]) (w64 (((zs ++ [z]).length : Int) - 1)) = some z := by
     rw [QQ (by simp <;> omega) (by simp <;> omega), show ((zs ++ [z]).length : Int) - 1 = (zs.length : Int) by simp]
     exact KQ zs [] z
    rw [if_pos (by simp), hz, Option.bind_some, Option.bind_some]
    by_cases he : z = s.X0
    ·have hp : pre (zs ++ [z]) (w64 (((zs ++ [z]).length : Int) - 1)) = some zs := by
      rw [QQ (by simp <;> omega) (by simp <;> omega), show ((zs ++ [z]).length : Int) - 1 = (zs.length : Int) by simp]
      unfold pre
      rw [if_pos ⟨by omega, by simp <;> omega⟩]
      simp
     rw [if_pos (by simpa using he), hp, Option.bind_some, zJB ha hb l (i + 1) _ (by omega)]
     unfold stk
     rw [if_pos (by simp [he]), List.dropLast_concat]
    ·rw [if_neg (by simpa using he), zB0 (by simp <;> omega), Option.bind_some, zJB ha hb l (i + 1) _ (by simp <;> omega)]
     have : stk (zs ++ [z]) s.X0 = zs ++ [z] ++ [s.X0] := by unfold stk; rw [if_neg (by simp [he])]
     rw [this]
  ·have e1 : zC9 (s :: l) a = zC9 l a := by
    unfold zC9
    rw [List.filter_cons, if_neg (by simpa using hc)]
   rw [e1]
   by_cases h0 : a < s.Y0
   ·rw [if_pos (decide_eq_true h0), Option.bind_some, if_pos rfl, zJB ha hb l (i + 1) _ (by omega)]
   ·rw [if_neg (by simpa using h0), Option.bind_some, Option.bind_some, if_pos (by simp <;> omega), zJB ha hb l (i + 1) _ (by omega)]
theorem zPK {ys : List Int} {up : List zK} (hy : ys.Pairwise fun x y => x < y) (hs : up.Pairwise fun a b => a.X0 ≤ b.X0) (hev : ∀ y, (zC9 up y).length % 2 = 0) (hl : ys.length ≤ 100000) (hu : up.length ≤ 100000) : ∀ (suf pre : List Int) (m : Nat) (out : List Bd), ys = pre ++ suf → suf.length < m → out.length + suf.length ≤ 1000000 →
  Js ys up m (out.map toP) (pre.length : Int) = some ((zCN (fA up) suf out).map toP)
 | [], pre, m, out, he, hm, _ => by
  obtain ⟨m, rfl⟩ : ∃ k, m = k + 1 := ⟨m - 1, by omega⟩
  have hlen : ys.length = pre.length := by rw [he]; simp
  rw [Js, if_neg (by rw [QQ (by omega) (by omega)]; simp; omega)]
  rfl
 | [a], pre, m, out, he, hm, _ => by
  obtain ⟨m, rfl⟩ : ∃ k, m = k + 1 := ⟨m - 1, by omega⟩
  have hlen : ys.length = pre.length + 1 := by rw [he]; simp
  rw [Js, if_neg (by rw [QQ (by omega) (by omega)]; simp; omega)]
  rfl
 | a :: b :: l, pre, m, out, he, hm, ho => by
  obtain ⟨m, rfl⟩ : ∃ k, m = k + 1 := ⟨m - 1, by simp at hm; omega⟩
  simp at hm ho
  have hlen : ys.length = pre.length + (l.length + 2) := by rw [he]; simp
  have hab : a < b := by
   rw [he] at hy
   have := (List.pairwise_append.1 hy).2.1
   exact (List.pairwise_cons.1 this).1 b List.mem_cons_self
  have hia : idx ys (pre.length : Int) = some a := by rw [he]; exact KQ _ _ _
  have hib : idx ys (w64 ((pre.length : Int) + 1)) = some b := by
   rw [zKh pre a (by omega), he, show pre ++ a :: b :: l = (pre ++ [a]) ++ b :: l by simp]; exact KQ _ _ _
  rw [Js, if_pos (by rw [QQ (by omega) (by omega)]; simp; omega), zJB hia hib up 0 [] (by simp; omega)]
  have hpu := zNU (l := out) (b := (a, b, fA up a)) (by omega) hab
  have e : toP (a, b, fA up a) = ⟨a, b, (zC9 up a).foldl stk []⟩ := by
   show (⟨a, b, Qo (fA up a)⟩ : zZ) = _
   rw [(zWb hs hev a).1]; rfl
  rw [e] at hpu
  rw [hpu, Option.bind_some, zKh pre a (by omega)]
  have hpl := zGs out (a, b, fA up a)
  have := zPK hy hs hev hl hu (b :: l) (pre ++ [a]) m (pushB out (a, b, fA up a)) (by rw [he]; simp) (by simp; omega) (by simp; omega)
  rw [this]; rfl
def zKg (s : zI × zI) : Option zK := if s.1.X = s.2.X then some ⟨s.1.X, min s.1.Y s.2.Y, 0, max s.1.Y s.2.Y⟩ else none
theorem zKz (p0 x : zI) (r : List zI) : nxt p0 (x :: r) = (x, (r ++ [p0]).headD p0) :: nxt p0 r := by
 cases r with
 | nil => rfl
 | cons y r => rfl
theorem zQE {pre r : List zI} {x p0 : zI} (h0 : (pre ++ x :: r).head? = some p0) : (pre ++ x :: r).getD ((pre.length + 1) % (pre ++ x :: r).length) ⟨0, 0⟩ = (r ++ [p0]).headD p0 := by
 cases r with
 | nil =>
  have : (pre.length + 1) % (pre ++ [x]).length = 0 := by simp
  rw [this]
  cases pre with
  | nil => simp at h0 ⊢; exact h0
  | cons z pre => simp at h0 ⊢; exact h0
 | cons y r =>
  have : (pre.length + 1) % (pre ++ x :: y :: r).length = pre.length + 1 := Nat.mod_eq_of_lt (by simp)
  rw [this]
  simp [List.getD]
theorem zKB {l : List zI} {p0 : zI} (h0 : l.head? = some p0) (hl : l.length ≤ 100000) {K : List Int → List zK → Option (List zZ)} : ∀ (suf pre : List zI) (ys : List Int) (up : List zK), l = pre ++ suf → ys.length ≤ pre.length → up.length ≤ pre.length →
  KU K l suf pre.length ys up = K (ys ++ suf.map (·.Y)) (up ++ (nxt p0 suf).filterMap zKg)
 | [], pre, ys, up, he, hy, hu => by rw [KU]; simp [nxt]
 | x :: r, pre, ys, up, he, hy, hu => by
  have hlen : l.length = pre.length + (r.length + 1) := by rw [he]; simp
  have hnx : l.getD ((pre.length + 1) % l.length) ⟨0, 0⟩ = (r ++ [p0]).headD p0 := by
   have := zQE (pre := pre) (r := r) (x := x) (p0 := p0) (by rw [← he]; exact h0)
   rw [he]; exact this
  rw [KU, zS4 (by omega) (by omega), hnx, zB0 (by simp; omega), Option.bind_some, zKz]
  by_cases hx : x.X = ((r ++ [p0]).headD p0).X
  ·have hv : zKg (x, (r ++ [p0]).headD p0) = some ⟨x.X, min x.Y ((r ++ [p0]).headD p0).Y, 0, max x.Y ((r ++ [p0]).headD p0).Y⟩ := if_pos hx
   rw [if_pos (by simpa using hx), zB0 (by simp; omega), Option.bind_some, List.filterMap_cons_some hv]
   have := zKB h0 hl (K := K) r (pre ++ [x]) (ys ++ [x.Y]) (up ++ [⟨x.X, min x.Y ((r ++ [p0]).headD p0).Y, 0, max x.Y ((r ++ [p0]).headD p0).Y⟩]) (by rw [he]; simp) (by simp; omega) (by simp; omega)
   rw [show (pre ++ [x]).length = pre.length + 1 by simp] at this
   rw [this]; simp
  ·have hv : zKg (x, (r ++ [p0]).headD p0) = none := if_neg hx
   rw [if_neg (by simpa using hx), List.filterMap_cons_none hv]
   have := zKB h0 hl (K := K) r (pre ++ [x]) (ys ++ [x.Y]) up (by rw [he]; simp) (by simp; omega) (by simp; omega)
   rw [show (pre ++ [x]).length = pre.length + 1 by simp] at this
   rw [this]; simp
theorem zN3 (y : Int) : ∀ (S : List (zI × zI)), ((S.filterMap zKg).filter fun s => decide (s.Y0 ≤ y) && decide (y < s.Y1)).map (·.X0) = (zGe y S).map (·.1.X)
 | [] => rfl
 | s :: S => by
  have ih := zN3 y S
  unfold zGe at ih ⊢
  by_cases hx : s.1.X = s.2.X
  ·have hv : zKg s = some ⟨s.1.X, min s.1.Y s.2.Y, 0, max s.1.Y s.2.Y⟩ := if_pos hx
   rw [List.filterMap_cons_some hv, List.filter_cons, List.filter_cons, decide_eq_true hx, Bool.true_and]
   by_cases hc : (decide (min s.1.Y s.2.Y ≤ y) && decide (y < max s.1.Y s.2.Y)) = true
   ·rw [if_pos hc, if_pos hc, List.map_cons, List.map_cons, ih]
   ·rw [if_neg hc, if_neg hc, ih]
  ·have hv : zKg s = none := if_neg hx
   rw [List.filterMap_cons_none hv, List.filter_cons, decide_eq_false hx, Bool.false_and, if_neg (by simp), ih]
theorem zV5 (p0 : zI) : ∀ (l : List zI), (nxt p0 l).length = l.length
 | [] => rfl
 | x :: r => by rw [zKz, List.length_cons, List.length_cons, zV5 p0 r]
theorem zRV {p0 : zI} : ∀ {l : List zI} {s : zI × zI}, s ∈ nxt p0 l → s.1 ∈ l ∧ (s.2 ∈ l ∨ s.2 = p0)
 | [], s, h => by cases h
 | x :: r, s, h => by
  rw [zKz] at h
  rcases List.mem_cons.1 h with rfl | h
  ·refine ⟨List.mem_cons_self, ?_⟩
   cases r with
   | nil => exact .inr rfl
   | cons y r => exact .inl (by simp)
  ·obtain ⟨h1, h2⟩ := zRV h
   exact ⟨List.mem_cons_of_mem _ h1, h2.imp (List.mem_cons_of_mem _) id⟩
def zK5 (l : List zI) (x y : Int) : Prop := cle x ((zGe y (VK l)).map (·.1.X)) % 2 = 1
theorem zPM {f : Int → List (Int × Int)} {R : Nat} (hf : ∀ y, (f y).length ≤ R) : ∀ (ys : List Int) (out : List Bd), (∀ c ∈ out, c.2.2.length ≤ R) → (zCN f ys out).length ≤ out.length + ys.length ∧ ∀ c ∈ zCN f ys out, c.2.2.length ≤ R
 | [], out, h => ⟨by simp [zCN], h⟩
 | [a], out, h => ⟨by simp [zCN], h⟩
 | a :: b :: ys, out, h => by
  have h1 := zGs out (a, b, f a)
  obtain ⟨h2, h3⟩ := zPM hf (b :: ys) (pushB out (a, b, f a)) (zQC h (hf a))
  rw [zCN]
  exact ⟨by simp at h2 ⊢; omega, h3⟩
theorem zPU {N : Nat} (hN : 10000000000 ≤ N) {l : List zI} (hne : l ≠ []) (hl : l.length ≤ 2000) (hb : ∀ p ∈ l, -1000000000 ≤ p.X ∧ p.X ≤ 1000000000) (hax : axS (VK l)) :
  ∃ A, zCR N [l] = some (A.map toP) ∧ BOk A ∧ A.length ≤ 2000 ∧ (∀ b ∈ A, b.2.2.length ≤ 2000) ∧ ∀ x y, InB x y A ↔ zK5 l x y := by
 obtain ⟨p0, r0, rfl⟩ : ∃ p0 r, l = p0 :: r := by
  cases l with
  | nil => exact absurd rfl hne
  | cons p r => exact ⟨p, r, rfl⟩
 obtain ⟨V, hV⟩ : ∃ V, V = (VK (p0 :: r0)).filterMap zKg := ⟨_, rfl⟩
 have hVm : ∀ v ∈ V, (v.X0 ∈ (p0 :: r0).map (·.X)) ∧ v.Y0 ∈ (p0 :: r0).map (·.Y) ∧ v.Y1 ∈ (p0 :: r0).map (·.Y) := fun v hv => by
  rw [hV] at hv
  obtain ⟨s, hs, hsv⟩ := List.mem_filterMap.1 hv
  obtain ⟨s1, s2⟩ := zRV (show s ∈ nxt p0 (p0 :: r0) from hs)
  have s2' : s.2 ∈ p0 :: r0 := s2.elim id fun e => e ▸ List.mem_cons_self
  unfold zKg at hsv
  split at hsv
  ·cases Option.some.inj hsv
   refine ⟨List.mem_map.2 ⟨s.1, s1, rfl⟩, ?_, ?_⟩
   ·show min s.1.Y s.2.Y ∈ _
    rcases (show min s.1.Y s.2.Y = s.1.Y ∨ min s.1.Y s.2.Y = s.2.Y by omega) with e | e <;> rw [e]
    ·exact List.mem_map.2 ⟨s.1, s1, rfl⟩
    ·exact List.mem_map.2 ⟨s.2, s2', rfl⟩
   ·show max s.1.Y s.2.Y ∈ _
    rcases (show max s.1.Y s.2.Y = s.2.Y ∨ max s.1.Y s.2.Y = s.1.Y by omega) with e | e <;> rw [e]
    ·exact List.mem_map.2 ⟨s.2, s2', rfl⟩
    ·exact List.mem_map.2 ⟨s.1, s1, rfl⟩
  ·cases hsv
 have hVl : V.length ≤ 2000 := by
  rw [hV]
  refine Nat.le_trans (List.length_filterMap_le _ _) ?_
  have := zV5 p0 (p0 :: r0)
  show (nxt p0 (p0 :: r0)).length ≤ 2000
  omega
 have hVx : ∀ v ∈ V, -1000000000 ≤ v.X0 ∧ v.X0 ≤ 1000000000 := fun v hv => by
  obtain ⟨p, hp, e⟩ := List.mem_map.1 (hVm v hv).1
  have := hb p hp
  omega
 obtain ⟨U, u1, u2, u3⟩ := zOC (c := fun z0 z1 => zAM z0 z1) (k := fun r => r.X0) (l := V) (by omega) (fun x hx y hy => by
  have a := hVx x hx; have b := hVx y hy
  unfold zAM
  rw [QQ (by omega) (by omega)])
 have hxs : ∀ y, (zC9 U y).Perm ((zGe y (VK (p0 :: r0))).map (·.1.X)) := fun y => by
  rw [← zN3, ← hV]
  exact (u2.filter _).map _
 have hev : ∀ y, (zC9 U y).length % 2 = 0 := fun y => by
  rw [(hxs y).length_eq, List.length_map]; exact zVX y hax
 have hcle : ∀ x y, cle x (zC9 U y) = cle x ((zGe y (VK (p0 :: r0))).map (·.1.X)) := fun x y => ((hxs y).filter _).length_eq
 obtain ⟨ys, hys⟩ : ∃ ys, ys = zGa ((p0 :: r0).map (·.Y)) := ⟨_, rfl⟩
 have hysl : ys.length ≤ 2000 := by rw [hys]; exact Nat.le_trans (zOA _) (by simpa using hl)
 obtain ⟨b1, b2⟩ := zax (up := U) (ys := ys) (by rw [hys]; exact zDG _) u3 hev (fun s hs => by
  have := hVm s (u2.subset hs)
  rw [hys, zEV, zEV]; exact this.2)
 have hUl : U.length ≤ 2000 := by rw [u2.length_eq]; exact hVl
 have hrow : ∀ y, (fA U y).length ≤ 2000 := fun y => by
  have h1 := KE (fA U y)
  rw [(zWb u3 hev y).1] at h1
  have h2 := zbF (zC9 U y)
  have h3 : (zC9 U y).length ≤ U.length := by unfold zC9; rw [List.length_map]; exact List.length_filter_le _ _
  omega
 obtain ⟨c1, c2⟩ := zPM hrow ys [] (fun c hc => by cases hc)
 refine ⟨zCN (fA U) ys [], ?_, b1, by simp at c1; omega, c2, fun x y => by rw [b2, hcle]; rfl⟩
 unfold zCR
 rw [Jt]
 have hsl := zKB (l := p0 :: r0) (p0 := p0) rfl (by omega) (K := Jt N [] (0 + 1)) (p0 :: r0) [] [] [] rfl (by simp) (by simp)
 rw [show ([] : List zI).length = 0 from rfl] at hsl
 rw [hsl, List.nil_append, List.nil_append, Jt]
 have hso := zVq (l := (p0 :: r0).map (·.Y)) (by rw [List.length_map]; omega)
 rw [zRO (by rw [List.length_map]; omega), Option.bind_some] at hso ⊢
 rw [hso, Option.bind_some, show (nxt p0 (p0 :: r0)).filterMap zKg = V from hV.symm, u1, Option.bind_some, ← hys]
 exact zPK (by rw [hys]; exact zDG _) u3 hev (by omega) (by omega) ys [] N [] rfl (by omega) (by simp; omega)
def ptB (q : zI) : Bool := (decide (-1000000 ≤ q.X) && decide (q.X ≤ 1000000)) && (decide (-1000000 ≤ q.Y) && decide (q.Y ≤ 1000000))
theorem zV0 {q : zI} : ptB q = true ↔ (-1000000 ≤ q.X ∧ q.X ≤ 1000000) ∧ (-1000000 ≤ q.Y ∧ q.Y ≤ 1000000) := by unfold ptB; simp
theorem zSF (q : zI) : Kc q = some (ptB q) := by
 unfold Kc Vn WO ptB
 cases (decide (-1000000 ≤ q.X) && decide (q.X ≤ 1000000)) <;> rfl
def zYH (c : Bool) (I S : List Bd) (x y : Int) : Prop := if c then InB x y I ∧ ¬ InB x y S else InB x y I ∨ InB x y S
open Classical in
noncomputable def cmb (c : Bool) (I S : List Bd) : List Bd := if h : ∃ C, BOk C ∧ ∀ x y, InB x y C ↔ zYH c I S x y then h.choose else []
theorem za8 {c : Bool} {I S C : List Bd} (h1 : BOk C) (h2 : ∀ x y, InB x y C ↔ zYH c I S x y) : cmb c I S = C := by
 have h : ∃ C, BOk C ∧ ∀ x y, InB x y C ↔ zYH c I S x y := ⟨C, h1, h2⟩
 unfold cmb
 rw [dif_pos h]
 exact h.choose_spec.1.uniq h1 fun x y => by rw [h.choose_spec.2, h2]
open Classical in
noncomputable def arB (l : List zI) : List Bd := if h : ∃ A, BOk A ∧ ∀ x y, InB x y A ↔ zK5 l x y then h.choose else []
theorem zbV {l : List zI} {A : List Bd} (h1 : BOk A) (h2 : ∀ x y, InB x y A ↔ zK5 l x y) : arB l = A := by
 have h : ∃ A, BOk A ∧ ∀ x y, InB x y A ↔ zK5 l x y := ⟨A, h1, h2⟩
 unfold arB
 rw [dif_pos h]
 exact h.choose_spec.1.uniq h1 fun x y => by rw [h.choose_spec.2, h2]
structure zCu (I : List Bd) : Prop where
 ok : BOk I
 few : (QJ I).length ≤ 2000
 lim : (QJ I).all lim = true
structure zFu (S : List Bd) : Prop where
 ok : BOk S
 few : S.length ≤ 100000
 row : ∀ b ∈ S, b.2.2.length ≤ 10000
 tot : (QJ S).length ≤ 100000000
theorem zCu.drw {I : List Bd} (h : zCu I) : zFu I := by
 have h1 := h.ok.le
 have h2 := h.few
 exact ⟨h.ok, by omega, fun b hb => by have := zKE hb; omega, by omega⟩
noncomputable def drw (c : Bool) (I S : List Bd) : Int × List Bd := if (QJ S).all lim then (if 2000 < (QJ (cmb c I S)).length then (2, cmb c I S) else (0, cmb c I S)) else (1, I)
theorem zK0 {I : List Bd} (h : BOk I) : (QJ I).all lim = true ↔ ∀ x y, InB x y I → (-1000000 ≤ x ∧ x < 1000000) ∧ (-1000000 ≤ y ∧ y < 1000000) := by
 rw [List.all_eq_true]
 constructor
 ·intro hl x y hx
  obtain ⟨r, hr, h1, h2⟩ := (zCO h x y).2 hx
  have := zFC.1 (hl r hr)
  omega
 ·intro hp r hr
  have := zOJ h (m := 1000000) hp r hr
  rw [zFC]; omega
theorem zR8 {c : Bool} {I S : List Bd} (hI : zFu I) (hS : zFu S) {N : Nat} (hN : 10000000000 ≤ N) : (if c then We N (I.map toP) (S.map toP) else zAk N (I.map toP) (S.map toP)) = some ((cmb c I S).map toP) ∧ BOk (cmb c I S) ∧ (∀ x y, InB x y (cmb c I S) ↔ zYH c I S x y) ∧ (QJ (cmb c I S)).length ≤ 1000000000000 := by
 cases c
 ·obtain ⟨C, c1, c2, c3, c4⟩ := zfK hN hI.ok hS.ok hI.row hS.row hI.few hS.few
  have := za8 (c := false) c2 c3
  rw [this]
  exact ⟨c1, c2, c3, c4⟩
 ·obtain ⟨C, c1, c2, c3, c4⟩ := zZK hN hI.ok hS.ok hI.row hS.row hI.few hS.few
  have := za8 (c := true) c2 c3
  rw [this]
  exact ⟨c1, c2, c3, c4⟩
theorem zRx {c : Bool} {I S : List Bd} (hI : zCu I) (hS : zFu S) (h : (drw c I S).1 = 0) : zCu (drw c I S).2 := by
 obtain ⟨_, c2, c3, _⟩ := zR8 (c := c) hI.drw hS (Nat.le_refl _)
 unfold drw at h ⊢
 by_cases hl : (QJ S).all lim = true
 ·rw [if_pos hl] at h ⊢
  by_cases hm : 2000 < (QJ (cmb c I S)).length
  ·rw [if_pos hm] at h; cases h
  ·rw [if_neg hm]
   refine ⟨c2, Nat.le_of_not_lt hm, (zK0 c2).2 fun x y hx => ?_⟩
   have h1 := (zK0 hI.ok).1 hI.lim x y
   have h2 := (zK0 hS.ok).1 hl x y
   rw [c3] at hx
   unfold zYH at hx
   cases c
   ·rcases hx with hx | hx
    ·exact h1 hx
    ·exact h2 hx
   ·exact h1 hx.1
 ·rw [if_neg hl] at h; cases h
theorem zRy {N : Nat} (hN : 10000000000 ≤ N) {m : QM} {I S : List Bd} (hI : zCu I) (hm : m.image = I.map toP) (hS : zFu S) : Kt N m (S.map toP) = some ((drw m.clear I S).1, (drw m.clear I S).2.map toP) := by
 obtain ⟨c1, c2, c3, c4⟩ := zR8 (c := m.clear) hI.drw hS hN
 have hf := zXD (L := QJ S) hS.tot (zFV hS.ok)
 rw [zMr hS.ok] at hf
 unfold Kt drw
 rw [hf, Option.bind_some]
 by_cases hl : (QJ S).all lim = true
 ·rw [hl, if_neg (by simp), if_pos rfl]
  have hj : ∀ C : List Bd, (QJ C).length ≤ 1000000000000 → KO (C.map toP) = some ((if 2000 < (QJ C).length then ((2 : Int), C) else (0, C)).1, (if 2000 < (QJ C).length then ((2 : Int), C) else (0, C)).2.map toP) := fun C hC => by
   unfold KO
   rw [zSE (by omega), Option.bind_some]
   by_cases hm : 2000 < (QJ C).length
   ·rw [if_pos (by simp; omega), if_pos hm]
   ·rw [if_neg (by simp; omega), if_neg hm]
  rw [hm]
  cases hc : m.clear
  ·rw [hc] at c1 c4
   simp only [Bool.false_eq_true, if_false] at c1 ⊢
   rw [c1, Option.bind_some, hj _ c4]
  ·rw [hc] at c1 c4
   simp only [if_true] at c1 ⊢
   rw [c1, Option.bind_some, hj _ c4]
 ·have hl' : (QJ S).all lim = false := by simpa using hl
  rw [hl', if_pos (by rfl), if_neg (by simp), hm]
structure MS where
 img : List Bd
 clear : Bool
 tool : Int
 place : zI
 placed : Bool
 off : Int
 on : Int
def toM (p : zt) (TT : List (List zK)) (s : MS) : QM := ⟨p, TT.map fun T => (zAQ T).map toP, s.img.map toP, s.clear, s.tool, s.place, s.placed, s.off, s.on⟩
def zmu (p q : zI) : Int := w64 ((max (w64 (p.X - q.X)) (w64 (q.X - p.X))) + (max (w64 (p.Y - q.Y)) (w64 (q.Y - p.Y))))
def zA5 (s : MS) (q : zI) : Int × MS := if ptB q then (0, { s with place := q, placed := true, off := if s.placed then w64 (s.off + zmu s.place q) else s.off }) else (1, s)
def zEW (s : MS) (q : zI) : Int × MS := if ptB q then (0, { s with place := q, placed := true, on := if s.placed then w64 (s.on + zmu s.place q) else s.on }) else (1, s)
noncomputable def zQ0 (s : MS) (S : List Bd) : Int × MS := ((drw s.clear s.img S).1, { s with img := (drw s.clear s.img S).2 })
def swT (TT : List (List zK)) (s : MS) (p q : zI) : List Bd := zAQ ((TT.getD s.tool.toNat []).map (swR (min p.X q.X) (max p.X q.X) (min p.Y q.Y) (max p.Y q.Y)))
noncomputable def zCM (TT : List (List zK)) (s : MS) (q : zI) : Int × MS := if s.tool < 0 then (11, s) else if (zA5 s q).1 = 0 then zQ0 (zA5 s q).2 (swT TT s q q) else zA5 s q
noncomputable def zEb (TT : List (List zK)) (s : MS) (q : zI) : Int × MS := if s.tool < 0 ∨ s.placed = false then (11, s) else if q.X ≠ s.place.X ∧ q.Y ≠ s.place.Y then (3, s) else if (zEW s q).1 = 0 then zQ0 (zEW s q).2 (swT TT s s.place q) else zEW s q
def atM (U : Int) (q by_ : zI) : zI := ⟨w64 (w64 (q.X * U) + by_.X), w64 (w64 (q.Y * U) + by_.Y)⟩
def byM (U : Int) (by_ a : zI) (j i : Nat) : zI := ⟨w64 (by_.X + w64 (w64 ((i : Int) * a.X) * U)), w64 (by_.Y + w64 (w64 ((j : Int) * a.Y) * U))⟩
noncomputable def zG8 (s : MS) (row : List zI) : Int × MS := if 2000 < (QJ (arB row)).length then (2, s) else if row.any (fun q => !ptB q) then (1, s) else zQ0 s (arB row)
noncomputable def zDu (p : zt) (TT : List (List zK)) (x : zC) (by_ : zI) (s : MS) : Int × MS :=
 if x.Kind = 1 ∨ x.Kind = 2 then (0, { s with clear := x.Kind == 2 }) else if x.Kind = 3 then (0, { s with tool := zDF x.Name p.Tools }) else if x.Kind = 4 then zA5 s (atM p.Unit x.At by_) else if x.Kind = 5 then zCM TT s (atM p.Unit x.At by_)
 else if x.Kind = 6 then zEb TT s (atM p.Unit x.At by_) else if x.Kind = 7 then zG8 s (x.Points.map fun q => atM p.Unit q by_) else (0, s)
def zCf {β : Type} (f : β → MS → Int × MS) : List β → MS → Int × MS
 | [], s => (0, s)
 | b :: l, s => if (f b s).1 = 0 then zCf f l (f b s).2 else f b s
mutual
noncomputable def zCF (p : zt) (TT : List (List zK)) : zC → zI → MS → Int × MS
 | ⟨k, n, a, ps, nx, ny, l⟩, b, s => if k = 8 then zCf (fun j s => zCf (fun i s => zBU p TT l (byM p.Unit b a j i) s) (List.range' 0 nx.toNat) s) (List.range' 0 ny.toNat) s else zDu p TT ⟨k, n, a, ps, nx, ny, l⟩ b s
noncomputable def zBU (p : zt) (TT : List (List zK)) : List zC → zI → MS → Int × MS
 | [], _, s => (0, s)
 | x :: l, b, s => if (zCF p TT x b s).1 = 0 then zBU p TT l b (zCF p TT x b s).2 else zCF p TT x b s
end
theorem zDY (p : zt) (TT : List (List zK)) (x : zC) (b : zI) (s : MS) : zCF p TT x b s = if x.Kind = 8 then zCf (fun j s => zCf (fun i s => zBU p TT x.Steps (byM p.Unit b x.At j i) s) (List.range' 0 x.NX.toNat) s) (List.range' 0 x.NY.toNat) s else zDu p TT x b s := by
 cases x; rw [zCF]
theorem zFe (p : zt) (TT : List (List zK)) (b : zI) (s : MS) : zBU p TT [] b s = (0, s) := by rw [zBU]
theorem zFU (p : zt) (TT : List (List zK)) (x : zC) (l : List zC) (b : zI) (s : MS) : zBU p TT (x :: l) b s = if (zCF p TT x b s).1 = 0 then zBU p TT l b (zCF p TT x b s).2 else zCF p TT x b s := by rw [zBU]
structure zDC (TT : List (List zK)) (s : MS) : Prop where
 img : zCu s.img
 tool : -1 ≤ s.tool ∧ s.tool < (TT.length : Int)
 place : s.placed = true → ptB s.place = true
structure zEw (T : List zK) : Prop where
 few : T.length ≤ 2000
 ne : Ne T
 lim : ∀ r ∈ T, (-1000000 ≤ r.X0 ∧ r.X1 ≤ 1000000) ∧ (-1000000 ≤ r.Y0 ∧ r.Y1 ≤ 1000000)
def encR (r : Int × MS) : Int × Bool × Int × Int × Int × Bool × Int × Int × List zZ := (r.1, r.2.clear, r.2.tool, r.2.place.X, r.2.place.Y, r.2.placed, r.2.off, r.2.on, r.2.img.map toP)
theorem zYz {L : List zK} (hl : L.length ≤ 2000) (hne : Ne L) : zFu (zAQ L) := by
 obtain ⟨b1, _⟩ := zEB hne
 obtain ⟨s1, s2⟩ := zIb L
 have ht := zDA (R := 2000) (l := zAQ L) fun b hb => Nat.le_trans (s2 b hb) hl
 exact ⟨b1, by omega, fun b hb => by have := s2 b hb; omega, by omega⟩
theorem zF9 {TT : List (List zK)} (hT : ∀ T ∈ TT, zEw T) {s : MS} {p q : zI} : zFu (swT TT s p q) := by
 have hg : zEw (TT.getD s.tool.toNat []) := by
  rw [List.getD_eq_getElem?_getD]
  cases h : TT[s.tool.toNat]? with
  | none => exact ⟨by simp, fun r hr => by simp at hr, fun r hr => by simp at hr⟩
  | some T => exact hT T (List.mem_of_getElem? h)
 exact zYz (by rw [List.length_map]; exact hg.few) (zVp (by omega) (by omega) hg.ne)
section
variable {N : Nat} (hN : 10000000000 ≤ N) {p : zt} {TT : List (List zK)} (hT : ∀ T ∈ TT, zEw T) {s : MS}
theorem zP9 (q : zI) : KN (toM p TT s) q = some ((zA5 s q).1, (zA5 s q).2.place.X, (zA5 s q).2.place.Y, (zA5 s q).2.placed, (zA5 s q).2.off) := by
 unfold KN Ji zA5
 rw [zSF, Option.bind_some]
 cases ptB q
 ·rfl
 ·simp only [Bool.not_true, Bool.false_eq_true, if_false, if_true]
  show (if s.placed = true then _ else _) = _
  cases s.placed <;> rfl
theorem zYx (q : zI) : Kr (toM p TT s) q = some ((zEW s q).1, (zEW s q).2.place.X, (zEW s q).2.place.Y, (zEW s q).2.placed, (zEW s q).2.on) := by
 unfold Kr Jh zEW
 rw [zSF, Option.bind_some]
 cases ptB q
 ·rfl
 ·simp only [Bool.not_true, Bool.false_eq_true, if_false, if_true]
  show (if s.placed = true then _ else _) = _
  cases s.placed <;> rfl
theorem zSg (hi : zDC TT s) (h0 : 0 ≤ s.tool) : idx ((toM p TT s).tools) s.tool = some ((zAQ (TT.getD s.tool.toNat [])).map toP) := by
 have := hi.tool
 have hlt : s.tool.toNat < TT.length := by omega
 unfold idx
 rw [if_pos h0]
 show (TT.map fun T => (zAQ T).map toP)[s.tool.toNat]? = _
 rw [List.getElem?_map, List.getD_eq_getElem?_getD, List.getElem?_eq_getElem hlt]; rfl
theorem zb1 (hT : ∀ T ∈ TT, zEw T) (hi : zDC TT s) (h0 : 0 ≤ s.tool) : zEw (TT.getD s.tool.toNat []) := by
 have := hi.tool
 have hlt : s.tool.toNat < TT.length := by omega
 rw [List.getD_eq_getElem?_getD, List.getElem?_eq_getElem hlt]
 exact hT _ (List.getElem_mem hlt)
include hN hT
theorem zP4 (hi : zDC TT s) (h0 : 0 ≤ s.tool) {a q : zI} (ha : ptB a = true) (hq : ptB q = true) : zBj N ((zAQ (TT.getD s.tool.toNat [])).map toP) a q = some ((swT TT s a q).map toP) := by
 have ht := zb1 hT hi h0
 exact zYs hN ht.few ht.ne ht.lim (zV0.1 ha) (zV0.1 hq)
theorem zYA (hi : zDC TT s) (q : zI) : WC N (toM p TT s) q = some ((zCM TT s q).1, (zCM TT s q).2.place.X, (zCM TT s q).2.place.Y, (zCM TT s q).2.placed, (zCM TT s q).2.off, (zCM TT s q).2.img.map toP) ∧ (zCM TT s q).2.clear = s.clear ∧ (zCM TT s q).2.tool = s.tool ∧ (zCM TT s q).2.on = s.on ∧ ((zCM TT s q).1 = 0 → zDC TT (zCM TT s q).2) := by
 unfold WC zCM
 by_cases h0 : s.tool < 0
 ·rw [if_pos (show decide ((toM p TT s).tool < 0) = true from decide_eq_true h0), if_pos h0]
  exact ⟨rfl, rfl, rfl, rfl, fun h => by cases h⟩
 ·rw [if_neg (show ¬ decide ((toM p TT s).tool < 0) = true by rw [decide_eq_true_eq]; exact h0), if_neg h0, zP9, Option.bind_some]
  unfold zA5
  cases hq : ptB q
  ·simp only [Bool.false_eq_true, if_false]
   exact ⟨rfl, rfl, rfl, rfl, fun h => by cases h⟩
  ·simp only [if_true, bne_self_eq_false, Bool.false_eq_true, if_false]
   rw [show (toM p TT s).tool = s.tool from rfl, zSg hi (by omega), Option.bind_some, zP4 hN hT hi (by omega) hq hq, Option.bind_some, zRy hN hi.img rfl (zF9 hT), Option.bind_some]
   refine ⟨rfl, rfl, rfl, rfl, fun h => ⟨zRx hi.img (zF9 hT) h, hi.tool, fun _ => hq⟩⟩
theorem zZJ (hi : zDC TT s) (q : zI) : WQ N (toM p TT s) q = some ((zEb TT s q).1, (zEb TT s q).2.place.X, (zEb TT s q).2.place.Y, (zEb TT s q).2.placed, (zEb TT s q).2.on, (zEb TT s q).2.img.map toP) ∧ (zEb TT s q).2.clear = s.clear ∧ (zEb TT s q).2.tool = s.tool ∧ (zEb TT s q).2.off = s.off ∧ ((zEb TT s q).1 = 0 → zDC TT (zEb TT s q).2) := by
 unfold WQ zEb
 by_cases h0 : s.tool < 0 ∨ s.placed = false
 ·rw [if_pos (show (decide ((toM p TT s).tool < 0) || !(toM p TT s).placed) = true by rw [Bool.or_eq_true, decide_eq_true_eq, Bool.not_eq_true']; exact h0), if_pos h0]
  exact ⟨rfl, rfl, rfl, rfl, fun h => by cases h⟩
 ·rw [if_neg (show ¬ (decide ((toM p TT s).tool < 0) || !(toM p TT s).placed) = true by rw [Bool.or_eq_true, decide_eq_true_eq, Bool.not_eq_true']; exact h0), if_neg h0]
  obtain ⟨h1, h2⟩ := not_or.1 h0
  have hpl : s.placed = true := by simpa using h2
  by_cases hx : q.X ≠ s.place.X ∧ q.Y ≠ s.place.Y
  ·rw [if_pos (show (q.X != (toM p TT s).place.X && q.Y != (toM p TT s).place.Y) = true by simpa [toM] using hx), if_pos hx]
   exact ⟨rfl, rfl, rfl, rfl, fun h => by cases h⟩
  ·rw [if_neg (show ¬ (q.X != (toM p TT s).place.X && q.Y != (toM p TT s).place.Y) = true by simpa [toM] using hx), if_neg hx, zYx, Option.bind_some]
   unfold zEW
   cases hq : ptB q
   ·simp only [Bool.false_eq_true, if_false]
    exact ⟨rfl, rfl, rfl, rfl, fun h => by cases h⟩
   ·simp only [if_true, bne_self_eq_false, Bool.false_eq_true, if_false]
    rw [show (toM p TT s).tool = s.tool from rfl, zSg hi (by omega), Option.bind_some, show (toM p TT s).place = s.place from rfl, zP4 hN hT hi (by omega) (hi.place hpl) hq, Option.bind_some, zRy hN hi.img rfl (zF9 hT), Option.bind_some]
    refine ⟨rfl, rfl, rfl, rfl, fun h => ⟨zRx hi.img (zF9 hT) h, hi.tool, fun _ => hq⟩⟩
end
theorem zC1 {n u : Int} (hu : 1 ≤ u) (h : zLK n u = true) : -1000000 ≤ n * u ∧ n * u ≤ 1000000 := by
 unfold zLK at h
 rw [Bool.and_eq_true, decide_eq_true_eq, decide_eq_true_eq] at h
 have h1 := Int.mul_le_mul_of_nonneg_right h.2 (show 0 ≤ u by omega)
 have h2 := Int.mul_le_mul_of_nonneg_right h.1 (show 0 ≤ u by omega)
 have h3 := Int.ediv_mul_le 1000000 (show u ≠ 0 by omega)
 rw [Int.neg_mul] at h2
 omega
def zBl (d : Int) (b : zI) : Prop := (-(d * 100000000) ≤ b.X ∧ b.X ≤ d * 100000000) ∧ (-(d * 100000000) ≤ b.Y ∧ b.Y ≤ d * 100000000)
theorem zKR {U d : Int} {q b : zI} (hu : 1 ≤ U) (hq : zAR q U = true) (hd : d ≤ 5) (hb : zBl d b) : atM U q b = ⟨q.X * U + b.X, q.Y * U + b.Y⟩ ∧ (-1000000 ≤ q.X * U ∧ q.X * U ≤ 1000000) ∧ (-1000000 ≤ q.Y * U ∧ q.Y * U ≤ 1000000) := by
 unfold zAR at hq
 rw [Bool.and_eq_true] at hq
 have h1 := zC1 hu hq.1
 have h2 := zC1 hu hq.2
 unfold zBl at hb
 refine ⟨?_, h1, h2⟩
 unfold atM
 generalize q.X * U = a at h1 ⊢
 generalize q.Y * U = c at h2 ⊢
 rw [QQ (x := a) (by omega) (by omega), QQ (x := c) (by omega) (by omega), QQ (by omega) (by omega), QQ (by omega) (by omega)]
theorem zVa {U d : Int} {a b : zI} {j i : Nat} (hu : 1 ≤ U) (ha : zAR a U = true) (hd : 0 ≤ d ∧ d < 5) (hb : zBl d b) (hj : j < 100) (hi : i < 100) : byM U b a j i = ⟨b.X + (i : Int) * a.X * U, b.Y + (j : Int) * a.Y * U⟩ ∧ zBl (d + 1) (byM U b a j i) := by
 unfold zAR at ha
 rw [Bool.and_eq_true] at ha
 have h1 := zC1 hu ha.1
 have h2 := zC1 hu ha.2
 have key : ∀ (n : Int) (k : Nat), k < 100 → -1000000 ≤ n * U ∧ n * U ≤ 1000000 → (-99000000 ≤ (k : Int) * n * U ∧ (k : Int) * n * U ≤ 99000000) ∧ -99000000 ≤ (k : Int) * n ∧ (k : Int) * n ≤ 99000000 := fun n k hk h => by
  have e : (k : Int) * n * U = (k : Int) * (n * U) := Int.mul_assoc _ _ _
  have a1 : (k : Int) * (n * U) ≤ 99 * 1000000 := by
   refine Int.le_trans (Int.mul_le_mul_of_nonneg_left h.2 (by omega)) (Int.mul_le_mul_of_nonneg_right (by omega) (by omega))
  have a2 : 99 * (-1000000) ≤ (k : Int) * (n * U) := by
   refine Int.le_trans ?_ (Int.mul_le_mul_of_nonneg_left h.1 (show (0 : Int) ≤ (k : Int) by omega))
   omega
  have hn : -1000000 ≤ n ∧ n ≤ 1000000 := by
   refine ⟨?_, ?_⟩
   ·refine Int.not_lt.1 fun hl => ?_
    have := Int.mul_le_mul_of_nonpos_left (show n ≤ 0 by omega) hu
    omega
   ·refine Int.not_lt.1 fun hl => ?_
    have := Int.mul_le_mul_of_nonneg_left hu (show 0 ≤ n by omega)
    omega
  have b1 : (k : Int) * n ≤ 99 * 1000000 := Int.le_trans (Int.mul_le_mul_of_nonneg_left hn.2 (by omega)) (Int.mul_le_mul_of_nonneg_right (by omega) (by omega))
  have b2 : (k : Int) * (-1000000) ≤ (k : Int) * n := Int.mul_le_mul_of_nonneg_left hn.1 (by omega)
  omega
 obtain ⟨x1, x2⟩ := key a.X i hi h1
 obtain ⟨y1, y2⟩ := key a.Y j hj h2
 unfold zBl at hb ⊢
 have e : byM U b a j i = ⟨b.X + (i : Int) * a.X * U, b.Y + (j : Int) * a.Y * U⟩ := by
  unfold byM
  rw [QQ (x := (i : Int) * a.X) (by omega) (by omega), QQ (x := (j : Int) * a.Y) (by omega) (by omega)]
  generalize (i : Int) * a.X * U = p at x1 ⊢
  generalize (j : Int) * a.Y * U = q at y1 ⊢
  rw [QQ (x := p) (by omega) (by omega), QQ (x := q) (by omega) (by omega), QQ (by omega) (by omega), QQ (by omega) (by omega)]
 rw [e]
 refine ⟨rfl, ?_⟩
 simp only
 omega
theorem zVx {l : List zI} {p0 : zI} (h0 : l.head? = some p0) : ∀ (suf pre : List zI), l = pre ++ suf → zL2 l suf pre.length = true → axS (nxt p0 suf)
 | [], _, _, _ => fun s hs => by cases hs
 | x :: r, pre, he, h => by
  have hnx : l.getD ((pre.length + 1) % l.length) ⟨0, 0⟩ = (r ++ [p0]).headD p0 := by
   have := zQE (pre := pre) (r := r) (x := x) (p0 := p0) (by rw [← he]; exact h0)
   rw [he]; exact this
  rw [zL2, hnx] at h
  split at h
  ·cases h
  rename_i hne
  have ih := zVx h0 r (pre ++ [x]) (by rw [he]; simp) (by rw [List.length_append]; exact h)
  rw [zKz]
  intro s hs
  rcases List.mem_cons.1 hs with rfl | hs
  ·intro hc
   refine hne ?_
   simp only at hc
   rw [beq_iff_eq, Bool.eq_iff_iff, beq_iff_eq, beq_iff_eq]
   rw [hc]
  ·exact ih s hs
theorem zSv {l : List zI} (h : zL2 l l 0 = true) : axS (VK l) := by
 cases l with
 | nil => intro s hs; cases hs
 | cons p r => exact zVx (p0 := p) rfl (p :: r) [] rfl h
theorem zV4 (f : zI → zI) (p0 : zI) : ∀ (l : List zI), nxt (f p0) (l.map f) = (nxt p0 l).map fun s => (f s.1, f s.2)
 | [] => rfl
 | [x] => rfl
 | x :: y :: r => by
  have := zV4 f p0 (y :: r)
  rw [List.map_cons, List.map_cons, nxt, nxt, List.map_cons]
  rw [List.map_cons] at this
  rw [this]
theorem zOE (f : zI → zI) (l : List zI) : VK (l.map f) = (VK l).map fun s => (f s.1, f s.2) := by
 cases l with
 | nil => rfl
 | cons x r => exact zV4 f x (x :: r)
theorem zUn {l : List zI} {s : zI × zI} (h : s ∈ VK l) : s.1 ∈ l ∧ s.2 ∈ l := by
 cases l with
 | nil => cases h
 | cons p r =>
  obtain ⟨h1, h2⟩ := zRV (show s ∈ nxt p (p :: r) from h)
  exact ⟨h1, h2.elim id fun e => e ▸ List.mem_cons_self⟩
theorem zej {U d : Int} {b : zI} {l : List zI} (hu : 1 ≤ U) (hl : ∀ q ∈ l, zAR q U = true) (hd : d ≤ 5) (hb : zBl d b) (h : axS (VK l)) : axS (VK (l.map fun q => atM U q b)) := by
 rw [zOE]
 intro s hs
 obtain ⟨t, ht, rfl⟩ := List.mem_map.1 hs
 obtain ⟨t1, t2⟩ := zUn ht
 have e1 := (zKR hu (hl _ t1) hd hb).1
 have e2 := (zKR hu (hl _ t2) hd hb).1
 have hc : ∀ m n c : Int, (m * U + c = n * U + c) = (m = n) := fun m n c => propext ⟨fun e => Int.eq_of_mul_eq_mul_right (a := U) (by omega) (by omega), fun e => by rw [e]⟩
 have := h t ht
 show ¬ (((atM U t.1 b).X = (atM U t.2 b).X) = ((atM U t.1 b).Y = (atM U t.2 b).Y))
 rw [e1, e2]
 show ¬ ((t.1.X * U + b.X = t.2.X * U + b.X) = (t.1.Y * U + b.Y = t.2.Y * U + b.Y))
 rw [hc, hc]
 exact this
theorem zbT {l : List zI} : JF l (fun z0 => Jw z0) = some (l.any fun q => !ptB q) := by
 have key : ∀ (l : List zI) (i : Nat), Qg (fun z0 => Jw z0) l i = some (zCq (fun q => !ptB q) l (i : Int)) := by
  intro l
  induction l with
  | nil => intro i; rfl
  | cons x r ih =>
   intro i
   rw [Qg, zCq, ih]
   have e : Jw x = some (!ptB x) := by
    unfold Jw
    rw [zSF]; rfl
   rw [e, Option.bind_some]
   split <;> rfl
 unfold JF VQ
 rw [key, Option.bind_some]
 exact congrArg some (zOg _ l 0 (by omega))
section
variable {N : Nat} (hN : 10000000000 ≤ N) {p : zt} {TT : List (List zK)} {s : MS}
theorem zOR (q b : zI) : WB (toM p TT s) q b = some (atM p.Unit q b) := rfl
theorem zW8 (b : zI) : ∀ (suf : List zI) (i : Nat) (out : List zI), out.length + suf.length ≤ 1000000 → JC N (toM p TT s) b suf i out = JC N (toM p TT s) b [] 0 (out ++ suf.map fun q => atM p.Unit q b)
 | [], i, out, _ => by rw [List.map_nil, List.append_nil]; rfl
 | x :: r, i, out, h => by
  simp at h
  rw [JC.eq_2, zOR, Option.bind_some, zB0 (by simp; omega), Option.bind_some, zW8 b r (i + 1) _ (by simp; omega)]
  simp
include hN
theorem zbU (hu : 1 ≤ p.Unit) (hi : zDC TT s) {d : Int} (hd : d ≤ 5) {b : zI} (hb : zBl d b) {l : List zI} (h1 : ∀ q ∈ l, zAR q p.Unit = true) (h2 : 4 ≤ l.length ∧ l.length ≤ 2000) (h3 : zL2 l l 0 = true) :
  WR N (toM p TT s) l b = some ((zG8 s (l.map fun q => atM p.Unit q b)).1, (zG8 s (l.map fun q => atM p.Unit q b)).2.img.map toP) ∧ (zG8 s (l.map fun q => atM p.Unit q b)).2 = { s with img := (zG8 s (l.map fun q => atM p.Unit q b)).2.img } ∧ ((zG8 s (l.map fun q => atM p.Unit q b)).1 = 0 → zDC TT (zG8 s (l.map fun q => atM p.Unit q b)).2) := by
 obtain ⟨A, a1, a2, a3, a4, a5⟩ := zPU hN (l := l.map fun q => atM p.Unit q b) (by
  intro h
  have := List.map_eq_nil_iff.1 h
  rw [this] at h2; simp at h2) (by simpa using h2.2) (fun q hq => by
  obtain ⟨z, hz, rfl⟩ := List.mem_map.1 hq
  obtain ⟨e, b1, b2⟩ := zKR hu (h1 z hz) hd hb
  unfold zBl at hb
  rw [e]; simp only; omega) (zej hu h1 hd hb (zSv h3))
 have hA := zbV a2 a5
 have htot := zDA a4
 have hD : zFu A := ⟨a2, by omega, fun b hb => by have := a4 b hb; omega, Nat.le_trans htot (by have := Nat.mul_le_mul_left 2000 a3; omega)⟩
 unfold WR
 rw [zW8 b l 0 [] (by simp; omega), List.nil_append]
 rw [JC, a1, Option.bind_some, zSE (by have := hD.tot; omega), Option.bind_some, zbT, Option.bind_some]
 unfold zG8
 rw [hA]
 by_cases hm : 2000 < (QJ A).length
 ·rw [if_pos (by simp; omega), if_pos hm]
  exact ⟨rfl, rfl, fun h => by cases h⟩
 ·rw [if_neg (by simp; omega), if_neg hm]
  by_cases hr : ((l.map fun q => atM p.Unit q b).any fun q => !ptB q) = true
  ·rw [if_pos hr, if_pos hr]
   exact ⟨rfl, rfl, fun h => by cases h⟩
  ·rw [if_neg hr, if_neg hr, zRy hN hi.img rfl hD, Option.bind_some]
   exact ⟨rfl, rfl, fun h => ⟨zRx hi.img hD h, hi.tool, hi.place⟩⟩
end
abbrev RTy := Int × Bool × Int × Int × Int × Bool × Int × Int × List zZ
def zUL (rec : QM → List zC → zI → Option RTy) (p : zt) (TT : List (List zK)) (l : List zC) (b : zI) (s : MS) : Prop :=
 rec (toM p TT s) l b = some (encR (zBU p TT l b s)) ∧ ((zBU p TT l b s).1 = 0 → zDC TT (zBU p TT l b s).2)
section
variable {N : Nat} (hN : 10000000000 ≤ N) {p : zt} {TT : List (List zK)} (hT : ∀ T ∈ TT, zEw T) (hl : TT.length = p.Tools.length) (hu : 1 ≤ p.Unit)
include hN hT hl hu
theorem zV8 {s : MS} (hi : zDC TT s) {d : Int} (hd : d ≤ 5) {b : zI} (hb : zBl d b) {x : zC} (hx : zFo p x d) (h8 : x.Kind ≠ 8) (rec : QM → List zC → zI → Option RTy) :
  KY rec N (toM p TT s) x b = some (encR (zDu p TT x b s)) ∧ ((zDu p TT x b s).1 = 0 → zDC TT (zDu p TT x b s).2) := by
 have hk := hx.kind
 unfold KY
 rw [zOR, Option.bind_some]
 unfold zDu
 by_cases h1 : x.Kind = 1
 ·rw [if_pos (by simp [h1]), if_pos (.inl h1)]
  have e : (x.Kind == 2) = false := by simp [h1]
  unfold JX
  rw [if_pos (by simp [h1])]
  unfold JB
  exact ⟨rfl, fun _ => ⟨hi.img, hi.tool, hi.place⟩⟩
 rw [if_neg (by simpa using h1)]
 unfold JX
 by_cases h2 : x.Kind = 2
 ·rw [if_pos (by simp [h2]), if_pos (.inr h2)]
  unfold JB
  exact ⟨rfl, fun _ => ⟨hi.img, hi.tool, hi.place⟩⟩
 rw [if_neg (by simpa using h2), if_neg (show ¬ (x.Kind = 1 ∨ x.Kind = 2) by omega)]
 by_cases h3 : x.Kind = 3
 ·have ht := hx.tool h3
  have hlt := zWE (fun t : zg => sEq t.Name x.Name) p.Tools 0 (by omega)
  have hto : zDF x.Name p.Tools = zCq (fun t : zg => sEq t.Name x.Name) p.Tools 0 := rfl
  rw [if_pos (by simp [h3]), if_pos h3, show (toM p TT s).p = p from rfl, zP1, Option.bind_some]
  unfold JB
  refine ⟨rfl, fun _ => ⟨hi.img, ⟨?_, ?_⟩, hi.place⟩⟩
  ·show -1 ≤ zDF x.Name p.Tools; omega
  ·show zDF x.Name p.Tools < (TT.length : Int)
   rw [hl]
   rcases hlt with h | h <;> omega
 rw [if_neg (by simpa using h3), if_neg h3]
 by_cases h4 : x.Kind = 4
 ·rw [if_pos (by simp [h4]), if_pos h4, zP9, Option.bind_some]
  refine ⟨?_, ?_⟩
  ·unfold zA5
   cases ptB (atM p.Unit x.At b) <;> rfl
  ·intro h
   unfold zA5 at h ⊢
   cases hp : ptB (atM p.Unit x.At b)
   ·rw [hp] at h; cases h
   ·exact ⟨hi.img, hi.tool, fun _ => hp⟩
 rw [if_neg (by simpa using h4), if_neg h4]
 by_cases h5 : x.Kind = 5
 ·obtain ⟨f1, f2, f3, f4, f5⟩ := zYA (p := p) hN hT hi (atM p.Unit x.At b)
  rw [if_pos (by simp [h5]), if_pos h5, f1, Option.bind_some]
  refine ⟨?_, f5⟩
  unfold encR
  rw [f2, f3, f4]; rfl
 rw [if_neg (by simpa using h5), if_neg h5]
 by_cases h6 : x.Kind = 6
 ·obtain ⟨f1, f2, f3, f4, f5⟩ := zZJ (p := p) hN hT hi (atM p.Unit x.At b)
  rw [if_pos (by simp [h6]), if_pos h6, f1, Option.bind_some]
  refine ⟨?_, f5⟩
  unfold encR
  rw [f2, f3, f4]; rfl
 rw [if_neg (by simpa using h6), if_neg h6]
 have h7 : x.Kind = 7 := by omega
 obtain ⟨a1, a2, a3, a4⟩ := hx.area h7
 obtain ⟨f1, f2, f3⟩ := zbU hN (p := p) (TT := TT) hu hi hd hb (l := x.Points) (List.all_eq_true.1 a1) ⟨a2, a3⟩ a4
 rw [if_pos (by simp [h7]), if_pos h7, f1, Option.bind_some]
 refine ⟨?_, f3⟩
 unfold encR
 generalize hg : zG8 s (x.Points.map fun q => atM p.Unit q b) = g at f2 ⊢
 rw [f2]; rfl
omit hT hl hu hN in
theorem zSx {rec : QM → List zC → zI → Option RTy} {s0 : MS} {x : zC} {b : zI} {j : Nat} {K : List zZ → Bool → Int → Int → Int → Bool → Int → Int → Int → Option RTy} (hNX : x.NX ≤ 100)
  (hrec : ∀ (i : Nat) (s : MS), (i : Int) < x.NX → zDC TT s → zUL rec p TT x.Steps (byM p.Unit b x.At j i) s) : ∀ (r m i : Nat) (s : MS), zDC TT s → (i : Int) + r = x.NX → r < m →
  ∃ q, q = zCf (fun i s => zBU p TT x.Steps (byM p.Unit b x.At j i) s) (List.range' i r) s ∧ (q.1 = 0 → zDC TT q.2) ∧
   JW (toM p TT s0) x b rec (j : Int) K m (s.img.map toP) s.clear s.tool s.place.X s.place.Y s.placed s.off s.on (i : Int) = if q.1 = 0 then K (q.2.img.map toP) q.2.clear q.2.tool q.2.place.X q.2.place.Y q.2.placed q.2.off q.2.on (w64 ((j : Int) + 1)) else some (encR q)
 | 0, m, i, s, hs, hi, hm => by
  obtain ⟨m, rfl⟩ : ∃ k, m = k + 1 := ⟨m - 1, by omega⟩
  refine ⟨_, rfl, fun _ => hs, ?_⟩
  rw [JW, if_neg (by simp; omega)]
  rfl
 | r + 1, m, i, s, hs, hi, hm => by
  obtain ⟨m, rfl⟩ : ∃ k, m = k + 1 := ⟨m - 1, by omega⟩
  obtain ⟨h1, h2⟩ := hrec i s (by omega) hs
  refine ⟨_, rfl, ?_⟩
  rw [JW, if_pos (by simp; omega)]
  have h1' : rec (QM.mk (toM p TT s0).p (toM p TT s0).tools (s.img.map toP) s.clear s.tool (zI.mk s.place.X s.place.Y) s.placed s.off s.on) x.Steps (zI.mk (w64 (b.X + (w64 ((w64 ((i : Int) * x.At.X)) * (toM p TT s0).p.Unit)))) (w64 (b.Y + (w64 ((w64 ((j : Int) * x.At.Y)) * (toM p TT s0).p.Unit))))) = some (encR (zBU p TT x.Steps (byM p.Unit b x.At j i) s)) := h1
  rw [h1', Option.bind_some, List.range'_succ, zCf]
  generalize hg : zBU p TT x.Steps (byM p.Unit b x.At j i) s = g at h2 ⊢
  by_cases h0 : g.1 = 0
  ·obtain ⟨q, q1, q2, q3⟩ := zSx hNX hrec r m (i + 1) g.2 (h2 h0) (by omega) (by omega) (s0 := s0) (K := K)
   rw [if_neg (show ¬ ((encR g).1 != 0) = true by show ¬ (g.1 != 0) = true; simp [h0]), if_pos h0, ← q1]
   refine ⟨q2, ?_⟩
   rw [← q3, QQ (by omega) (by omega)]
   rfl
  ·rw [if_pos (show ((encR g).1 != 0) = true by show (g.1 != 0) = true; simp [h0]), if_neg h0]
   refine ⟨fun h => absurd h h0, ?_⟩
   rw [if_neg h0]
omit hT hl hu in
theorem zVz {rec : QM → List zC → zI → Option RTy} {s0 : MS} {x : zC} {b : zI} (hNX : 1 ≤ x.NX ∧ x.NX ≤ 100) (hNY : x.NY ≤ 100)
  (hrec : ∀ (j i : Nat) (s : MS), (j : Int) < x.NY → (i : Int) < x.NX → zDC TT s → zUL rec p TT x.Steps (byM p.Unit b x.At j i) s) : ∀ (r m j : Nat) (s : MS), zDC TT s → (j : Int) + r = x.NY → r < m →
  ∃ q, q = zCf (fun j s => zCf (fun i s => zBU p TT x.Steps (byM p.Unit b x.At j i) s) (List.range' 0 x.NX.toNat) s) (List.range' j r) s ∧ (q.1 = 0 → zDC TT q.2) ∧
   Qp N (toM p TT s0) x b rec m (s.img.map toP) s.clear s.tool s.place.X s.place.Y s.placed s.off s.on (j : Int) = some (encR q)
 | 0, m, j, s, hs, hi, hm => by
  obtain ⟨m, rfl⟩ : ∃ k, m = k + 1 := ⟨m - 1, by omega⟩
  refine ⟨_, rfl, fun _ => hs, ?_⟩
  rw [Qp, if_neg (by simp; omega)]
  rfl
 | r + 1, m, j, s, hs, hi, hm => by
  obtain ⟨m, rfl⟩ : ∃ k, m = k + 1 := ⟨m - 1, by omega⟩
  obtain ⟨q, q1, q2, q3⟩ := zSx (x := x) (rec := rec) (s0 := s0) (K := Qp N (toM p TT s0) x b rec m) hNX.2 (fun i s => hrec j i s (by omega)) x.NX.toNat N 0 s hs (by omega) (by omega)
  refine ⟨_, rfl, ?_⟩
  rw [Qp, if_pos (by simp; omega)]
  rw [List.range'_succ, zCf, ← q1]
  rw [show ((0 : Nat) : Int) = 0 from rfl] at q3
  rw [q3]
  by_cases h0 : q.1 = 0
  ·obtain ⟨z, z1, z2, z3⟩ := zVz hNX hNY hrec r m (j + 1) q.2 (q2 h0) (by omega) (by omega) (s0 := s0)
   rw [if_pos h0, if_pos h0, ← z1]
   refine ⟨z2, ?_⟩
   rw [← z3, QQ (by omega) (by omega)]
   rfl
  ·rw [if_neg h0, if_neg h0]
   exact ⟨fun h => absurd h h0, rfl⟩
theorem zYt {s : MS} (hi : zDC TT s) {d : Int} (hd : 0 ≤ d ∧ d ≤ 5) {b : zI} (hb : zBl d b) {x : zC} (hx : zFo p x d) {rec : QM → List zC → zI → Option RTy} (hrec : d < 5 → ∀ b s, zBl (d + 1) b → zDC TT s → zUL rec p TT x.Steps b s) :
  KY rec N (toM p TT s) x b = some (encR (zCF p TT x b s)) ∧ ((zCF p TT x b s).1 = 0 → zDC TT (zCF p TT x b s).2) := by
 rw [zDY]
 by_cases h8 : x.Kind = 8
 ·obtain ⟨t1, t2, t3, t4⟩ := hx.times h8
  rw [if_pos h8]
  unfold KY
  rw [zOR, Option.bind_some, if_neg (by simp [h8])]
  unfold JX
  rw [if_neg (by simp [h8]), if_neg (by simp [h8]), if_neg (by simp [h8]), if_neg (by simp [h8]), if_neg (by simp [h8]), if_neg (by simp [h8]), if_pos (by simp [h8])]
  obtain ⟨q, q1, q2, q3⟩ := zVz hN (p := p) (TT := TT) (rec := rec) (s0 := s) (b := b) t1 t2.2 (fun j i s hj hx' hs => hrec t4 _ s (zVa hu hx.place ⟨hd.1, t4⟩ hb (by omega) (by omega)).2 hs) x.NY.toNat N 0 s hi (by omega) (by omega)
  rw [← q1]
  exact ⟨q3, q2⟩
 ·rw [if_neg h8]
  exact zV8 hN hT hl hu hi hd.2 hb hx h8 rec
theorem zVw {d : Int} (hd : 0 ≤ d ∧ d ≤ 5) {b : zI} (hb : zBl d b) {rec : QM → List zC → zI → Option RTy} {s0 : MS} : ∀ (l : List zC) (i : Nat) (s : MS), (∀ x ∈ l, zFo p x d ∧ (d < 5 → ∀ b s, zBl (d + 1) b → zDC TT s → zUL rec p TT x.Steps b s)) → zDC TT s →
  JS N (toM p TT s0) b rec l i (s.img.map toP) s.clear s.tool s.place.X s.place.Y s.placed s.off s.on = some (encR (zBU p TT l b s)) ∧ ((zBU p TT l b s).1 = 0 → zDC TT (zBU p TT l b s).2)
 | [], i, s, _, hs => by
  rw [JS, zFe]
  exact ⟨rfl, fun _ => hs⟩
 | x :: l, i, s, hx, hs => by
  obtain ⟨h1, h2⟩ := zYt hN hT hl hu hs hd hb (hx x List.mem_cons_self).1 (rec := rec) (hx x List.mem_cons_self).2
  rw [JS, zFU]
  have h1' : KY rec N (QM.mk (toM p TT s0).p (toM p TT s0).tools (s.img.map toP) s.clear s.tool (zI.mk s.place.X s.place.Y) s.placed s.off s.on) x b = some (encR (zCF p TT x b s)) := h1
  rw [h1', Option.bind_some]
  generalize hg : zCF p TT x b s = g at h2 ⊢
  by_cases h0 : g.1 = 0
  ·have ih := zVw hd hb (rec := rec) (s0 := s0) l (i + 1) g.2 (fun y hy => hx y (List.mem_cons_of_mem _ hy)) (h2 h0)
   rw [if_neg (show ¬ ((encR g).1 != 0) = true by show ¬ (g.1 != 0) = true; simp [h0]), if_pos h0]
   exact ih
  ·rw [if_pos (show ((encR g).1 != 0) = true by show (g.1 != 0) = true; simp [h0]), if_neg h0]
   exact ⟨rfl, fun h => absurd h h0⟩
omit hN in
theorem zY4 : ∀ (k : Nat) (d : Int) (N : Nat) (l : List zC) (b : zI) (s : MS), d + k = 5 → 0 ≤ d → 10000000000 + k + 1 ≤ N → zEh p d l → zBl d b → zDC TT s → zUL (Vq N) p TT l b s
 | k, d, N, l, b, s, hk, hd, hN, hv, hb, hs => by
  obtain ⟨N, rfl⟩ : ∃ m, N = m + 1 := ⟨N - 1, by omega⟩
  have := zVw (N := N) (by omega) hT hl hu (d := d) (by omega) hb (rec := Vq N) (s0 := s) l 0 s (fun x hx => by
   have h1 := (zB9 p d x).1 ((zUI p d l).1 hv x hx)
   refine ⟨zBt.1 h1.1, fun h5 b s hb hs => ?_⟩
   cases k with
   | zero => omega
   | succ k => exact zY4 k (d + 1) N x.Steps b s (by omega) (by omega) (by omega) h1.2 hb hs) hs
  exact this
end
def scR (u : Int) (r : zK) : zK := ⟨r.X0 * u, r.Y0 * u, r.X1 * u, r.Y1 * u⟩
def Jj (p : zt) : List (List zK) := p.Tools.map fun t => t.Rects.map (scR p.Unit)
def zBz : MS := ⟨[], false, -1, ⟨0, 0⟩, false, 0, 0⟩
theorem zHT {r : zK} {u : Int} (hu : 1 ≤ u) (h : zOK r u = 0) : ((-1000000 ≤ r.X0 * u ∧ r.X0 * u ≤ 1000000) ∧ (-1000000 ≤ r.Y0 * u ∧ r.Y0 * u ≤ 1000000) ∧ (-1000000 ≤ r.X1 * u ∧ r.X1 * u ≤ 1000000) ∧ (-1000000 ≤ r.Y1 * u ∧ r.Y1 * u ≤ 1000000)) ∧ r.X0 * u < r.X1 * u ∧ r.Y0 * u < r.Y1 * u := by
 unfold zOK at h
 split at h
 ·rename_i hf
  simp only [Bool.and_eq_true] at hf
  split at h
  ·cases h
  rename_i hn
  simp at hn
  exact ⟨⟨zC1 hu hf.1.1.1, zC1 hu hf.1.1.2, zC1 hu hf.1.2, zC1 hu hf.2⟩, Int.mul_lt_mul_of_pos_right hn.1 (by omega), Int.mul_lt_mul_of_pos_right hn.2 (by omega)⟩
 ·cases h
theorem zMu {u : Int} : ∀ {l : List zK}, zL4 u l = 0 → ∀ r ∈ l, zOK r u = 0
 | r :: l, h, x, hx => by
  rw [zL4] at h
  split at h
  ·rename_i h0
   rcases List.mem_cons.1 hx with rfl | hx
   ·exact h0
   ·exact zMu h x hx
  ·rename_i h0; exact absurd h h0
theorem zJ9 {t : zg} {u : Int} (h : zE0 t u = 0) : t.Rects ≠ [] ∧ t.Rects.length ≤ 2000 ∧ ∀ r ∈ t.Rects, zOK r u = 0 := by
 unfold zE0 at h
 split at h
 ·cases h
 split at h
 ·cases h
 rename_i h1 h2
 exact ⟨fun e => h1 (by rw [e]; rfl), by omega, zMu h⟩
theorem zPz {t : zg} {u : Int} (hu : 1 ≤ u) (h : zE0 t u = 0) : zEw (t.Rects.map (scR u)) := by
 obtain ⟨_, h1, h2⟩ := zJ9 h
 refine ⟨by simpa using h1, fun r hr => ?_, fun r hr => ?_⟩
 ·obtain ⟨q, hq, rfl⟩ := List.mem_map.1 hr
  exact (zHT hu (h2 q hq)).2
 ·obtain ⟨q, hq, rfl⟩ := List.mem_map.1 hr
  have := (zHT hu (h2 q hq)).1
  exact ⟨⟨this.1.1, this.2.2.1.2⟩, this.2.1.1, this.2.2.2.2⟩
theorem VX.Jj {N : Nat} {p : zt} (h : VX N p) : ∀ T ∈ Jj p, zEw T := fun T hT => by
 obtain ⟨t, ht, rfl⟩ := List.mem_map.1 hT
 exact zPz h.unit.1 (h.tools t ht).2
section
variable {N : Nat} (hN : 10000000000 ≤ N)
include hN
theorem zS5 {p : zt} {t : zg} (hu : 1 ≤ p.Unit) (ht : zE0 t p.Unit = 0) {acc : List (List zZ)} (ha : acc.length ≤ 1000) {K : List (List zZ) → Option QM} : ∀ (suf pre : List zK) (i : Nat), t.Rects = pre ++ suf →
  Jv N p acc K suf i (pre.map (scR p.Unit)) = K (acc ++ [(zAQ (t.Rects.map (scR p.Unit))).map toP])
 | [], pre, i, he => by
  rw [List.append_nil] at he
  have hk := zPz hu ht
  rw [Jv, ← he, zI1 hN (by have := hk.few; omega) (fun r hr => by
   have h1 := hk.ne r hr
   have h2 := hk.lim r hr
   exact ⟨by omega, by omega, by omega, by omega, h1.1, h1.2⟩), Option.bind_some, zB0 (by simp; omega), Option.bind_some]
 | r :: l, pre, i, he => by
  obtain ⟨_, h1, h2⟩ := zJ9 ht
  have hlen : t.Rects.length = pre.length + (l.length + 1) := by rw [he]; simp
  have hr := (zHT hu (h2 r (by rw [he]; simp))).1
  rw [Jv, QQ (by omega) (by omega), QQ (by omega) (by omega), QQ (by omega) (by omega), QQ (by omega) (by omega), zB0 (by simp; omega), Option.bind_some]
  have := zS5 hu ht ha (K := K) l (pre ++ [r]) (i + 1) (by rw [he]; simp)
  rw [List.map_append] at this
  exact this
theorem zS6 {p : zt} (hu : 1 ≤ p.Unit) (hp : ∀ t ∈ p.Tools, zE0 t p.Unit = 0) (hl : p.Tools.length ≤ 200) : ∀ (suf pre : List zg) (i : Nat), p.Tools = pre ++ suf →
  Qz N p suf i (pre.map fun t => (zAQ (t.Rects.map (scR p.Unit))).map toP) = some (toM p (Jj p) zBz)
 | [], pre, i, he => by
  rw [List.append_nil] at he
  rw [Qz, ← he]
  unfold toM Jj
  rw [List.map_map]; rfl
 | t :: l, pre, i, he => by
  have hlen : p.Tools.length = pre.length + (l.length + 1) := by rw [he]; simp
  rw [Qz]
  have h1 := zS5 hN hu (hp t (by rw [he]; simp)) (acc := pre.map fun t => (zAQ (t.Rects.map (scR p.Unit))).map toP) (by simp; omega) (K := Qz N p l (i + 1)) t.Rects [] 0 rfl
  rw [List.map_nil] at h1
  rw [h1]
  have := zS6 hu hp hl l (pre ++ [t]) (i + 1) (by rw [he]; simp)
  rw [List.map_append] at this
  exact this
theorem zcL {p : zt} {M : Nat} (h : VX M p) : zAz N p = some (toM p (Jj p) zBz) := by
 unfold zAz
 exact zS6 hN h.unit.1 (fun t ht => (h.tools t ht).2) h.few p.Tools [] 0 rfl
end
theorem zIk (TT : List (List zK)) : zDC TT zBz := by
 exact ⟨⟨⟨⟨0, trivial⟩, fun b hb => by cases hb⟩, by simp [zBz, QJ], by simp [zBz, QJ]⟩, ⟨by simp [zBz], by simp [zBz]; omega⟩, fun h => by cases h⟩
noncomputable def zA9 (p : zt) : Int × MS := zBU p (Jj p) p.Steps ⟨0, 0⟩ zBz
theorem zPD {N M : Nat} (hN : 20000000000 ≤ N) {p : zt} (h : VX M p) : zDp N p = some (toM p (Jj p) (zA9 p).2, (zA9 p).1) ∧ ((zA9 p).1 = 0 → zDC (Jj p) (zA9 p).2) := by
 obtain ⟨h1, h2⟩ := zY4 h.Jj (by unfold Jj; simp) h.unit.1 5 0 N p.Steps ⟨0, 0⟩ zBz (by omega) (by omega) (by omega) h.steps (by unfold zBl; simp) (zIk _)
 unfold zDp
 rw [zcL (by omega) h, Option.bind_some, h1, Option.bind_some]
 exact ⟨rfl, h2⟩
theorem zUQ {N : Nat} {p : zt} (hN : Fu p N) (hL : zIS p) : ∃ e, Jl N p = some e ∧ (e = 0 ↔ VX N p) := by
 have hw : Kw p.Unit 1 1000 = some (decide (1 ≤ p.Unit) && decide (p.Unit ≤ 1000)) := rfl
 unfold Jl
 rw [hw, Option.bind_some]
 by_cases hu : 1 ≤ p.Unit ∧ p.Unit ≤ 1000
 ·rw [if_neg (by simpa using hu)]
  by_cases ht : 200 < (p.Tools.length : Int)
  ·rw [if_pos (decide_eq_true ht)]
   exact ⟨2, rfl, fun h => (by cases h), fun h => by have := h.few; omega⟩
  ·rw [if_neg (by simpa using ht)]
   obtain ⟨e, e1, e2⟩ := zL7 hN hL hu p.Tools [] rfl (by omega)
   exact ⟨e, e1, e2 (fun _ h => by cases h) trivial⟩
 ·rw [if_pos (by simp; omega)]
  exact ⟨1, rfl, fun h => (by cases h), fun h => absurd h.unit hu⟩
theorem zCu.small {I : List Bd} (h : zCu I) : Small I := by
 have h1 := h.drw
 have h2 := h.few
 exact ⟨by have := h1.few; omega, fun b hb => by have := h1.row b hb; omega, by omega⟩
theorem zbe {N : Nat} (hN : 20000000000 ≤ N) {p : zt} (hF : Fu p N) (hL : zIS p) : ∃ I e, zAF N p = some (I, e) ∧ (e ≠ 0 → I = []) ∧ (e = 0 → VX N p ∧ (zA9 p).1 = 0 ∧ I = QJ (zA9 p).2.img) ∧ (VX N p → (zA9 p).1 = 0 → e = 0) := by
 obtain ⟨e, e1, e2⟩ := zUQ hF hL
 unfold zAF zCT
 rw [e1, Option.bind_some]
 by_cases h : e = 0
 ·have hp := e2.1 h
  obtain ⟨d1, d2⟩ := zPD hN hp
  rw [if_neg (by simpa using h), d1, Option.bind_some]
  by_cases h0 : (zA9 p).1 = 0
  ·rw [if_neg (by simpa using h0), Option.bind_some]
   show ∃ I e, ((Jb N ((zA9 p).2.img.map toP)).bind _) = _ ∧ _
   rw [zDi (by omega) (d2 h0).img.small, Option.bind_some]
   exact ⟨_, _, rfl, fun h => absurd rfl h, fun _ => ⟨hp, h0, rfl⟩, fun _ _ => rfl⟩
  ·rw [if_pos (by simpa using h0), Option.bind_some]
   have := zDi (N := N) (by omega) (l := []) ⟨by simp, by simp, by simp [QJ]⟩
   rw [List.map_nil] at this
   rw [this, Option.bind_some]
   exact ⟨_, _, rfl, fun _ => rfl, fun h => absurd h h0, fun _ h => absurd h h0⟩
 ·rw [if_pos (by simpa using h), Option.bind_some]
  have := zDi (N := N) (by omega) (l := []) ⟨by simp, by simp, by simp [QJ]⟩
  rw [List.map_nil] at this
  rw [this, Option.bind_some]
  exact ⟨_, _, rfl, fun _ => rfl, fun h' => absurd h' h, fun hp => absurd (e2.2 hp) h⟩
theorem VX.zea {N : Nat} {p : zt} (hN : Fu p N) (hL : zIS p) (h : VX N p) : zek p := by
 obtain ⟨g1, g2⟩ := h.good hN hL
 have hc := h.cnt
 have key : ∀ (k : Nat) (l : List zC) (d : Int), Jk l ≤ k → zEh p d l → zIG 40 l ∧ (zCX l : Int) ≤ zCC l := by
  intro k
  induction k with
  | zero =>
   intro l d hk _
   cases l with
   | nil => exact ⟨zQs _, by rw [zMx, zEd]; simp⟩
   | cons x l => have := KC x; rw [JP] at hk; omega
  | succ k ih =>
   intro l
   induction l with
   | nil => intro d _ _; exact ⟨zQs _, by rw [zMx, zEd]; simp⟩
   | cons x l ihl =>
    intro d hk hv
    have hs := KC x
    rw [JP] at hk
    rw [WY, zB9] at hv
    obtain ⟨i1, i2⟩ := ih x.Steps (d + 1) (by omega) hv.1.2
    obtain ⟨j1, j2⟩ := ihl d (by omega) hv.2
    refine ⟨(zO5 _ _ _).2 ⟨(zTt _ _).2 ⟨zUl g1 hv.1.1, i1⟩, j1⟩, ?_⟩
    rw [zHV, zL9, zDL, zHr]
    have h1 := zKA x.NX x.NY
    have h2 := Int.mul_le_mul_of_nonneg_right h1.1 (zDg x.Steps)
    omega
 obtain ⟨k1, k2⟩ := key _ p.Steps 0 (Nat.le_refl _) h.steps
 exact ⟨h.unit, h.few, fun t ht => ⟨g1 t ht, zUk (h.tools t ht).2⟩, k1, by omega⟩
noncomputable def zcU (p : zt) : List zK × Int := if (zA9 p).1 = 0 then (QJ (zA9 p).2.img, 0) else ([], (zA9 p).1)
theorem zRB {N : Nat} (hN : 20000000000 ≤ N) {p : zt} (hF : Fu p N) (hL : zIS p) (hp : VX N p) : zAF N p = some (zcU p) := by
 obtain ⟨d1, d2⟩ := zPD hN hp
 unfold zAF zCT zcU
 rw [(zKU hF hL).2 hp, Option.bind_some, if_neg (by simp), d1, Option.bind_some]
 by_cases h0 : (zA9 p).1 = 0
 ·rw [if_neg (by simpa using h0), if_pos h0, Option.bind_some]
  show ((Jb N ((zA9 p).2.img.map toP)).bind _) = _
  rw [zDi (by omega) (d2 h0).img.small, Option.bind_some]
 ·rw [if_pos (by simpa using h0), if_neg h0, Option.bind_some]
  have := zDi (N := N) (by omega) (l := []) ⟨by simp, by simp, by simp [QJ]⟩
  rw [List.map_nil] at this
  rw [this, Option.bind_some]; rfl
def zEX (q : zI) : Bool := within q.X (-1000000) 1000000 && within q.Y (-1000000) 1000000
theorem zBv {q : zI} : zEX q = true ↔ (-1000000 ≤ q.X ∧ q.X ≤ 1000000) ∧ (-1000000 ≤ q.Y ∧ q.Y ≤ 1000000) := by
 unfold zEX
 rw [Bool.and_eq_true, within_iff, within_iff]
def chk (t : Qf) : Bool := within t.Quarters 0 3 && zEX t.At
theorem zJe {t : Qf} : chk t = true ↔ (0 ≤ t.Quarters ∧ t.Quarters ≤ 3) ∧ (-1000000 ≤ t.At.X ∧ t.At.X ≤ 1000000) ∧ (-1000000 ≤ t.At.Y ∧ t.At.Y ≤ 1000000) := by
 unfold chk
 rw [Bool.and_eq_true, within_iff, zBv]
def rX (q x y : Int) : Int := if q = 0 then x else if q = 1 then -y else if q = 2 then -x else y
def rY (q x y : Int) : Int := if q = 0 then y else if q = 1 then x else if q = 2 then -y else -x
def tk (t : Qf) (q : zI) : zI := ⟨rX t.Quarters (if t.Flip then -q.X else q.X) q.Y + t.At.X, rY t.Quarters (if t.Flip then -q.X else q.X) q.Y + t.At.Y⟩
theorem zEE {q : Int} (h : 0 ≤ q ∧ q ≤ 3) : q = 0 ∨ q = 1 ∨ q = 2 ∨ q = 3 := by omega
theorem zVm {N : Nat} (hN : 5 ≤ N) {t : Qf} {p : zI} (hq : 0 ≤ t.Quarters ∧ t.Quarters ≤ 3) (ha : (-1000000 ≤ t.At.X ∧ t.At.X ≤ 1000000) ∧ (-1000000 ≤ t.At.Y ∧ t.At.Y ≤ 1000000)) (hp : zEX p = true) : KS N p t = some (tk t p) := by
 obtain ⟨m, rfl⟩ : ∃ m, N = m + 5 := ⟨N - 5, by omega⟩
 rw [zBv] at hp
 obtain ⟨fl, q, ⟨ax, ay⟩⟩ := t
 obtain ⟨px, py⟩ := p
 simp only at hq ha hp
 unfold KS Kq tk
 rcases zEE hq with rfl | rfl | rfl | rfl <;> cases fl <;> simp (disch := omega) [Ko, QQ, rX, rY]
def tr (t : Qf) (r : zK) : zK := ⟨min (tk t ⟨r.X0, r.Y0⟩).X (tk t ⟨r.X1, r.Y1⟩).X, min (tk t ⟨r.X0, r.Y0⟩).Y (tk t ⟨r.X1, r.Y1⟩).Y, max (tk t ⟨r.X0, r.Y0⟩).X (tk t ⟨r.X1, r.Y1⟩).X, max (tk t ⟨r.X0, r.Y0⟩).Y (tk t ⟨r.X1, r.Y1⟩).Y⟩
theorem zdS {r : zK} (h : ROk r) : zEX ⟨r.X0, r.Y0⟩ = true ∧ zEX ⟨r.X1, r.Y1⟩ = true := ⟨zBv.2 ⟨h.x0, h.y0⟩, zBv.2 ⟨h.x1, h.y1⟩⟩
theorem zdu {t : Qf} (ht : chk t = true) {r : zK} (h : ROk r) : R9 (tr t r) := by
 obtain ⟨c1, c2, c3⟩ := zJe.1 ht
 have := h.x0; have := h.x1; have := h.y0; have := h.y1; have hx := h.x; have hy := h.y
 obtain ⟨fl, q, ⟨ax, ay⟩⟩ := t
 obtain ⟨x0, y0, x1, y1⟩ := r
 simp only at *
 rcases zEE c1 with rfl | rfl | rfl | rfl <;> cases fl <;> (constructor <;> simp [tr, tk, rX, rY] <;> omega)
theorem zUJ {N : Nat} (hN : 5 ≤ N) {t : Qf} (ht : chk t = true) {r : zK} (h : ROk r) : Vd N r t = some (tr t r) := by
 obtain ⟨c1, c2, c3⟩ := zJe.1 ht
 obtain ⟨h1, h2⟩ := zdS h
 unfold Vd
 rw [zVm hN c1 ⟨c2, c3⟩ h1, Option.bind_some, zVm hN c1 ⟨c2, c3⟩ h2]; rfl
section
variable {N : Nat} (hN : 10000000000 ≤ N)
include hN
theorem zdc {l : List Bd} (hl : l.length ≤ 200000000) (h : (QJ l).length ≤ 1000000000000000000) : zAx N (l.map toP) = some (zVn l) := by
 unfold zAx zVn
 rw [zSE h, Option.bind_some]
 by_cases h2 : 2000 < (QJ l).length
 ·rw [if_pos (by simp; omega), if_pos h2]
 ·rw [if_neg (by simp; omega), if_neg h2, zDi hN ⟨hl, fun b hb => by have := zKE hb; omega, by omega⟩, Option.bind_some]
end
theorem zPR (q : zI) : Kc q = some (zEX q) := by
 unfold Kc Vn WO zEX within
 simp only [Option.bind_some]
 cases decide (-1000000 ≤ q.X) && decide (q.X ≤ 1000000) <;> rfl
theorem zLk (t : Qf) : Wi t = some (if chk t then 0 else 1) := by
 unfold Wi
 rw [zPR]
 unfold WO chk within
 simp only [Option.bind_some]
 cases decide (0 ≤ t.Quarters) && decide (t.Quarters ≤ 3) <;> cases zEX t.At <;> rfl
def zW6 (t : Qf) : Int := if t.Flip then t.Quarters else Int.tmod (4 - t.Quarters) 4
def zbP (t : Qf) : Qf := ⟨t.Flip, zW6 t, ⟨-(tk ⟨t.Flip, zW6 t, ⟨0, 0⟩⟩ t.At).X, -(tk ⟨t.Flip, zW6 t, ⟨0, 0⟩⟩ t.At).Y⟩⟩
theorem zVi {N : Nat} (hN : 10000000000 ≤ N) {t : Qf} (ht : chk t = true) {l : List zK} (h : zBu l = 0) : WP N ((zAQ l).map toP) t = some ((zAQ (l.map (tr t))).map toP) := by
 obtain ⟨_, hl, hok, hr⟩ := zKr h
 have loop : ∀ (suf pre : List zK) (m : Nat), l = pre ++ suf → suf.length < m → Jg N t l m (pre.map (tr t) ++ suf) pre.length = some ((zAQ (l.map (tr t))).map toP) := by
  intro suf
  induction suf with
  | nil =>
   intro pre m h1 h2
   obtain ⟨m, rfl⟩ : ∃ k, m = k + 1 := ⟨m - 1, by omega⟩
   rw [List.append_nil] at h1
   subst h1
   rw [Jg.eq_2, if_neg (by simp), List.append_nil, zI1 hN (by simp; omega) (fun r hr => by
    obtain ⟨q, hq, rfl⟩ := List.mem_map.1 hr
    exact zdu ht (hok q hq))]; rfl
  | cons r suf ih =>
   intro pre m h1 h2
   obtain ⟨m, rfl⟩ : ∃ k, m = k + 1 := ⟨m - 1, by omega⟩
   have hpl : pre.length ≤ 2000 := by rw [h1] at hl; simp at hl; omega
   have e0 : (pre.length : Int) = ((pre.map (tr t)).length : Int) := by simp
   have hid : idx (pre.map (tr t) ++ r :: suf) (pre.length : Int) = some r := by rw [e0]; exact KQ _ suf r
   have hset : sets (pre.map (tr t) ++ r :: suf) (pre.length : Int) (tr t r) = some ((pre ++ [r]).map (tr t) ++ suf) := by
    unfold sets
    rw [if_pos ⟨by omega, by simp⟩]
    simp
   rw [Jg.eq_2, if_pos (by rw [h1]; exact zRY pre suf r), hid, Option.bind_some, zUJ (by omega) ht (hok r (by rw [h1]; simp)), Option.bind_some, Option.bind_some, hset, Option.bind_some, zN4 pre r (by omega)]
   exact ih (pre ++ [r]) m (by rw [h1]; simp) (by simp at h2; omega)
 unfold WP
 rw [zDi hN (zKC (by omega)), Option.bind_some, hr]
 exact loop l [] N rfl (by omega)
def zGo (l : List zK) (t : Qf) : List zK × Int := if zBu l = 0 then if chk t = true then if (l.map (tr t)).all lim = true then zVn (zAQ (l.map (tr t))) else ([], 1) else ([], 1) else ([], zBu l)
theorem zII {N : Nat} (hN : 10000000000 ≤ N) (l : List zK) (t : Qf) : Vb N l t = some (zGo l t) := by
 unfold Vb zGo
 rw [zPT hN, Option.bind_some]
 by_cases h : zBu l = 0
 ·rw [if_neg (by simpa using h), if_pos h, zLk, Option.bind_some]
  cases hc : chk t
  ·simp
  ·obtain ⟨_, hl, hok, hr⟩ := zKr h
   have hsm := zKC (l := l.map (tr t)) (by simp; omega)
   rw [if_neg (by simp), zI1 hN (by omega) (fun r hr => (hok r hr).r9), Option.bind_some, zVi hN hc h, Option.bind_some, zXD (by simp; omega) (fun r hr => by
    obtain ⟨q, hq, rfl⟩ := List.mem_map.1 hr
    have := zdu hc (hok q hq)
    exact ⟨this.x, this.y⟩), Option.bind_some, if_pos rfl, zdc hN hsm.len (by have := hsm.tot; omega), Option.bind_some]
   cases (l.map (tr t)).all lim <;> simp
 ·rw [if_pos (by simpa using h), if_neg h]
abbrev Sd := zI × zI
def sdL (x y : Int) (s : Sd) : Bool := (decide (s.1.X = s.2.X) && (decide (min s.1.Y s.2.Y ≤ y) && decide (y < max s.1.Y s.2.Y))) && decide (s.1.X ≤ x)
def sdR (x y : Int) (s : Sd) : Bool := (decide (s.1.X = s.2.X) && (decide (min s.1.Y s.2.Y ≤ y) && decide (y < max s.1.Y s.2.Y))) && decide (x < s.1.X)
def sdB (x y : Int) (s : Sd) : Bool := (decide (s.1.Y = s.2.Y) && (decide (min s.1.X s.2.X ≤ x) && decide (x < max s.1.X s.2.X))) && decide (s.1.Y ≤ y)
def sdT (x y : Int) (s : Sd) : Bool := (decide (s.1.Y = s.2.Y) && (decide (min s.1.X s.2.X ≤ x) && decide (x < max s.1.X s.2.X))) && decide (y < s.1.Y)
theorem zSC {A B : Prop} [Decidable A] [Decidable B] : (decide A != decide B) = true ↔ ¬ (A ↔ B) := by
 by_cases ha : A <;> by_cases hb : B <;> simp [ha, hb]
theorem zQO (l : List zI) (x y : Int) : zK5 l x y ↔ (VK l).countP (sdL x y) % 2 = 1 := by
 unfold zK5 cle zGe
 have : ((((VK l).filter fun s => decide (s.1.X = s.2.X) && (decide (min s.1.Y s.2.Y ≤ y) && decide (y < max s.1.Y s.2.Y))).map (·.1.X)).filter fun z => decide (z ≤ x)).length = (VK l).countP (sdL x y) := by
  rw [List.filter_map, List.length_map, List.filter_filter, ← List.countP_eq_length_filter]
  refine List.countP_congr fun s _ => ?_
  show (decide (s.1.X ≤ x) && _) = true ↔ _
  unfold sdL
  rw [Bool.and_comm]
 rw [this]
theorem zTw (f : zI → Bool) (p0 : zI) : ∀ (r : List zI) (x : zI), ((nxt p0 (x :: r)).countP fun s => f s.1 != f s.2) % 2 = if (f x != f p0) then 1 else 0
 | [], x => by
  rw [nxt, List.countP_cons, List.countP_nil]
  simp only
  cases f x <;> cases f p0 <;> rfl
 | z :: r, x => by
  have ih := zTw f p0 r z
  rw [nxt, List.countP_cons]
  revert ih
  simp only
  cases f x <;> cases f z <;> cases f p0 <;> simp <;> omega
theorem zMW (f : zI → Bool) (l : List zI) : ((VK l).countP fun s => f s.1 != f s.2) % 2 = 0 := by
 cases l with
 | nil => rfl
 | cons x r => rw [VK, zTw]; simp
theorem zPE {S : List Sd} {a b e : Sd → Bool} (h : ∀ s ∈ S, e s = (a s || b s) ∧ (a s && b s) = false) : S.countP e = S.countP a + S.countP b := by
 induction S with
 | nil => rfl
 | cons s S ih =>
  obtain ⟨h1, h2⟩ := h s List.mem_cons_self
  rw [List.countP_cons, List.countP_cons, List.countP_cons, ih fun s hs => h s (List.mem_cons_of_mem _ hs), h1]
  revert h2
  cases a s <;> cases b s <;> simp <;> omega
section
variable {l : List zI} (h : axS (VK l)) (x y : Int)
include h
theorem zVd {s : Sd} (hs : s ∈ VK l) : ¬ (s.1.X = s.2.X ↔ s.1.Y = s.2.Y) := fun e => h s hs (propext e)
theorem zfH : (VK l).countP (sdR x y) % 2 = (VK l).countP (sdL x y) % 2 := by
 have h1 := zMW (fun p => decide (p.Y ≤ y)) l
 rw [zPE (a := sdL x y) (b := sdR x y) fun s hs => by
  have := zVd h hs
  refine ⟨?_, ?_⟩
  ·rw [Bool.eq_iff_iff]
   simp only [sdL, sdR, Bool.or_eq_true, Bool.and_eq_true, decide_eq_true_eq, zSC]
   omega
  ·rw [Bool.eq_false_iff]
   simp only [sdL, sdR, ne_eq, Bool.and_eq_true, decide_eq_true_eq]
   omega] at h1
 omega
theorem zfJ : (VK l).countP (sdT x y) % 2 = (VK l).countP (sdB x y) % 2 := by
 have h1 := zMW (fun p => decide (p.X ≤ x)) l
 rw [zPE (a := sdB x y) (b := sdT x y) fun s hs => by
  have := zVd h hs
  refine ⟨?_, ?_⟩
  ·rw [Bool.eq_iff_iff]
   simp only [sdB, sdT, Bool.or_eq_true, Bool.and_eq_true, decide_eq_true_eq, zSC]
   omega
  ·rw [Bool.eq_false_iff]
   simp only [sdB, sdT, ne_eq, Bool.and_eq_true, decide_eq_true_eq]
   omega] at h1
 omega
theorem zfI : (VK l).countP (sdB x y) % 2 = (VK l).countP (sdL x y) % 2 := by
 have h1 := zMW (fun p => decide (p.X ≤ x ∧ p.Y ≤ y)) l
 rw [zPE (a := sdL x y) (b := sdB x y) fun s hs => by
  have := zVd h hs
  refine ⟨?_, ?_⟩
  ·rw [Bool.eq_iff_iff]
   simp only [sdL, sdB, Bool.or_eq_true, Bool.and_eq_true, decide_eq_true_eq, zSC]
   omega
  ·rw [Bool.eq_false_iff]
   simp only [sdL, sdB, ne_eq, Bool.and_eq_true, decide_eq_true_eq]
   omega] at h1
 omega
end
def sqm (t : Qf) (p : Int × Int) : Int × Int := ((tr t ⟨p.1, p.2, p.1 + 1, p.2 + 1⟩).X0, (tr t ⟨p.1, p.2, p.1 + 1, p.2 + 1⟩).Y0)
section
variable {t : Qf} (hq : 0 ≤ t.Quarters ∧ t.Quarters ≤ 3)
include hq
theorem zZB {l : List zI} (h : axS (VK l)) (x y : Int) : zK5 (l.map (tk t)) (sqm t (x, y)).1 (sqm t (x, y)).2 ↔ zK5 l x y := by
 rw [zQO, zQO, zOE, List.countP_map]
 have key : ∀ e : Sd → Bool, (VK l).countP e % 2 = (VK l).countP (sdL x y) % 2 → (∀ s, sdL (sqm t (x, y)).1 (sqm t (x, y)).2 (tk t s.1, tk t s.2) = e s) → ((VK l).countP (sdL (sqm t (x, y)).1 (sqm t (x, y)).2 ∘ fun s => (tk t s.1, tk t s.2)) % 2 = 1 ↔ (VK l).countP (sdL x y) % 2 = 1) := fun e h1 h2 => by
  rw [show (sdL (sqm t (x, y)).1 (sqm t (x, y)).2 ∘ fun s : Sd => (tk t s.1, tk t s.2)) = e from funext fun s => h2 s, h1]
 have hR := zfH h x y
 have hB := zfI h x y
 have hT := (zfJ h x y).trans hB
 clear h
 obtain ⟨fl, q, ⟨ax, ay⟩⟩ := t
 simp only at hq
 rcases zEE hq with rfl | rfl | rfl | rfl <;> cases fl
 ·refine key _ rfl fun s => ?_
  rw [Bool.eq_iff_iff]
  simp [sdL, sqm, tr, tk, rX, rY]; omega
 ·refine key _ hR fun s => ?_
  rw [Bool.eq_iff_iff]
  simp [sdL, sdR, sqm, tr, tk, rX, rY]; omega
 ·refine key _ hT fun s => ?_
  rw [Bool.eq_iff_iff]
  simp [sdL, sdT, sqm, tr, tk, rX, rY]; omega
 ·refine key _ hT fun s => ?_
  rw [Bool.eq_iff_iff]
  simp [sdL, sdT, sqm, tr, tk, rX, rY]; omega
 ·refine key _ hR fun s => ?_
  rw [Bool.eq_iff_iff]
  simp [sdL, sdR, sqm, tr, tk, rX, rY]; omega
 ·refine key _ rfl fun s => ?_
  rw [Bool.eq_iff_iff]
  simp [sdL, sqm, tr, tk, rX, rY]; omega
 ·refine key _ hB fun s => ?_
  rw [Bool.eq_iff_iff]
  simp [sdL, sdB, sqm, tr, tk, rX, rY]; omega
 ·refine key _ hB fun s => ?_
  rw [Bool.eq_iff_iff]
  simp [sdL, sdB, sqm, tr, tk, rX, rY]; omega
theorem zYv {a : zK} (h : a.X0 < a.X1 ∧ a.Y0 < a.Y1) (x y : Int) : (((tr t a).X0 ≤ (sqm t (x, y)).1 ∧ (sqm t (x, y)).1 < (tr t a).X1) ∧ (tr t a).Y0 ≤ (sqm t (x, y)).2 ∧ (sqm t (x, y)).2 < (tr t a).Y1) ↔ ((a.X0 ≤ x ∧ x < a.X1) ∧ a.Y0 ≤ y ∧ y < a.Y1) := by
 obtain ⟨fl, q, ⟨ax, ay⟩⟩ := t
 simp only at hq
 rcases zEE hq with rfl | rfl | rfl | rfl <;> cases fl <;> simp [sqm, tr, tk, rX, rY] <;> omega
theorem zdv {a : zK} (h : a.X0 < a.X1 ∧ a.Y0 < a.Y1) : (tr t a).X0 < (tr t a).X1 ∧ (tr t a).Y0 < (tr t a).Y1 := by
 obtain ⟨fl, q, ⟨ax, ay⟩⟩ := t
 simp only at hq
 rcases zEE hq with rfl | rfl | rfl | rfl <;> cases fl <;> simp [tr, tk, rX, rY] <;> omega
theorem zbc {l : List zK} (hl : Ne l) (x y : Int) : InR (sqm t (x, y)).1 (sqm t (x, y)).2 (l.map (tr t)) ↔ InR x y l := by
 unfold InR
 constructor
 ·rintro ⟨b, hb, hx⟩
  obtain ⟨a, ha, rfl⟩ := List.mem_map.1 hb
  exact ⟨a, ha, (zYv hq (hl a ha) x y).1 hx⟩
 ·rintro ⟨a, ha, hx⟩
  exact ⟨tr t a, List.mem_map.2 ⟨a, ha, rfl⟩, (zYv hq (hl a ha) x y).2 hx⟩
theorem zYu (x y : Int) : ∃ u v, sqm t (u, v) = (x, y) := by
 refine ⟨(sqm (zbP t) (x, y)).1, (sqm (zbP t) (x, y)).2, ?_⟩
 obtain ⟨fl, q, ⟨ax, ay⟩⟩ := t
 simp only at hq
 rcases zEE hq with rfl | rfl | rfl | rfl <;> cases fl <;> simp [sqm, tr, tk, rX, rY, zbP, zW6] <;> omega
theorem zb8 (p q : zI) {r : zK} (h : r.X0 < r.X1 ∧ r.Y0 < r.Y1) : tr t (swR (min p.X q.X) (max p.X q.X) (min p.Y q.Y) (max p.Y q.Y) r) = swR (min (tk t p).X (tk t q).X) (max (tk t p).X (tk t q).X) (min (tk t p).Y (tk t q).Y) (max (tk t p).Y (tk t q).Y) (tr ⟨t.Flip, t.Quarters, ⟨0, 0⟩⟩ r) := by
 obtain ⟨fl, q', ⟨ax, ay⟩⟩ := t
 obtain ⟨px, py⟩ := p
 obtain ⟨qx, qy⟩ := q
 obtain ⟨x0, y0, x1, y1⟩ := r
 simp only at hq h
 rcases zEE hq with rfl | rfl | rfl | rfl <;> cases fl <;> simp [swR, tr, tk, rX, rY] <;> omega
end
def zPP (t : Qf) (A B : List Bd) : Prop := ∀ x y, InB (sqm t (x, y)).1 (sqm t (x, y)).2 B ↔ InB x y A
structure zNN (t : Qf) (s z : MS) : Prop where
 img : zPP t s.img z.img
 clear : z.clear = s.clear
 tool : z.tool = s.tool
 placed : z.placed = s.placed
 place : s.placed = true → z.place = tk t s.place
def zUM (t : Qf) (a b : Int × MS) : Prop := a.1 = 0 → (b.1 = 0 ∨ b.1 = 1 ∨ b.1 = 2) ∧ (b.1 = 0 → zNN t a.2 b.2)
theorem za7 {t : Qf} {c : Bool} {I S I' S' : List Bd} (hI : zFu I) (hS : zFu S) (hI' : zFu I') (hS' : zFu S') (h1 : zPP t I I') (h2 : zPP t S S') : zPP t (cmb c I S) (cmb c I' S') := fun x y => by
 obtain ⟨_, _, a, _⟩ := zR8 (c := c) hI hS (Nat.le_refl _)
 obtain ⟨_, _, b, _⟩ := zR8 (c := c) hI' hS' (Nat.le_refl _)
 rw [a, b]
 unfold zYH
 rw [h1 x y, h2 x y]
theorem zKN {t : Qf} {s z : MS} {S S' : List Bd} (hi : zCu s.img) (hz : zCu z.img) (hS : zFu S) (hS' : zFu S') (h : zNN t s z) (hT : zPP t S S') : zUM t (zQ0 s S) (zQ0 z S') := by
 intro h0
 have hc := za7 (c := s.clear) hi.drw hS hz.drw hS' h.img hT
 unfold zQ0 drw at h0 ⊢
 rw [h.clear]
 by_cases l1 : (QJ S).all lim = true
 ·rw [if_pos l1] at h0 ⊢
  by_cases l2 : (QJ S').all lim = true
  ·rw [if_pos l2]
   by_cases m1 : 2000 < (QJ (cmb s.clear s.img S)).length
   ·rw [if_pos m1] at h0; cases h0
   ·rw [if_neg m1]
    by_cases m2 : 2000 < (QJ (cmb s.clear z.img S')).length
    ·rw [if_pos m2]
     exact ⟨.inr (.inr rfl), fun h => by cases h⟩
    ·rw [if_neg m2]
     exact ⟨.inl rfl, fun _ => ⟨hc, rfl, h.tool, h.placed, h.place⟩⟩
  ·rw [if_neg l2]
   exact ⟨.inr (.inl rfl), fun h => by cases h⟩
 ·rw [if_neg l1] at h0; cases h0
theorem zMq {t : Qf} {s z : MS} (h : zNN t s z) (q : zI) : zUM t (zA5 s q) (zA5 z (tk t q)) := by
 intro h0
 unfold zA5 at h0 ⊢
 cases hq : ptB q
 ·rw [hq] at h0; cases h0
 ·cases ptB (tk t q)
  ·exact ⟨.inr (.inl rfl), fun h => by cases h⟩
  ·exact ⟨.inl rfl, fun _ => ⟨h.img, h.clear, h.tool, rfl, fun _ => rfl⟩⟩
theorem zUo {t : Qf} {s z : MS} (h : zNN t s z) (q : zI) : zUM t (zEW s q) (zEW z (tk t q)) := by
 intro h0
 unfold zEW at h0 ⊢
 cases hq : ptB q
 ·rw [hq] at h0; cases h0
 ·cases ptB (tk t q)
  ·exact ⟨.inr (.inl rfl), fun h => by cases h⟩
  ·exact ⟨.inl rfl, fun _ => ⟨h.img, h.clear, h.tool, rfl, fun _ => rfl⟩⟩
theorem zOF (s : MS) (q : zI) : (zA5 s q).2.img = s.img := by unfold zA5; split <;> rfl
theorem zP8 (s : MS) (q : zI) : (zEW s q).2.img = s.img := by unfold zEW; split <;> rfl
def t0 (t : Qf) : Qf := ⟨t.Flip, t.Quarters, ⟨0, 0⟩⟩
section
variable {t : Qf} (hq : 0 ≤ t.Quarters ∧ t.Quarters ≤ 3) {TT TT' : List (List zK)} (hT : ∀ T ∈ TT, zEw T) (hT' : ∀ T ∈ TT', zEw T) (hTT : TT' = TT.map fun T => T.map (tr (t0 t))) {s z : MS}
include hq hT hTT
theorem zSj (h : z.tool = s.tool) (p q : zI) : zPP t (swT TT s p q) (swT TT' z (tk t p) (tk t q)) := fun x y => by
 unfold swT
 rw [h, hTT]
 have hg : Ne (TT.getD s.tool.toNat []) := by
  rw [List.getD_eq_getElem?_getD]
  cases h : TT[s.tool.toNat]? with
  | none => exact fun r hr => by simp at hr
  | some T => exact (hT T (List.mem_of_getElem? h)).ne
 have e : (TT.map fun T => T.map (tr (t0 t))).getD s.tool.toNat [] = (TT.getD s.tool.toNat []).map (tr (t0 t)) := by
  rw [List.getD_eq_getElem?_getD, List.getD_eq_getElem?_getD, List.getElem?_map]
  cases TT[s.tool.toNat]? <;> rfl
 rw [e]
 generalize TT.getD s.tool.toNat [] = T at hg
 have e2 : (T.map (tr (t0 t))).map (swR (min (tk t p).X (tk t q).X) (max (tk t p).X (tk t q).X) (min (tk t p).Y (tk t q).Y) (max (tk t p).Y (tk t q).Y)) = (T.map (swR (min p.X q.X) (max p.X q.X) (min p.Y q.Y) (max p.Y q.Y))).map (tr t) := by
  rw [List.map_map, List.map_map]
  exact List.map_congr_left fun r hr => (zb8 hq p q (hg r hr)).symm
 rw [e2]
 have hn := zVp (x0 := min p.X q.X) (x1 := max p.X q.X) (y0 := min p.Y q.Y) (y1 := max p.Y q.Y) (by omega) (by omega) hg
 have hn' : Ne ((T.map (swR (min p.X q.X) (max p.X q.X) (min p.Y q.Y) (max p.Y q.Y))).map (tr t)) := fun r hr => by
  obtain ⟨r0, k, rfl⟩ := List.mem_map.1 hr
  exact zdv hq (hn r0 k)
 rw [(zEB hn).2, (zEB hn').2]
 exact zbc hq hn x y
include hT'
theorem zTz (hi : zCu s.img) (hz : zCu z.img) (h : zNN t s z) (q : zI) : zUM t (zCM TT s q) (zCM TT' z (tk t q)) := by
 unfold zCM
 rw [h.tool]
 by_cases h0 : s.tool < 0
 ·rw [if_pos h0]
  intro h; cases h
 ·rw [if_neg h0, if_neg h0]
  have hs := zMq h q
  by_cases h1 : (zA5 s q).1 = 0
  ·obtain ⟨a1, a2⟩ := hs h1
   rw [if_pos h1]
   by_cases h2 : (zA5 z (tk t q)).1 = 0
   ·rw [if_pos h2]
    have hr := a2 h2
    exact zKN (by rw [zOF]; exact hi) (by rw [zOF]; exact hz) (zF9 hT) (zF9 hT') hr (zSj hq hT hTT h.tool q q)
   ·rw [if_neg h2]
    exact fun _ => ⟨a1, fun h => absurd h h2⟩
  ·rw [if_neg h1]
   exact fun h => absurd h h1
theorem zU1 (hi : zCu s.img) (hz : zCu z.img) (h : zNN t s z) (q : zI) : zUM t (zEb TT s q) (zEb TT' z (tk t q)) := by
 unfold zEb
 rw [h.tool, h.placed]
 by_cases h0 : s.tool < 0 ∨ s.placed = false
 ·rw [if_pos h0]
  intro h; cases h
 ·rw [if_neg h0, if_neg h0]
  have hpl : s.placed = true := by simpa using (not_or.1 h0).2
  rw [h.place hpl]
  by_cases hx : q.X ≠ s.place.X ∧ q.Y ≠ s.place.Y
  ·rw [if_pos hx]
   intro h; cases h
  ·rw [if_neg hx]
   have hx' : ¬ ((tk t q).X ≠ (tk t s.place).X ∧ (tk t q).Y ≠ (tk t s.place).Y) := by
    obtain ⟨fl, qq, ⟨ax, ay⟩⟩ := t
    simp only at hq
    unfold tk rX rY
    rcases zEE hq with rfl | rfl | rfl | rfl <;> cases fl <;> simp <;> omega
   rw [if_neg hx']
   have hs := zUo h q
   by_cases h1 : (zEW s q).1 = 0
   ·obtain ⟨a1, a2⟩ := hs h1
    rw [if_pos h1]
    by_cases h2 : (zEW z (tk t q)).1 = 0
    ·rw [if_pos h2]
     have hr := a2 h2
     exact zKN (by rw [zP8]; exact hi) (by rw [zP8]; exact hz) (zF9 hT) (zF9 hT') hr (zSj hq hT hTT h.tool s.place q)
    ·rw [if_neg h2]
     exact fun _ => ⟨a1, fun h => absurd h h2⟩
   ·rw [if_neg h1]
    exact fun h => absurd h h1
end
structure zbf (row : List zI) : Prop where
 ax : axS (VK row)
 drw : zFu (arB row)
 mem : ∀ x y, InB x y (arB row) ↔ zK5 row x y
theorem zNo {U d : Int} (hu : 1 ≤ U) (hd : d ≤ 5) {b : zI} (hb : zBl d b) {l : List zI} (h1 : ∀ q ∈ l, zAR q U = true) (h2 : 4 ≤ l.length ∧ l.length ≤ 2000) (h3 : zL2 l l 0 = true) : zbf (l.map fun q => atM U q b) := by
 have hax := zej hu h1 hd hb (zSv h3)
 obtain ⟨A, a1, a2, a3, a4, a5⟩ := zPU (Nat.le_refl 10000000000) (l := l.map fun q => atM U q b) (by
  intro h
  have := List.map_eq_nil_iff.1 h
  rw [this] at h2; simp at h2) (by simpa using h2.2) (fun q hq => by
  obtain ⟨z, hz, rfl⟩ := List.mem_map.1 hq
  obtain ⟨e, b1, b2⟩ := zKR hu (h1 z hz) hd hb
  unfold zBl at hb
  rw [e]; simp only; omega) hax
 have hA := zbV a2 a5
 have htot := zDA a4
 refine ⟨hax, ?_, ?_⟩
 ·rw [hA]
  exact ⟨a2, by omega, fun b hb => by have := a4 b hb; omega, Nat.le_trans htot (by have := Nat.mul_le_mul_left 2000 a3; omega)⟩
 ·rw [hA]; exact a5
theorem zVe {t : Qf} (hq : 0 ≤ t.Quarters ∧ t.Quarters ≤ 3) {s z : MS} (hi : zCu s.img) (hz : zCu z.img) (h : zNN t s z) {row : List zI} (hr : zbf row) (hr' : zbf (row.map (tk t))) : zUM t (zG8 s row) (zG8 z (row.map (tk t))) := by
 unfold zG8
 by_cases h1 : 2000 < (QJ (arB row)).length
 ·rw [if_pos h1]
  intro h; cases h
 rw [if_neg h1]
 by_cases h2 : (row.any fun q => !ptB q) = true
 ·rw [if_pos h2]
  intro h; cases h
 rw [if_neg h2]
 by_cases h3 : 2000 < (QJ (arB (row.map (tk t)))).length
 ·rw [if_pos h3]
  exact fun _ => ⟨.inr (.inr rfl), fun h => by cases h⟩
 rw [if_neg h3]
 by_cases h4 : ((row.map (tk t)).any fun q => !ptB q) = true
 ·rw [if_pos h4]
  exact fun _ => ⟨.inr (.inl rfl), fun h => by cases h⟩
 rw [if_neg h4]
 exact zKN hi hz hr.drw hr'.drw h fun x y => by rw [hr.mem, hr'.mem]; exact zZB hq hr.ax x y
section
variable {t : Qf} (hq : 0 ≤ t.Quarters ∧ t.Quarters ≤ 3) {TT TT' : List (List zK)} (hT : ∀ T ∈ TT, zEw T) (hT' : ∀ T ∈ TT', zEw T) (hTT : TT' = TT.map fun T => T.map (tr (t0 t))) {s z : MS}
include hq hT hT' hTT
theorem zQH {p p' : zt} {x x' : zC} {b b' : zI} (hk : x'.Kind = x.Kind) (hn : zDF x'.Name p'.Tools = zDF x.Name p.Tools) (hp : x.Kind = 4 ∨ x.Kind = 5 ∨ x.Kind = 6 → atM p'.Unit x'.At b' = tk t (atM p.Unit x.At b)) (hr : x.Kind = 7 → (x'.Points.map fun q => atM p'.Unit q b') = (x.Points.map fun q => atM p.Unit q b).map (tk t) ∧ zbf (x.Points.map fun q => atM p.Unit q b) ∧ zbf (x'.Points.map fun q => atM p'.Unit q b')) (hi : zCu s.img) (hz : zCu z.img) (h : zNN t s z) : zUM t (zDu p TT x b s) (zDu p' TT' x' b' z) := by
 unfold zDu
 rw [hk, hn]
 by_cases c1 : x.Kind = 1 ∨ x.Kind = 2
 ·rw [if_pos c1, if_pos c1]
  exact fun _ => ⟨.inl rfl, fun _ => ⟨h.img, rfl, h.tool, h.placed, h.place⟩⟩
 rw [if_neg c1, if_neg c1]
 by_cases c3 : x.Kind = 3
 ·rw [if_pos c3, if_pos c3]
  exact fun _ => ⟨.inl rfl, fun _ => ⟨h.img, h.clear, rfl, h.placed, h.place⟩⟩
 rw [if_neg c3, if_neg c3]
 by_cases c4 : x.Kind = 4
 ·rw [if_pos c4, if_pos c4, hp (.inl c4)]
  exact zMq h _
 rw [if_neg c4, if_neg c4]
 by_cases c5 : x.Kind = 5
 ·rw [if_pos c5, if_pos c5, hp (.inr (.inl c5))]
  exact zTz hq hT hT' hTT hi hz h _
 rw [if_neg c5, if_neg c5]
 by_cases c6 : x.Kind = 6
 ·rw [if_pos c6, if_pos c6, hp (.inr (.inr c6))]
  exact zU1 hq hT hT' hTT hi hz h _
 rw [if_neg c6, if_neg c6]
 by_cases c7 : x.Kind = 7
 ·obtain ⟨r1, r2, r3⟩ := hr c7
  rw [if_pos c7, if_pos c7, r1]
  rw [r1] at r3
  exact zVe hq hi hz h r2 r3
 rw [if_neg c7, if_neg c7]
 exact fun _ => ⟨.inl rfl, fun _ => h⟩
end
def IvT (TT : List (List zK)) (F : MS → Int × MS) : Prop := ∀ s, zDC TT s → (F s).1 = 0 → zDC TT (F s).2
structure StT (t : Qf) (TT TT' : List (List zK)) (F G : MS → Int × MS) : Prop where
 a : IvT TT F
 b : IvT TT' G
 r : ∀ s z, zDC TT s → zDC TT' z → zNN t s z → zUM t (F s) (G z)
def zXy (F G : MS → Int × MS) (s : MS) : Int × MS := if (F s).1 = 0 then G (F s).2 else F s
theorem IvT.seq {TT : List (List zK)} {F G : MS → Int × MS} (h1 : IvT TT F) (h2 : IvT TT G) : IvT TT (zXy F G) := fun s hs => by
 unfold zXy
 by_cases c : (F s).1 = 0
 ·rw [if_pos c]; exact h2 _ (h1 s hs c)
 ·rw [if_neg c]; exact fun h => absurd h c
theorem StT.seq {t : Qf} {TT TT' : List (List zK)} {F G F' G' : MS → Int × MS} (h1 : StT t TT TT' F F') (h2 : StT t TT TT' G G') : StT t TT TT' (zXy F G) (zXy F' G') := by
 refine ⟨h1.a.seq h2.a, h1.b.seq h2.b, fun s z hs hz h => ?_⟩
 have a1 := h1.r s z hs hz h
 unfold zXy
 by_cases c1 : (F s).1 = 0
 ·obtain ⟨b1, b2⟩ := a1 c1
  rw [if_pos c1]
  by_cases c2 : (F' z).1 = 0
  ·rw [if_pos c2]
   exact h2.r _ _ (h1.a s hs c1) (h1.b z hz c2) (b2 c2)
  ·rw [if_neg c2]
   exact fun _ => ⟨b1, fun h => absurd h c2⟩
 ·rw [if_neg c1]
  exact fun h => absurd h c1
theorem StT.skip {t : Qf} {TT TT' : List (List zK)} : StT t TT TT' (fun s => (0, s)) (fun s => (0, s)) := ⟨fun _ h _ => h, fun _ h _ => h, fun _ _ _ _ h _ => ⟨.inl rfl, fun _ => h⟩⟩
theorem StT.iter {β : Type} {t : Qf} {TT TT' : List (List zK)} {f g : β → MS → Int × MS} : ∀ {l : List β}, (∀ b ∈ l, StT t TT TT' (f b) (g b)) → StT t TT TT' (zCf f l) (zCf g l)
 | [], _ => StT.skip
 | b :: l, h => (h b List.mem_cons_self).seq (StT.iter fun c hc => h c (List.mem_cons_of_mem _ hc))
def mvP (b q : zI) : zI := ⟨w64 (q.X + b.X), w64 (q.Y + b.Y)⟩
def plc (k : Int) : Bool := k == 4 || k == 5 || k == 6
def zEZ (b : zI) (x : zC) : zC := ⟨x.Kind, x.Name, if plc x.Kind then mvP b x.At else x.At, x.Points.map (mvP b), x.NX, x.NY, x.Steps⟩
def zKO (b a : zI) (j i : Nat) : zI := ⟨w64 (b.X + w64 ((i : Int) * a.X)), w64 (b.Y + w64 ((j : Int) * a.Y))⟩
mutual
def flT : zC → zI → List zC
 | ⟨k, n, a, ps, nx, ny, l⟩, b => if k = 8 then (List.range' 0 ny.toNat).flatMap fun j => (List.range' 0 nx.toNat).flatMap fun i => flL l (zKO b a j i) else [zEZ b ⟨k, n, a, ps, nx, ny, l⟩]
def flL : List zC → zI → List zC
 | [], _ => []
 | x :: l, b => flT x b ++ flL l b
end
theorem zO8 (x : zC) (b : zI) : flT x b = if x.Kind = 8 then (List.range' 0 x.NY.toNat).flatMap fun j => (List.range' 0 x.NX.toNat).flatMap fun i => flL x.Steps (zKO b x.At j i) else [zEZ b x] := by cases x; rw [flT]
theorem zJa (b : zI) : flL [] b = [] := by rw [flL]
theorem zG3 (x : zC) (l : List zC) (b : zI) : flL (x :: l) b = flT x b ++ flL l b := by rw [flL]
theorem zGI {α β : Type} {f : α → List β} {c : Nat} : ∀ {l : List α}, (∀ x ∈ l, (f x).length ≤ c) → (l.flatMap f).length ≤ l.length * c
 | [], _ => by simp
 | x :: l, h => by
  have h1 := h x List.mem_cons_self
  have h2 := zGI (f := f) (c := c) (l := l) (fun y hy => h y (List.mem_cons_of_mem _ hy))
  rw [List.flatMap_cons, List.length_append, List.length_cons, Nat.succ_mul]; omega
theorem zLJ {p : zt} : ∀ (k : Nat) (l : List zC) (d : Int) (b : zI), Jk l ≤ k → zEh p d l → ((flL l b).length : Int) ≤ zCC l
 | _, [], _, _, _, _ => by rw [zJa, zEd]; simp
 | k, x :: l, d, b, hk, hv => by
  rw [JP, KC] at hk
  obtain ⟨hx, hl⟩ := (WY _ _ _ _).1 hv
  obtain ⟨h0, hs⟩ := (zB9 _ _ _).1 hx
  have ho := zBt.1 h0
  cases k with
  | zero => omega
  | succ k =>
   have ih := zLJ k l d b (by omega) hl
   rw [zG3, zDL, List.length_append, zHr, zO8]
   have hp := zDg x.Steps
   have ht := zKA x.NX x.NY
   by_cases h8 : x.Kind = 8
   ·rw [if_pos h8]
    obtain ⟨t1, t2, _, _⟩ := ho.times h8
    have e1 : tm x.NX = x.NX := if_pos t1
    have e2 : tm x.NY = x.NY := if_pos t2
    obtain ⟨c, hc⟩ : ∃ c : Nat, zCC x.Steps = (c : Int) := ⟨(zCC x.Steps).toNat, by omega⟩
    have hin : ∀ j ∈ List.range' 0 x.NY.toNat, ((List.range' 0 x.NX.toNat).flatMap fun i => flL x.Steps (zKO b x.At j i)).length ≤ x.NX.toNat * c := fun j _ => by
     have := zGI (l := List.range' 0 x.NX.toNat) (f := fun i => flL x.Steps (zKO b x.At j i)) (c := c) (fun i _ => by
      have := zLJ k x.Steps (d + 1) (zKO b x.At j i) (by omega) hs
      omega)
     rwa [List.length_range'] at this
    have := zGI hin
    rw [List.length_range'] at this
    rw [e1, e2, hc]
    have e3 : ((x.NY.toNat * (x.NX.toNat * c) : Nat) : Int) = x.NX * x.NY * (c : Int) := by
     push_cast
     rw [Int.toNat_of_nonneg (by omega), Int.toNat_of_nonneg (by omega), ← Int.mul_assoc, Int.mul_comm x.NY x.NX]
    omega
   ·rw [if_neg h8]
    have := Int.mul_nonneg (show 0 ≤ tm x.NX * tm x.NY by omega) hp
    simp only [List.length_singleton]
    omega
theorem zGq {α : Type} (pre suf : List α) (x y : α) : sets (pre ++ x :: suf) (pre.length : Int) y = some (pre ++ y :: suf) := by
 unfold sets
 rw [if_pos (by simp)]
 simp
theorem set_mid {α : Type} (pre suf : List α) (x y : α) : (pre ++ x :: suf).set ((pre.length : Int).toNat) y = pre ++ y :: suf := by simp
theorem zbW {α : Type} {l : List α} (h : l.length ≤ 4294967296) : apd ([] : List α) l = some l := by
 rw [zB0 (by simpa using h)]; rfl
theorem zQu {b : zI} {acc : List zC} {k : List zC → Option (List zC)} {x : zC} {ax ay : Int} {y : List zI} : ∀ (suf pre : List zI) (m : Nat), y.length = (pre ++ suf).length → y.length ≤ 2000 → suf.length < m →
  Vu b acc k x ax ay y m (pre ++ suf) (pre.length : Int) = (apd acc [⟨x.Kind, x.Name, ⟨ax, ay⟩, pre ++ suf.map (mvP b), x.NX, x.NY, x.Steps⟩]).bind k
 | [], pre, m, he, hl, hm => by
  obtain ⟨m, rfl⟩ : ∃ k, m = k + 1 := ⟨m - 1, by omega⟩
  rw [Vu, if_neg (by rw [he]; simp)]
  simp
 | q :: l, pre, m, he, hl, hm => by
  obtain ⟨m, rfl⟩ : ∃ k, m = k + 1 := ⟨m - 1, by simp at hm; omega⟩
  simp at hm
  have he' := he
  simp at he'
  rw [Vu, if_pos (by simp; omega), KQ, Option.bind_some, Option.bind_some, zGq, Option.bind_some, KQ, Option.bind_some, Option.bind_some, zGq, Option.bind_some, zKh _ q (by omega)]
  have := zQu (b := b) (acc := acc) (k := k) (x := x) (ax := ax) (ay := ay) (y := y) l (pre ++ [mvP b q]) m (by rw [he]; simp) hl (by omega)
  rw [show (pre ++ [mvP b q]).length = (pre ++ [q]).length by simp] at this
  rw [show pre ++ (⟨w64 (q.X + b.X), w64 (q.Y + b.Y)⟩ : zI) :: l = (pre ++ [mvP b q]) ++ l by simp [mvP], this]
  simp
theorem zWQ {N : Nat} (hN : 3000 ≤ N) {b : zI} {acc : List zC} {k : List zC → Option (List zC)} {x : zC} {ax ay : Int} (hp : x.Points.length ≤ 2000) (ha : acc.length ≤ 4000000000) : Wq N b acc k x ax ay = k (acc ++ [⟨x.Kind, x.Name, ⟨ax, ay⟩, x.Points.map (mvP b), x.NX, x.NY, x.Steps⟩]) := by
 unfold Wq
 have hcl : KX x.Points = some x.Points := by
  unfold KX
  rw [zbW (by omega)]; rfl
 rw [hcl, Option.bind_some]
 have := zQu (b := b) (acc := acc) (k := k) (x := x) (ax := ax) (ay := ay) (y := x.Points) x.Points [] N rfl hp (by omega)
 simp only [List.nil_append, List.length_nil] at this
 rw [show ((0 : Nat) : Int) = 0 from rfl] at this
 rw [this, zB0 (by simp; omega), Option.bind_some]
theorem zT0 {b : zI} {rec : List zC → zI → Option (List zC)} {x : zC} {j : Nat} {k : List zC → Int → Option (List zC)} {c : Nat} (hr : ∀ b', rec x.Steps b' = some (flL x.Steps b') ∧ (flL x.Steps b').length ≤ c) (hnx : x.NX ≤ 100) : ∀ (n i m : Nat) (acc : List zC), ((i + n : Nat) : Int) = x.NX → acc.length + n * c ≤ 4000000000 → n < m →
  Vt b rec x (j : Int) k m acc (i : Int) = k (acc ++ (List.range' i n).flatMap fun i => flL x.Steps (zKO b x.At j i)) (w64 ((j : Int) + 1))
 | 0, i, m, acc, he, ha, hm => by
  obtain ⟨m, rfl⟩ : ∃ k, m = k + 1 := ⟨m - 1, by omega⟩
  rw [Vt, if_neg (by simp; omega)]
  simp
 | n + 1, i, m, acc, he, ha, hm => by
  obtain ⟨m, rfl⟩ : ∃ k, m = k + 1 := ⟨m - 1, by omega⟩
  obtain ⟨r1, r2⟩ := hr (zKO b x.At j i)
  rw [Nat.succ_mul] at ha
  rw [Vt, if_pos (by simp; omega), show rec x.Steps ⟨w64 (b.X + w64 ((i : Int) * x.At.X)), w64 (b.Y + w64 ((j : Int) * x.At.Y))⟩ = some (flL x.Steps (zKO b x.At j i)) from r1, Option.bind_some, zB0 (by omega), Option.bind_some, QQ (by omega) (by omega),
   show (i : Int) + 1 = ((i + 1 : Nat) : Int) by omega, zT0 hr hnx n (i + 1) m _ (by omega) (by rw [List.length_append]; omega) (by omega)]
  rw [List.range'_succ, List.flatMap_cons, List.append_assoc]
theorem zQv {N : Nat} (hN : 3000 ≤ N) {b : zI} {rec : List zC → zI → Option (List zC)} {x : zC} {k : List zC → Option (List zC)} {c : Nat} (hr : ∀ b', rec x.Steps b' = some (flL x.Steps b') ∧ (flL x.Steps b').length ≤ c) (hnx : 1 ≤ x.NX ∧ x.NX ≤ 100) (hny : x.NY ≤ 100) : ∀ (n j m : Nat) (acc : List zC), ((j + n : Nat) : Int) = x.NY → acc.length + n * (x.NX.toNat * c) ≤ 4000000000 → n < m →
  Ke N b rec k x m acc (j : Int) = k (acc ++ (List.range' j n).flatMap fun j => (List.range' 0 x.NX.toNat).flatMap fun i => flL x.Steps (zKO b x.At j i))
 | 0, j, m, acc, he, ha, hm => by
  obtain ⟨m, rfl⟩ : ∃ k, m = k + 1 := ⟨m - 1, by omega⟩
  rw [Ke, if_neg (by simp; omega)]
  simp
 | n + 1, j, m, acc, he, ha, hm => by
  obtain ⟨m, rfl⟩ : ∃ k, m = k + 1 := ⟨m - 1, by omega⟩
  rw [Nat.succ_mul] at ha
  have hin := zGI (l := List.range' 0 x.NX.toNat) (f := fun i => flL x.Steps (zKO b x.At j i)) (c := c) (fun i _ => (hr _).2)
  rw [List.length_range'] at hin
  have h1 := zT0 (b := b) (j := j) (k := Ke N b rec k x m) hr hnx.2 x.NX.toNat 0 N acc (by omega) (by omega) (by omega)
  rw [show ((0 : Nat) : Int) = 0 from rfl] at h1
  rw [Ke, if_pos (by simp; omega), h1, QQ (by omega) (by omega), show (j : Int) + 1 = ((j + 1 : Nat) : Int) by omega,
   zQv hN hr hnx hny n (j + 1) m _ (by omega) (by rw [List.length_append]; omega) (by omega)]
  rw [List.range'_succ, List.flatMap_cons, List.append_assoc]
def zom (rec : List zC → zI → Option (List zC)) (l : List zC) : Prop := ∀ b, rec l b = some (flL l b)
theorem zWa {N : Nat} (hN : 3000 ≤ N) {p : zt} {d : Int} {b : zI} {rec : List zC → zI → Option (List zC)} : ∀ (l : List zC) (i : Nat) (acc : List zC), zEh p d l → (∀ x ∈ l, x.Kind = 8 → zom rec x.Steps) → zCC l ≤ 3000 → acc.length + 3000 ≤ 1000000 + (3000 - zCC l).toNat →
  QZ N b rec l i acc = some (acc ++ flL l b)
 | [], i, acc, _, _, _, _ => by rw [QZ, zJa, List.append_nil]
 | x :: l, i, acc, hv, hr, hc, ha => by
  obtain ⟨hx, hl⟩ := (WY _ _ _ _).1 hv
  obtain ⟨h0, hs⟩ := (zB9 _ _ _).1 hx
  have ho := zBt.1 h0
  rw [zDL] at hc ha
  have hcl := zDg l
  have hcx := zPG x
  have hlen : ((flT x b).length : Int) ≤ zT6 x := by
   have h1 : zEh p d [x] := (WY _ _ _ _).2 ⟨hx, zLd _ _⟩
   have := zLJ _ [x] d b (Nat.le_refl _) h1
   rw [zG3, zJa, List.append_nil, zDL, zEd] at this
   omega
  have ih := zWa hN (b := b) (rec := rec) l (i + 1) (acc ++ flT x b) hl (fun y hy => hr y (List.mem_cons_of_mem _ hy)) (by omega) (by rw [List.length_append]; omega)
  rw [zG3, ← List.append_assoc, ← ih]
  have hf := zO8 x b
  by_cases h8 : x.Kind = 8
  ·rw [if_pos h8] at hf
   obtain ⟨t1, t2, _, _⟩ := ho.times h8
   have e1 : tm x.NX = x.NX := if_pos t1
   have e2 : tm x.NY = x.NY := if_pos t2
   have hp := zDg x.Steps
   have hcs := zHr x
   rw [e1, e2] at hcs
   have hle : x.NX * x.NY * zCC x.Steps ≤ 3000 := by omega
   obtain ⟨c, hcc⟩ : ∃ c : Nat, zCC x.Steps = (c : Int) := ⟨(zCC x.Steps).toNat, by omega⟩
   have hR : ∀ b', rec x.Steps b' = some (flL x.Steps b') ∧ (flL x.Steps b').length ≤ c := fun b' => ⟨hr x List.mem_cons_self h8 b', by
    have := zLJ _ x.Steps (d + 1) b' (Nat.le_refl _) hs
    omega⟩
   have e3 : ((x.NY.toNat * (x.NX.toNat * c) : Nat) : Int) = x.NX * x.NY * (c : Int) := by
    push_cast
    rw [Int.toNat_of_nonneg (by omega), Int.toNat_of_nonneg (by omega), ← Int.mul_assoc, Int.mul_comm x.NY x.NX]
   have h1 := zQv hN (b := b) (k := QZ N b rec l (i + 1)) hR t1 t2.2 x.NY.toNat 0 N acc (by omega) (by rw [hcc] at hle; omega) (by omega)
   rw [show ((0 : Nat) : Int) = 0 from rfl] at h1
   rw [QZ, if_pos (by simpa using h8), h1, ← hf]
  ·rw [if_neg h8] at hf
   have hpl : x.Points.length ≤ 2000 := by
    by_cases h7 : x.Kind = 7
    ·exact (ho.area h7).2.2.1
    ·rw [ho.points h7]; simp
   have h8' : (x.Kind == 8) = false := by simpa using h8
   rw [QZ, if_neg (by simpa using h8), zGJ, Option.bind_some, hf]
   simp only [h8', Bool.or_false]
   cases hpp : plc x.Kind
   ·have : (x.Kind == 4 || x.Kind == 5 || x.Kind == 6) = false := hpp
    rw [this, if_neg (by simp), zWQ hN hpl (by omega)]
    unfold zEZ; rw [hpp]; rfl
   ·have : (x.Kind == 4 || x.Kind == 5 || x.Kind == 6) = true := hpp
    rw [this, if_pos rfl, zWQ hN hpl (by omega)]
    unfold zEZ; rw [hpp]; rfl
set_option maxRecDepth 100000 in
theorem zWX {p : zt} : ∀ (k : Nat) (l : List zC) (N : Nat) (d : Int) (b : zI), Jk l ≤ k → k + 4000 ≤ N → zEh p d l → zCC l ≤ 3000 → zDP N l b = some (flL l b)
 | k, l, N, d, b, hk, hN, hv, hc => by
  obtain ⟨N, rfl⟩ : ∃ n, N = n + 1 := ⟨N - 1, by omega⟩
  show zCx N _ l b = _
  unfold zCx
  have := zWa (N := N) (by omega) (b := b) (rec := zDP N) l 0 [] hv (fun x hx h8 b' => by
   have a1 := zEU hx
   have a2 := KC x
   have a3 := (zB9 _ _ _).1 ((zUI _ _ _).1 hv x hx)
   have a4 := zT7 hx
   have a5 := zVZ x
   cases k with
   | zero => omega
   | succ k => exact zWX k x.Steps N (d + 1) b' (by omega) (by omega) a3.2 (by omega)) hc (by simp; omega)
  simpa using this
theorem WV (x : Int) : J64 (w64 x) := by
 unfold J64 w64
 simp [IntKind.wrap, IntKind.bits, IntKind.signed]
 omega
theorem zNa {p : zt} : ∀ (k : Nat) (l : List zC) (d : Int) (b : zI) (y : zC), Jk l ≤ k → zEh p d l → zJp l → y ∈ flL l b → ∃ x b' d', zFo p x d' ∧ x.Kind ≠ 8 ∧ zOU x ∧ y = zEZ b' x
 | _, [], _, _, _, _, _, _, hy => by rw [zJa] at hy; cases hy
 | k, x :: l, d, b, y, hk, hv, hA, hy => by
  rw [JP, KC] at hk
  obtain ⟨hx, hl⟩ := (WY _ _ _ _).1 hv
  obtain ⟨h0, hs⟩ := (zB9 _ _ _).1 hx
  obtain ⟨a1, a2⟩ := (zGv _ _).1 hA
  cases k with
  | zero => omega
  | succ k =>
   rw [zG3, List.mem_append] at hy
   rcases hy with hy | hy
   ·rw [zO8] at hy
    by_cases h8 : x.Kind = 8
    ·rw [if_pos h8, List.mem_flatMap] at hy
     obtain ⟨j, _, hy⟩ := hy
     rw [List.mem_flatMap] at hy
     obtain ⟨i, _, hy⟩ := hy
     exact zNa k x.Steps (d + 1) _ y (by omega) hs ((zGB x).1 a1).2.2.2.2.2 hy
    ·rw [if_neg h8, List.mem_singleton] at hy
     exact ⟨x, b, d, zBt.1 h0, h8, a1, hy⟩
   ·exact zNa k l d b y (by omega) hl a2 hy
theorem zUj {nm : ByteArray} {l : List zg} (h : 0 ≤ zDF nm l) (hl : ∀ t ∈ l, t.Name.size ≤ 40) : nm.size ≤ 40 := by
 obtain ⟨t, ht, rfl⟩ := zP0 (by omega : ¬ zDF nm l < 0)
 exact hl t ht
theorem zFo.sz {p : zt} {x : zC} {d : Int} (h : zFo p x d) (h8 : x.Kind ≠ 8) (ht : ∀ t ∈ p.Tools, t.Name.size ≤ 40) : zFc x ≤ 2041 := by
 have h1 : x.Points.length ≤ 2000 := by
  by_cases h7 : x.Kind = 7
  ·exact (h.area h7).2.2.1
  ·rw [h.points h7]; simp
 have h2 : x.Name.size ≤ 40 := by
  by_cases h3 : x.Kind = 3
  ·exact zUj (h.tool h3) ht
  ·rw [h.name h3]; simp
 rw [KC, (h.rep h8).2.2, zMm]; omega
theorem zN8 {c : Nat} : ∀ {l : List zC}, (∀ x ∈ l, zFc x ≤ c) → Jk l ≤ l.length * c
 | [], _ => by rw [zMm]; simp
 | x :: l, h => by
  have h1 := h x List.mem_cons_self
  have h2 := zN8 (c := c) (l := l) (fun y hy => h y (List.mem_cons_of_mem _ hy))
  rw [JP, List.length_cons, Nat.succ_mul]; omega
theorem zcN (b : zI) (x : zC) : zFc (zEZ b x) = zFc x := by
 rw [KC, KC]; simp [zEZ]
theorem zS8 {b : zI} {x : zC} (h : zOU x) : zOU (zEZ b x) := by
 rw [zGB] at h ⊢
 obtain ⟨h1, h2, h3, h4⟩ := h
 refine ⟨h1, ?_, ⟨by simpa [zEZ] using h3.1, fun q hq => ?_⟩, h4⟩
 ·unfold zEZ
  cases plc x.Kind
  ·exact h2
  ·exact ⟨WV _, WV _⟩
 ·obtain ⟨q0, _, rfl⟩ := List.mem_map.1 hq
  exact ⟨WV _, WV _⟩
def FuG (p : zt) (N : Nat) : Prop := Jk p.Steps + zCy p.Tools + 20000000 ≤ N
theorem FuG.fu {p : zt} {N : Nat} (h : FuG p N) : Fu p N := by unfold FuG at h; unfold Fu; omega
def tlG (g : zK → zK) (t : zg) : zg := ⟨t.Name, t.Rects.map g⟩
theorem zMj {g : zK → zK} {f : zK → Option zK} (hf : ∀ r, f r = some (g r)) {l0 : List zg} {j : Int} {t0 : zg} (hj : ∃ t, idx l0 j = some t) {k : List zg → Int → Option (List zg)} : ∀ (suf pre : List zK),
  Ka f l0 j k t0 suf pre.length (pre ++ suf) = k (l0.set j.toNat ⟨t0.Name, pre ++ suf.map g⟩) (w64 (j + 1))
 | [], pre => by rw [Ka]; simp
 | r :: l, pre => by
  obtain ⟨t, ht⟩ := hj
  rw [Ka, KQ, Option.bind_some, ht, Option.bind_some, hf, Option.bind_some, Option.bind_some, zGq, Option.bind_some]
  have := zMj hf ⟨t, ht⟩ l (pre ++ [g r]) (t0 := t0) (k := k)
  rw [show (pre ++ [g r]).length = pre.length + 1 by simp] at this
  rw [show pre ++ g r :: l = (pre ++ [g r]) ++ l by simp, this]
  simp
theorem zQD {g : zK → zK} {f : zK → Option zK} (hf : ∀ r, f r = some (g r)) {l0 : List zg} : ∀ (suf pre : List zg) (m : Nat), (pre ++ suf).length = l0.length → l0.length ≤ 2000 → (∀ t ∈ suf, t.Rects.length ≤ 2000) → suf.length < m →
  Jc f l0 m (pre ++ suf) (pre.length : Int) = some (pre ++ suf.map (tlG g))
 | [], pre, m, hl, h2, h, hm => by
  obtain ⟨m, rfl⟩ : ∃ k, m = k + 1 := ⟨m - 1, by omega⟩
  simp at hl
  rw [Jc, if_neg (by simp; omega)]
  simp
 | t :: l, pre, m, hl, h2, h, hm => by
  obtain ⟨m, rfl⟩ : ∃ k, m = k + 1 := ⟨m - 1, by simp at hm; omega⟩
  simp at hm
  have hl' := hl
  simp at hl'
  have hcl : VL t.Rects = some t.Rects := by
   unfold VL
   rw [zbW (by have := h t List.mem_cons_self; omega)]; rfl
  rw [Jc, if_pos (by simp; omega), KQ, Option.bind_some, hcl, Option.bind_some, Option.bind_some, Option.bind_some]
  have hr := zMj hf (l0 := pre ++ t :: l) (j := (pre.length : Int)) (t0 := t) ⟨t, KQ _ _ _⟩ (k := Jc f l0 m) t.Rects []
  simp only [List.nil_append, List.length_nil] at hr
  rw [hr, set_mid, zKh _ t (by omega), show (pre ++ [t]).length = (pre ++ [tlG g t]).length by simp, show pre ++ (⟨t.Name, t.Rects.map g⟩ : zg) :: l = (pre ++ [tlG g t]) ++ l by simp [tlG],
   zQD hf l (pre ++ [tlG g t]) m (by simpa using hl) h2 (fun x hx => h x (List.mem_cons_of_mem _ hx)) (by omega)]
  simp
theorem zRT {g : zK → zK} {f : zK → Option zK} (hf : ∀ r, f r = some (g r)) {l : List zg} {N : Nat} (hl : l.length ≤ 2000) (h : ∀ t ∈ l, t.Rects.length ≤ 2000) (hN : 3000 ≤ N) : Wp N l f = some (l.map (tlG g)) := by
 unfold Wp
 have hcl : VZ l = some l := by
  unfold VZ
  rw [zbW (by omega)]; rfl
 rw [hcl, Option.bind_some]
 exact zQD hf l [] N rfl hl h (by omega)
theorem zSf (l : List zg) : l.map (tlG fun r => r) = l := by
 induction l with
 | nil => rfl
 | cons t l ih => rw [List.map_cons, ih]; simp [tlG]
theorem zaw {N : Nat} {p : zt} (hG : zek p) (hL : zIS p) (hO : VX N p) (b : zI) : (flL p.Steps b).length ≤ 3000 ∧ Jk (flL p.Steps b) ≤ 3000 * 2041 ∧ zJp (flL p.Steps b) := by
 have h1 := zLJ _ p.Steps 0 b (Nat.le_refl _) hO.steps
 have hc := hO.cnt
 have hm := fun y hy => zNa _ p.Steps 0 b y (Nat.le_refl _) hO.steps hL.steps hy
 have h2 := zN8 (c := 2041) (l := flL p.Steps b) (fun y hy => by
  obtain ⟨x, b', d', x1, x2, _, rfl⟩ := hm y hy
  rw [zcN]; exact x1.sz x2 (fun t ht => (hG.tools t ht).1))
 refine ⟨by omega, Nat.le_trans h2 (Nat.mul_le_mul_right _ (by omega)), zNW fun y hy => ?_⟩
 obtain ⟨x, b', d', x1, x2, x3, rfl⟩ := hm y hy
 exact zS8 x3
theorem zId (p : zt) (TT : List (List zK)) (b : zI) : ∀ (a l : List zC) (s : MS), zBU p TT (a ++ l) b s = if (zBU p TT a b s).1 = 0 then zBU p TT l b (zBU p TT a b s).2 else zBU p TT a b s
 | [], l, s => by rw [zFe]; rfl
 | x :: a, l, s => by
  rw [List.cons_append, zFU, zFU]
  by_cases h : (zCF p TT x b s).1 = 0
  ·rw [if_pos h, if_pos h, zId p TT b a l]
  ·rw [if_neg h, if_neg h, if_neg h]
theorem zHR {β : Type} (p : zt) (TT : List (List zK)) (b : zI) (f : β → List zC) : ∀ (l : List β) (s : MS), zBU p TT (l.flatMap f) b s = zCf (fun c s => zBU p TT (f c) b s) l s
 | [], s => by rw [List.flatMap_nil, zFe]; rfl
 | c :: l, s => by
  rw [List.flatMap_cons, zId, zCf]
  by_cases h : (zBU p TT (f c) b s).1 = 0
  ·rw [if_pos h, if_pos h, zHR p TT b f l]
  ·rw [if_neg h, if_neg h]
theorem zIj {β : Type} {f g : β → MS → Int × MS} : ∀ {l : List β} {s : MS}, (∀ b ∈ l, ∀ s, f b s = g b s) → zCf f l s = zCf g l s
 | [], _, _ => rfl
 | b :: l, s, h => by
  rw [zCf, zCf, h b List.mem_cons_self, zIj (l := l) fun c hc => h c (List.mem_cons_of_mem _ hc)]
def scB (U : Int) (b : zI) : zI := ⟨b.X * U, b.Y * U⟩
theorem WH {n U c : Int} (hu : 1 ≤ U) (hc : 0 ≤ c) (h : -c ≤ n * U ∧ n * U ≤ c) : -c ≤ n ∧ n ≤ c := by
 refine ⟨Int.not_lt.1 fun hl => ?_, Int.not_lt.1 fun hl => ?_⟩
 ·have := Int.mul_le_mul_of_nonpos_left (show n ≤ 0 by omega) hu
  omega
 ·have := Int.mul_le_mul_of_nonneg_left hu (show 0 ≤ n by omega)
  omega
theorem zSD {U d : Int} {q b : zI} (hu : 1 ≤ U) (hq : zAR q U = true) (hd : 0 ≤ d ∧ d ≤ 5) (hb : zBl d (scB U b)) : atM U (mvP b q) ⟨0, 0⟩ = atM U q (scB U b) := by
 obtain ⟨e, h1, h2⟩ := zKR hu hq hd.2 hb
 rw [e]
 unfold zBl scB at hb
 simp only at hb
 have b1 := WH hu (by omega) hb.1
 have b2 := WH hu (by omega) hb.2
 have q1 := WH (c := 1000000) hu (by omega) h1
 have q2 := WH (c := 1000000) hu (by omega) h2
 have e1 : (q.X + b.X) * U = q.X * U + b.X * U := Int.add_mul _ _ _
 have e2 : (q.Y + b.Y) * U = q.Y * U + b.Y * U := Int.add_mul _ _ _
 unfold atM mvP
 simp only
 rw [QQ (x := q.X + b.X) (by omega) (by omega), QQ (x := q.Y + b.Y) (by omega) (by omega), e1, e2, Int.add_zero, Int.add_zero, QQ (x := q.X * U + b.X * U) (by omega) (by omega), QQ (x := q.Y * U + b.Y * U) (by omega) (by omega), QQ (x := q.X * U + b.X * U) (by omega) (by omega), QQ (x := q.Y * U + b.Y * U) (by omega) (by omega)]
 rfl
theorem zbJ {U d : Int} {a b : zI} {j i : Nat} (hu : 1 ≤ U) (ha : zAR a U = true) (hd : 0 ≤ d ∧ d < 5) (hb : zBl d (scB U b)) (hj : j < 100) (hi : i < 100) : scB U (zKO b a j i) = byM U (scB U b) a j i ∧ zBl (d + 1) (scB U (zKO b a j i)) := by
 obtain ⟨e, h⟩ := zVa hu ha hd hb hj hi
 have hb' := hb
 unfold zAR at ha
 rw [Bool.and_eq_true] at ha
 have f1 := WH (c := 1000000) hu (by omega) (zC1 hu ha.1)
 have f2 := WH (c := 1000000) hu (by omega) (zC1 hu ha.2)
 unfold zBl scB at hb
 simp only at hb
 have b1 := WH hu (by omega) hb.1
 have b2 := WH hu (by omega) hb.2
 have key : ∀ (n : Int) (k : Nat), k < 100 → -1000000 ≤ n ∧ n ≤ 1000000 → -99000000 ≤ (k : Int) * n ∧ (k : Int) * n ≤ 99000000 := fun n k hk hn => by
  have b1 : (k : Int) * n ≤ (k : Int) * 1000000 := Int.mul_le_mul_of_nonneg_left hn.2 (by omega)
  have b2 : (k : Int) * (-1000000) ≤ (k : Int) * n := Int.mul_le_mul_of_nonneg_left hn.1 (by omega)
  omega
 have k1 := key _ i hi f1
 have k2 := key _ j hj f2
 have e2 : scB U (zKO b a j i) = byM U (scB U b) a j i := by
  rw [e]
  unfold scB zKO
  simp only
  rw [QQ (x := (i : Int) * a.X) (by omega) (by omega), QQ (x := (j : Int) * a.Y) (by omega) (by omega), QQ (x := b.X + (i : Int) * a.X) (by omega) (by omega), QQ (x := b.Y + (j : Int) * a.Y) (by omega) (by omega), Int.add_mul, Int.add_mul]
 exact ⟨e2, by rw [e2]; exact h⟩
theorem zTA {p q : zt} (hq : q.Unit = p.Unit) (ht : q.Tools = p.Tools) {d : Int} (hu : 1 ≤ p.Unit) {x : zC} (hx : zFo p x d) {b : zI} (hd : 0 ≤ d ∧ d ≤ 5) (hb : zBl d (scB p.Unit b)) (TT : List (List zK)) (s : MS) : zDu q TT (zEZ b x) ⟨0, 0⟩ s = zDu p TT x (scB p.Unit b) s := by
 have h1 : (x.Points.map (mvP b)).map (fun c => atM p.Unit c ⟨0, 0⟩) = x.Points.map fun c => atM p.Unit c (scB p.Unit b) := by
  rw [List.map_map]
  refine List.map_congr_left fun c hc => ?_
  by_cases h7 : x.Kind = 7
  ·exact zSD hu (List.all_eq_true.1 (hx.area h7).1 c hc) hd hb
  ·rw [hx.points h7] at hc; cases hc
 unfold zDu
 show (if x.Kind = 1 ∨ x.Kind = 2 then _ else if x.Kind = 3 then (0, { s with tool := zDF x.Name q.Tools }) else if x.Kind = 4 then zA5 s (atM q.Unit (if plc x.Kind then mvP b x.At else x.At) ⟨0, 0⟩) else if x.Kind = 5 then zCM TT s (atM q.Unit (if plc x.Kind then mvP b x.At else x.At) ⟨0, 0⟩) else if x.Kind = 6 then zEb TT s (atM q.Unit (if plc x.Kind then mvP b x.At else x.At) ⟨0, 0⟩) else if x.Kind = 7 then zG8 s ((x.Points.map (mvP b)).map fun c => atM q.Unit c ⟨0, 0⟩) else (0, s)) = _
 rw [hq, ht, h1]
 have h2 := zSD hu hx.place hd hb
 by_cases c1 : x.Kind = 1 ∨ x.Kind = 2
 ·rw [if_pos c1, if_pos c1]; rfl
 rw [if_neg c1, if_neg c1]
 by_cases c3 : x.Kind = 3
 ·rw [if_pos c3, if_pos c3]
 rw [if_neg c3, if_neg c3]
 by_cases c4 : x.Kind = 4
 ·rw [if_pos c4, if_pos c4, if_pos (by unfold plc; simp [c4]), h2]
 rw [if_neg c4, if_neg c4]
 by_cases c5 : x.Kind = 5
 ·rw [if_pos c5, if_pos c5, if_pos (by unfold plc; simp [c5]), h2]
 rw [if_neg c5, if_neg c5]
 by_cases c6 : x.Kind = 6
 ·rw [if_pos c6, if_pos c6, if_pos (by unfold plc; simp [c6]), h2]
 rw [if_neg c6, if_neg c6]
theorem zUt {p q : zt} (hq : q.Unit = p.Unit) (ht : q.Tools = p.Tools) (hu : 1 ≤ p.Unit) (TT : List (List zK)) : ∀ (k : Nat) (l : List zC) (d : Int) (b : zI) (s : MS), Jk l ≤ k → 0 ≤ d → d ≤ 5 → zEh p d l → zBl d (scB p.Unit b) → zBU q TT (flL l b) ⟨0, 0⟩ s = zBU p TT l (scB p.Unit b) s
 | k, [], d, b, s, _, _, _, _, _ => by rw [zJa, zFe, zFe]
 | 0, x :: l, d, b, s, hk, _, _, _, _ => by
  have := KC x
  rw [JP] at hk
  omega
 | k + 1, x :: l, d, b, s, hk, h0, h5, hv, hb => by
  have hs := KC x
  rw [JP] at hk
  rw [WY, zB9] at hv
  have hx := zBt.1 hv.1.1
  have he : zBU q TT (flT x b) ⟨0, 0⟩ s = zCF p TT x (scB p.Unit b) s := by
   rw [zO8, zDY]
   by_cases h8 : x.Kind = 8
   ·obtain ⟨t1, t2, _, t4⟩ := hx.times h8
    rw [if_pos h8, if_pos h8, zHR]
    refine zIj fun j hj s => ?_
    rw [zHR]
    refine zIj fun i hi s => ?_
    have hj' := List.mem_range'.1 hj
    have hi' := List.mem_range'.1 hi
    obtain ⟨e1, e2⟩ := zbJ hu hx.place ⟨h0, t4⟩ hb (j := j) (i := i) (by omega) (by omega)
    rw [zUt hq ht hu TT k x.Steps (d + 1) (zKO b x.At j i) s (by omega) (by omega) (by omega) hv.1.2 e2, e1]
   ·rw [if_neg h8, if_neg h8, zFU, zDY]
    have hk8 : (zEZ b x).Kind = x.Kind := rfl
    rw [hk8, if_neg h8, zTA hq ht hu hx ⟨h0, h5⟩ hb]
    by_cases h : (zDu p TT x (scB p.Unit b) s).1 = 0
    ·rw [if_pos h, zFe]
     exact Prod.ext h.symm rfl
    ·rw [if_neg h]
  rw [zG3, zId, he, zFU]
  by_cases h : (zCF p TT x (scB p.Unit b) s).1 = 0
  ·rw [if_pos h, if_pos h]
   exact zUt hq ht hu TT k l d b _ (by omega) h0 h5 hv.2 hb
  ·rw [if_neg h, if_neg h]
def zM6 (p : zt) : zt := ⟨p.Unit, p.Tools, flL p.Steps ⟨0, 0⟩⟩
theorem zZW {N : Nat} {p : zt} (h : VX N p) : zA9 (zM6 p) = zA9 p := by
 have := zUt (p := p) (q := zM6 p) rfl rfl h.unit.1 (Jj p) _ p.Steps 0 ⟨0, 0⟩ zBz (Nat.le_refl _) (by omega) (by omega) h.steps (by unfold zBl scB; simp)
 have e : scB p.Unit ⟨0, 0⟩ = ⟨0, 0⟩ := by unfold scB; simp
 rw [e] at this
 exact this
mutual
def mvT (b : zI) : zC → zC
 | ⟨k, n, a, ps, nx, ny, l⟩ => ⟨k, n, if plc k then mvP b a else a, ps.map (mvP b), nx, ny, zGb b l⟩
def zGb (b : zI) : List zC → List zC
 | [] => []
 | x :: l => mvT b x :: zGb b l
end
section
variable {b : zI}
theorem zHW (x : zC) : mvT b x = ⟨x.Kind, x.Name, if plc x.Kind then mvP b x.At else x.At, x.Points.map (mvP b), x.NX, x.NY, zGb b x.Steps⟩ := by cases x; rw [mvT]
theorem zIe : zGb b [] = [] := by rw [zGb]
theorem zFW (x : zC) (l : List zC) : zGb b (x :: l) = mvT b x :: zGb b l := by rw [zGb]
theorem zOQ : ∀ (l : List zC), (zGb b l).length = l.length
 | [] => by rw [zIe]
 | x :: l => by rw [zFW, List.length_cons, List.length_cons, zOQ l]
theorem zQF {ax ay : Int} : ∀ (suf pre : List zI), Kl b.X b.Y ax ay suf pre.length (pre ++ suf) = some (ax, ay, pre ++ suf.map (mvP b))
 | [], pre => by rw [Kl]; simp
 | q :: l, pre => by
  rw [Kl, KQ, Option.bind_some, Option.bind_some, zGq, Option.bind_some, KQ, Option.bind_some, Option.bind_some, zGq, Option.bind_some]
  have := zQF (ax := ax) (ay := ay) l (pre ++ [mvP b q])
  rw [show (pre ++ [mvP b q]).length = pre.length + 1 by simp] at this
  rw [show pre ++ (⟨w64 (q.X + b.X), w64 (q.Y + b.Y)⟩ : zI) :: l = (pre ++ [mvP b q]) ++ l by simp [mvP], this]
  simp
theorem zX8 (x : zC) : zCS x b.X b.Y = some ((if plc x.Kind then mvP b x.At else x.At).X, (if plc x.Kind then mvP b x.At else x.At).Y, x.Points.map (mvP b)) := by
 have key : ∀ ax ay, Vo x b.X b.Y ax ay = some (ax, ay, x.Points.map (mvP b)) := fun ax ay => by
  unfold Vo
  have := zQF (b := b) (ax := ax) (ay := ay) x.Points []
  simpa using this
 unfold zCS
 rw [zGJ, Option.bind_some, key, key]
 have e : ((x.Kind == 4 || x.Kind == 5 || x.Kind == 6 || x.Kind == 8) && (x.Kind != 8)) = plc x.Kind := by
  unfold plc
  by_cases h8 : x.Kind = 8
  ·rw [h8]; rfl
  ·have h8' : (x.Kind == 8) = false := by simpa using h8
   simp [bne, h8']
 rw [e]
 cases plc x.Kind <;> rfl
theorem zQG {rec : List zC → Int → Int → Option (List zC)} {l0 : List zC} : ∀ (suf pre : List zC) (m : Nat), (pre ++ suf).length = l0.length → l0.length ≤ 4000 →
  (∀ x ∈ suf, x.Points.length ≤ 2000 ∧ rec x.Steps b.X b.Y = some (zGb b x.Steps)) → suf.length < m →
  Ju b.X b.Y rec l0 m (pre ++ suf) (pre.length : Int) = some (pre ++ zGb b suf)
 | [], pre, m, hl, h2, h, hm => by
  obtain ⟨m, rfl⟩ : ∃ k, m = k + 1 := ⟨m - 1, by omega⟩
  simp at hl
  rw [Ju, if_neg (by simp; omega), zIe]
 | x :: l, pre, m, hl, h2, h, hm => by
  obtain ⟨m, rfl⟩ : ∃ k, m = k + 1 := ⟨m - 1, by simp at hm; omega⟩
  simp at hm
  have hl' := hl
  simp at hl'
  obtain ⟨hx1, hx2⟩ := h x List.mem_cons_self
  have hcl : KX x.Points = some x.Points := by
   unfold KX
   rw [zbW (by omega)]; rfl
  rw [Ju, if_pos (by simp; omega), KQ, Option.bind_some, hcl, Option.bind_some, Option.bind_some, Option.bind_some, hx2, Option.bind_some, Option.bind_some, Option.bind_some, zX8, Option.bind_some,
   set_mid, zKh _ x (by omega), show (pre ++ [x]).length = (pre ++ [mvT b x]).length by simp]
  rw [show ∀ y : zC, y = mvT b x → pre ++ y :: l = (pre ++ [mvT b x]) ++ l from fun y e => by rw [e]; simp]
  ·rw [zQG l (pre ++ [mvT b x]) m (by simpa using hl) h2 (fun y hy => h y (List.mem_cons_of_mem _ hy)) (by omega), zFW]
   simp
  ·rw [zHW]
theorem zMz : ∀ (l : List zC), l.length ≤ zCX l
 | [] => by simp
 | x :: l => by
  have := zMz l
  have := zL9 x
  rw [zHV, List.length_cons]; omega
theorem zV6 : ∀ (k : Nat) (l : List zC) (N : Nat), Jk l ≤ k → k + 5 ≤ N → zIG 40 l → zCX l ≤ 3000 → Wy N l b.X b.Y = some (zGb b l)
 | k, l, N, hk, hN, hg, hn => by
  obtain ⟨N, rfl⟩ : ∃ n, N = n + 1 := ⟨N - 1, by omega⟩
  have hlen := zMn l
  have hnl := zMz l
  have hcl : Va l = some l := by
   unfold Va
   rw [zbW (by omega)]; rfl
  show WA N _ l b.X b.Y = _
  unfold WA
  rw [hcl, Option.bind_some]
  exact zQG l [] N rfl (by omega) (fun x hx => by
   have h1 := zEU hx
   have h2 := KC x
   have h3 := zMy hx
   have h4 := zL9 x
   have h5 := (zTt 40 x).1 (zQt hg hx)
   cases k with
   | zero => omega
   | succ k => exact ⟨h5.1.1, zV6 k x.Steps N (by omega) (by omega) h5.2 (by omega)⟩) (by omega)
theorem zYp : ∀ (k : Nat) (l : List zC), Jk l ≤ k → Jk (zGb b l) = Jk l
 | k, [], _ => by rw [zIe]
 | k, x :: l, hk => by
  rw [JP, KC] at hk
  rw [zFW, JP, JP, KC, KC, zHW]
  cases k with
  | zero => omega
  | succ k =>
   simp only [List.length_map]
   rw [zYp k x.Steps (by omega), zYp k l (by omega)]
theorem zU2 : ∀ (k : Nat) (l : List zC), Jk l ≤ k → zJp l → zJp (zGb b l)
 | k, [], _, _ => by rw [zIe, zJp]; trivial
 | k, x :: l, hk, h => by
  rw [JP, KC] at hk
  rw [zGv, zGB] at h
  rw [zFW, zGv, zGB, zHW]
  cases k with
  | zero => omega
  | succ k =>
   obtain ⟨⟨h1, h2, h3, h4, h5, h6⟩, h7⟩ := h
   refine ⟨⟨h1, ?_, ⟨by simpa using h3.1, fun q hq => ?_⟩, h4, by rw [zOQ]; exact h5, zU2 k x.Steps (by omega) h6⟩, zU2 k l (by omega) h7⟩
   ·cases plc x.Kind
    ·exact h2
    ·exact ⟨WV _, WV _⟩
   ·obtain ⟨q0, _, rfl⟩ := List.mem_map.1 hq
    exact ⟨WV _, WV _⟩
end
def unN (U n : Int) : Int := w64 (n.tdiv U)
def unB (U : Int) (q : zI) : Bool := (q.X.tmod U == 0) && (q.Y.tmod U == 0)
theorem zYh {U : Int} (hu : 1 ≤ U) {q : zI} (hq : zEX q = true) (h : unB U q = true) : unN U q.X * U = q.X ∧ unN U q.Y * U = q.Y ∧ (-1000000 ≤ unN U q.X ∧ unN U q.X ≤ 1000000) ∧ (-1000000 ≤ unN U q.Y ∧ unN U q.Y ≤ 1000000) := by
 obtain ⟨h1, h2⟩ := zBv.1 hq
 unfold unB at h
 simp only [Bool.and_eq_true, beq_iff_eq] at h
 have key : ∀ n : Int, -1000000 ≤ n → n ≤ 1000000 → n.tmod U = 0 → unN U n * U = n ∧ -1000000 ≤ unN U n ∧ unN U n ≤ 1000000 := fun n a b c => by
  have hd := Int.mul_tdiv_add_tmod n U
  rw [c, Int.add_zero, Int.mul_comm] at hd
  have := WH (n := n.tdiv U) (c := 1000000) hu (by omega) (by omega)
  unfold unN
  rw [QQ (by omega) (by omega)]
  exact ⟨hd, this⟩
 obtain ⟨x1, x2⟩ := key q.X h1.1 h1.2 h.1
 obtain ⟨y1, y2⟩ := key q.Y h2.1 h2.2 h.2
 exact ⟨x1, y1, x2, y2⟩
theorem zKm (p : zt) (TT : List (List zK)) (x : zC) (l : List zC) (b : zI) : zBU p TT (x :: l) b = zXy (zCF p TT x b) (zBU p TT l b) := by
 funext s; rw [zFU]; rfl
theorem zRQ (p : zt) (TT : List (List zK)) (b : zI) : zBU p TT [] b = fun s => (0, s) := by
 funext s; rw [zFe]
theorem zK1 {p : zt} {N : Nat} (hp : VX N p) {d : Int} (hd : d ≤ 5) {b : zI} (hb : zBl d b) {x : zC} (hx : zFo p x d) (h8 : x.Kind ≠ 8) : IvT (Jj p) (zDu p (Jj p) x b) := fun _ hs =>
 (zV8 (Nat.le_refl 10000000000) hp.Jj (by unfold Jj; simp) hp.unit.1 hs hd hb hx h8 fun _ _ _ => none).2
def zFB (p : zt) (m : zI) : zt := ⟨p.Unit, p.Tools, zGb m p.Steps⟩
def zNJ (q : zI) : Qf := ⟨false, 0, q⟩
theorem zjQ (c q : zI) : tk (zNJ c) q = ⟨q.X + c.X, q.Y + c.Y⟩ := by simp [tk, zNJ, rX, rY]
theorem zRu {q : zI} {U : Int} (hu : 1 ≤ U) (h : zAR q U = true) : (-1000000 ≤ q.X ∧ q.X ≤ 1000000) ∧ (-1000000 ≤ q.Y ∧ q.Y ≤ 1000000) := by
 unfold zAR at h
 rw [Bool.and_eq_true] at h
 exact ⟨WH hu (by omega) (zC1 hu h.1), WH hu (by omega) (zC1 hu h.2)⟩
theorem zbS {U d : Int} {q b c m : zI} (hu : 1 ≤ U) (hq : zAR q U = true) (hd : d ≤ 5) (hb : zBl d b) (hm : m.X * U = c.X ∧ m.Y * U = c.Y) (hc : zEX c = true) : atM U (mvP m q) b = tk (zNJ c) (atM U q b) := by
 obtain ⟨e, h1, h2⟩ := zKR hu hq hd hb
 obtain ⟨c1, c2⟩ := zBv.1 hc
 obtain ⟨q1, q2⟩ := zRu hu hq
 have m1 := WH (n := m.X) (c := 1000000) hu (by omega) (by omega)
 have m2 := WH (n := m.Y) (c := 1000000) hu (by omega) (by omega)
 have e1 : (q.X + m.X) * U = q.X * U + c.X := by rw [Int.add_mul, hm.1]
 have e2 : (q.Y + m.Y) * U = q.Y * U + c.Y := by rw [Int.add_mul, hm.2]
 unfold zBl at hb
 rw [zjQ, e]
 unfold atM mvP
 simp only
 rw [QQ (x := q.X + m.X) (by omega) (by omega), QQ (x := q.Y + m.Y) (by omega) (by omega), e1, e2, QQ (x := q.X * U + c.X) (by omega) (by omega), QQ (x := q.Y * U + c.Y) (by omega) (by omega), QQ (by omega) (by omega), QQ (by omega) (by omega)]
 rw [show q.X * U + c.X + b.X = q.X * U + b.X + c.X by omega, show q.Y * U + c.Y + b.Y = q.Y * U + b.Y + c.Y by omega]
theorem zYk {p : zt} {N : Nat} (hp : VX N p) (c : zI) : Jj p = (Jj p).map fun T => T.map (tr (t0 (zNJ c))) := by
 refine (List.map_id _).symm.trans (List.map_congr_left fun T hT => ?_)
 refine (List.map_id T).symm.trans (List.map_congr_left fun r hr => ?_)
 have := (hp.Jj T hT).ne r hr
 obtain ⟨x0, y0, x1, y1⟩ := r
 simp [tr, tk, t0, zNJ, rX, rY] at this ⊢
 omega
theorem zMB {p : zt} {c m : zI} {N M : Nat} (hp : VX N p) (hp' : VX M (zFB p m)) (hm : m.X * p.Unit = c.X ∧ m.Y * p.Unit = c.Y) (hc : zEX c = true) : ∀ (k : Nat) (l : List zC) (d : Int) (b : zI), Jk l ≤ k → 0 ≤ d → d ≤ 5 → zEh p d l → zEh (zFB p m) d (zGb m l) → zBl d b → StT (zNJ c) (Jj p) (Jj p) (zBU p (Jj p) l b) (zBU (zFB p m) (Jj p) (zGb m l) b)
 | k, [], d, b, _, _, _, _, _, _ => by rw [zIe, zRQ, zRQ]; exact StT.skip
 | 0, x :: l, d, b, hk, _, _, _, _, _ => by
  have := KC x
  rw [JP] at hk
  omega
 | k + 1, x :: l, d, b, hk, h0, h5, hv, hv', hb => by
  have hs := KC x
  have hu := hp.unit.1
  rw [JP] at hk
  rw [WY, zB9] at hv
  rw [zFW, WY, zB9] at hv'
  have hx := zBt.1 hv.1.1
  have hx' := zBt.1 hv'.1.1
  have hK : (mvT m x).Kind = x.Kind := by rw [zHW]
  rw [zFW, zKm, zKm]
  refine StT.seq ?_ (zMB hp hp' hm hc k l d b (by omega) h0 h5 hv.2 hv'.2 hb)
  by_cases h8 : x.Kind = 8
  ·have e1 : zCF p (Jj p) x b = zCf (fun j => zCf (fun i => zBU p (Jj p) x.Steps (byM p.Unit b x.At j i)) (List.range' 0 x.NX.toNat)) (List.range' 0 x.NY.toNat) := by
    funext s; rw [zDY, if_pos h8]
   have e2 : zCF (zFB p m) (Jj p) (mvT m x) b = zCf (fun j => zCf (fun i => zBU (zFB p m) (Jj p) (zGb m x.Steps) (byM p.Unit b x.At j i)) (List.range' 0 x.NX.toNat)) (List.range' 0 x.NY.toNat) := by
    funext s
    rw [zDY, if_pos (by rw [hK]; exact h8), zHW]
    have hpl : plc x.Kind = false := by rw [h8]; rfl
    simp only [hpl, Bool.false_eq_true, if_false]
    rfl
   rw [e1, e2]
   obtain ⟨t1, t2, _, t4⟩ := hx.times h8
   refine StT.iter fun j hj => StT.iter fun i hi => ?_
   have hj' := List.mem_range'.1 hj
   have hi' := List.mem_range'.1 hi
   have hst : zEh (zFB p m) (d + 1) (zGb m x.Steps) := by
    have := hv'.1.2
    rw [zHW] at this
    exact this
   exact zMB hp hp' hm hc k x.Steps (d + 1) _ (by omega) (by omega) (by omega) hv.1.2 hst (zVa hu hx.place ⟨h0, t4⟩ hb (by omega) (by omega)).2
  ·have e1 : zCF p (Jj p) x b = zDu p (Jj p) x b := by funext s; rw [zDY, if_neg h8]
   have e2 : zCF (zFB p m) (Jj p) (mvT m x) b = zDu (zFB p m) (Jj p) (mvT m x) b := by funext s; rw [zDY, if_neg (by rw [hK]; exact h8)]
   rw [e1, e2]
   refine ⟨zK1 hp h5 hb hx h8, zK1 (p := zFB p m) hp' h5 hb hx' (by rw [hK]; exact h8), fun s z hi hz h => ?_⟩
   refine zQH (t := zNJ c) ⟨by show (0 : Int) ≤ 0; omega, by show (0 : Int) ≤ 3; omega⟩ hp.Jj hp.Jj (zYk hp c) hK (by rw [zHW]; rfl) (fun h456 => ?_) (fun h7 => ?_) hi.img hz.img h
   ·have hpl : plc x.Kind = true := by unfold plc; simpa [or_assoc] using h456
    have : (mvT m x).At = mvP m x.At := by rw [zHW]; simp only [hpl, if_true]
    rw [this]
    exact zbS hu hx.place h5 hb hm hc
   ·obtain ⟨a1, a2, a3, a4⟩ := hx.area h7
    have h7' : (mvT m x).Kind = 7 := by rw [hK]; exact h7
    obtain ⟨b1, b2, b3, b4⟩ := hx'.area h7'
    refine ⟨?_, zNo hu h5 hb (List.all_eq_true.1 a1) ⟨a2, a3⟩ a4, zNo (U := (zFB p m).Unit) hu h5 hb (List.all_eq_true.1 b1) ⟨b2, b3⟩ b4⟩
    have : (mvT m x).Points = x.Points.map (mvP m) := by rw [zHW]
    rw [this, List.map_map, List.map_map]
    exact List.map_congr_left fun q hq => zbS hu (List.all_eq_true.1 a1 q hq) h5 hb hm hc
theorem zNb {p : zt} (hu : 1 ≤ p.Unit) : ∀ (k : Nat) (l : List zC) (d : Int) (b : zI) (y : zC), Jk l ≤ k → 0 ≤ d → d ≤ 5 → zEh p d l → zBl d (scB p.Unit b) → y ∈ flL l b → ∃ x b' d', zFo p x d' ∧ x.Kind ≠ 8 ∧ (0 ≤ d' ∧ d' ≤ 5) ∧ zBl d' (scB p.Unit b') ∧ y = zEZ b' x
 | _, [], _, _, _, _, _, _, _, _, hy => by rw [zJa] at hy; cases hy
 | k, x :: l, d, b, y, hk, h0, h5, hv, hb, hy => by
  rw [JP, KC] at hk
  obtain ⟨hx, hl⟩ := (WY _ _ _ _).1 hv
  obtain ⟨hx0, hs⟩ := (zB9 _ _ _).1 hx
  have ho := zBt.1 hx0
  cases k with
  | zero => omega
  | succ k =>
   rw [zG3, List.mem_append] at hy
   rcases hy with hy | hy
   ·rw [zO8] at hy
    by_cases h8 : x.Kind = 8
    ·obtain ⟨t1, t2, _, t4⟩ := ho.times h8
     rw [if_pos h8, List.mem_flatMap] at hy
     obtain ⟨j, hj, hy⟩ := hy
     rw [List.mem_flatMap] at hy
     obtain ⟨i, hi, hy⟩ := hy
     have hj' := List.mem_range'.1 hj
     have hi' := List.mem_range'.1 hi
     obtain ⟨_, e2⟩ := zbJ hu ho.place ⟨h0, t4⟩ hb (j := j) (i := i) (by omega) (by omega)
     exact zNb hu k x.Steps (d + 1) _ y (by omega) (by omega) (by omega) hs e2 hy
    ·rw [if_neg h8, List.mem_singleton] at hy
     exact ⟨x, b, d, ho, h8, ⟨h0, h5⟩, hb, hy⟩
   ·exact zNb hu k l d b y (by omega) h0 h5 hl hb hy
theorem zYn {t : Qf} (hq : 0 ≤ t.Quarters ∧ t.Quarters ≤ 3) {U : Int} {cx cy : Int} (hc : t.At = ⟨cx * U, cy * U⟩) (q : zI) : (tk ⟨t.Flip, t.Quarters, ⟨cx, cy⟩⟩ q).X * U = (tk t ⟨q.X * U, q.Y * U⟩).X ∧ (tk ⟨t.Flip, t.Quarters, ⟨cx, cy⟩⟩ q).Y * U = (tk t ⟨q.X * U, q.Y * U⟩).Y := by
 obtain ⟨fl, qq, at'⟩ := t
 simp only at hq hc
 subst hc
 unfold tk rX rY
 rcases zEE hq with rfl | rfl | rfl | rfl <;> cases fl <;> simp [Int.add_mul, Int.neg_mul]
def twS (t : Qf) (x : zC) : zC := ⟨x.Kind, x.Name, if plc x.Kind then tk t x.At else x.At, x.Points.map (tk t), x.NX, x.NY, x.Steps⟩
def tU (U : Int) (t : Qf) : Qf := ⟨t.Flip, t.Quarters, ⟨unN U t.At.X, unN U t.At.Y⟩⟩
def zDW (p : zt) (t : Qf) : zt := ⟨p.Unit, p.Tools.map (tlG (tr (t0 t))), (flL p.Steps ⟨0, 0⟩).map (twS (tU p.Unit t))⟩
theorem zbR {U d : Int} (hu : 1 ≤ U ∧ U ≤ 1000) {t : Qf} (hq : 0 ≤ t.Quarters ∧ t.Quarters ≤ 3) (ht : zEX t.At = true) (hw : unB U t.At = true) {q b : zI} (hf : zAR q U = true) (hd : 0 ≤ d ∧ d ≤ 5) (hb : zBl d (scB U b)) : atM U (tk (tU U t) (mvP b q)) ⟨0, 0⟩ = tk t (atM U (mvP b q) ⟨0, 0⟩) := by
 obtain ⟨u1, u2, u3, u4⟩ := zYh hu.1 ht hw
 obtain ⟨n1, n2⟩ := zBv.1 ht
 obtain ⟨m1, m2⟩ := zYn (t := t) hq (U := U) (cx := unN U t.At.X) (cy := unN U t.At.Y) (by rw [u1, u2]) (mvP b q)
 rw [zSD hu.1 hf hd hb]
 obtain ⟨e, h1, h2⟩ := zKR hu.1 hf hd.2 hb
 obtain ⟨q1, q2⟩ := zRu hu.1 hf
 have hb' := hb
 unfold zBl scB at hb'
 simp only at hb'
 have b1 := WH hu.1 (by omega) hb'.1
 have b2 := WH hu.1 (by omega) hb'.2
 have em : mvP b q = ⟨q.X + b.X, q.Y + b.Y⟩ := by
  unfold mvP
  rw [QQ (by omega) (by omega), QQ (by omega) (by omega)]
 have ee : (⟨(mvP b q).X * U, (mvP b q).Y * U⟩ : zI) = atM U q (scB U b) := by
  rw [e, em]
  simp only [scB, Int.add_mul]
 rw [ee] at m1 m2
 have hbd : (-2000000000 ≤ (tk t (atM U q (scB U b))).X ∧ (tk t (atM U q (scB U b))).X ≤ 2000000000) ∧ (-2000000000 ≤ (tk t (atM U q (scB U b))).Y ∧ (tk t (atM U q (scB U b))).Y ≤ 2000000000) := by
  rw [e]
  simp only [scB]
  unfold tk rX rY
  rcases zEE hq with h | h | h | h <;> rw [h] <;> cases t.Flip <;> simp <;> omega
 show (⟨w64 (w64 ((tk (tU U t) (mvP b q)).X * U) + 0), w64 (w64 ((tk (tU U t) (mvP b q)).Y * U) + 0)⟩ : zI) = _
 have g1 : (tk (tU U t) (mvP b q)).X * U = (tk t (atM U q (scB U b))).X := m1
 have g2 : (tk (tU U t) (mvP b q)).Y * U = (tk t (atM U q (scB U b))).Y := m2
 rw [g1, g2, Int.add_zero, Int.add_zero, QQ (x := (tk t (atM U q (scB U b))).X) (by omega) (by omega), QQ (x := (tk t (atM U q (scB U b))).Y) (by omega) (by omega), QQ (by omega) (by omega), QQ (by omega) (by omega)]
theorem ze4 {t : Qf} (hq : 0 ≤ t.Quarters ∧ t.Quarters ≤ 3) {U : Int} (hu : 1 ≤ U) (r : zK) : scR U (tr (t0 t) r) = tr (t0 t) (scR U r) := by
 have key : ∀ q : zI, (tk (t0 t) q).X * U = (tk (t0 t) ⟨q.X * U, q.Y * U⟩).X ∧ (tk (t0 t) q).Y * U = (tk (t0 t) ⟨q.X * U, q.Y * U⟩).Y := fun q => zYn (t := t0 t) hq (U := U) (cx := 0) (cy := 0) (by unfold t0; simp) q
 have mn : ∀ a b : Int, min a b * U = min (a * U) (b * U) := fun a b => by
  rcases Int.le_total a b with h | h
  ·rw [Int.min_eq_left h, Int.min_eq_left (Int.mul_le_mul_of_nonneg_right h (by omega))]
  ·rw [Int.min_eq_right h, Int.min_eq_right (Int.mul_le_mul_of_nonneg_right h (by omega))]
 have mx : ∀ a b : Int, max a b * U = max (a * U) (b * U) := fun a b => by
  rcases Int.le_total a b with h | h
  ·rw [Int.max_eq_right h, Int.max_eq_right (Int.mul_le_mul_of_nonneg_right h (by omega))]
  ·rw [Int.max_eq_left h, Int.max_eq_left (Int.mul_le_mul_of_nonneg_right h (by omega))]
 unfold scR
 simp only [tr, mn, mx, (key _).1, (key _).2]
theorem zYj {p : zt} (hu : 1 ≤ p.Unit) {t : Qf} (hq : 0 ≤ t.Quarters ∧ t.Quarters ≤ 3) : Jj (zDW p t) = (Jj p).map fun T => T.map (tr (t0 t)) := by
 unfold Jj zDW
 simp only [List.map_map]
 refine List.map_congr_left fun x _ => ?_
 simp only [Function.comp, tlG, List.map_map]
 exact List.map_congr_left fun r _ => ze4 hq hu r
theorem zYl {g : zK → zK} {nm : ByteArray} (l : List zg) : zDF nm (l.map (tlG g)) = zDF nm l := by
 unfold zDF
 have key : ∀ (l : List zg) (i : Int), zCq (fun t : zg => sEq t.Name nm) (l.map (tlG g)) i = zCq (fun t : zg => sEq t.Name nm) l i := by
  intro l
  induction l with
  | nil => intro i; rfl
  | cons t l ih => intro i; rw [List.map_cons, zCq, zCq, ih]; rfl
 exact key l 0
theorem zN6 {p : zt} {t : Qf} {N M : Nat} (hp : VX N p) (hp' : VX M (zDW p t)) (hq : 0 ≤ t.Quarters ∧ t.Quarters ≤ 3) (ht : zEX t.At = true) (hw : unB p.Unit t.At = true) : ∀ l : List zC, (∀ y ∈ l, y ∈ flL p.Steps ⟨0, 0⟩) → zEh (zDW p t) 0 (l.map (twS (tU p.Unit t))) → StT t (Jj p) (Jj (zDW p t)) (zBU (zM6 p) (Jj p) l ⟨0, 0⟩) (zBU (zDW p t) (Jj (zDW p t)) (l.map (twS (tU p.Unit t))) ⟨0, 0⟩)
 | [], _, _ => by rw [List.map_nil, zRQ, zRQ]; exact StT.skip
 | y :: l, hm, hv => by
  rw [List.map_cons, WY, zB9] at hv
  rw [List.map_cons, zKm, zKm]
  refine StT.seq ?_ (zN6 hp hp' hq ht hw l (fun z hz => hm z (List.mem_cons_of_mem _ hz)) hv.2)
  have hu := hp.unit
  obtain ⟨x, b, d, hx, h8, hd, hb, rfl⟩ := zNb hu.1 _ p.Steps 0 ⟨0, 0⟩ y (Nat.le_refl _) (by omega) (by omega) hp.steps (by unfold zBl scB; simp) (hm y List.mem_cons_self)
  have hx' := zBt.1 hv.1.1
  have hb0 : zBl 0 ⟨0, 0⟩ := by unfold zBl; simp
  have e1 : zCF (zM6 p) (Jj p) (zEZ b x) ⟨0, 0⟩ = zDu (zM6 p) (Jj p) (zEZ b x) ⟨0, 0⟩ := by funext s; rw [zDY, if_neg (show ¬ (zEZ b x).Kind = 8 from h8)]
  have e2 : zCF (zDW p t) (Jj (zDW p t)) (twS (tU p.Unit t) (zEZ b x)) ⟨0, 0⟩ = zDu (zDW p t) (Jj (zDW p t)) (twS (tU p.Unit t) (zEZ b x)) ⟨0, 0⟩ := by funext s; rw [zDY, if_neg (show ¬ (twS (tU p.Unit t) (zEZ b x)).Kind = 8 from h8)]
  rw [e1, e2]
  refine ⟨fun s hs => ?_, zK1 hp' (by omega) hb0 hx' h8, fun s z hi hz h => ?_⟩
  ·rw [zTA (p := p) (q := zM6 p) rfl rfl hu.1 hx hd hb]
   exact zK1 hp hd.2 hb hx h8 s hs
  ·refine zQH hq hp.Jj hp'.Jj (zYj hu.1 hq) rfl ?_ (fun h456 => ?_) (fun h7 => ?_) hi.img hz.img h
   ·exact zYl p.Tools
   ·have h456' : x.Kind = 4 ∨ x.Kind = 5 ∨ x.Kind = 6 := h456
    have hpl : plc x.Kind = true := by unfold plc; simpa [or_assoc] using h456'
    have a1 : (twS (tU p.Unit t) (zEZ b x)).At = tk (tU p.Unit t) (mvP b x.At) := by
     unfold twS zEZ
     simp only [hpl, if_true]
    have a2 : (zEZ b x).At = mvP b x.At := by unfold zEZ; simp only [hpl, if_true]
    rw [a1, a2]
    exact zbR hu hq ht hw hx.place hd hb
   ·have h7x : x.Kind = 7 := h7
    obtain ⟨a1, a2, a3, a4⟩ := hx.area h7x
    obtain ⟨b1, b2, b3, b4⟩ := hx'.area h7
    refine ⟨?_, ?_, zNo (U := (zDW p t).Unit) hu.1 (by omega) hb0 (List.all_eq_true.1 b1) ⟨b2, b3⟩ b4⟩
    ·show (((x.Points.map (mvP b)).map (tk (tU p.Unit t))).map fun q => atM p.Unit q ⟨0, 0⟩) = (((x.Points.map (mvP b)).map fun q => atM p.Unit q ⟨0, 0⟩).map (tk t))
     rw [List.map_map, List.map_map, List.map_map, List.map_map]
     exact List.map_congr_left fun q hq' => zbR hu hq ht hw (List.all_eq_true.1 a1 q hq') hd hb
    ·have e : ((zEZ b x).Points.map fun q => atM (zM6 p).Unit q ⟨0, 0⟩) = x.Points.map fun q => atM p.Unit q (scB p.Unit b) := by
      show ((x.Points.map (mvP b)).map fun q => atM p.Unit q ⟨0, 0⟩) = _
      rw [List.map_map]
      exact List.map_congr_left fun q hq' => zSD hu.1 (List.all_eq_true.1 a1 q hq') hd hb
     rw [e]
     exact zNo hu.1 hd.2 hb (List.all_eq_true.1 a1) ⟨a2, a3⟩ a4
theorem zYe {U : Int} (hU : U ≠ 0) (q : zI) : ((md q.X U).bind fun q105 => (if (q105 != 0) then some true else (md q.Y U).bind fun q108 => some (q108 != 0))) = some (!unB U q) := by
 unfold md unB
 simp only [if_neg hU, Option.bind_some]
 cases h : (q.X.tmod U == 0)
 ·simp [bne, h]
 ·simp [bne, h]
theorem zPx {α : Type} {U : Int} (hU : U ≠ 0) (q : zI) (k : Bool → Option α) : ((md q.X U).bind fun q105 => (if (q105 != 0) then some true else (md q.Y U).bind fun q108 => some (q108 != 0)).bind k) = k (!unB U q) := by
 have := zYe hU q
 unfold md at this ⊢
 simp only [if_neg hU, Option.bind_some] at this ⊢
 rw [this]; rfl
theorem dvU {U : Int} (hU : U ≠ 0) (n : Int) : dv n U = some (unN U n) := by unfold dv; rw [if_neg hU]; rfl
def qtP (q x y : Int) : zI := if q = 0 then ⟨x, y⟩ else if q = 1 then ⟨w64 (0 - y), x⟩ else if q = 2 then ⟨w64 (0 - x), w64 (0 - y)⟩ else ⟨w64 (0 - w64 (0 - y)), w64 (0 - x)⟩
def arP (f : Bool) (q : Int) (p : zI) : zI := qtP q (if f then w64 (0 - p.X) else p.X) p.Y
def twP (t : Qf) (p : zI) : zI := ⟨w64 ((arP t.Flip t.Quarters p).X + t.At.X), w64 ((arP t.Flip t.Quarters p).Y + t.At.Y)⟩
theorem q4 {q : Int} (h : 0 ≤ q ∧ q ≤ 3) : q = 0 ∨ q = 1 ∨ q = 2 ∨ q = 3 := by omega
theorem zRK {N : Nat} (hN : 5 ≤ N) {t : Qf} (p : zI) (hq : 0 ≤ t.Quarters ∧ t.Quarters ≤ 3) : KS N p t = some (twP t p) := by
 obtain ⟨m, rfl⟩ : ∃ m, N = m + 5 := ⟨N - 5, by omega⟩
 obtain ⟨fl, q, ⟨ax, ay⟩⟩ := t
 simp only at hq
 unfold KS Kq twP arP qtP
 rcases q4 hq with rfl | rfl | rfl | rfl <;> cases fl <;> simp (disch := omega) [Ko, QQ]
def zXu (t : Qf) (r : zK) : zK := ⟨min (twP t ⟨r.X0, r.Y0⟩).X (twP t ⟨r.X1, r.Y1⟩).X, min (twP t ⟨r.X0, r.Y0⟩).Y (twP t ⟨r.X1, r.Y1⟩).Y, max (twP t ⟨r.X0, r.Y0⟩).X (twP t ⟨r.X1, r.Y1⟩).X, max (twP t ⟨r.X0, r.Y0⟩).Y (twP t ⟨r.X1, r.Y1⟩).Y⟩
theorem zb0 {N : Nat} (hN : 5 ≤ N) {t : Qf} (hq : 0 ≤ t.Quarters ∧ t.Quarters ≤ 3) (r : zK) : Vd N r t = some (zXu t r) := by
 unfold Vd
 rw [zRK hN _ hq, Option.bind_some, zRK hN _ hq]; rfl
def twW (t : Qf) (x : zC) : zC := ⟨x.Kind, x.Name, if plc x.Kind then twP t x.At else x.At, x.Points.map (twP t), x.NX, x.NY, x.Steps⟩
theorem zbN {α β : Type} (o : Option (α × β)) : (o.bind fun y => some (y.1, y.2)) = o := by cases o <;> rfl
section
variable {N : Nat} {t : Qf} {ax ay : Int}
theorem zPy (hN : 5 ≤ N) (hq : 0 ≤ t.Quarters ∧ t.Quarters ≤ 3) {m : List zC} {k : List zC → Option (zt × Int)} {i : Nat} {x : zC} {bx byy : Int} : ∀ (suf pre : List zI),
  Jy N t ax ay m k i x bx byy suf pre.length (pre ++ suf) = k (m.set i ⟨x.Kind, x.Name, ⟨bx, byy⟩, pre ++ suf.map (twP ⟨t.Flip, t.Quarters, ⟨ax, ay⟩⟩), x.NX, x.NY, x.Steps⟩)
 | [], pre => by rw [Jy]; simp
 | q :: l, pre => by
  rw [Jy, KQ, Option.bind_some, zRK (t := ⟨t.Flip, t.Quarters, ⟨ax, ay⟩⟩) hN _ hq, Option.bind_some, Option.bind_some, zGq, Option.bind_some]
  have := zPy hN hq (m := m) (k := k) (i := i) (x := x) (bx := bx) (byy := byy) l (pre ++ [twP ⟨t.Flip, t.Quarters, ⟨ax, ay⟩⟩ q])
  rw [show (pre ++ [twP ⟨t.Flip, t.Quarters, ⟨ax, ay⟩⟩ q]).length = pre.length + 1 by simp] at this
  rw [show pre ++ twP ⟨t.Flip, t.Quarters, ⟨ax, ay⟩⟩ q :: l = (pre ++ [twP ⟨t.Flip, t.Quarters, ⟨ax, ay⟩⟩ q]) ++ l by simp, this]
  simp
theorem zSe (hN : 5 ≤ N) (hq : 0 ≤ t.Quarters ∧ t.Quarters ≤ 3) {p : zt} {tl : List zg} : ∀ (suf pre : List zC), (∀ x ∈ suf, x.Kind ≠ 8) →
  QS N t p tl ax ay suf pre.length (pre ++ suf) = zAH N ⟨p.Unit, tl, pre ++ suf.map (twW ⟨t.Flip, t.Quarters, ⟨ax, ay⟩⟩)⟩
 | [], pre, _ => by
  rw [QS, zbN]
  simp
 | x :: l, pre, h => by
  have h8 := h x List.mem_cons_self
  have h8' : (x.Kind == 8) = false := by simpa using h8
  have ih := zSe hN hq (p := p) (tl := tl) l (pre ++ [twW ⟨t.Flip, t.Quarters, ⟨ax, ay⟩⟩ x]) (fun y hy => h y (List.mem_cons_of_mem _ hy))
  rw [show (pre ++ [twW ⟨t.Flip, t.Quarters, ⟨ax, ay⟩⟩ x]).length = pre.length + 1 by simp] at ih
  have key : ∀ bx byy, Kv N t ax ay (pre ++ x :: l) (QS N t p tl ax ay l (pre.length + 1)) pre.length x bx byy = QS N t p tl ax ay l (pre.length + 1) ((pre ++ x :: l).set pre.length ⟨x.Kind, x.Name, ⟨bx, byy⟩, x.Points.map (twP ⟨t.Flip, t.Quarters, ⟨ax, ay⟩⟩), x.NX, x.NY, x.Steps⟩) := fun bx byy => by
   unfold Kv
   have := zPy hN hq (ax := ax) (ay := ay) (m := pre ++ x :: l) (k := QS N t p tl ax ay l (pre.length + 1)) (i := pre.length) (x := x) (bx := bx) (byy := byy) x.Points []
   simpa using this
  have fin : ∀ y : zC, y = twW ⟨t.Flip, t.Quarters, ⟨ax, ay⟩⟩ x → QS N t p tl ax ay l (pre.length + 1) ((pre ++ x :: l).set pre.length y) = zAH N ⟨p.Unit, tl, pre ++ (x :: l).map (twW ⟨t.Flip, t.Quarters, ⟨ax, ay⟩⟩)⟩ := fun y e => by
   subst e
   have e2 : (pre ++ x :: l).set pre.length (twW ⟨t.Flip, t.Quarters, ⟨ax, ay⟩⟩ x) = (pre ++ [twW ⟨t.Flip, t.Quarters, ⟨ax, ay⟩⟩ x]) ++ l := by simp
   rw [e2, ih]
   simp
  rw [QS, KQ, Option.bind_some, zGJ, Option.bind_some, key]
  simp only [h8', Bool.or_false]
  cases hp : plc x.Kind
  ·have : (x.Kind == 4 || x.Kind == 5 || x.Kind == 6) = false := hp
   rw [this, if_neg (by simp)]
   exact fin _ (by unfold twW; rw [hp]; rfl)
  ·have : (x.Kind == 4 || x.Kind == 5 || x.Kind == 6) = true := hp
   rw [this, if_pos rfl, zRK (t := ⟨t.Flip, t.Quarters, ⟨ax, ay⟩⟩) hN _ hq, Option.bind_some, key]
   exact fin _ (by unfold twW; rw [hp]; rfl)
end
theorem zMs {t : Qf} (ht : chk t = true) {I I' : List Bd} (hI : zCu I) (hI' : zCu I') (h : zPP t I I') : zGo (QJ I) t = (QJ I', 0) := by
 obtain ⟨hq, _⟩ := zJe.1 ht
 have hne : Ne (QJ I) := zFV hI.ok
 have hne' : Ne ((QJ I).map (tr t)) := fun r hr => by
  obtain ⟨r0, k, rfl⟩ := List.mem_map.1 hr
  exact zdv hq (hne r0 k)
 obtain ⟨s1, s2⟩ := zEB hne'
 have hset : zAQ ((QJ I).map (tr t)) = I' := s1.uniq hI'.ok fun x y => by
  obtain ⟨u, v, e⟩ := zYu hq x y
  have h1 := h u v
  have h2 := zbc hq hne u v
  rw [e] at h1 h2
  rw [s2, h1]
  exact h2.trans (zCO hI.ok u v)
 have hlim : ((QJ I).map (tr t)).all lim = true := by
  rw [List.all_eq_true]
  intro r hr
  have hn := hne' r hr
  have key : ∀ x y, ((r.X0 ≤ x ∧ x < r.X1) ∧ (r.Y0 ≤ y ∧ y < r.Y1)) → (-1000000 ≤ x ∧ x < 1000000) ∧ (-1000000 ≤ y ∧ y < 1000000) := fun x y hxy => by
   refine (zK0 hI'.ok).1 hI'.lim x y ?_
   rw [← hset, s2]
   exact ⟨r, hr, hxy⟩
  have k1 := key r.X0 r.Y0 (by omega)
  have k2 := key (r.X1 - 1) (r.Y1 - 1) (by omega)
  rw [zFC]; omega
 have hfew := hI'.few
 unfold zGo zVn
 rw [if_pos (zX1 hI.ok ((zK0 hI.ok).1 hI.lim) hI.few), if_pos ht, if_pos hlim, hset, if_neg (by omega)]
theorem zSh {N : Nat} {q : zt} (hN : Fu q N) (hL : zIS q) : ∃ r, zAH N q = some r ∧ ((r.2 ≠ 0 ∧ r.1.Unit = 0) ∨ (r = (q, 0) ∧ VX N q)) := by
 obtain ⟨e, e1, e2⟩ := zUQ hN hL
 unfold zAH
 rw [e1, Option.bind_some]
 by_cases h : e = 0
 ·rw [if_neg (by simpa using h)]
  exact ⟨_, rfl, .inr ⟨rfl, e2.1 h⟩⟩
 ·rw [if_pos (by simpa using h)]
  exact ⟨_, rfl, .inl ⟨h, rfl⟩⟩
theorem zYE {N : Nat} {p : zt} {q : zI} (hN : FuG p N) (hL : zIS p) (hp : VX N p) : ∃ r, zDq N p q = some r ∧ (r.2 = 0 → ∃ m, r.1 = zFB p m ∧ VX N (zFB p m) ∧ Fu (zFB p m) N ∧ zIS (zFB p m) ∧ (m.X * p.Unit = q.X ∧ m.Y * p.Unit = q.Y) ∧ zEX q = true) := by
 have hN' := hN
 unfold FuG at hN'
 have hG := hp.zea hN.fu hL
 have hf := hG.few
 have hU : p.Unit ≠ 0 := by have := hG.unit; omega
 unfold zDq
 rw [(zKU hN.fu hL).2 hp, Option.bind_some, if_neg (by simp), zPR, Option.bind_some]
 cases hc : zEX q
 ·exact ⟨_, rfl, fun h => by cases h⟩
 ·simp only [Bool.not_true, Bool.false_eq_true, if_false]
  rw [zPx hU]
  cases hw : unB p.Unit q
  ·exact ⟨_, rfl, fun h => by cases h⟩
  ·simp only [Bool.not_true, Bool.false_eq_true, if_false]
   rw [dvU hU, dvU hU, Option.bind_some, Option.bind_some, zV6 (b := ⟨unN p.Unit q.X, unN p.Unit q.Y⟩) _ p.Steps N (Nat.le_refl _) (by omega) hG.steps hG.nd, Option.bind_some, zRT (g := fun r => r) (f := fun z0 => zAK z0) (fun r => rfl) (by omega) (fun t ht => (hG.tools t ht).2) (by omega), zSf, Option.bind_some]
   have hsz := zYp (b := ⟨unN p.Unit q.X, unN p.Unit q.Y⟩) _ p.Steps (Nat.le_refl _)
   have hln := zOQ (b := ⟨unN p.Unit q.X, unN p.Unit q.Y⟩) p.Steps
   have hlm := zU2 (b := ⟨unN p.Unit q.X, unN p.Unit q.Y⟩) _ p.Steps (Nat.le_refl _) hL.steps
   have hsl := hL.sl
   have hFu : Fu (zFB p ⟨unN p.Unit q.X, unN p.Unit q.Y⟩) N := by unfold Fu; show Jk (zGb _ p.Steps) + zCy p.Tools + 10000 ≤ N; omega
   have hLe : zIS (zFB p ⟨unN p.Unit q.X, unN p.Unit q.Y⟩) := ⟨hL.unit, hL.tools, by show (zGb _ p.Steps).length ≤ _; omega, hlm⟩
   obtain ⟨r, r1, r2⟩ := zSh hFu hLe
   show ∃ r, ((zAH N (zFB p ⟨unN p.Unit q.X, unN p.Unit q.Y⟩)).bind fun y => some (y.1, y.2)) = some r ∧ _
   rw [r1, Option.bind_some]
   refine ⟨_, rfl, fun h0 => ?_⟩
   rcases r2 with ⟨c, _⟩ | ⟨c, hp'⟩
   ·exact absurd h0 c
   ·subst c
    obtain ⟨u1, u2, _⟩ := zYh hp.unit.1 hc hw
    exact ⟨_, rfl, hp', hFu, hLe, ⟨u1, u2⟩, by trivial⟩
theorem zRL {t : Qf} (hq : 0 ≤ t.Quarters ∧ t.Quarters ≤ 3) {q : zI} (ha : (-10000000 ≤ t.At.X ∧ t.At.X ≤ 10000000) ∧ (-10000000 ≤ t.At.Y ∧ t.At.Y ≤ 10000000)) (hx : (-1000000000 ≤ q.X ∧ q.X ≤ 1000000000) ∧ (-1000000000 ≤ q.Y ∧ q.Y ≤ 1000000000)) : twP t q = tk t q := by
 obtain ⟨fl, qq, ⟨ax, ay⟩⟩ := t
 obtain ⟨px, py⟩ := q
 simp only at hq ha hx
 unfold twP arP qtP tk rX rY
 rcases q4 hq with rfl | rfl | rfl | rfl <;> cases fl <;> simp (disch := omega) [QQ]
theorem zdC {p : zt} {N : Nat} (hL : zIS p) (hO : VX N p) {y : zC} (hy : y ∈ flL p.Steps ⟨0, 0⟩) : y.Kind ≠ 8 ∧ zOU y ∧ (∀ q, q ∈ y.Points ∨ (plc y.Kind = true ∧ q = y.At) → (-1000000000 ≤ q.X ∧ q.X ≤ 1000000000) ∧ (-1000000000 ≤ q.Y ∧ q.Y ≤ 1000000000)) := by
 obtain ⟨_, _, _, _, _, x3, rfl⟩ := zNa _ p.Steps 0 _ y (Nat.le_refl _) hO.steps hL.steps hy
 obtain ⟨x, b, d, hx, h8, hd, hb, e⟩ := zNb hO.unit.1 _ p.Steps 0 ⟨0, 0⟩ _ (Nat.le_refl _) (by omega) (by omega) hO.steps (by unfold zBl scB; simp) hy
 refine ⟨by rw [e]; exact h8, zS8 x3, ?_⟩
 rw [e]
 unfold zBl scB at hb
 simp only at hb
 have b1 := WH hO.unit.1 (by omega) hb.1
 have b2 := WH hO.unit.1 (by omega) hb.2
 have key : ∀ q, zAR q p.Unit = true → (-1000000000 ≤ (mvP b q).X ∧ (mvP b q).X ≤ 1000000000) ∧ (-1000000000 ≤ (mvP b q).Y ∧ (mvP b q).Y ≤ 1000000000) := fun q hq => by
  obtain ⟨q1, q2⟩ := zRu hO.unit.1 hq
  unfold mvP
  simp only
  rw [QQ (by omega) (by omega), QQ (by omega) (by omega)]
  omega
 rintro q (hq | ⟨hq, rfl⟩)
 ·obtain ⟨q0, k, rfl⟩ := List.mem_map.1 hq
  by_cases h7 : x.Kind = 7
  ·exact key q0 (List.all_eq_true.1 (hx.area h7).1 q0 k)
  ·rw [hx.points h7] at k; cases k
 ·have : (zEZ b x).At = mvP b x.At := by
   have hq' : plc x.Kind = true := hq
   unfold zEZ; simp only [hq', if_true]
  rw [this]
  exact key _ hx.place
theorem zN7 {p : zt} {N : Nat} (hO : VX N p) {t : Qf} (hq : 0 ≤ t.Quarters ∧ t.Quarters ≤ 3) : p.Tools.map (tlG (zXu (t0 t))) = p.Tools.map (tlG (tr (t0 t))) := by
 refine List.map_congr_left fun x hx => ?_
 unfold tlG
 congr 1
 refine List.map_congr_left fun r hr => ?_
 have hz := (zHT hO.unit.1 ((zJ9 (hO.tools x hx).2).2.2 r hr)).1
 have u := hO.unit.1
 have c1 := WH (c := 1000000) u (by omega) hz.1
 have c2 := WH (c := 1000000) u (by omega) hz.2.1
 have c3 := WH (c := 1000000) u (by omega) hz.2.2.1
 have c4 := WH (c := 1000000) u (by omega) hz.2.2.2
 have ha : (-10000000 ≤ (t0 t).At.X ∧ (t0 t).At.X ≤ 10000000) ∧ (-10000000 ≤ (t0 t).At.Y ∧ (t0 t).At.Y ≤ 10000000) := by unfold t0; simp
 unfold zXu tr
 rw [zRL (t := t0 t) hq (q := ⟨r.X0, r.Y0⟩) ha (by simp only; omega), zRL (t := t0 t) hq (q := ⟨r.X1, r.Y1⟩) ha (by simp only; omega)]
theorem zYi {t : Qf} : ∀ (l : List zC), Jk (l.map (twS t)) = Jk l
 | [] => rfl
 | x :: l => by
  have : zFc (twS t x) = zFc x := by rw [KC, KC]; simp [twS]
  rw [List.map_cons, JP, JP, this, zYi l]
theorem zYm {g : zK → zK} : ∀ (l : List zg), zCy (l.map (tlG g)) = zCy l
 | [] => rfl
 | x :: l => by rw [List.map_cons, zCy, zCy, zYm l]; rfl
theorem zjq {a b : Int} (h : J64 a) (k : J64 b) : J64 (min a b) := by unfold J64 at *; omega
theorem zjr {a b : Int} (h : J64 a) (k : J64 b) : J64 (max a b) := by unfold J64 at *; omega
theorem zVh {N : Nat} {p : zt} {t : Qf} (hN : FuG p N) (hL : zIS p) (hp : VX N p) : ∃ r, zA1 N p t = some r ∧ ((r.2 ≠ 0 ∧ r.1.Unit = 0) ∨ (r = (zDW p t, 0) ∧ VX N (zDW p t) ∧ Fu (zDW p t) N ∧ zIS (zDW p t) ∧ chk t = true ∧ unB p.Unit t.At = true)) := by
 have hN' := hN
 unfold FuG at hN'
 have hG := hp.zea hN.fu hL
 have hf := hG.few
 have hU : p.Unit ≠ 0 := by have := hG.unit; omega
 unfold zA1
 rw [(zKU hN.fu hL).2 hp, Option.bind_some, if_neg (by simp), zLk, Option.bind_some]
 cases hc : chk t
 ·exact ⟨_, rfl, .inl ⟨by simp, rfl⟩⟩
 ·obtain ⟨hq, h1, h2⟩ := zJe.1 hc
  have hnear : zEX t.At = true := zBv.2 ⟨h1, h2⟩
  rw [if_pos rfl, if_neg (by simp), zPx hU]
  cases hw : unB p.Unit t.At
  ·exact ⟨_, rfl, .inl ⟨by simp, rfl⟩⟩
  ·simp only [Bool.not_true, Bool.false_eq_true, if_false]
   obtain ⟨f1, f2, f3⟩ := zaw hG hL hp ⟨0, 0⟩
   have hm := fun y hy => zdC hL hp (y := y) hy
   obtain ⟨u1, u2, u3, u4⟩ := zYh hp.unit.1 hnear hw
   unfold zC6
   rw [zRT (g := fun r => r) (f := fun z0 => zAK z0) (fun r => rfl) (by omega) (fun t ht => (hG.tools t ht).2) (by omega), zSf, Option.bind_some, zWX _ p.Steps N 0 _ (Nat.le_refl _) (by omega) hp.steps hp.cnt, Option.bind_some, Option.bind_some,
    zRT (g := zXu (t0 t)) (f := fun z0 => Vr N z0 ⟨t.Flip, t.Quarters, ⟨0, 0⟩⟩) (fun r => by unfold Vr; rw [zb0 (t := ⟨t.Flip, t.Quarters, ⟨0, 0⟩⟩) (by omega) hq]; rfl) (by show p.Tools.length ≤ 2000; omega) (fun t ht => (hG.tools t ht).2) (by omega), Option.bind_some, dvU hU, dvU hU, Option.bind_some, Option.bind_some]
   have h1 := zSe (N := N) (t := t) (ax := unN p.Unit t.At.X) (ay := unN p.Unit t.At.Y) (by omega) hq (p := ⟨p.Unit, p.Tools, flL p.Steps ⟨0, 0⟩⟩) (tl := p.Tools.map (tlG (zXu (t0 t)))) (flL p.Steps ⟨0, 0⟩) [] (fun y hy => (hm y hy).1)
   simp only [List.nil_append, List.length_nil] at h1
   have e2 : (flL p.Steps ⟨0, 0⟩).map (twW ⟨t.Flip, t.Quarters, ⟨unN p.Unit t.At.X, unN p.Unit t.At.Y⟩⟩) = (flL p.Steps ⟨0, 0⟩).map (twS (tU p.Unit t)) := List.map_congr_left fun y hy => by
    have hb := (hm y hy).2.2
    have ha : (-10000000 ≤ (tU p.Unit t).At.X ∧ (tU p.Unit t).At.X ≤ 10000000) ∧ (-10000000 ≤ (tU p.Unit t).At.Y ∧ (tU p.Unit t).At.Y ≤ 10000000) := by unfold tU; simp only; omega
    have ep : y.Points.map (twP (tU p.Unit t)) = y.Points.map (tk (tU p.Unit t)) := List.map_congr_left fun q hq' => zRL (t := tU p.Unit t) hq ha (hb q (.inl hq'))
    show twW (tU p.Unit t) y = twS (tU p.Unit t) y
    unfold twW twS
    rw [ep]
    cases hpl : plc y.Kind
    ·rfl
    ·rw [if_pos rfl, if_pos rfl, zRL (t := tU p.Unit t) hq ha (hb y.At (.inr ⟨hpl, rfl⟩))]
   rw [e2, zN7 hp hq] at h1
   have hs1 := zYi (t := tU p.Unit t) (flL p.Steps ⟨0, 0⟩)
   have hs2 := zYm (g := tr (t0 t)) p.Tools
   have hFu : Fu (zDW p t) N := by unfold Fu; show Jk ((flL p.Steps ⟨0, 0⟩).map (twS (tU p.Unit t))) + zCy (p.Tools.map (tlG (tr (t0 t)))) + 10000 ≤ N; rw [hs1, hs2]; omega
   have hLe : zIS (zDW p t) := by
    refine ⟨hL.unit, fun x hx => ?_, ?_, zNW fun y hy => ?_⟩
    ·have hx' : x ∈ p.Tools.map (tlG (zXu (t0 t))) := by rw [zN7 hp hq]; exact hx
     obtain ⟨x0, k0, rfl⟩ := List.mem_map.1 hx'
     refine ⟨(hL.tools x0 k0).1, fun r hr => ?_⟩
     obtain ⟨r0, _, rfl⟩ := List.mem_map.1 hr
     exact ⟨⟨zjq (WV _) (WV _), zjq (WV _) (WV _)⟩, zjr (WV _) (WV _), zjr (WV _) (WV _)⟩
    ·show ((flL p.Steps ⟨0, 0⟩).map _).length ≤ _; rw [List.length_map]; omega
    ·have hy' : y ∈ (flL p.Steps ⟨0, 0⟩).map (twW ⟨t.Flip, t.Quarters, ⟨unN p.Unit t.At.X, unN p.Unit t.At.Y⟩⟩) := by rw [e2]; exact hy
     obtain ⟨y0, k0, rfl⟩ := List.mem_map.1 hy'
     have h := (hm y0 k0).2.1
     rw [zGB] at h ⊢
     obtain ⟨g1, g2, g3, g4⟩ := h
     refine ⟨g1, ?_, ⟨by simpa [twW] using g3.1, fun q hq => ?_⟩, g4⟩
     ·unfold twW
      cases plc y0.Kind
      ·exact g2
      ·exact ⟨WV _, WV _⟩
     ·obtain ⟨q0, _, rfl⟩ := List.mem_map.1 hq
      exact ⟨WV _, WV _⟩
   obtain ⟨r, r1, r2⟩ := zSh hFu hLe
   have h1' : QS N t ⟨p.Unit, p.Tools, flL p.Steps ⟨0, 0⟩⟩ (p.Tools.map (tlG (tr (t0 t)))) (unN p.Unit t.At.X) (unN p.Unit t.At.Y) (flL p.Steps ⟨0, 0⟩) 0 (flL p.Steps ⟨0, 0⟩) = zAH N (zDW p t) := h1
   rw [zN7 hp hq, h1', r1]
   refine ⟨_, rfl, ?_⟩
   rcases r2 with c | ⟨c, hp'⟩
   ·exact .inl c
   ·exact .inr ⟨c, hp', hFu, hLe, by trivial, by trivial⟩
end Go.Proofs.YtneghcpnehiffaaGreatDoor
