/- What a closed row goes around, as the program finds it. Plain Lean about the plain functions. Conditions: none beyond each theorem's own. The machine that draws plots: what it does, step by step, as a total function. Plain Lean about the plain functions. Conditions: none beyond each theorem's own. The machine that draws plots: the program's run is the total function's. Plain Lean about the plain functions. Conditions: none beyond each theorem's own. The machine that draws plots: images, needless steps. Plain Lean about the plain functions. Conditions: none beyond each theorem's own. Plots in another unit: what the program and the reference compute. Plain. Conditions: none beyond each theorem's own. Plots in another unit: sizes of the scaled plot. Plain. Conditions: none beyond each theorem's own. Plots in another unit draw the same. Plain Lean about the plain functions. Conditions: none beyond each theorem's own. Joined: what it puts together. Plain Lean about the plain functions. Conditions: none beyond each theorem's own. Joined: its answer. Plain Lean about the plain functions. Conditions: none beyond each theorem's own. The joined plot beside the plots alone: tools and numbers. Plain Lean about the plain functions. Conditions: none beyond each theorem's own. The joined plot's machine beside the machine of a plot alone. Plain Lean about the plain functions. Conditions: none beyond each theorem's own. What a joined plot draws. Plain Lean about the plain functions. Conditions: none beyond each theorem's own. -/
import Derived.Test.YtoageaoknnnfbaaGreatDoorJ3
namespace Go.Proofs.YtoageaoknnnfbaaGreatDoor
theorem zbi (xs : List Int) (x : Int) : (stk xs x).length ≤ xs.length + 1 := by
  unfold stk
  split
  · rw [List.length_dropLast]; omega
  · simp
theorem zNV : ∀ (l xs : List Int), (l.foldl stk xs).length ≤ xs.length + l.length
  | [], xs => by simp
  | x :: l, xs => by
    have h1 := zbi xs x
    have h2 := zNV l (stk xs x)
    rw [List.foldl_cons, List.length_cons]; omega
theorem za1 (l : List Int) : (zUb l).length ≤ l.length := by
  have := zNV l []
  unfold zUb
  simpa using this
theorem zJd {ys : List Int} {out : List ze} {k : Nat} {K : List ze → Int → Option (List ze)} {a b : Int} (ha : idx ys (k : Int) = some a) (hb : idx ys (w64 ((k : Int) + 1)) = some b) : ∀ (suf : List zS) (i : Nat) (xs : List Int), xs.length + suf.length ≤ 1000000 →
    KA ys out (k : Int) K suf i xs = (Ji out ⟨a, b, (zDC suf a).foldl stk xs⟩).bind fun y => K y (w64 ((k : Int) + 1))
  | [], i, xs, _ => by
    rw [KA, ha, Option.bind_some, hb, Option.bind_some]; rfl
  | s :: l, i, xs, h => by
    simp at h
    rw [KA, ha, Option.bind_some]
    by_cases hc : s.Y0 ≤ a ∧ a < s.Y1
    · have e1 : zDC (s :: l) a = s.X0 :: zDC l a := by
        unfold zDC
        rw [List.filter_cons, if_pos (by simpa using hc)]; rfl
      rw [if_neg (by simp <;> omega), Option.bind_some, Option.bind_some, if_neg (by simp <;> omega), e1, List.foldl_cons]
      rcases List.eq_nil_or_concat xs with hx | ⟨zs, z, hx⟩
      · subst hx
        rw [if_neg (by simp), Option.bind_some, if_neg (by simp), zBE (by simp), Option.bind_some, zJd ha hb l (i + 1) _ (by simp <;> omega)]
        rfl
      · rw [List.concat_eq_append] at hx
        subst hx
        simp at h
        have hz : idx (zs ++ [z]) (w64 (((zs ++ [z]).length : Int) - 1)) = some z := by
          rw [Ql (by simp <;> omega) (by simp <;> omega), show ((zs ++ [z]).length : Int) - 1 = (zs.length : Int) by simp]
          exact Kt zs [] z
        rw [if_pos (by simp), hz, Option.bind_some, Option.bind_some]
        by_cases he : z = s.X0
        · have hp : pre (zs ++ [z]) (w64 (((zs ++ [z]).length : Int) - 1)) = some zs := by
            rw [Ql (by simp <;> omega) (by simp <;> omega), show ((zs ++ [z]).length : Int) - 1 = (zs.length : Int) by simp]
            unfold pre
            rw [if_pos ⟨by omega, by simp <;> omega⟩]
            simp
          rw [if_pos (by simpa using he), hp, Option.bind_some, zJd ha hb l (i + 1) _ (by omega)]
          unfold stk
          rw [if_pos (by simp [he]), List.dropLast_concat]
        · rw [if_neg (by simpa using he), zBE (by simp <;> omega), Option.bind_some, zJd ha hb l (i + 1) _ (by simp <;> omega)]
          have : stk (zs ++ [z]) s.X0 = zs ++ [z] ++ [s.X0] := by unfold stk; rw [if_neg (by simp [he])]
          rw [this]
    · have e1 : zDC (s :: l) a = zDC l a := by
        unfold zDC
        rw [List.filter_cons, if_neg (by simpa using hc)]
      rw [e1]
      by_cases h0 : a < s.Y0
      · rw [if_pos (decide_eq_true h0), Option.bind_some, if_pos rfl, zJd ha hb l (i + 1) _ (by omega)]
      · rw [if_neg (by simpa using h0), Option.bind_some, Option.bind_some, if_pos (by simp <;> omega), zJd ha hb l (i + 1) _ (by omega)]
theorem zPz {ys : List Int} {up : List zS} (hy : ys.Pairwise fun x y => x < y) (hs : up.Pairwise fun a b => a.X0 ≤ b.X0) (hev : ∀ y, (zDC up y).length % 2 = 0) (hl : ys.length ≤ 100000) (hu : up.length ≤ 100000) : ∀ (suf pre : List Int) (m : Nat) (out : List Bd), ys = pre ++ suf → suf.length < m → out.length + suf.length ≤ 1000000 →
    KC ys up m (out.map toP) (pre.length : Int) = some ((zCF (fA up) suf out).map toP)
  | [], pre, m, out, he, hm, _ => by
    obtain ⟨m, rfl⟩ : ∃ k, m = k + 1 := ⟨m - 1, by omega⟩
    have hlen : ys.length = pre.length := by rw [he]; simp
    rw [KC, if_neg (by rw [Ql (by omega) (by omega)]; simp; omega)]
    rfl
  | [a], pre, m, out, he, hm, _ => by
    obtain ⟨m, rfl⟩ : ∃ k, m = k + 1 := ⟨m - 1, by omega⟩
    have hlen : ys.length = pre.length + 1 := by rw [he]; simp
    rw [KC, if_neg (by rw [Ql (by omega) (by omega)]; simp; omega)]
    rfl
  | a :: b :: l, pre, m, out, he, hm, ho => by
    obtain ⟨m, rfl⟩ : ∃ k, m = k + 1 := ⟨m - 1, by simp at hm; omega⟩
    simp at hm ho
    have hlen : ys.length = pre.length + (l.length + 2) := by rw [he]; simp
    have hab : a < b := by
      rw [he] at hy
      have := (List.pairwise_append.1 hy).2.1
      exact (List.pairwise_cons.1 this).1 b List.mem_cons_self
    have hia : idx ys (pre.length : Int) = some a := by rw [he]; exact Kt _ _ _
    have hib : idx ys (w64 ((pre.length : Int) + 1)) = some b := by
      rw [zJe pre a (by omega), he, show pre ++ a :: b :: l = (pre ++ [a]) ++ b :: l by simp]; exact Kt _ _ _
    rw [KC, if_pos (by rw [Ql (by omega) (by omega)]; simp; omega), zJd hia hib up 0 [] (by simp; omega)]
    have hpu := zNo (l := out) (b := (a, b, fA up a)) (by omega) hab
    have e : toP (a, b, fA up a) = ⟨a, b, (zDC up a).foldl stk []⟩ := by
      show (⟨a, b, Qv (fA up a)⟩ : ze) = _
      rw [(zWp hs hev a).1]; rfl
    rw [e] at hpu
    rw [hpu, Option.bind_some, zJe pre a (by omega)]
    have hpl := zHE out (a, b, fA up a)
    have := zPz hy hs hev hl hu (b :: l) (pre ++ [a]) m (pushB out (a, b, fA up a)) (by rw [he]; simp) (by simp; omega) (by simp; omega)
    rw [this]; rfl
def zLA (s : zJ × zJ) : Option zS := if s.1.X = s.2.X then some ⟨s.1.X, min s.1.Y s.2.Y, 0, max s.1.Y s.2.Y⟩ else none
theorem zLR (p0 x : zJ) (r : List zJ) : nxt p0 (x :: r) = (x, (r ++ [p0]).headD p0) :: nxt p0 r := by
  cases r with
  | nil => rfl
  | cons y r => rfl
theorem zQr {pre r : List zJ} {x p0 : zJ} (h0 : (pre ++ x :: r).head? = some p0) : (pre ++ x :: r).getD ((pre.length + 1) % (pre ++ x :: r).length) ⟨0, 0⟩ = (r ++ [p0]).headD p0 := by
  cases r with
  | nil =>
    have : (pre.length + 1) % (pre ++ [x]).length = 0 := by simp
    rw [this]
    cases pre with
    | nil => simp at h0 ⊢; exact h0
    | cons z pre => simp at h0 ⊢; exact h0
  | cons y r =>
    have : (pre.length + 1) % (pre ++ x :: y :: r).length = pre.length + 1 := Nat.mod_eq_of_lt (by simp)
    rw [this]
    simp [List.getD]
theorem zKk {l : List zJ} {p0 : zJ} (h0 : l.head? = some p0) (hl : l.length ≤ 100000) {K : List Int → List zS → Option (List ze)} : ∀ (suf pre : List zJ) (ys : List Int) (up : List zS), l = pre ++ suf → ys.length ≤ pre.length → up.length ≤ pre.length →
    KT K l suf pre.length ys up = K (ys ++ suf.map (·.Y)) (up ++ (nxt p0 suf).filterMap zLA)
  | [], pre, ys, up, he, hy, hu => by rw [KT]; simp [nxt]
  | x :: r, pre, ys, up, he, hy, hu => by
    have hlen : l.length = pre.length + (r.length + 1) := by rw [he]; simp
    have hnx : l.getD ((pre.length + 1) % l.length) ⟨0, 0⟩ = (r ++ [p0]).headD p0 := by
      have := zQr (pre := pre) (r := r) (x := x) (p0 := p0) (by rw [← he]; exact h0)
      rw [he]; exact this
    rw [KT, zTZ (by omega) (by omega), hnx, zBE (by simp; omega), Option.bind_some, zLR]
    by_cases hx : x.X = ((r ++ [p0]).headD p0).X
    · have hv : zLA (x, (r ++ [p0]).headD p0) = some ⟨x.X, min x.Y ((r ++ [p0]).headD p0).Y, 0, max x.Y ((r ++ [p0]).headD p0).Y⟩ := if_pos hx
      rw [if_pos (by simpa using hx), zBE (by simp; omega), Option.bind_some, List.filterMap_cons_some hv]
      have := zKk h0 hl (K := K) r (pre ++ [x]) (ys ++ [x.Y]) (up ++ [⟨x.X, min x.Y ((r ++ [p0]).headD p0).Y, 0, max x.Y ((r ++ [p0]).headD p0).Y⟩]) (by rw [he]; simp) (by simp; omega) (by simp; omega)
      rw [show (pre ++ [x]).length = pre.length + 1 by simp] at this
      rw [this]; simp
    · have hv : zLA (x, (r ++ [p0]).headD p0) = none := if_neg hx
      rw [if_neg (by simpa using hx), List.filterMap_cons_none hv]
      have := zKk h0 hl (K := K) r (pre ++ [x]) (ys ++ [x.Y]) up (by rw [he]; simp) (by simp; omega) (by simp; omega)
      rw [show (pre ++ [x]).length = pre.length + 1 by simp] at this
      rw [this]; simp
theorem zOf (y : Int) : ∀ (S : List (zJ × zJ)), ((S.filterMap zLA).filter fun s => decide (s.Y0 ≤ y) && decide (y < s.Y1)).map (·.X0) = (zH8 y S).map (·.1.X)
  | [] => rfl
  | s :: S => by
    have ih := zOf y S
    unfold zH8 at ih ⊢
    by_cases hx : s.1.X = s.2.X
    · have hv : zLA s = some ⟨s.1.X, min s.1.Y s.2.Y, 0, max s.1.Y s.2.Y⟩ := if_pos hx
      rw [List.filterMap_cons_some hv, List.filter_cons, List.filter_cons, decide_eq_true hx, Bool.true_and]
      by_cases hc : (decide (min s.1.Y s.2.Y ≤ y) && decide (y < max s.1.Y s.2.Y)) = true
      · rw [if_pos hc, if_pos hc, List.map_cons, List.map_cons, ih]
      · rw [if_neg hc, if_neg hc, ih]
    · have hv : zLA s = none := if_neg hx
      rw [List.filterMap_cons_none hv, List.filter_cons, decide_eq_false hx, Bool.false_and, if_neg (by simp), ih]
theorem zWR (p0 : zJ) : ∀ (l : List zJ), (nxt p0 l).length = l.length
  | [] => rfl
  | x :: r => by rw [zLR, List.length_cons, List.length_cons, zWR p0 r]
theorem zRq {p0 : zJ} : ∀ {l : List zJ} {s : zJ × zJ}, s ∈ nxt p0 l → s.1 ∈ l ∧ (s.2 ∈ l ∨ s.2 = p0)
  | [], s, h => by cases h
  | x :: r, s, h => by
    rw [zLR] at h
    rcases List.mem_cons.1 h with rfl | h
    · refine ⟨List.mem_cons_self, ?_⟩
      cases r with
      | nil => exact .inr rfl
      | cons y r => exact .inl (by simp)
    · obtain ⟨h1, h2⟩ := zRq h
      exact ⟨List.mem_cons_of_mem _ h1, h2.imp (List.mem_cons_of_mem _) id⟩
def zWb (l : List zJ) (x y : Int) : Prop := cle x ((zH8 y (zDa l)).map (·.1.X)) % 2 = 1
theorem zP1 {f : Int → List (Int × Int)} {R : Nat} (hf : ∀ y, (f y).length ≤ R) : ∀ (ys : List Int) (out : List Bd), (∀ c ∈ out, c.2.2.length ≤ R) → (zCF f ys out).length ≤ out.length + ys.length ∧ ∀ c ∈ zCF f ys out, c.2.2.length ≤ R
  | [], out, h => ⟨by simp [zCF], h⟩
  | [a], out, h => ⟨by simp [zCF], h⟩
  | a :: b :: ys, out, h => by
    have h1 := zHE out (a, b, f a)
    obtain ⟨h2, h3⟩ := zP1 hf (b :: ys) (pushB out (a, b, f a)) (zQp h (hf a))
    rw [zCF]
    exact ⟨by simp at h2 ⊢; omega, h3⟩
theorem zQB {N : Nat} (hN : 10000000000 ≤ N) {l : List zJ} (hne : l ≠ []) (hl : l.length ≤ 2000) (hb : ∀ p ∈ l, -1000000000 ≤ p.X ∧ p.X ≤ 1000000000) (hax : axS (zDa l)) :
    ∃ A, zCK N [l] = some (A.map toP) ∧ BOk A ∧ A.length ≤ 2000 ∧ (∀ b ∈ A, b.2.2.length ≤ 2000) ∧ ∀ x y, InB x y A ↔ zWb l x y := by
  obtain ⟨p0, r0, rfl⟩ : ∃ p0 r, l = p0 :: r := by
    cases l with
    | nil => exact absurd rfl hne
    | cons p r => exact ⟨p, r, rfl⟩
  obtain ⟨V, hV⟩ : ∃ V, V = (zDa (p0 :: r0)).filterMap zLA := ⟨_, rfl⟩
  have hVm : ∀ v ∈ V, (v.X0 ∈ (p0 :: r0).map (·.X)) ∧ v.Y0 ∈ (p0 :: r0).map (·.Y) ∧ v.Y1 ∈ (p0 :: r0).map (·.Y) := fun v hv => by
    rw [hV] at hv
    obtain ⟨s, hs, hsv⟩ := List.mem_filterMap.1 hv
    obtain ⟨s1, s2⟩ := zRq (show s ∈ nxt p0 (p0 :: r0) from hs)
    have s2' : s.2 ∈ p0 :: r0 := s2.elim id fun e => e ▸ List.mem_cons_self
    unfold zLA at hsv
    split at hsv
    · cases Option.some.inj hsv
      refine ⟨List.mem_map.2 ⟨s.1, s1, rfl⟩, ?_, ?_⟩
      · show min s.1.Y s.2.Y ∈ _
        rcases (show min s.1.Y s.2.Y = s.1.Y ∨ min s.1.Y s.2.Y = s.2.Y by omega) with e | e <;> rw [e]
        · exact List.mem_map.2 ⟨s.1, s1, rfl⟩
        · exact List.mem_map.2 ⟨s.2, s2', rfl⟩
      · show max s.1.Y s.2.Y ∈ _
        rcases (show max s.1.Y s.2.Y = s.2.Y ∨ max s.1.Y s.2.Y = s.1.Y by omega) with e | e <;> rw [e]
        · exact List.mem_map.2 ⟨s.2, s2', rfl⟩
        · exact List.mem_map.2 ⟨s.1, s1, rfl⟩
    · cases hsv
  have hVl : V.length ≤ 2000 := by
    rw [hV]
    refine Nat.le_trans (List.length_filterMap_le _ _) ?_
    have := zWR p0 (p0 :: r0)
    show (nxt p0 (p0 :: r0)).length ≤ 2000
    omega
  have hVx : ∀ v ∈ V, -1000000000 ≤ v.X0 ∧ v.X0 ≤ 1000000000 := fun v hv => by
    obtain ⟨p, hp, e⟩ := List.mem_map.1 (hVm v hv).1
    have := hb p hp
    omega
  obtain ⟨U, u1, u2, u3⟩ := zOq (c := fun z0 z1 => zAL z0 z1) (k := fun r => r.X0) (l := V) (by omega) (fun x hx y hy => by
    have a := hVx x hx; have b := hVx y hy
    unfold zAL
    rw [Ql (by omega) (by omega)])
  have hxs : ∀ y, (zDC U y).Perm ((zH8 y (zDa (p0 :: r0))).map (·.1.X)) := fun y => by
    rw [← zOf, ← hV]
    exact (u2.filter _).map _
  have hev : ∀ y, (zDC U y).length % 2 = 0 := fun y => by
    rw [(hxs y).length_eq, List.length_map]; exact zVu y hax
  have hcle : ∀ x y, cle x (zDC U y) = cle x ((zH8 y (zDa (p0 :: r0))).map (·.1.X)) := fun x y => ((hxs y).filter _).length_eq
  obtain ⟨ys, hys⟩ : ∃ ys, ys = zGx ((p0 :: r0).map (·.Y)) := ⟨_, rfl⟩
  have hysl : ys.length ≤ 2000 := by rw [hys]; exact Nat.le_trans (zOo _) (by simpa using hl)
  obtain ⟨b1, b2⟩ := zai (up := U) (ys := ys) (by rw [hys]; exact zDM _) u3 hev (fun s hs => by
    have := hVm s (u2.subset hs)
    rw [hys, zEe, zEe]; exact this.2)
  have hUl : U.length ≤ 2000 := by rw [u2.length_eq]; exact hVl
  have hrow : ∀ y, (fA U y).length ≤ 2000 := fun y => by
    have h1 := KH (fA U y)
    rw [(zWp u3 hev y).1] at h1
    have h2 := za1 (zDC U y)
    have h3 : (zDC U y).length ≤ U.length := by unfold zDC; rw [List.length_map]; exact List.length_filter_le _ _
    omega
  obtain ⟨c1, c2⟩ := zP1 hrow ys [] (fun c hc => by cases hc)
  refine ⟨zCF (fA U) ys [], ?_, b1, by simp at c1; omega, c2, fun x y => by rw [b2, hcle]; rfl⟩
  unfold zCK
  rw [KD]
  have hsl := zKk (l := p0 :: r0) (p0 := p0) rfl (by omega) (K := KD N [] (0 + 1)) (p0 :: r0) [] [] [] rfl (by simp) (by simp)
  rw [show ([] : List zJ).length = 0 from rfl] at hsl
  rw [hsl, List.nil_append, List.nil_append, KD]
  have hso := zV8 (l := (p0 :: r0).map (·.Y)) (by rw [List.length_map]; omega)
  rw [zRh (by rw [List.length_map]; omega), Option.bind_some] at hso ⊢
  rw [hso, Option.bind_some, show (nxt p0 (p0 :: r0)).filterMap zLA = V from hV.symm, u1, Option.bind_some, ← hys]
  exact zPz (by rw [hys]; exact zDM _) u3 hev (by omega) (by omega) ys [] N [] rfl (by omega) (by simp; omega)
def ptB (q : zJ) : Bool := (decide (-1000000 ≤ q.X) && decide (q.X ≤ 1000000)) && (decide (-1000000 ≤ q.Y) && decide (q.Y ≤ 1000000))
theorem zWK {q : zJ} : ptB q = true ↔ (-1000000 ≤ q.X ∧ q.X ≤ 1000000) ∧ (-1000000 ≤ q.Y ∧ q.Y ≤ 1000000) := by unfold ptB; simp
theorem zSc (q : zJ) : Wm q = some (ptB q) := by
  unfold Wm WC zCH ptB
  cases (decide (-1000000 ≤ q.X) && decide (q.X ≤ 1000000)) <;> rfl
def zYJ (c : Bool) (I S : List Bd) (x y : Int) : Prop := if c then InB x y I ∧ ¬ InB x y S else InB x y I ∨ InB x y S
open Classical in
noncomputable def cmb (c : Bool) (I S : List Bd) : List Bd := if h : ∃ C, BOk C ∧ ∀ x y, InB x y C ↔ zYJ c I S x y then h.choose else []
theorem zat {c : Bool} {I S C : List Bd} (h1 : BOk C) (h2 : ∀ x y, InB x y C ↔ zYJ c I S x y) : cmb c I S = C := by
  have h : ∃ C, BOk C ∧ ∀ x y, InB x y C ↔ zYJ c I S x y := ⟨C, h1, h2⟩
  unfold cmb
  rw [dif_pos h]
  exact h.choose_spec.1.uniq h1 fun x y => by rw [h.choose_spec.2, h2]
open Classical in
noncomputable def arB (l : List zJ) : List Bd := if h : ∃ A, BOk A ∧ ∀ x y, InB x y A ↔ zWb l x y then h.choose else []
theorem zbC {l : List zJ} {A : List Bd} (h1 : BOk A) (h2 : ∀ x y, InB x y A ↔ zWb l x y) : arB l = A := by
  have h : ∃ A, BOk A ∧ ∀ x y, InB x y A ↔ zWb l x y := ⟨A, h1, h2⟩
  unfold arB
  rw [dif_pos h]
  exact h.choose_spec.1.uniq h1 fun x y => by rw [h.choose_spec.2, h2]
structure zGE (I : List Bd) : Prop where
  ok : BOk I
  few : (QR I).length ≤ 2000
  lim : (QR I).all lim = true
structure zJX (S : List Bd) : Prop where
  ok : BOk S
  few : S.length ≤ 100000
  row : ∀ b ∈ S, b.2.2.length ≤ 10000
  tot : (QR S).length ≤ 100000000
theorem zGE.drw {I : List Bd} (h : zGE I) : zJX I := by
  have h1 := h.ok.le
  have h2 := h.few
  exact ⟨h.ok, by omega, fun b hb => by have := zKl hb; omega, by omega⟩
noncomputable def drw (c : Bool) (I S : List Bd) : Int × List Bd := if (QR S).all lim then (if 2000 < (QR (cmb c I S)).length then (2, cmb c I S) else (0, cmb c I S)) else (1, I)
theorem zLT {I : List Bd} (h : BOk I) : (QR I).all lim = true ↔ ∀ x y, InB x y I → (-1000000 ≤ x ∧ x < 1000000) ∧ (-1000000 ≤ y ∧ y < 1000000) := by
  rw [List.all_eq_true]
  constructor
  · intro hl x y hx
    obtain ⟨r, hr, h1, h2⟩ := (zDI h x y).2 hx
    have := zGc.1 (hl r hr)
    omega
  · intro hp r hr
    have := zO0 h (m := 1000000) hp r hr
    rw [zGc]; omega
theorem zSU {c : Bool} {I S : List Bd} (hI : zJX I) (hS : zJX S) {N : Nat} (hN : 10000000000 ≤ N) : (if c then WX N (I.map toP) (S.map toP) else Wl N (I.map toP) (S.map toP)) = some ((cmb c I S).map toP) ∧ BOk (cmb c I S) ∧ (∀ x y, InB x y (cmb c I S) ↔ zYJ c I S x y) ∧ (QR (cmb c I S)).length ≤ 1000000000000 := by
  cases c
  · obtain ⟨C, c1, c2, c3, c4⟩ := zY9 hN hI.ok hS.ok hI.row hS.row hI.few hS.few
    have := zat (c := false) c2 c3
    rw [this]
    exact ⟨c1, c2, c3, c4⟩
  · obtain ⟨C, c1, c2, c3, c4⟩ := zZF hN hI.ok hS.ok hI.row hS.row hI.few hS.few
    have := zat (c := true) c2 c3
    rw [this]
    exact ⟨c1, c2, c3, c4⟩
theorem zSH {c : Bool} {I S : List Bd} (hI : zGE I) (hS : zJX S) (h : (drw c I S).1 = 0) : zGE (drw c I S).2 := by
  obtain ⟨_, c2, c3, _⟩ := zSU (c := c) hI.drw hS (Nat.le_refl _)
  unfold drw at h ⊢
  by_cases hl : (QR S).all lim = true
  · rw [if_pos hl] at h ⊢
    by_cases hm : 2000 < (QR (cmb c I S)).length
    · rw [if_pos hm] at h; cases h
    · rw [if_neg hm]
      refine ⟨c2, Nat.le_of_not_lt hm, (zLT c2).2 fun x y hx => ?_⟩
      have h1 := (zLT hI.ok).1 hI.lim x y
      have h2 := (zLT hS.ok).1 hl x y
      rw [c3] at hx
      unfold zYJ at hx
      cases c
      · rcases hx with hx | hx
        · exact h1 hx
        · exact h2 hx
      · exact h1 hx.1
  · rw [if_neg hl] at h; cases h
theorem zSI {N : Nat} (hN : 10000000000 ≤ N) {m : QQ} {I S : List Bd} (hI : zGE I) (hm : m.image = I.map toP) (hS : zJX S) : Kw N m (S.map toP) = some ((drw m.clear I S).1, (drw m.clear I S).2.map toP) := by
  obtain ⟨c1, c2, c3, c4⟩ := zSU (c := m.clear) hI.drw hS hN
  have hf := zcx (L := QR S) hS.tot (zHD hS.ok)
  rw [zIx hS.ok] at hf
  unfold Kw drw
  rw [hf, Option.bind_some]
  by_cases hl : (QR S).all lim = true
  · rw [hl, if_neg (by simp), if_pos rfl]
    have hj : ∀ C : List Bd, (QR C).length ≤ 1000000000000 → KQ (C.map toP) = some ((if 2000 < (QR C).length then ((2 : Int), C) else (0, C)).1, (if 2000 < (QR C).length then ((2 : Int), C) else (0, C)).2.map toP) := fun C hC => by
      unfold KQ
      rw [zSb (by omega), Option.bind_some]
      by_cases hm : 2000 < (QR C).length
      · rw [if_pos (by simp; omega), if_pos hm]
      · rw [if_neg (by simp; omega), if_neg hm]
    rw [hm]
    cases hc : m.clear
    · rw [hc] at c1 c4
      simp only [Bool.false_eq_true, if_false] at c1 ⊢
      rw [c1, Option.bind_some, hj _ c4]
    · rw [hc] at c1 c4
      simp only [if_true] at c1 ⊢
      rw [c1, Option.bind_some, hj _ c4]
  · have hl' : (QR S).all lim = false := by simpa using hl
    rw [hl', if_pos (by rfl), if_neg (by simp), hm]
structure MS where
  img : List Bd
  clear : Bool
  tool : Int
  place : zJ
  placed : Bool
  off : Int
  on : Int
def toM (p : zm) (TT : List (List zS)) (s : MS) : QQ := ⟨p, TT.map fun T => (zBA T).map toP, s.img.map toP, s.clear, s.tool, s.place, s.placed, s.off, s.on⟩
def zk1 (p q : zJ) : Int := w64 ((max (w64 (p.X - q.X)) (w64 (q.X - p.X))) + (max (w64 (p.Y - q.Y)) (w64 (q.Y - p.Y))))
def zAy (s : MS) (q : zJ) : Int × MS := if ptB q then (0, { s with place := q, placed := true, off := if s.placed then w64 (s.off + zk1 s.place q) else s.off }) else (1, s)
def zEf (s : MS) (q : zJ) : Int × MS := if ptB q then (0, { s with place := q, placed := true, on := if s.placed then w64 (s.on + zk1 s.place q) else s.on }) else (1, s)
noncomputable def zNP (s : MS) (S : List Bd) : Int × MS := ((drw s.clear s.img S).1, { s with img := (drw s.clear s.img S).2 })
def swT (TT : List (List zS)) (s : MS) (p q : zJ) : List Bd := zBA ((TT.getD s.tool.toNat []).map (swR (min p.X q.X) (max p.X q.X) (min p.Y q.Y) (max p.Y q.Y)))
noncomputable def zBq (TT : List (List zS)) (s : MS) (q : zJ) : Int × MS := if s.tool < 0 then (11, s) else if (zAy s q).1 = 0 then zNP (zAy s q).2 (swT TT s q q) else zAy s q
noncomputable def zD4 (TT : List (List zS)) (s : MS) (q : zJ) : Int × MS := if s.tool < 0 ∨ s.placed = false then (11, s) else if q.X ≠ s.place.X ∧ q.Y ≠ s.place.Y then (3, s) else if (zEf s q).1 = 0 then zNP (zEf s q).2 (swT TT s s.place q) else zEf s q
def atM (U : Int) (q by_ : zJ) : zJ := ⟨w64 (w64 (q.X * U) + by_.X), w64 (w64 (q.Y * U) + by_.Y)⟩
def byM (U : Int) (by_ a : zJ) (j i : Nat) : zJ := ⟨w64 (by_.X + w64 (w64 ((i : Int) * a.X) * U)), w64 (by_.Y + w64 (w64 ((j : Int) * a.Y) * U))⟩
noncomputable def zHW (s : MS) (row : List zJ) : Int × MS := if 2000 < (QR (arB row)).length then (2, s) else if row.any (fun q => !ptB q) then (1, s) else zNP s (arB row)
noncomputable def zKX (p : zm) (TT : List (List zS)) (x : zG) (by_ : zJ) (s : MS) : Int × MS :=
  if x.Kind = 1 ∨ x.Kind = 2 then (0, { s with clear := x.Kind == 2 }) else if x.Kind = 3 then (0, { s with tool := zAj x.Name p.Tools }) else if x.Kind = 4 then zAy s (atM p.Unit x.At by_) else if x.Kind = 5 then zBq TT s (atM p.Unit x.At by_)
  else if x.Kind = 6 then zD4 TT s (atM p.Unit x.At by_) else if x.Kind = 7 then zHW s (x.Points.map fun q => atM p.Unit q by_) else (0, s)
def zDe {β : Type} (f : β → MS → Int × MS) : List β → MS → Int × MS
  | [], s => (0, s)
  | b :: l, s => if (f b s).1 = 0 then zDe f l (f b s).2 else f b s
mutual
noncomputable def zCh (p : zm) (TT : List (List zS)) : zG → zJ → MS → Int × MS
  | ⟨k, n, a, ps, nx, ny, l⟩, b, s => if k = 8 then zDe (fun j s => zDe (fun i s => zAz p TT l (byM p.Unit b a j i) s) (List.range' 0 nx.toNat) s) (List.range' 0 ny.toNat) s else zKX p TT ⟨k, n, a, ps, nx, ny, l⟩ b s
noncomputable def zAz (p : zm) (TT : List (List zS)) : List zG → zJ → MS → Int × MS
  | [], _, s => (0, s)
  | x :: l, b, s => if (zCh p TT x b s).1 = 0 then zAz p TT l b (zCh p TT x b s).2 else zCh p TT x b s
end
theorem zLD (p : zm) (TT : List (List zS)) (x : zG) (b : zJ) (s : MS) : zCh p TT x b s = if x.Kind = 8 then zDe (fun j s => zDe (fun i s => zAz p TT x.Steps (byM p.Unit b x.At j i) s) (List.range' 0 x.NX.toNat) s) (List.range' 0 x.NY.toNat) s else zKX p TT x b s := by
  cases x; rw [zCh]
theorem zHB (p : zm) (TT : List (List zS)) (b : zJ) (s : MS) : zAz p TT [] b s = (0, s) := by rw [zAz]
theorem zBj (p : zm) (TT : List (List zS)) (x : zG) (l : List zG) (b : zJ) (s : MS) : zAz p TT (x :: l) b s = if (zCh p TT x b s).1 = 0 then zAz p TT l b (zCh p TT x b s).2 else zCh p TT x b s := by rw [zAz]
structure Wi (TT : List (List zS)) (s : MS) : Prop where
  img : zGE s.img
  tool : -1 ≤ s.tool ∧ s.tool < (TT.length : Int)
  place : s.placed = true → ptB s.place = true
structure zFB (T : List zS) : Prop where
  few : T.length ≤ 2000
  ne : Ne T
  lim : ∀ r ∈ T, (-1000000 ≤ r.X0 ∧ r.X1 ≤ 1000000) ∧ (-1000000 ≤ r.Y0 ∧ r.Y1 ≤ 1000000)
def encR (r : Int × MS) : Int × Bool × Int × Int × Int × Bool × Int × Int × List ze := (r.1, r.2.clear, r.2.tool, r.2.place.X, r.2.place.Y, r.2.placed, r.2.off, r.2.on, r.2.img.map toP)
theorem zYu {L : List zS} (hl : L.length ≤ 2000) (hne : Ne L) : zJX (zBA L) := by
  obtain ⟨b1, _⟩ := zHl hne
  obtain ⟨s1, s2⟩ := zIy L
  have ht := zDE (R := 2000) (l := zBA L) fun b hb => Nat.le_trans (s2 b hb) hl
  exact ⟨b1, by omega, fun b hb => by have := s2 b hb; omega, by omega⟩
theorem zJh {TT : List (List zS)} (hT : ∀ T ∈ TT, zFB T) {s : MS} {p q : zJ} : zJX (swT TT s p q) := by
  have hg : zFB (TT.getD s.tool.toNat []) := by
    rw [List.getD_eq_getElem?_getD]
    cases h : TT[s.tool.toNat]? with
    | none => exact ⟨by simp, fun r hr => by simp at hr, fun r hr => by simp at hr⟩
    | some T => exact hT T (List.mem_of_getElem? h)
  exact zYu (by rw [List.length_map]; exact hg.few) (zYp (by omega) (by omega) hg.ne)
section
variable {N : Nat} (hN : 10000000000 ≤ N) {p : zm} {TT : List (List zS)} (hT : ∀ T ∈ TT, zFB T) {s : MS}
theorem zQm (q : zJ) : KP (toM p TT s) q = some ((zAy s q).1, (zAy s q).2.place.X, (zAy s q).2.place.Y, (zAy s q).2.placed, (zAy s q).2.off) := by
  unfold KP Jr zAy
  rw [zSc, Option.bind_some]
  cases ptB q
  · rfl
  · simp only [Bool.not_true, Bool.false_eq_true, if_false, if_true]
    show (if s.placed = true then _ else _) = _
    cases s.placed <;> rfl
theorem zYs (q : zJ) : Kv (toM p TT s) q = some ((zEf s q).1, (zEf s q).2.place.X, (zEf s q).2.place.Y, (zEf s q).2.placed, (zEf s q).2.on) := by
  unfold Kv Jq zEf
  rw [zSc, Option.bind_some]
  cases ptB q
  · rfl
  · simp only [Bool.not_true, Bool.false_eq_true, if_false, if_true]
    show (if s.placed = true then _ else _) = _
    cases s.placed <;> rfl
theorem zS8 (hi : Wi TT s) (h0 : 0 ≤ s.tool) : idx ((toM p TT s).tools) s.tool = some ((zBA (TT.getD s.tool.toNat [])).map toP) := by
  have := hi.tool
  have hlt : s.tool.toNat < TT.length := by omega
  unfold idx
  rw [if_pos h0]
  show (TT.map fun T => (zBA T).map toP)[s.tool.toNat]? = _
  rw [List.getElem?_map, List.getD_eq_getElem?_getD, List.getElem?_eq_getElem hlt]; rfl
theorem zbe (hT : ∀ T ∈ TT, zFB T) (hi : Wi TT s) (h0 : 0 ≤ s.tool) : zFB (TT.getD s.tool.toNat []) := by
  have := hi.tool
  have hlt : s.tool.toNat < TT.length := by omega
  rw [List.getD_eq_getElem?_getD, List.getElem?_eq_getElem hlt]
  exact hT _ (List.getElem_mem hlt)
include hN hT
theorem zQh (hi : Wi TT s) (h0 : 0 ≤ s.tool) {a q : zJ} (ha : ptB a = true) (hq : ptB q = true) : zBc N ((zBA (TT.getD s.tool.toNat [])).map toP) a q = some ((swT TT s a q).map toP) := by
  have ht := zbe hT hi h0
  exact zYo hN ht.few ht.ne ht.lim (zWK.1 ha) (zWK.1 hq)
theorem zX5 (hi : Wi TT s) (q : zJ) : Vw N (toM p TT s) q = some ((zBq TT s q).1, (zBq TT s q).2.place.X, (zBq TT s q).2.place.Y, (zBq TT s q).2.placed, (zBq TT s q).2.off, (zBq TT s q).2.img.map toP) ∧ (zBq TT s q).2.clear = s.clear ∧ (zBq TT s q).2.tool = s.tool ∧ (zBq TT s q).2.on = s.on ∧ ((zBq TT s q).1 = 0 → Wi TT (zBq TT s q).2) := by
  unfold Vw zBq
  by_cases h0 : s.tool < 0
  · rw [if_pos (show decide ((toM p TT s).tool < 0) = true from decide_eq_true h0), if_pos h0]
    exact ⟨rfl, rfl, rfl, rfl, fun h => by cases h⟩
  · rw [if_neg (show ¬ decide ((toM p TT s).tool < 0) = true by rw [decide_eq_true_eq]; exact h0), if_neg h0, zQm, Option.bind_some]
    unfold zAy
    cases hq : ptB q
    · simp only [Bool.false_eq_true, if_false]
      exact ⟨rfl, rfl, rfl, rfl, fun h => by cases h⟩
    · simp only [if_true, bne_self_eq_false, Bool.false_eq_true, if_false]
      rw [show (toM p TT s).tool = s.tool from rfl, zS8 hi (by omega), Option.bind_some, zQh hN hT hi (by omega) hq hq, Option.bind_some, zSI hN hi.img rfl (zJh hT), Option.bind_some]
      refine ⟨rfl, rfl, rfl, rfl, fun h => ⟨zSH hi.img (zJh hT) h, hi.tool, fun _ => hq⟩⟩
theorem zZE (hi : Wi TT s) (q : zJ) : WN N (toM p TT s) q = some ((zD4 TT s q).1, (zD4 TT s q).2.place.X, (zD4 TT s q).2.place.Y, (zD4 TT s q).2.placed, (zD4 TT s q).2.on, (zD4 TT s q).2.img.map toP) ∧ (zD4 TT s q).2.clear = s.clear ∧ (zD4 TT s q).2.tool = s.tool ∧ (zD4 TT s q).2.off = s.off ∧ ((zD4 TT s q).1 = 0 → Wi TT (zD4 TT s q).2) := by
  unfold WN zD4
  by_cases h0 : s.tool < 0 ∨ s.placed = false
  · rw [if_pos (show (decide ((toM p TT s).tool < 0) || !(toM p TT s).placed) = true by rw [Bool.or_eq_true, decide_eq_true_eq, Bool.not_eq_true']; exact h0), if_pos h0]
    exact ⟨rfl, rfl, rfl, rfl, fun h => by cases h⟩
  · rw [if_neg (show ¬ (decide ((toM p TT s).tool < 0) || !(toM p TT s).placed) = true by rw [Bool.or_eq_true, decide_eq_true_eq, Bool.not_eq_true']; exact h0), if_neg h0]
    obtain ⟨h1, h2⟩ := not_or.1 h0
    have hpl : s.placed = true := by simpa using h2
    by_cases hx : q.X ≠ s.place.X ∧ q.Y ≠ s.place.Y
    · rw [if_pos (show (q.X != (toM p TT s).place.X && q.Y != (toM p TT s).place.Y) = true by simpa [toM] using hx), if_pos hx]
      exact ⟨rfl, rfl, rfl, rfl, fun h => by cases h⟩
    · rw [if_neg (show ¬ (q.X != (toM p TT s).place.X && q.Y != (toM p TT s).place.Y) = true by simpa [toM] using hx), if_neg hx, zYs, Option.bind_some]
      unfold zEf
      cases hq : ptB q
      · simp only [Bool.false_eq_true, if_false]
        exact ⟨rfl, rfl, rfl, rfl, fun h => by cases h⟩
      · simp only [if_true, bne_self_eq_false, Bool.false_eq_true, if_false]
        rw [show (toM p TT s).tool = s.tool from rfl, zS8 hi (by omega), Option.bind_some, show (toM p TT s).place = s.place from rfl, zQh hN hT hi (by omega) (hi.place hpl) hq, Option.bind_some, zSI hN hi.img rfl (zJh hT), Option.bind_some]
        refine ⟨rfl, rfl, rfl, rfl, fun h => ⟨zSH hi.img (zJh hT) h, hi.tool, fun _ => hq⟩⟩
end
theorem zDl {n u : Int} (hu : 1 ≤ u) (h : zJG n u = true) : -1000000 ≤ n * u ∧ n * u ≤ 1000000 := by
  unfold zJG at h
  rw [Bool.and_eq_true, decide_eq_true_eq, decide_eq_true_eq] at h
  have h1 := Int.mul_le_mul_of_nonneg_right h.2 (show 0 ≤ u by omega)
  have h2 := Int.mul_le_mul_of_nonneg_right h.1 (show 0 ≤ u by omega)
  have h3 := Int.ediv_mul_le 1000000 (show u ≠ 0 by omega)
  rw [Int.neg_mul] at h2
  omega
def zGT (d : Int) (b : zJ) : Prop := (-(d * 100000000) ≤ b.X ∧ b.X ≤ d * 100000000) ∧ (-(d * 100000000) ≤ b.Y ∧ b.Y ≤ d * 100000000)
theorem zSZ {U d : Int} {q b : zJ} (hu : 1 ≤ U) (hq : zBC q U = true) (hd : d ≤ 5) (hb : zGT d b) : atM U q b = ⟨q.X * U + b.X, q.Y * U + b.Y⟩ ∧ (-1000000 ≤ q.X * U ∧ q.X * U ≤ 1000000) ∧ (-1000000 ≤ q.Y * U ∧ q.Y * U ≤ 1000000) := by
  unfold zBC at hq
  rw [Bool.and_eq_true] at hq
  have h1 := zDl hu hq.1
  have h2 := zDl hu hq.2
  unfold zGT at hb
  refine ⟨?_, h1, h2⟩
  unfold atM
  generalize q.X * U = a at h1 ⊢
  generalize q.Y * U = c at h2 ⊢
  rw [Ql (x := a) (by omega) (by omega), Ql (x := c) (by omega) (by omega), Ql (by omega) (by omega), Ql (by omega) (by omega)]
theorem zSX {U d : Int} {a b : zJ} {j i : Nat} (hu : 1 ≤ U) (ha : zBC a U = true) (hd : 0 ≤ d ∧ d < 5) (hb : zGT d b) (hj : j < 100) (hi : i < 100) : byM U b a j i = ⟨b.X + (i : Int) * a.X * U, b.Y + (j : Int) * a.Y * U⟩ ∧ zGT (d + 1) (byM U b a j i) := by
  unfold zBC at ha
  rw [Bool.and_eq_true] at ha
  have h1 := zDl hu ha.1
  have h2 := zDl hu ha.2
  have key : ∀ (n : Int) (k : Nat), k < 100 → -1000000 ≤ n * U ∧ n * U ≤ 1000000 → (-99000000 ≤ (k : Int) * n * U ∧ (k : Int) * n * U ≤ 99000000) ∧ -99000000 ≤ (k : Int) * n ∧ (k : Int) * n ≤ 99000000 := fun n k hk h => by
    have e : (k : Int) * n * U = (k : Int) * (n * U) := Int.mul_assoc _ _ _
    have a1 : (k : Int) * (n * U) ≤ 99 * 1000000 := by
      refine Int.le_trans (Int.mul_le_mul_of_nonneg_left h.2 (by omega)) (Int.mul_le_mul_of_nonneg_right (by omega) (by omega))
    have a2 : 99 * (-1000000) ≤ (k : Int) * (n * U) := by
      refine Int.le_trans ?_ (Int.mul_le_mul_of_nonneg_left h.1 (show (0 : Int) ≤ (k : Int) by omega))
      omega
    have hn : -1000000 ≤ n ∧ n ≤ 1000000 := by
      refine ⟨?_, ?_⟩
      · refine Int.not_lt.1 fun hl => ?_
        have := Int.mul_le_mul_of_nonpos_left (show n ≤ 0 by omega) hu
        omega
      · refine Int.not_lt.1 fun hl => ?_
        have := Int.mul_le_mul_of_nonneg_left hu (show 0 ≤ n by omega)
        omega
    have b1 : (k : Int) * n ≤ 99 * 1000000 := Int.le_trans (Int.mul_le_mul_of_nonneg_left hn.2 (by omega)) (Int.mul_le_mul_of_nonneg_right (by omega) (by omega))
    have b2 : (k : Int) * (-1000000) ≤ (k : Int) * n := Int.mul_le_mul_of_nonneg_left hn.1 (by omega)
    omega
  obtain ⟨x1, x2⟩ := key a.X i hi h1
  obtain ⟨y1, y2⟩ := key a.Y j hj h2
  unfold zGT at hb ⊢
  have e : byM U b a j i = ⟨b.X + (i : Int) * a.X * U, b.Y + (j : Int) * a.Y * U⟩ := by
    unfold byM
    rw [Ql (x := (i : Int) * a.X) (by omega) (by omega), Ql (x := (j : Int) * a.Y) (by omega) (by omega)]
    generalize (i : Int) * a.X * U = p at x1 ⊢
    generalize (j : Int) * a.Y * U = q at y1 ⊢
    rw [Ql (x := p) (by omega) (by omega), Ql (x := q) (by omega) (by omega), Ql (by omega) (by omega), Ql (by omega) (by omega)]
  rw [e]
  refine ⟨rfl, ?_⟩
  simp only
  omega
theorem zWH {l : List zJ} {p0 : zJ} (h0 : l.head? = some p0) : ∀ (suf pre : List zJ), l = pre ++ suf → zMN l suf pre.length = true → axS (nxt p0 suf)
  | [], _, _, _ => fun s hs => by cases hs
  | x :: r, pre, he, h => by
    have hnx : l.getD ((pre.length + 1) % l.length) ⟨0, 0⟩ = (r ++ [p0]).headD p0 := by
      have := zQr (pre := pre) (r := r) (x := x) (p0 := p0) (by rw [← he]; exact h0)
      rw [he]; exact this
    rw [zMN, hnx] at h
    split at h
    · cases h
    rename_i hne
    have ih := zWH h0 r (pre ++ [x]) (by rw [he]; simp) (by rw [List.length_append]; exact h)
    rw [zLR]
    intro s hs
    rcases List.mem_cons.1 hs with rfl | hs
    · intro hc
      refine hne ?_
      simp only at hc
      rw [beq_iff_eq, Bool.eq_iff_iff, beq_iff_eq, beq_iff_eq]
      rw [hc]
    · exact ih s hs
theorem zTN {l : List zJ} (h : zMN l l 0 = true) : axS (zDa l) := by
  cases l with
  | nil => intro s hs; cases hs
  | cons p r => exact zWH (p0 := p) rfl (p :: r) [] rfl h
theorem zWQ (f : zJ → zJ) (p0 : zJ) : ∀ (l : List zJ), nxt (f p0) (l.map f) = (nxt p0 l).map fun s => (f s.1, f s.2)
  | [] => rfl
  | [x] => rfl
  | x :: y :: r => by
    have := zWQ f p0 (y :: r)
    rw [List.map_cons, List.map_cons, nxt, nxt, List.map_cons]
    rw [List.map_cons] at this
    rw [this]
theorem zVD (f : zJ → zJ) (l : List zJ) : zDa (l.map f) = (zDa l).map fun s => (f s.1, f s.2) := by
  cases l with
  | nil => rfl
  | cons x r => exact zWQ f x (x :: r)
theorem zVC {l : List zJ} {s : zJ × zJ} (h : s ∈ zDa l) : s.1 ∈ l ∧ s.2 ∈ l := by
  cases l with
  | nil => cases h
  | cons p r =>
    obtain ⟨h1, h2⟩ := zRq (show s ∈ nxt p (p :: r) from h)
    exact ⟨h1, h2.elim id fun e => e ▸ List.mem_cons_self⟩
theorem zdk {U d : Int} {b : zJ} {l : List zJ} (hu : 1 ≤ U) (hl : ∀ q ∈ l, zBC q U = true) (hd : d ≤ 5) (hb : zGT d b) (h : axS (zDa l)) : axS (zDa (l.map fun q => atM U q b)) := by
  rw [zVD]
  intro s hs
  obtain ⟨t, ht, rfl⟩ := List.mem_map.1 hs
  obtain ⟨t1, t2⟩ := zVC ht
  have e1 := (zSZ hu (hl _ t1) hd hb).1
  have e2 := (zSZ hu (hl _ t2) hd hb).1
  have hc : ∀ m n c : Int, (m * U + c = n * U + c) = (m = n) := fun m n c => propext ⟨fun e => Int.eq_of_mul_eq_mul_right (a := U) (by omega) (by omega), fun e => by rw [e]⟩
  have := h t ht
  show ¬ (((atM U t.1 b).X = (atM U t.2 b).X) = ((atM U t.1 b).Y = (atM U t.2 b).Y))
  rw [e1, e2]
  show ¬ ((t.1.X * U + b.X = t.2.X * U + b.X) = (t.1.Y * U + b.Y = t.2.Y * U + b.Y))
  rw [hc, hc]
  exact this
theorem zbA {l : List zJ} : JR l (fun z0 => KF z0) = some (l.any fun q => !ptB q) := by
  have key : ∀ (l : List zJ) (i : Nat), Qm (fun z0 => KF z0) l i = some (WJ (fun q => !ptB q) l (i : Int)) := by
    intro l
    induction l with
    | nil => intro i; rfl
    | cons x r ih =>
      intro i
      rw [Qm, WJ, ih]
      have e : KF x = some (!ptB x) := by
        unfold KF
        rw [zSc]; rfl
      rw [e, Option.bind_some]
      split <;> rfl
  unfold JR VU
  rw [key, Option.bind_some]
  exact congrArg some (zPL _ l 0 (by omega))
section
variable {N : Nat} (hN : 10000000000 ≤ N) {p : zm} {TT : List (List zS)} {s : MS}
theorem zO6 (q b : zJ) : Vv (toM p TT s) q b = some (atM p.Unit q b) := rfl
theorem zXG (b : zJ) : ∀ (suf : List zJ) (i : Nat) (out : List zJ), out.length + suf.length ≤ 1000000 → JP N (toM p TT s) b suf i out = JP N (toM p TT s) b [] 0 (out ++ suf.map fun q => atM p.Unit q b)
  | [], i, out, _ => by rw [List.map_nil, List.append_nil]; rfl
  | x :: r, i, out, h => by
    simp at h
    rw [JP.eq_2, zO6, Option.bind_some, zBE (by simp; omega), Option.bind_some, zXG b r (i + 1) _ (by simp; omega)]
    simp
include hN
theorem zbB (hu : 1 ≤ p.Unit) (hi : Wi TT s) {d : Int} (hd : d ≤ 5) {b : zJ} (hb : zGT d b) {l : List zJ} (h1 : ∀ q ∈ l, zBC q p.Unit = true) (h2 : 4 ≤ l.length ∧ l.length ≤ 2000) (h3 : zMN l l 0 = true) :
    WO N (toM p TT s) l b = some ((zHW s (l.map fun q => atM p.Unit q b)).1, (zHW s (l.map fun q => atM p.Unit q b)).2.img.map toP) ∧ (zHW s (l.map fun q => atM p.Unit q b)).2 = { s with img := (zHW s (l.map fun q => atM p.Unit q b)).2.img } ∧ ((zHW s (l.map fun q => atM p.Unit q b)).1 = 0 → Wi TT (zHW s (l.map fun q => atM p.Unit q b)).2) := by
  obtain ⟨A, a1, a2, a3, a4, a5⟩ := zQB hN (l := l.map fun q => atM p.Unit q b) (by
    intro h
    have := List.map_eq_nil_iff.1 h
    rw [this] at h2; simp at h2) (by simpa using h2.2) (fun q hq => by
    obtain ⟨z, hz, rfl⟩ := List.mem_map.1 hq
    obtain ⟨e, b1, b2⟩ := zSZ hu (h1 z hz) hd hb
    unfold zGT at hb
    rw [e]; simp only; omega) (zdk hu h1 hd hb (zTN h3))
  have hA := zbC a2 a5
  have htot := zDE a4
  have hD : zJX A := ⟨a2, by omega, fun b hb => by have := a4 b hb; omega, Nat.le_trans htot (by have := Nat.mul_le_mul_left 2000 a3; omega)⟩
  unfold WO
  rw [zXG b l 0 [] (by simp; omega), List.nil_append]
  rw [JP, a1, Option.bind_some, zSb (by have := hD.tot; omega), Option.bind_some, zbA, Option.bind_some]
  unfold zHW
  rw [hA]
  by_cases hm : 2000 < (QR A).length
  · rw [if_pos (by simp; omega), if_pos hm]
    exact ⟨rfl, rfl, fun h => by cases h⟩
  · rw [if_neg (by simp; omega), if_neg hm]
    by_cases hr : ((l.map fun q => atM p.Unit q b).any fun q => !ptB q) = true
    · rw [if_pos hr, if_pos hr]
      exact ⟨rfl, rfl, fun h => by cases h⟩
    · rw [if_neg hr, if_neg hr, zSI hN hi.img rfl hD, Option.bind_some]
      exact ⟨rfl, rfl, fun h => ⟨zSH hi.img hD h, hi.tool, hi.place⟩⟩
end
abbrev RTy := Int × Bool × Int × Int × Int × Bool × Int × Int × List ze
def zUi (rec : QQ → List zG → zJ → Option RTy) (p : zm) (TT : List (List zS)) (l : List zG) (b : zJ) (s : MS) : Prop :=
  rec (toM p TT s) l b = some (encR (zAz p TT l b s)) ∧ ((zAz p TT l b s).1 = 0 → Wi TT (zAz p TT l b s).2)
section
variable {N : Nat} (hN : 10000000000 ≤ N) {p : zm} {TT : List (List zS)} (hT : ∀ T ∈ TT, zFB T) (hl : TT.length = p.Tools.length) (hu : 1 ≤ p.Unit)
include hN hT hl hu
theorem zb0 {s : MS} (hi : Wi TT s) {d : Int} (hd : d ≤ 5) {b : zJ} (hb : zGT d b) {x : zG} (hx : zM4 p x d) (h8 : x.Kind ≠ 8) (rec : QQ → List zG → zJ → Option RTy) :
    KW rec N (toM p TT s) x b = some (encR (zKX p TT x b s)) ∧ ((zKX p TT x b s).1 = 0 → Wi TT (zKX p TT x b s).2) := by
  have hk := hx.kind
  unfold KW
  rw [zO6, Option.bind_some]
  unfold zKX
  by_cases h1 : x.Kind = 1
  · rw [if_pos (by simp [h1]), if_pos (.inl h1)]
    have e : (x.Kind == 2) = false := by simp [h1]
    unfold Jf
    rw [if_pos (by simp [h1])]
    unfold JO
    exact ⟨rfl, fun _ => ⟨hi.img, hi.tool, hi.place⟩⟩
  rw [if_neg (by simpa using h1)]
  unfold Jf
  by_cases h2 : x.Kind = 2
  · rw [if_pos (by simp [h2]), if_pos (.inr h2)]
    unfold JO
    exact ⟨rfl, fun _ => ⟨hi.img, hi.tool, hi.place⟩⟩
  rw [if_neg (by simpa using h2), if_neg (show ¬ (x.Kind = 1 ∨ x.Kind = 2) by omega)]
  by_cases h3 : x.Kind = 3
  · have ht := hx.tool h3
    have hlt := zWa (fun t : zV => sEq t.Name x.Name) p.Tools 0 (by omega)
    have hto : zAj x.Name p.Tools = WJ (fun t : zV => sEq t.Name x.Name) p.Tools 0 := rfl
    rw [if_pos (by simp [h3]), if_pos h3, show (toM p TT s).p = p from rfl, zQe, Option.bind_some]
    unfold JO
    refine ⟨rfl, fun _ => ⟨hi.img, ⟨?_, ?_⟩, hi.place⟩⟩
    · show -1 ≤ zAj x.Name p.Tools; omega
    · show zAj x.Name p.Tools < (TT.length : Int)
      rw [hl]
      rcases hlt with h | h <;> omega
  rw [if_neg (by simpa using h3), if_neg h3]
  by_cases h4 : x.Kind = 4
  · rw [if_pos (by simp [h4]), if_pos h4, zQm, Option.bind_some]
    refine ⟨?_, ?_⟩
    · unfold zAy
      cases ptB (atM p.Unit x.At b) <;> rfl
    · intro h
      unfold zAy at h ⊢
      cases hp : ptB (atM p.Unit x.At b)
      · rw [hp] at h; cases h
      · exact ⟨hi.img, hi.tool, fun _ => hp⟩
  rw [if_neg (by simpa using h4), if_neg h4]
  by_cases h5 : x.Kind = 5
  · obtain ⟨f1, f2, f3, f4, f5⟩ := zX5 (p := p) hN hT hi (atM p.Unit x.At b)
    rw [if_pos (by simp [h5]), if_pos h5, f1, Option.bind_some]
    refine ⟨?_, f5⟩
    unfold encR
    rw [f2, f3, f4]; rfl
  rw [if_neg (by simpa using h5), if_neg h5]
  by_cases h6 : x.Kind = 6
  · obtain ⟨f1, f2, f3, f4, f5⟩ := zZE (p := p) hN hT hi (atM p.Unit x.At b)
    rw [if_pos (by simp [h6]), if_pos h6, f1, Option.bind_some]
    refine ⟨?_, f5⟩
    unfold encR
    rw [f2, f3, f4]; rfl
  rw [if_neg (by simpa using h6), if_neg h6]
  have h7 : x.Kind = 7 := by omega
  obtain ⟨a1, a2, a3, a4⟩ := hx.area h7
  obtain ⟨f1, f2, f3⟩ := zbB hN (p := p) (TT := TT) hu hi hd hb (l := x.Points) (List.all_eq_true.1 a1) ⟨a2, a3⟩ a4
  rw [if_pos (by simp [h7]), if_pos h7, f1, Option.bind_some]
  refine ⟨?_, f3⟩
  unfold encR
  generalize hg : zHW s (x.Points.map fun q => atM p.Unit q b) = g at f2 ⊢
  rw [f2]; rfl
omit hT hl hu hN in
theorem zTP {rec : QQ → List zG → zJ → Option RTy} {s0 : MS} {x : zG} {b : zJ} {j : Nat} {K : List ze → Bool → Int → Int → Int → Bool → Int → Int → Int → Option RTy} (hNX : x.NX ≤ 100)
    (hrec : ∀ (i : Nat) (s : MS), (i : Int) < x.NX → Wi TT s → zUi rec p TT x.Steps (byM p.Unit b x.At j i) s) : ∀ (r m i : Nat) (s : MS), Wi TT s → (i : Int) + r = x.NX → r < m →
    ∃ q, q = zDe (fun i s => zAz p TT x.Steps (byM p.Unit b x.At j i) s) (List.range' i r) s ∧ (q.1 = 0 → Wi TT q.2) ∧
      Je (toM p TT s0) x b rec (j : Int) K m (s.img.map toP) s.clear s.tool s.place.X s.place.Y s.placed s.off s.on (i : Int) = if q.1 = 0 then K (q.2.img.map toP) q.2.clear q.2.tool q.2.place.X q.2.place.Y q.2.placed q.2.off q.2.on (w64 ((j : Int) + 1)) else some (encR q)
  | 0, m, i, s, hs, hi, hm => by
    obtain ⟨m, rfl⟩ : ∃ k, m = k + 1 := ⟨m - 1, by omega⟩
    refine ⟨_, rfl, fun _ => hs, ?_⟩
    rw [Je, if_neg (by simp; omega)]
    rfl
  | r + 1, m, i, s, hs, hi, hm => by
    obtain ⟨m, rfl⟩ : ∃ k, m = k + 1 := ⟨m - 1, by omega⟩
    obtain ⟨h1, h2⟩ := hrec i s (by omega) hs
    refine ⟨_, rfl, ?_⟩
    rw [Je, if_pos (by simp; omega)]
    have h1' : rec (QQ.mk (toM p TT s0).p (toM p TT s0).tools (s.img.map toP) s.clear s.tool (zJ.mk s.place.X s.place.Y) s.placed s.off s.on) x.Steps (zJ.mk (w64 (b.X + (w64 ((w64 ((i : Int) * x.At.X)) * (toM p TT s0).p.Unit)))) (w64 (b.Y + (w64 ((w64 ((j : Int) * x.At.Y)) * (toM p TT s0).p.Unit))))) = some (encR (zAz p TT x.Steps (byM p.Unit b x.At j i) s)) := h1
    rw [h1', Option.bind_some, List.range'_succ, zDe]
    generalize hg : zAz p TT x.Steps (byM p.Unit b x.At j i) s = g at h2 ⊢
    by_cases h0 : g.1 = 0
    · obtain ⟨q, q1, q2, q3⟩ := zTP hNX hrec r m (i + 1) g.2 (h2 h0) (by omega) (by omega) (s0 := s0) (K := K)
      rw [if_neg (show ¬ ((encR g).1 != 0) = true by show ¬ (g.1 != 0) = true; simp [h0]), if_pos h0, ← q1]
      refine ⟨q2, ?_⟩
      rw [← q3, Ql (by omega) (by omega)]
      rfl
    · rw [if_pos (show ((encR g).1 != 0) = true by show (g.1 != 0) = true; simp [h0]), if_neg h0]
      refine ⟨fun h => absurd h h0, ?_⟩
      rw [if_neg h0]
omit hT hl hu in
theorem zWJ {rec : QQ → List zG → zJ → Option RTy} {s0 : MS} {x : zG} {b : zJ} (hNX : 1 ≤ x.NX ∧ x.NX ≤ 100) (hNY : x.NY ≤ 100)
    (hrec : ∀ (j i : Nat) (s : MS), (j : Int) < x.NY → (i : Int) < x.NX → Wi TT s → zUi rec p TT x.Steps (byM p.Unit b x.At j i) s) : ∀ (r m j : Nat) (s : MS), Wi TT s → (j : Int) + r = x.NY → r < m →
    ∃ q, q = zDe (fun j s => zDe (fun i s => zAz p TT x.Steps (byM p.Unit b x.At j i) s) (List.range' 0 x.NX.toNat) s) (List.range' j r) s ∧ (q.1 = 0 → Wi TT q.2) ∧
      JA N (toM p TT s0) x b rec m (s.img.map toP) s.clear s.tool s.place.X s.place.Y s.placed s.off s.on (j : Int) = some (encR q)
  | 0, m, j, s, hs, hi, hm => by
    obtain ⟨m, rfl⟩ : ∃ k, m = k + 1 := ⟨m - 1, by omega⟩
    refine ⟨_, rfl, fun _ => hs, ?_⟩
    rw [JA, if_neg (by simp; omega)]
    rfl
  | r + 1, m, j, s, hs, hi, hm => by
    obtain ⟨m, rfl⟩ : ∃ k, m = k + 1 := ⟨m - 1, by omega⟩
    obtain ⟨q, q1, q2, q3⟩ := zTP (x := x) (rec := rec) (s0 := s0) (K := JA N (toM p TT s0) x b rec m) hNX.2 (fun i s => hrec j i s (by omega)) x.NX.toNat N 0 s hs (by omega) (by omega)
    refine ⟨_, rfl, ?_⟩
    rw [JA, if_pos (by simp; omega)]
    rw [List.range'_succ, zDe, ← q1]
    rw [show ((0 : Nat) : Int) = 0 from rfl] at q3
    rw [q3]
    by_cases h0 : q.1 = 0
    · obtain ⟨z, z1, z2, z3⟩ := zWJ hNX hNY hrec r m (j + 1) q.2 (q2 h0) (by omega) (by omega) (s0 := s0)
      rw [if_pos h0, if_pos h0, ← z1]
      refine ⟨z2, ?_⟩
      rw [← z3, Ql (by omega) (by omega)]
      rfl
    · rw [if_neg h0, if_neg h0]
      exact ⟨fun h => absurd h h0, rfl⟩
theorem zYq {s : MS} (hi : Wi TT s) {d : Int} (hd : 0 ≤ d ∧ d ≤ 5) {b : zJ} (hb : zGT d b) {x : zG} (hx : zM4 p x d) {rec : QQ → List zG → zJ → Option RTy} (hrec : d < 5 → ∀ b s, zGT (d + 1) b → Wi TT s → zUi rec p TT x.Steps b s) :
    KW rec N (toM p TT s) x b = some (encR (zCh p TT x b s)) ∧ ((zCh p TT x b s).1 = 0 → Wi TT (zCh p TT x b s).2) := by
  rw [zLD]
  by_cases h8 : x.Kind = 8
  · obtain ⟨t1, t2, t3, t4⟩ := hx.times h8
    rw [if_pos h8]
    unfold KW
    rw [zO6, Option.bind_some, if_neg (by simp [h8])]
    unfold Jf
    rw [if_neg (by simp [h8]), if_neg (by simp [h8]), if_neg (by simp [h8]), if_neg (by simp [h8]), if_neg (by simp [h8]), if_neg (by simp [h8]), if_pos (by simp [h8])]
    obtain ⟨q, q1, q2, q3⟩ := zWJ hN (p := p) (TT := TT) (rec := rec) (s0 := s) (b := b) t1 t2.2 (fun j i s hj hx' hs => hrec t4 _ s (zSX hu hx.place ⟨hd.1, t4⟩ hb (by omega) (by omega)).2 hs) x.NY.toNat N 0 s hi (by omega) (by omega)
    rw [← q1]
    exact ⟨q3, q2⟩
  · rw [if_neg h8]
    exact zb0 hN hT hl hu hi hd.2 hb hx h8 rec
theorem zWG {d : Int} (hd : 0 ≤ d ∧ d ≤ 5) {b : zJ} (hb : zGT d b) {rec : QQ → List zG → zJ → Option RTy} {s0 : MS} : ∀ (l : List zG) (i : Nat) (s : MS), (∀ x ∈ l, zM4 p x d ∧ (d < 5 → ∀ b s, zGT (d + 1) b → Wi TT s → zUi rec p TT x.Steps b s)) → Wi TT s →
    Jc N (toM p TT s0) b rec l i (s.img.map toP) s.clear s.tool s.place.X s.place.Y s.placed s.off s.on = some (encR (zAz p TT l b s)) ∧ ((zAz p TT l b s).1 = 0 → Wi TT (zAz p TT l b s).2)
  | [], i, s, _, hs => by
    rw [Jc, zHB]
    exact ⟨rfl, fun _ => hs⟩
  | x :: l, i, s, hx, hs => by
    obtain ⟨h1, h2⟩ := zYq hN hT hl hu hs hd hb (hx x List.mem_cons_self).1 (rec := rec) (hx x List.mem_cons_self).2
    rw [Jc, zBj]
    have h1' : KW rec N (QQ.mk (toM p TT s0).p (toM p TT s0).tools (s.img.map toP) s.clear s.tool (zJ.mk s.place.X s.place.Y) s.placed s.off s.on) x b = some (encR (zCh p TT x b s)) := h1
    rw [h1', Option.bind_some]
    generalize hg : zCh p TT x b s = g at h2 ⊢
    by_cases h0 : g.1 = 0
    · have ih := zWG hd hb (rec := rec) (s0 := s0) l (i + 1) g.2 (fun y hy => hx y (List.mem_cons_of_mem _ hy)) (h2 h0)
      rw [if_neg (show ¬ ((encR g).1 != 0) = true by show ¬ (g.1 != 0) = true; simp [h0]), if_pos h0]
      exact ih
    · rw [if_pos (show ((encR g).1 != 0) = true by show (g.1 != 0) = true; simp [h0]), if_neg h0]
      exact ⟨rfl, fun h => absurd h h0⟩
omit hN in
theorem zVH : ∀ (k : Nat) (d : Int) (N : Nat) (l : List zG) (b : zJ) (s : MS), d + k = 5 → 0 ≤ d → 10000000000 + k + 1 ≤ N → zFX p d l → zGT d b → Wi TT s → zUi (Vq N) p TT l b s
  | k, d, N, l, b, s, hk, hd, hN, hv, hb, hs => by
    obtain ⟨N, rfl⟩ : ∃ m, N = m + 1 := ⟨N - 1, by omega⟩
    have := zWG (N := N) (by omega) hT hl hu (d := d) (by omega) hb (rec := Vq N) (s0 := s) l 0 s (fun x hx => by
      have h1 := (zGm p d x).1 ((zLv p d l).1 hv x hx)
      refine ⟨zJi.1 h1.1, fun h5 b s hb hs => ?_⟩
      cases k with
      | zero => omega
      | succ k => exact zVH k (d + 1) N x.Steps b s (by omega) (by omega) (by omega) h1.2 hb hs) hs
    exact this
end
def scR (u : Int) (r : zS) : zS := ⟨r.X0 * u, r.Y0 * u, r.X1 * u, r.Y1 * u⟩
def Ki (p : zm) : List (List zS) := p.Tools.map fun t => t.Rects.map (scR p.Unit)
def zBp : MS := ⟨[], false, -1, ⟨0, 0⟩, false, 0, 0⟩
theorem zKm {r : zS} {u : Int} (hu : 1 ≤ u) (h : zLL r u = 0) : ((-1000000 ≤ r.X0 * u ∧ r.X0 * u ≤ 1000000) ∧ (-1000000 ≤ r.Y0 * u ∧ r.Y0 * u ≤ 1000000) ∧ (-1000000 ≤ r.X1 * u ∧ r.X1 * u ≤ 1000000) ∧ (-1000000 ≤ r.Y1 * u ∧ r.Y1 * u ≤ 1000000)) ∧ r.X0 * u < r.X1 * u ∧ r.Y0 * u < r.Y1 * u := by
  unfold zLL at h
  split at h
  · rename_i hf
    simp only [Bool.and_eq_true] at hf
    split at h
    · cases h
    rename_i hn
    simp at hn
    exact ⟨⟨zDl hu hf.1.1.1, zDl hu hf.1.1.2, zDl hu hf.1.2, zDl hu hf.2⟩, Int.mul_lt_mul_of_pos_right hn.1 (by omega), Int.mul_lt_mul_of_pos_right hn.2 (by omega)⟩
  · cases h
theorem zNG {u : Int} : ∀ {l : List zS}, zMP u l = 0 → ∀ r ∈ l, zLL r u = 0
  | r :: l, h, x, hx => by
    rw [zMP] at h
    split at h
    · rename_i h0
      rcases List.mem_cons.1 hx with rfl | hx
      · exact h0
      · exact zNG h x hx
    · rename_i h0; exact absurd h h0
theorem zHi {t : zV} {u : Int} (h : zFE t u = 0) : t.Rects ≠ [] ∧ t.Rects.length ≤ 2000 ∧ ∀ r ∈ t.Rects, zLL r u = 0 := by
  unfold zFE at h
  split at h
  · cases h
  split at h
  · cases h
  rename_i h1 h2
  exact ⟨fun e => h1 (by rw [e]; rfl), by omega, zNG h⟩
theorem zQd {t : zV} {u : Int} (hu : 1 ≤ u) (h : zFE t u = 0) : zFB (t.Rects.map (scR u)) := by
  obtain ⟨_, h1, h2⟩ := zHi h
  refine ⟨by simpa using h1, fun r hr => ?_, fun r hr => ?_⟩
  · obtain ⟨q, hq, rfl⟩ := List.mem_map.1 hr
    exact (zKm hu (h2 q hq)).2
  · obtain ⟨q, hq, rfl⟩ := List.mem_map.1 hr
    have := (zKm hu (h2 q hq)).1
    exact ⟨⟨this.1.1, this.2.2.1.2⟩, this.2.1.1, this.2.2.2.2⟩
theorem zAB.Ki {N : Nat} {p : zm} (h : zAB N p) : ∀ T ∈ Ki p, zFB T := fun T hT => by
  obtain ⟨t, ht, rfl⟩ := List.mem_map.1 hT
  exact zQd h.unit.1 (h.tools t ht).2
section
variable {N : Nat} (hN : 10000000000 ≤ N)
include hN
theorem zTa {p : zm} {t : zV} (hu : 1 ≤ p.Unit) (ht : zFE t p.Unit = 0) {acc : List (List ze)} (ha : acc.length ≤ 1000) {K : List (List ze) → Option QQ} : ∀ (suf pre : List zS) (i : Nat), t.Rects = pre ++ suf →
    KE N p acc K suf i (pre.map (scR p.Unit)) = K (acc ++ [(zBA (t.Rects.map (scR p.Unit))).map toP])
  | [], pre, i, he => by
    rw [List.append_nil] at he
    have hk := zQd hu ht
    rw [KE, ← he, zLw hN (by have := hk.few; omega) (fun r hr => by
      have h1 := hk.ne r hr
      have h2 := hk.lim r hr
      exact ⟨by omega, by omega, by omega, by omega, h1.1, h1.2⟩), Option.bind_some, zBE (by simp; omega), Option.bind_some]
  | r :: l, pre, i, he => by
    obtain ⟨_, h1, h2⟩ := zHi ht
    have hlen : t.Rects.length = pre.length + (l.length + 1) := by rw [he]; simp
    have hr := (zKm hu (h2 r (by rw [he]; simp))).1
    rw [KE, Ql (by omega) (by omega), Ql (by omega) (by omega), Ql (by omega) (by omega), Ql (by omega) (by omega), zBE (by simp; omega), Option.bind_some]
    have := zTa hu ht ha (K := K) l (pre ++ [r]) (i + 1) (by rw [he]; simp)
    rw [List.map_append] at this
    exact this
theorem zTb {p : zm} (hu : 1 ≤ p.Unit) (hp : ∀ t ∈ p.Tools, zFE t p.Unit = 0) (hl : p.Tools.length ≤ 200) : ∀ (suf pre : List zV) (i : Nat), p.Tools = pre ++ suf →
    JN N p suf i (pre.map fun t => (zBA (t.Rects.map (scR p.Unit))).map toP) = some (toM p (Ki p) zBp)
  | [], pre, i, he => by
    rw [List.append_nil] at he
    rw [JN, ← he]
    unfold toM Ki
    rw [List.map_map]; rfl
  | t :: l, pre, i, he => by
    have hlen : p.Tools.length = pre.length + (l.length + 1) := by rw [he]; simp
    rw [JN]
    have h1 := zTa hN hu (hp t (by rw [he]; simp)) (acc := pre.map fun t => (zBA (t.Rects.map (scR p.Unit))).map toP) (by simp; omega) (K := JN N p l (i + 1)) t.Rects [] 0 rfl
    rw [List.map_nil] at h1
    rw [h1]
    have := zTb hu hp hl l (pre ++ [t]) (i + 1) (by rw [he]; simp)
    rw [List.map_append] at this
    exact this
theorem zbu {p : zm} {M : Nat} (h : zAB M p) : zAu N p = some (toM p (Ki p) zBp) := by
  unfold zAu
  exact zTb hN h.unit.1 (fun t ht => (h.tools t ht).2) h.few p.Tools [] 0 rfl
end
theorem zI5 (TT : List (List zS)) : Wi TT zBp := by
  exact ⟨⟨⟨⟨0, trivial⟩, fun b hb => by cases hb⟩, by simp [zBp, QR], by simp [zBp, QR]⟩, ⟨by simp [zBp], by simp [zBp]; omega⟩, fun h => by cases h⟩
noncomputable def zDG (p : zm) : Int × MS := zAz p (Ki p) p.Steps ⟨0, 0⟩ zBp
theorem zJI {N M : Nat} (hN : 20000000000 ≤ N) {p : zm} (h : zAB M p) : zDx N p = some (toM p (Ki p) (zDG p).2, (zDG p).1) ∧ ((zDG p).1 = 0 → Wi (Ki p) (zDG p).2) := by
  obtain ⟨h1, h2⟩ := zVH h.Ki (by unfold Ki; simp) h.unit.1 5 0 N p.Steps ⟨0, 0⟩ zBp (by omega) (by omega) (by omega) h.steps (by unfold zGT; simp) (zI5 _)
  unfold zDx
  rw [zbu (by omega) h, Option.bind_some, h1, Option.bind_some]
  exact ⟨rfl, h2⟩
theorem zL5 {N : Nat} {p : zm} (hN : Fu p N) (hL : zK1 p) : ∃ e, Jv N p = some e ∧ (e = 0 ↔ zAB N p) := by
  have hw : VA p.Unit 1 1000 = some (decide (1 ≤ p.Unit) && decide (p.Unit ≤ 1000)) := rfl
  unfold Jv
  rw [hw, Option.bind_some]
  by_cases hu : 1 ≤ p.Unit ∧ p.Unit ≤ 1000
  · rw [if_neg (by simpa using hu)]
    by_cases ht : 200 < (p.Tools.length : Int)
    · rw [if_pos (decide_eq_true ht)]
      exact ⟨2, rfl, fun h => (by cases h), fun h => by have := h.few; omega⟩
    · rw [if_neg (by simpa using ht)]
      obtain ⟨e, e1, e2⟩ := zMS hN hL hu p.Tools [] rfl (by omega)
      exact ⟨e, e1, e2 (fun _ h => by cases h) trivial⟩
  · rw [if_pos (by simp; omega)]
    exact ⟨1, rfl, fun h => (by cases h), fun h => absurd h.unit hu⟩
theorem zGE.small {I : List Bd} (h : zGE I) : Small I := by
  have h1 := h.drw
  have h2 := h.few
  exact ⟨by have := h1.few; omega, fun b hb => by have := h1.row b hb; omega, by omega⟩
theorem zUm {N : Nat} (hN : 20000000000 ≤ N) {p : zm} (hF : Fu p N) (hL : zK1 p) : ∃ I e, WG N p = some (I, e) ∧ (e ≠ 0 → I = []) ∧ (e = 0 → zAB N p ∧ (zDG p).1 = 0 ∧ I = QR (zDG p).2.img) ∧ (zAB N p → (zDG p).1 = 0 → e = 0) := by
  obtain ⟨e, e1, e2⟩ := zL5 hF hL
  unfold WG zCL
  rw [e1, Option.bind_some]
  by_cases h : e = 0
  · have hp := e2.1 h
    obtain ⟨d1, d2⟩ := zJI hN hp
    rw [if_neg (by simpa using h), d1, Option.bind_some]
    by_cases h0 : (zDG p).1 = 0
    · rw [if_neg (by simpa using h0), Option.bind_some]
      show ∃ I e, ((KG N ((zDG p).2.img.map toP)).bind _) = _ ∧ _
      rw [zEp (by omega) (d2 h0).img.small, Option.bind_some]
      exact ⟨_, _, rfl, fun h => absurd rfl h, fun _ => ⟨hp, h0, rfl⟩, fun _ _ => rfl⟩
    · rw [if_pos (by simpa using h0), Option.bind_some]
      have := zEp (N := N) (by omega) (l := []) ⟨by simp, by simp, by simp [QR]⟩
      rw [List.map_nil] at this
      rw [this, Option.bind_some]
      exact ⟨_, _, rfl, fun _ => rfl, fun h => absurd h h0, fun _ h => absurd h h0⟩
  · rw [if_pos (by simpa using h), Option.bind_some]
    have := zEp (N := N) (by omega) (l := []) ⟨by simp, by simp, by simp [QR]⟩
    rw [List.map_nil] at this
    rw [this, Option.bind_some]
    exact ⟨_, _, rfl, fun _ => rfl, fun h' => absurd h' h, fun hp => absurd (e2.2 hp) h⟩
theorem zAB.zab {N : Nat} {p : zm} (hN : Fu p N) (hL : zK1 p) (h : zAB N p) : zbK p := by
  obtain ⟨g1, g2⟩ := h.good hN hL
  have hc := h.cnt
  have key : ∀ (k : Nat) (l : List zG) (d : Int), JG l ≤ k → zFX p d l → zEl 40 l ∧ (zAX l : Int) ≤ zE9 l := by
    intro k
    induction k with
    | zero =>
      intro l d hk _
      cases l with
      | nil => exact ⟨zMr _, by rw [zNJ, zHT]; simp⟩
      | cons x l => have := Jg x; rw [Qj] at hk; omega
    | succ k ih =>
      intro l
      induction l with
      | nil => intro d _ _; exact ⟨zMr _, by rw [zNJ, zHT]; simp⟩
      | cons x l ihl =>
        intro d hk hv
        have hs := Jg x
        rw [Qj] at hk
        rw [zBG, zGm] at hv
        obtain ⟨i1, i2⟩ := ih x.Steps (d + 1) (by omega) hv.1.2
        obtain ⟨j1, j2⟩ := ihl d (by omega) hv.2
        refine ⟨(zEK _ _ _).2 ⟨(zGA _ _).2 ⟨zVA g1 hv.1.1, i1⟩, j1⟩, ?_⟩
        rw [zCQ, zEE, zKD, zOD]
        have h1 := zOi x.NX x.NY
        have h2 := Int.mul_le_mul_of_nonneg_right h1.1 (zLq x.Steps)
        omega
  obtain ⟨k1, k2⟩ := key _ p.Steps 0 (Nat.le_refl _) h.steps
  exact ⟨h.unit, h.few, fun t ht => ⟨g1 t ht, zU9 (h.tools t ht).2⟩, k1, by omega⟩
noncomputable def zX2 (p : zm) : List zS × Int := if (zDG p).1 = 0 then (QR (zDG p).2.img, 0) else ([], (zDG p).1)
theorem zYE {N : Nat} (hN : 20000000000 ≤ N) {p : zm} (hF : Fu p N) (hL : zK1 p) (hp : zAB N p) : WG N p = some (zX2 p) := by
  obtain ⟨d1, d2⟩ := zJI hN hp
  unfold WG zCL zX2
  rw [(zVz hF hL).2 hp, Option.bind_some, if_neg (by simp), d1, Option.bind_some]
  by_cases h0 : (zDG p).1 = 0
  · rw [if_neg (by simpa using h0), if_pos h0, Option.bind_some]
    show ((KG N ((zDG p).2.img.map toP)).bind _) = _
    rw [zEp (by omega) (d2 h0).img.small, Option.bind_some]
  · rw [if_pos (by simpa using h0), if_neg h0, Option.bind_some]
    have := zEp (N := N) (by omega) (l := []) ⟨by simp, by simp, by simp [QR]⟩
    rw [List.map_nil] at this
    rw [this, Option.bind_some]; rfl
section
variable (U V : Int)
def scN (n : Int) : Int := w64 ((w64 (n * U)).tdiv V)
def okN (n : Int) : Bool := (w64 (n * U)).tmod V == 0
def zED (p : zJ) : zJ := ⟨scN U V p.X, scN U V p.Y⟩
def zIg (p : zJ) : Bool := okN U V p.X && okN U V p.Y
def zIf (r : zS) : zS := ⟨scN U V r.X0, scN U V r.Y0, scN U V r.X1, scN U V r.Y1⟩
def zRo (r : zS) : Bool := (okN U V r.X0 && okN U V r.Y0) && (okN U V r.X1 && okN U V r.Y1)
def zHm (t : zV) : zV := ⟨t.Name, t.Rects.map (zIf U V)⟩
def zTY (t : zV) : Bool := t.Rects.all (zRo U V)
mutual
def zKR : zG → zG
  | ⟨k, n, a, ps, nx, ny, l⟩ => ⟨k, n, zED U V a, ps.map (zED U V), nx, ny, Kl l⟩
def Kl : List zG → List zG
  | [] => []
  | x :: l => zKR x :: Kl l
end
mutual
def zbs : zG → Bool
  | ⟨_, _, a, ps, _, _, l⟩ => (zIg U V a && zGa l) && ps.all (zIg U V)
def zGa : List zG → Bool
  | [] => true
  | x :: l => zbs x && zGa l
end
variable {U V}
theorem zEM (x : zG) : zKR U V x = ⟨x.Kind, x.Name, zED U V x.At, x.Points.map (zED U V), x.NX, x.NY, Kl U V x.Steps⟩ := by cases x; rw [zKR]
theorem zRn (x : zG) : zbs U V x = ((zIg U V x.At && zGa U V x.Steps) && x.Points.all (zIg U V)) := by cases x; rw [zbs]
theorem zEC (x : zG) (l : List zG) : Kl U V (x :: l) = zKR U V x :: Kl U V l := by rw [Kl]
theorem zKo (x : zG) (l : List zG) : zGa U V (x :: l) = (zbs U V x && zGa U V l) := by rw [zGa]
theorem zFi : Kl U V [] = [] := by rw [Kl]
theorem zQq : zGa U V [] = true := by rw [zGa]
theorem zMK : ∀ (l : List zG), (Kl U V l).length = l.length
  | [] => by rw [zFi]
  | x :: l => by rw [zEC, List.length_cons, List.length_cons, zMK l]
theorem zEB {p : zm} (hp : p.Unit = U) (hV : V ≠ 0) (n : Int) (b : Bool) : VB n b p V = some (scN U V n, b && okN U V n) := by
  unfold VB md dv
  rw [if_neg hV, if_neg hV, hp]
  cases b
  · rfl
  · rfl
theorem zNU {p : zm} (hp : p.Unit = U) (hV : V ≠ 0) (q : zJ) (b : Bool) : KR q b p V = some (zED U V q, b && zIg U V q) := by
  unfold KR
  rw [zEB hp hV, Option.bind_some, zEB hp hV, Option.bind_some]
  simp only [zIg, Bool.and_assoc]; rfl
theorem zUa {p : zm} (hp : p.Unit = U) (hV : V ≠ 0) (r : zS) (b : Bool) : Kz r b p V = some (zIf U V r, b && zRo U V r) := by
  unfold Kz
  rw [zEB hp hV, Option.bind_some, zEB hp hV, Option.bind_some, zEB hp hV, Option.bind_some, zEB hp hV, Option.bind_some]
  simp only [zRo, Bool.and_assoc]; rfl
theorem zTD {α : Type} (pre suf : List α) (x y : α) : sets (pre ++ x :: suf) (pre.length : Int) y = some (pre ++ y :: suf) := by
  unfold sets
  rw [if_pos (by simp)]
  simp
theorem set_mid {α : Type} (pre suf : List α) (x y : α) : (pre ++ x :: suf).set ((pre.length : Int).toNat) y = pre ++ y :: suf := by simp
theorem zTS {p : zm} (hp : p.Unit = U) (hV : V ≠ 0) {y : zJ × Bool} : ∀ (suf pre : List zJ) (b : Bool), QS p V y suf pre.length b (pre ++ suf) = some (y.1.X, y.1.Y, pre ++ suf.map (zED U V), b && suf.all (zIg U V))
  | [], pre, b => by rw [QS]; simp
  | q :: l, pre, b => by
    rw [QS, Kt, Option.bind_some, zNU hp hV, Option.bind_some, Option.bind_some, zTD, Option.bind_some]
    have := zTS hp hV l (pre ++ [zED U V q]) (b && zIg U V q) (y := y)
    rw [show (pre ++ [zED U V q]).length = pre.length + 1 by simp] at this
    rw [show pre ++ zED U V q :: l = (pre ++ [zED U V q]) ++ l by simp, this]
    simp [Bool.and_assoc]
theorem zUZ {p : zm} (hp : p.Unit = U) (hV : V ≠ 0) (x : zG) (b : Bool) : JX x b p V = some (scN U V x.At.X, scN U V x.At.Y, x.Points.map (zED U V), (b && zIg U V x.At) && x.Points.all (zIg U V)) := by
  unfold JX
  rw [zNU hp hV, Option.bind_some]
  exact zTS hp hV x.Points [] _
theorem zYC {α : Type} {l : List α} (h : l.length ≤ 4294967296) : apd ([] : List α) l = some l := by
  rw [zBE (by simpa using h)]; rfl
theorem zOy {p : zm} (hp : p.Unit = U) (hV : V ≠ 0) {l0 : List zV} {j : Int} {t0 : zV} (hj : ∃ t, idx l0 j = some t) {k : Bool → List zV → Int → Option (List zV × Bool)} : ∀ (suf pre : List zS) (b : Bool),
    QW p V l0 j k t0 suf pre.length b (pre ++ suf) = k (b && suf.all (zRo U V)) (l0.set j.toNat ⟨t0.Name, pre ++ suf.map (zIf U V)⟩) (w64 (j + 1))
  | [], pre, b => by rw [QW]; simp
  | r :: l, pre, b => by
    obtain ⟨t, ht⟩ := hj
    rw [QW, Kt, Option.bind_some, ht, Option.bind_some, zUa hp hV, Option.bind_some, Option.bind_some, zTD, Option.bind_some]
    have := zOy hp hV ⟨t, ht⟩ l (pre ++ [zIf U V r]) (b && zRo U V r) (t0 := t0) (k := k)
    rw [show (pre ++ [zIf U V r]).length = pre.length + 1 by simp] at this
    rw [show pre ++ zIf U V r :: l = (pre ++ [zIf U V r]) ++ l by simp, this]
    simp [Bool.and_assoc]
theorem zOh {p : zm} (hp : p.Unit = U) (hV : V ≠ 0) {l0 : List zV} : ∀ (suf pre : List zV) (m : Nat) (b : Bool), (pre ++ suf).length = l0.length → l0.length ≤ 2000 → (∀ t ∈ suf, t.Rects.length ≤ 2000) → suf.length < m →
    QD p V l0 m b (pre ++ suf) (pre.length : Int) = some (pre ++ suf.map (zHm U V), b && suf.all (zTY U V))
  | [], pre, m, b, hl, h2, h, hm => by
    obtain ⟨m, rfl⟩ : ∃ k, m = k + 1 := ⟨m - 1, by omega⟩
    simp at hl
    rw [QD, if_neg (by simp; omega)]
    simp
  | t :: l, pre, m, b, hl, h2, h, hm => by
    obtain ⟨m, rfl⟩ : ∃ k, m = k + 1 := ⟨m - 1, by simp at hm; omega⟩
    simp at hm
    have hl' := hl
    simp at hl'
    have hcl : Kg t.Rects = some t.Rects := by
      unfold Kg
      rw [zYC (by have := h t List.mem_cons_self; omega)]; rfl
    rw [QD, if_pos (by simp; omega), Kt, Option.bind_some, hcl, Option.bind_some, Option.bind_some, Option.bind_some]
    have hr := zOy hp hV (l0 := pre ++ t :: l) (j := (pre.length : Int)) (t0 := t) ⟨t, Kt _ _ _⟩ (k := QD p V l0 m) t.Rects [] b
    simp only [List.nil_append, List.length_nil] at hr
    rw [hr, set_mid, zJe _ t (by omega), show (pre ++ [t]).length = (pre ++ [zHm U V t]).length by simp, show pre ++ (⟨t.Name, t.Rects.map (zIf U V)⟩ : zV) :: l = (pre ++ [zHm U V t]) ++ l by simp [zHm],
      zOh hp hV l (pre ++ [zHm U V t]) m _ (by simpa using hl) h2 (fun x hx => h x (List.mem_cons_of_mem _ hx)) (by omega)]
    simp [Bool.and_assoc, zTY]
theorem zTU {p : zm} (hp : p.Unit = U) (hV : V ≠ 0) {rec : List zG → Bool → zm → Int → Option (List zG × Bool)} {l0 : List zG} : ∀ (suf pre : List zG) (m : Nat) (b : Bool), (pre ++ suf).length = l0.length → l0.length ≤ 4000 →
    (∀ x ∈ suf, x.Points.length ≤ 2000 ∧ ∀ b, rec x.Steps b p V = some (Kl U V x.Steps, b && zGa U V x.Steps)) → suf.length < m →
    QP p V rec l0 m b (pre ++ suf) (pre.length : Int) = some (pre ++ Kl U V suf, b && zGa U V suf)
  | [], pre, m, b, hl, h2, h, hm => by
    obtain ⟨m, rfl⟩ : ∃ k, m = k + 1 := ⟨m - 1, by omega⟩
    simp at hl
    rw [QP, if_neg (by simp; omega), zFi, zQq]
    simp
  | x :: l, pre, m, b, hl, h2, h, hm => by
    obtain ⟨m, rfl⟩ : ∃ k, m = k + 1 := ⟨m - 1, by simp at hm; omega⟩
    simp at hm
    have hl' := hl
    simp at hl'
    obtain ⟨hx1, hx2⟩ := h x List.mem_cons_self
    have hcl : KV x.Points = some x.Points := by
      unfold KV
      rw [zYC (by omega)]; rfl
    rw [QP, if_pos (by simp; omega), Kt, Option.bind_some, hcl, Option.bind_some, Option.bind_some, Option.bind_some, hx2, Option.bind_some, Option.bind_some, Option.bind_some, zUZ hp hV, Option.bind_some,
      set_mid, zJe _ x (by omega), show (pre ++ [x]).length = (pre ++ [zKR U V x]).length by simp]
    rw [show pre ++ (zG.mk x.Kind x.Name (zJ.mk (scN U V x.At.X) (scN U V x.At.Y)) (x.Points.map (zED U V)) x.NX x.NY (Kl U V x.Steps)) :: l = (pre ++ [zKR U V x]) ++ l by simp [zEM, zED],
      zTU hp hV l (pre ++ [zKR U V x]) m _ (by simpa using hl) h2 (fun y hy => h y (List.mem_cons_of_mem _ hy)) (by omega), zEC, zKo, zRn]
    simp [Bool.and_assoc, Bool.and_comm, Bool.and_left_comm]
theorem zEg : ∀ (l : List zG), l.length ≤ zAX l
  | [] => by simp
  | x :: l => by
    have := zEg l
    have := zEE x
    rw [zCQ, List.length_cons]; omega
theorem zY8 {p : zm} (hp : p.Unit = U) (hV : V ≠ 0) : ∀ (k : Nat) (l : List zG) (N : Nat) (b : Bool), JG l ≤ k → k + 5 ≤ N → zEl 40 l → zAX l ≤ 3000 → JJ N l b p V = some (Kl U V l, b && zGa U V l)
  | k, l, N, b, hk, hN, hg, hn => by
    obtain ⟨N, rfl⟩ : ∃ n, N = n + 1 := ⟨N - 1, by omega⟩
    have hlen := zGX l
    have hnl := zEg l
    have hcl : Jo l = some l := by
      unfold Jo
      rw [zYC (by omega)]; rfl
    show Qz N _ l b p V = _
    unfold Qz
    rw [hcl, Option.bind_some]
    exact zTU hp hV l [] N b rfl (by omega) (fun x hx => by
      have h1 := zDL hx
      have h2 := Jg x
      have h3 := zI0 hx
      have h4 := zEE x
      have h5 := (zGA 40 x).1 (zMs hg hx)
      cases k with
      | zero => omega
      | succ k => exact ⟨h5.1.1, fun b => zY8 hp hV k x.Steps N b (by omega) (by omega) h5.2 (by omega)⟩) (by omega)
theorem zTV {p : zm} (hp : p.Unit = U) (hV : V ≠ 0) {l : List zV} {N : Nat} (b : Bool) (hl : l.length ≤ 2000) (h : ∀ t ∈ l, t.Rects.length ≤ 2000) (hN : 3000 ≤ N) : Ja N l b p V = some (l.map (zHm U V), b && l.all (zTY U V)) := by
  unfold Ja
  have hcl : Kr l = some l := by
    unfold Kr
    rw [zYC (by omega)]; rfl
  rw [hcl, Option.bind_some]
  exact zOh hp hV l [] N b rfl hl h (by omega)
def scP (p : zm) (V : Int) : zm := ⟨V, p.Tools.map (zHm p.Unit V), Kl p.Unit V p.Steps⟩
def okP (p : zm) (V : Int) : Bool := p.Tools.all (zTY p.Unit V) && zGa p.Unit V p.Steps
theorem zOt {N : Nat} {p : zm} {V : Int} (hN : Fu p N) (hG : zbK p) (hV : V ≠ 0) : zCz N p V = some (scP p V, okP p V) := by
  have hf := hG.few
  unfold Fu at hN
  unfold zCz WE
  rw [zTV rfl hV true (by omega) (fun t ht => (hG.tools t ht).2) (by omega), Option.bind_some, zY8 rfl hV (JG p.Steps) p.Steps N _ (Nat.le_refl _) (by omega) hG.steps hG.nd]
  simp [scP, okP]
end
section
variable {U V : Int}
theorem zV5 : ∀ (k : Nat) (l : List zG), JG l ≤ k → JG (Kl U V l) = JG l
  | k, [], _ => by rw [zFi]
  | k, x :: l, hk => by
    rw [Qj, Jg] at hk
    rw [zEC, Qj, Qj, Jg, Jg, zEM]
    cases k with
    | zero => omega
    | succ k =>
      simp only [List.length_map]
      rw [zV5 k x.Steps (by omega), zV5 k l (by omega)]
theorem zYk (l : List zV) : VE (l.map (zHm U V)) = VE l := by
  induction l with
  | nil => rfl
  | cons t l ih => simp [VE, zHm, ih]
theorem zPA (hw : ∀ n, J64 (scN U V n)) : ∀ (k : Nat) (l : List zG), JG l ≤ k → zFP l → zFP (Kl U V l)
  | k, [], _, _ => by rw [zFi, zFP]; trivial
  | k, x :: l, hk, h => by
    rw [Qj, Jg] at hk
    rw [zEG, zGd] at h
    rw [zEC, zEG, zGd, zEM]
    cases k with
    | zero => omega
    | succ k =>
      obtain ⟨⟨h1, h2, h3, h4, h5, h6⟩, h7⟩ := h
      refine ⟨⟨h1, ⟨hw _, hw _⟩, ⟨by simpa using h3.1, fun q hq => ?_⟩, h4, by rw [zMK]; exact h5, zPA hw k x.Steps (by omega) h6⟩, zPA hw k l (by omega) h7⟩
      obtain ⟨q0, _, rfl⟩ := List.mem_map.1 hq
      exact ⟨hw _, hw _⟩
end
theorem zHg (x : Int) : J64 (w64 x) := by
  unfold J64 w64
  simp [IntKind.wrap, IntKind.bits, IntKind.signed]
  omega
theorem zbz {p : zm} {V : Int} (hV : J64 V) (h : zK1 p) : zK1 (scP p V) := by
  refine ⟨hV, fun t ht => ?_, by show (Kl p.Unit V p.Steps).length ≤ _; rw [zMK]; exact h.sl, zPA (fun n => zHg _) _ _ (Nat.le_refl _) h.steps⟩
  obtain ⟨t0, h0, rfl⟩ := List.mem_map.1 ht
  refine ⟨(h.tools t0 h0).1, fun r hr => ?_⟩
  obtain ⟨r0, _, rfl⟩ := List.mem_map.1 hr
  exact ⟨⟨zHg _, zHg _⟩, zHg _, zHg _⟩
theorem zMJ {U V n : Int} (hu : 1 ≤ U) (hv : 1 ≤ V) (hf : zJG n U = true) (ho : okN U V n = true) : scN U V n * V = n * U ∧ scN V U (scN U V n) = n ∧ okN V U (scN U V n) = true ∧ -1000000 ≤ scN U V n ∧ scN U V n ≤ 1000000 := by
  have h1 := zDl hu hf
  unfold okN at ho
  have e1 : w64 (n * U) = n * U := Ql (by omega) (by omega)
  rw [e1, beq_iff_eq] at ho
  have hd := Int.mul_tdiv_add_tmod (n * U) V
  rw [ho, Int.add_zero] at hd
  have bnd : ∀ (q W : Int), 1 ≤ W → -1000000 ≤ q * W → q * W ≤ 1000000 → -1000000 ≤ q ∧ q ≤ 1000000 := fun q W hW a b => by
    refine ⟨Int.not_lt.1 fun hl => ?_, Int.not_lt.1 fun hl => ?_⟩
    · have := Int.mul_le_mul_of_nonpos_left (show q ≤ 0 by omega) hW
      omega
    · have := Int.mul_le_mul_of_nonneg_left hW (show 0 ≤ q by omega)
      omega
  have hq : (n * U).tdiv V * V = n * U := by rw [Int.mul_comm]; exact hd
  have b1 := bnd ((n * U).tdiv V) V hv (by omega) (by omega)
  have b2 := bnd n U hu h1.1 h1.2
  have e2 : scN U V n = (n * U).tdiv V := by unfold scN; rw [e1, Ql (by omega) (by omega)]
  rw [e2]
  refine ⟨hq, ?_, ?_, b1⟩
  · unfold scN
    rw [hq, e1, Int.mul_tdiv_cancel _ (by omega), Ql (by omega) (by omega)]
  · unfold okN
    rw [hq, e1, Int.mul_tmod_left, beq_iff_eq]
theorem zOu {U V : Int} {q : zJ} (hu : 1 ≤ U) (hv : 1 ≤ V) (hf : zBC q U = true) (ho : zIg U V q = true) : zED V U (zED U V q) = q ∧ zIg V U (zED U V q) = true ∧ (∀ b, atM V (zED U V q) b = atM U q b) ∧ ∀ (b : zJ) (j i : Nat), j < 100 → i < 100 → byM V b (zED U V q) j i = byM U b q j i := by
  unfold zBC at hf
  unfold zIg at ho
  rw [Bool.and_eq_true] at hf ho
  obtain ⟨x1, x2, x3, x4⟩ := zMJ hu hv hf.1 ho.1
  obtain ⟨y1, y2, y3, y4⟩ := zMJ hu hv hf.2 ho.2
  have key : ∀ (n : Int) (k : Nat), k < 100 → -1000000 ≤ n ∧ n ≤ 1000000 → -99000000 ≤ (k : Int) * n ∧ (k : Int) * n ≤ 99000000 := fun n k hk hn => by
    have b1 : (k : Int) * n ≤ (k : Int) * 1000000 := Int.mul_le_mul_of_nonneg_left hn.2 (by omega)
    have b2 : (k : Int) * (-1000000) ≤ (k : Int) * n := Int.mul_le_mul_of_nonneg_left hn.1 (by omega)
    omega
  have bq : ∀ n, zJG n U = true → -1000000 ≤ n ∧ n ≤ 1000000 := fun n hn => by
    have h1 := zDl hu hn
    refine ⟨Int.not_lt.1 fun hl => ?_, Int.not_lt.1 fun hl => ?_⟩
    · have := Int.mul_le_mul_of_nonpos_left (show n ≤ 0 by omega) hu
      omega
    · have := Int.mul_le_mul_of_nonneg_left hu (show 0 ≤ n by omega)
      omega
  refine ⟨?_, ?_, fun b => ?_, fun b j i hj hi => ?_⟩
  · show (⟨scN V U (scN U V q.X), scN V U (scN U V q.Y)⟩ : zJ) = q
    rw [x2, y2]
  · show (okN V U (scN U V q.X) && okN V U (scN U V q.Y)) = true
    rw [x3, y3]; rfl
  · show (⟨w64 (w64 (scN U V q.X * V) + b.X), w64 (w64 (scN U V q.Y * V) + b.Y)⟩ : zJ) = _
    rw [x1, y1]; rfl
  · have a1 := key _ i hi x4
    have a2 := key _ j hj y4
    have a3 := key _ i hi (bq _ hf.1)
    have a4 := key _ j hj (bq _ hf.2)
    show (⟨w64 (b.X + w64 (w64 ((i : Int) * scN U V q.X) * V)), w64 (b.Y + w64 (w64 ((j : Int) * scN U V q.Y) * V))⟩ : zJ) = ⟨w64 (b.X + w64 (w64 ((i : Int) * q.X) * U)), w64 (b.Y + w64 (w64 ((j : Int) * q.Y) * U))⟩
    rw [Ql (x := (i : Int) * scN U V q.X) (by omega) (by omega), Ql (x := (j : Int) * scN U V q.Y) (by omega) (by omega), Ql (x := (i : Int) * q.X) (by omega) (by omega), Ql (x := (j : Int) * q.Y) (by omega) (by omega), Int.mul_assoc, x1, Int.mul_assoc, y1, Int.mul_assoc, Int.mul_assoc]
theorem zLB {U V : Int} {nm : ByteArray} (l : List zV) : zAj nm (l.map (zHm U V)) = zAj nm l := by
  unfold zAj
  have key : ∀ (l : List zV) (i : Int), WJ (fun t : zV => sEq t.Name nm) (l.map (zHm U V)) i = WJ (fun t : zV => sEq t.Name nm) l i := by
    intro l
    induction l with
    | nil => intro i; rfl
    | cons t l ih => intro i; rw [List.map_cons, WJ, WJ, ih]; rfl
  exact key l 0
theorem zS7 {N : Nat} {p : zm} {V : Int} (h : zAB N p) (hv : 1 ≤ V) (ho : p.Tools.all (zTY p.Unit V) = true) : (p.Tools.map (zHm p.Unit V)).map (zHm V p.Unit) = p.Tools ∧ (p.Tools.map (zHm p.Unit V)).all (zTY V p.Unit) = true ∧ Ki (scP p V) = Ki p := by
  have hu := h.unit.1
  have key : ∀ t ∈ p.Tools, ∀ r ∈ t.Rects, zIf V p.Unit (zIf p.Unit V r) = r ∧ zRo V p.Unit (zIf p.Unit V r) = true ∧ scR V (zIf p.Unit V r) = scR p.Unit r := fun t ht r hr => by
    have hok := List.all_eq_true.1 (List.all_eq_true.1 ho t ht) r hr
    unfold zRo at hok
    simp only [Bool.and_eq_true] at hok
    have hz := (zHi (h.tools t ht).2).2.2 r hr
    unfold zLL at hz
    split at hz
    · rename_i hf
      simp only [Bool.and_eq_true] at hf
      obtain ⟨a1, a2, a3, _⟩ := zMJ hu hv hf.1.1.1 hok.1.1
      obtain ⟨b1, b2, b3, _⟩ := zMJ hu hv hf.1.1.2 hok.1.2
      obtain ⟨c1, c2, c3, _⟩ := zMJ hu hv hf.1.2 hok.2.1
      obtain ⟨d1, d2, d3, _⟩ := zMJ hu hv hf.2 hok.2.2
      refine ⟨?_, ?_, ?_⟩
      · show (⟨scN V p.Unit (scN p.Unit V r.X0), scN V p.Unit (scN p.Unit V r.Y0), scN V p.Unit (scN p.Unit V r.X1), scN V p.Unit (scN p.Unit V r.Y1)⟩ : zS) = r
        rw [a2, b2, c2, d2]
      · show ((okN V p.Unit (scN p.Unit V r.X0) && okN V p.Unit (scN p.Unit V r.Y0)) && (okN V p.Unit (scN p.Unit V r.X1) && okN V p.Unit (scN p.Unit V r.Y1))) = true
        rw [a3, b3, c3, d3]; rfl
      · show (⟨scN p.Unit V r.X0 * V, scN p.Unit V r.Y0 * V, scN p.Unit V r.X1 * V, scN p.Unit V r.Y1 * V⟩ : zS) = _
        rw [a1, b1, c1, d1]; rfl
    · cases hz
  refine ⟨?_, ?_, ?_⟩
  · rw [List.map_map]
    refine (List.map_congr_left (g := id) fun t ht => ?_).trans (List.map_id _)
    show (⟨t.Name, (t.Rects.map (zIf p.Unit V)).map (zIf V p.Unit)⟩ : zV) = t
    rw [show (t.Rects.map (zIf p.Unit V)).map (zIf V p.Unit) = t.Rects from by rw [List.map_map]; exact (List.map_congr_left (g := id) fun r hr => (key t ht r hr).1).trans (List.map_id _)]
  · rw [List.all_map, List.all_eq_true]
    intro t ht
    show (t.Rects.map (zIf p.Unit V)).all (zRo V p.Unit) = true
    rw [List.all_map, List.all_eq_true]
    exact fun r hr => (key t ht r hr).2.1
  · show (p.Tools.map (zHm p.Unit V)).map (fun t => t.Rects.map (scR V)) = p.Tools.map fun t => t.Rects.map (scR p.Unit)
    rw [List.map_map]
    refine List.map_congr_left fun t ht => ?_
    show (t.Rects.map (zIf p.Unit V)).map (scR V) = _
    rw [List.map_map]
    exact List.map_congr_left fun r hr => (key t ht r hr).2.2
mutual
def zIh (s : ByteArray) : zG → zG
  | ⟨k, n, a, ps, nx, ny, l⟩ => ⟨k, if k = 3 then s ++ n else n, a, ps, nx, ny, Vt s l⟩
def Vt (s : ByteArray) : List zG → List zG
  | [] => []
  | x :: l => zIh s x :: Vt s l
end
theorem zEN (s : ByteArray) (x : zG) : zIh s x = ⟨x.Kind, if x.Kind = 3 then s ++ x.Name else x.Name, x.At, x.Points, x.NX, x.NY, Vt s x.Steps⟩ := by cases x; rw [zIh]
theorem zHF (s : ByteArray) : Vt s [] = [] := by rw [Vt]
theorem zFy (s : ByteArray) (x : zG) (l : List zG) : Vt s (x :: l) = zIh s x :: Vt s l := by rw [Vt]
theorem zJo (s : ByteArray) : ∀ (l : List zG), (Vt s l).length = l.length
  | [] => by rw [zHF]
  | x :: l => by rw [zFy, List.length_cons, List.length_cons, zJo s l]
theorem zXB {s t : ByteArray} (h : s.size + t.size ≤ 9223372036854775807) : zFA s t = some (s ++ t) := if_pos h
theorem zQu {s : ByteArray} (hs : s.size ≤ 10) {rec : List zG → ByteArray → Option (List zG)} {l0 : List zG} : ∀ (suf acc : List zG) (m : Nat), (acc ++ suf).length = l0.length → l0.length ≤ 4000 →
    (∀ x ∈ suf, x.Points.length ≤ 2000 ∧ x.Name.size ≤ 40 ∧ rec x.Steps s = some (Vt s x.Steps)) → suf.length < m →
    Jp s rec l0 m (acc ++ suf) (acc.length : Int) = some (acc ++ Vt s suf)
  | [], acc, m, hl, h2, h, hm => by
    obtain ⟨m, rfl⟩ : ∃ k, m = k + 1 := ⟨m - 1, by omega⟩
    simp at hl
    rw [Jp, if_neg (by simp; omega), zHF]
  | x :: l, acc, m, hl, h2, h, hm => by
    obtain ⟨m, rfl⟩ : ∃ k, m = k + 1 := ⟨m - 1, by simp at hm; omega⟩
    simp at hm
    have hl' := hl
    simp at hl'
    obtain ⟨hx1, hx2, hx3⟩ := h x List.mem_cons_self
    have hcl : KV x.Points = some x.Points := by
      unfold KV
      rw [zYC (by omega)]; rfl
    have hj : ∀ y : zG, y.Kind = x.Kind → y.Name = x.Name → zBi y s = some (if x.Kind = 3 then s ++ x.Name else x.Name) := fun y h1 h2 => by
      unfold zBi
      rw [h1, h2]
      by_cases h3 : x.Kind = 3
      · rw [if_pos (by simp [h3]), if_pos h3, zXB (by omega)]; rfl
      · rw [if_neg (by simpa using h3), if_neg h3]
    rw [Jp, if_pos (by simp; omega), Kt, Option.bind_some, hcl, Option.bind_some, Option.bind_some, Option.bind_some, hx3, Option.bind_some, Option.bind_some, Option.bind_some, hj ⟨x.Kind, x.Name, x.At, x.Points, x.NX, x.NY, Vt s x.Steps⟩ rfl rfl, Option.bind_some, set_mid]
    have ih := zQu hs (rec := rec) l (acc ++ [zIh s x]) m (by simp; simp at hl; omega) h2 (fun y hy => h y (List.mem_cons_of_mem _ hy)) (by omega)
    rw [show (acc ++ [zIh s x]) ++ l = acc ++ zIh s x :: l by simp, ← zJe _ (zIh s x) (by omega)] at ih
    rw [zEN] at ih
    rw [ih, zFy, zEN, List.append_assoc]; rfl
theorem zR2 {s : ByteArray} (hs : s.size ≤ 10) : ∀ (k : Nat) (l : List zG) (N : Nat), JG l ≤ k → k + 5 ≤ N → zEl 40 l → zAX l ≤ 3000 → WM N l s = some (Vt s l)
  | k, l, N, hk, hN, hg, hn => by
    obtain ⟨N, rfl⟩ : ∃ n, N = n + 1 := ⟨N - 1, by omega⟩
    have hlen := zGX l
    have hnl := zEg l
    have hcl : Jo l = some l := by
      unfold Jo
      rw [zYC (by omega)]; rfl
    show Vn N _ l s = _
    unfold Vn
    rw [hcl, Option.bind_some]
    exact zQu hs l [] N rfl (by omega) (fun x hx => by
      have h1 := zDL hx
      have h2 := Jg x
      have h3 := zI0 hx
      have h4 := zEE x
      have h5 := (zGA 40 x).1 (zMs hg hx)
      cases k with
      | zero => omega
      | succ k => exact ⟨h5.1.1, h5.1.2, zR2 hs k x.Steps N (by omega) (by omega) h5.2 (by omega)⟩) (by omega)
theorem zNs {U V : Int} {nm : Nat} : ∀ (k : Nat) (l : List zG), JG l ≤ k → zEl nm l → zEl nm (Kl U V l) ∧ zAX (Kl U V l) = zAX l
  | k, [], _, _ => by rw [zFi]; exact ⟨zMr _, rfl⟩
  | 0, x :: l, hk, _ => by
    have := Jg x
    rw [Qj] at hk
    omega
  | k + 1, x :: l, hk, hg => by
    have hs := Jg x
    rw [Qj] at hk
    rw [zEK, zGA] at hg
    obtain ⟨i1, i2⟩ := zNs (U := U) (V := V) k l (by omega) hg.2
    obtain ⟨j1, j2⟩ := zNs (U := U) (V := V) k x.Steps (by omega) hg.1.2
    rw [zEC, zEK, zGA, zCQ, zCQ, zEE, zEE, i2]
    rw [zEM]
    refine ⟨⟨⟨?_, j1⟩, i1⟩, ?_⟩
    · unfold zWk at hg ⊢
      simpa using hg.1.1
    · show 1 + zAX (Kl U V x.Steps) + _ = _
      rw [j2]
theorem zUI {N : Nat} {p0 p1 : zm} : ∀ (k : Nat) (a b : Nat) (m : Nat), b ≤ k → b < m → a ≤ 1000 → b ≤ 1000 → 1 ≤ a → Vj N p0 p1 m (a : Int) (b : Int) = JY N ((Nat.gcd a b : Nat) : Int) N [] [] [p0, p1] 0
  | k, a, 0, m, _, hm, _, _, _ => by
    obtain ⟨m, rfl⟩ : ∃ j, m = j + 1 := ⟨m - 1, by omega⟩
    rw [Vj, if_neg (by simp), Nat.gcd_zero_right]
  | 0, a, b + 1, m, h, _, _, _, _ => by omega
  | k + 1, a, b + 1, m, hk, hm, ha, hb, h1 => by
    obtain ⟨m, rfl⟩ : ∃ j, m = j + 1 := ⟨m - 1, by omega⟩
    have hr : a % (b + 1) < b + 1 := Nat.mod_lt _ (by omega)
    have hmd : md (a : Int) ((b + 1 : Nat) : Int) = some (((a % (b + 1) : Nat)) : Int) := by
      unfold md
      rw [if_neg (by omega), Int.tmod_eq_emod_of_nonneg (by omega)]
      rfl
    rw [Vj, if_pos (by simp; omega), hmd, Option.bind_some, zUI k (b + 1) (a % (b + 1)) m (by omega) (by omega) (by omega) (by omega) (by omega), Nat.gcd_comm (b + 1), ← Nat.gcd_rec, Nat.gcd_comm]
def bA : ByteArray := ⟨#[97, 45]⟩
def bB : ByteArray := ⟨#[98, 45]⟩
def zGy (s : ByteArray) (t : zV) : zV := ⟨s ++ t.Name, t.Rects⟩
def zOn : zG := ⟨1, ⟨#[]⟩, ⟨0, 0⟩, [], 0, 0, []⟩
def zEm (a b : zm) : Int := ((Nat.gcd a.Unit.toNat b.Unit.toNat : Nat) : Int)
def Vb (a b : zm) : zm := ⟨zEm a b, (scP a (zEm a b)).Tools.map (zGy bA) ++ (scP b (zEm a b)).Tools.map (zGy bB), Vt bA (scP a (zEm a b)).Steps ++ zOn :: Vt bB (scP b (zEm a b)).Steps⟩
theorem zI4 {N : Nat} {st : List zG} {ps : List zm} {x : Int} {K : List zV → List zG → List zm → Int → Option (zm × Int)} {s : ByteArray} (hs : s.size ≤ 10) {y : zm × Bool} : ∀ (suf : List zV) (i : Nat) (acc : List zV), acc.length + suf.length ≤ 1000000 → (∀ t ∈ suf, t.Name.size ≤ 40) →
    KS N st ps x K s y suf i acc = KS N st ps x K s y [] 0 (acc ++ suf.map (zGy s))
  | [], i, acc, _, _ => by rw [List.map_nil, List.append_nil]; rfl
  | t :: l, i, acc, h, ht => by
    have h1 := ht t List.mem_cons_self
    simp at h
    rw [KS.eq_2, zXB (by omega), Option.bind_some, zBE (by simp; omega), Option.bind_some, zI4 hs l (i + 1) _ (by simp; omega) (fun u hu => ht u (List.mem_cons_of_mem _ hu))]
    rw [List.map_cons, List.append_assoc]; rfl
theorem zWS {s : ByteArray} (hs : s.size ≤ 2) : ∀ (k : Nat) (l : List zG), JG l ≤ k → JG (Vt s l) ≤ 3 * JG l
  | k, [], _ => by rw [zHF, zDK]; omega
  | 0, x :: l, hk => by
    have := Jg x
    rw [Qj] at hk
    omega
  | k + 1, x :: l, hk => by
    have hz := Jg x
    rw [Qj] at hk
    have i1 := zWS hs k l (by omega)
    have i2 := zWS hs k x.Steps (by omega)
    have e : zKj (zIh s x) ≤ 3 * zKj x := by
      rw [zEN, Jg]
      show 1 + (if x.Kind = 3 then s ++ x.Name else x.Name).size + x.Points.length + JG (Vt s x.Steps) ≤ _
      have : (if x.Kind = 3 then s ++ x.Name else x.Name).size ≤ s.size + x.Name.size := by
        split
        · rw [ByteArray.size_append]; omega
        · omega
      omega
    rw [zFy, Qj, Qj]; omega
theorem zRs {s : ByteArray} (hs : s.size ≤ 2) : ∀ (k : Nat) (l : List zG), JG l ≤ k → zFP l → zEl 40 l → zFP (Vt s l)
  | k, [], _, _, _ => by rw [zHF, zFP]; trivial
  | 0, x :: l, hk, _, _ => by
    have := Jg x
    rw [Qj] at hk
    omega
  | k + 1, x :: l, hk, hl, hg => by
    have hz := Jg x
    rw [Qj] at hk
    rw [zEG, zGd] at hl
    rw [zEK, zGA] at hg
    obtain ⟨⟨h1, h2, h3, h4, h5, h6⟩, h7⟩ := hl
    rw [zFy, zEG, zEN, zGd]
    refine ⟨⟨?_, h2, h3, h4, by rw [zJo]; exact h5, zRs hs k x.Steps (by omega) h6 hg.1.2⟩, zRs hs k l (by omega) h7 hg.2⟩
    have h8 : x.Name.size ≤ 40 := hg.1.1.2
    show (if x.Kind = 3 then s ++ x.Name else x.Name).size ≤ 9223372036854775807
    split
    · rw [ByteArray.size_append]; omega
    · omega
theorem zIv (l m : List zG) : JG (l ++ m) = JG l + JG m := by
  induction l with
  | nil => rw [zDK]; simp
  | cons x l ih => rw [List.cons_append, Qj, Qj, ih]; omega
theorem zOk {s : ByteArray} (hs : s.size ≤ 2) (l : List zV) : VE (l.map (zGy s)) ≤ 3 * VE l := by
  induction l with
  | nil => simp [VE]
  | cons t l ih =>
    rw [List.map_cons, VE, VE]
    have : (zGy s t).Name.size = s.size + t.Name.size := ByteArray.size_append
    omega
theorem zOl (l m : List zV) : VE (l ++ m) = VE l + VE m := by
  induction l with
  | nil => simp [VE]
  | cons t l ih => rw [List.cons_append, VE, VE, ih]; omega
theorem zNK {l m : List zG} (h1 : zFP l) (h2 : zFP m) : zFP (l ++ m) := by
  refine zRw fun x hx => ?_
  rcases List.mem_append.1 hx with h | h
  · exact zI1 h1 h
  · exact zI1 h2 h
theorem zPn {a b : zm} (ha : 1 ≤ a.Unit ∧ a.Unit ≤ 1000) (hb : 1 ≤ b.Unit ∧ b.Unit ≤ 1000) : 1 ≤ zEm a b ∧ zEm a b ≤ 1000 ∧ (∃ k, a.Unit = zEm a b * k) ∧ ∃ k, b.Unit = zEm a b * k := by
  unfold zEm
  have h1 : 0 < Nat.gcd a.Unit.toNat b.Unit.toNat := Nat.gcd_pos_of_pos_left _ (by omega)
  have h2 : Nat.gcd a.Unit.toNat b.Unit.toNat ≤ a.Unit.toNat := Nat.gcd_le_left _ (by omega)
  obtain ⟨k, hk⟩ := Nat.gcd_dvd_left a.Unit.toNat b.Unit.toNat
  obtain ⟨j, hj⟩ := Nat.gcd_dvd_right a.Unit.toNat b.Unit.toNat
  refine ⟨by omega, by omega, ⟨(k : Int), ?_⟩, (j : Int), ?_⟩
  · have : ((a.Unit.toNat : Nat) : Int) = ((Nat.gcd a.Unit.toNat b.Unit.toNat * k : Nat) : Int) := congrArg _ hk
    rw [Int.natCast_mul] at this
    omega
  · have : ((b.Unit.toNat : Nat) : Int) = ((Nat.gcd a.Unit.toNat b.Unit.toNat * j : Nat) : Int) := congrArg _ hj
    rw [Int.natCast_mul] at this
    omega
theorem zV2 {N : Nat} {a b : zm} (hFa : Fu a N) (hLa : zK1 a) (hFb : Fu b N) (hLb : zK1 b) (hN : 3 * (JG a.Steps + VE a.Tools + JG b.Steps + VE b.Tools) + 100000 ≤ N) :
    ∃ q e, zC1 N a b = some (q, e) ∧ (e ≠ 0 → q.Unit = 0) ∧ (e = 0 → zAB N a ∧ zAB N b ∧ q = Vb a b ∧ zAB N (Vb a b) ∧ Fu (Vb a b) N ∧ zK1 (Vb a b)) := by
  obtain ⟨e, e1, e2⟩ := zL5 hFa hLa
  obtain ⟨f, f1, f2⟩ := zL5 hFb hLb
  unfold zC1
  rw [e1, Option.bind_some]
  by_cases h : e = 0
  · rw [if_neg (by simpa using h), f1, Option.bind_some]
    by_cases h' : f = 0
    · rw [if_neg (by simpa using h')]
      have hpa := e2.1 h
      have hpb := f2.1 h'
      have ua := hpa.unit
      have ub := hpb.unit
      have hGa := hpa.zab hFa hLa
      have hGb := hpb.zab hFb hLb
      have fa := hGa.few
      have fb := hGb.few
      obtain ⟨g1, g2, _, _⟩ := zPn ua ub
      have hg := zUI (N := N) (p0 := a) (p1 := b) b.Unit.toNat a.Unit.toNat b.Unit.toNat N (Nat.le_refl _) (by omega) (by omega) (by omega) (by omega)
      rw [show ((a.Unit.toNat : Nat) : Int) = a.Unit by omega, show ((b.Unit.toNat : Nat) : Int) = b.Unit by omega] at hg
      rw [hg]
      show ∃ q e, JY N (zEm a b) N [] [] [a, b] 0 = _ ∧ _
      generalize hgu : zEm a b = g at g1 g2
      obtain ⟨M, rfl⟩ : ∃ m, N = m + 3 := ⟨N - 3, by omega⟩
      obtain ⟨a1, a2⟩ := zNs (U := a.Unit) (V := g) _ a.Steps (Nat.le_refl _) hGa.steps
      obtain ⟨b1, b2⟩ := zNs (U := b.Unit) (V := g) _ b.Steps (Nat.le_refl _) hGb.steps
      have sza := zV5 (U := a.Unit) (V := g) _ a.Steps (Nat.le_refl _)
      have szb := zV5 (U := b.Unit) (V := g) _ b.Steps (Nat.le_refl _)
      have na := hGa.nd
      have nb := hGb.nd
      have la := zEg (Kl a.Unit g a.Steps)
      have lb := zEg (Kl b.Unit g b.Steps)
      have hoa := zR2 (s := bA) (by decide) _ (Kl a.Unit g a.Steps) (M + 3) (Nat.le_refl _) (by omega) a1 (by omega)
      have hob := zR2 (s := bB) (by decide) _ (Kl b.Unit g b.Steps) (M + 3) (Nat.le_refl _) (by omega) b1 (by omega)
      have hna : ∀ t ∈ (scP a g).Tools, t.Name.size ≤ 40 := fun t ht => by
        obtain ⟨t0, h0, rfl⟩ := List.mem_map.1 ht
        exact (hGa.tools t0 h0).1
      have hnb : ∀ t ∈ (scP b g).Tools, t.Name.size ≤ 40 := fun t ht => by
        obtain ⟨t0, h0, rfl⟩ := List.mem_map.1 ht
        exact (hGb.tools t0 h0).1
      have hta : (scP a g).Tools.length = a.Tools.length := by show (a.Tools.map _).length = _; simp
      have htb : (scP b g).Tools.length = b.Tools.length := by show (b.Tools.map _).length = _; simp
      have lna := zJo bA (Kl a.Unit g a.Steps)
      have lnb := zJo bB (Kl b.Unit g b.Steps)
      rw [JY, if_pos (by decide)]
      rw [show idx [a, b] 0 = some a from rfl, Option.bind_some, show idx ([⟨#[97, 45]⟩, ⟨#[98, 45]⟩] : List ByteArray) 0 = some bA from rfl, Option.bind_some, zOt hFa hGa (by omega), Option.bind_some,
        zI4 (by decide) _ 0 [] (by simp; omega) hna, KS.eq_1, if_neg (by decide)]
      unfold Vz
      rw [show (scP a g, okP a g).1.Steps = Kl a.Unit g a.Steps from rfl, hoa, Option.bind_some, zBE (by simp; omega), Option.bind_some, show w64 (0 + 1) = 1 by decide, JY, if_pos (by decide)]
      rw [show idx [a, b] 1 = some b from rfl, Option.bind_some, show idx ([⟨#[97, 45]⟩, ⟨#[98, 45]⟩] : List ByteArray) 1 = some bB from rfl, Option.bind_some, zOt hFb hGb (by omega), Option.bind_some,
        zI4 (by decide) _ 0 _ (by simp; omega) hnb, KS.eq_1, if_pos (by decide), zBE (by simp; omega), Option.bind_some]
      unfold Vz
      rw [show (scP b g, okP b g).1.Steps = Kl b.Unit g b.Steps from rfl, hob, Option.bind_some, zBE (by simp; omega), Option.bind_some, show w64 (1 + 1) = 2 by decide, JY, if_neg (by decide)]
      have hj : (⟨g, [] ++ (scP a g, okP a g).1.Tools.map (zGy bA) ++ (scP b g, okP b g).1.Tools.map (zGy bB), [] ++ Vt bA (Kl a.Unit g a.Steps) ++ [⟨1, ⟨#[]⟩, ⟨0, 0⟩, [], 0, 0, []⟩] ++ Vt bB (Kl b.Unit g b.Steps)⟩ : zm) = Vb a b := by
        unfold Vb
        rw [hgu]
        simp [zOn]; rfl
      have z1 := zWS (s := bA) (by decide) _ (Kl a.Unit g a.Steps) (Nat.le_refl _)
      have z2 := zWS (s := bB) (by decide) _ (Kl b.Unit g b.Steps) (Nat.le_refl _)
      have z3 := zOk (s := bA) (by decide) (scP a g).Tools
      have z4 := zOk (s := bB) (by decide) (scP b g).Tools
      have z5 : VE (scP a g).Tools = VE a.Tools := zYk _
      have z6 : VE (scP b g).Tools = VE b.Tools := zYk _
      have hfu : Fu (Vb a b) (M + 3) := by
        rw [← hj]
        unfold Fu
        show JG ([] ++ Vt bA (Kl a.Unit g a.Steps) ++ [⟨1, ⟨#[]⟩, ⟨0, 0⟩, [], 0, 0, []⟩] ++ Vt bB (Kl b.Unit g b.Steps)) + VE ([] ++ (scP a g).Tools.map (zGy bA) ++ (scP b g).Tools.map (zGy bB)) + 10000 ≤ M + 3
        rw [List.nil_append, List.nil_append, zIv, zIv, zOl, Qj, Jg, zDK]
        show JG (Vt bA (Kl a.Unit g a.Steps)) + (1 + (⟨#[]⟩ : ByteArray).size + 0 + JG [] + 0) + _ + _ + 10000 ≤ M + 3
        rw [zDK, show (⟨#[]⟩ : ByteArray).size = 0 from rfl]
        omega
      have hlen : zK1 (Vb a b) := by
        rw [← hj]
        refine ⟨(show J64 g from ⟨by omega, by omega⟩), fun t ht => ?_, by simp; omega, ?_⟩
        · rw [List.nil_append] at ht
          have key : ∀ (s : ByteArray) (p : zm), s.size ≤ 2 → zK1 p → zbK p → t ∈ (scP p g).Tools.map (zGy s) → t.Name.size ≤ 9223372036854775807 ∧ ∀ r ∈ t.Rects, (J64 r.X0 ∧ J64 r.Y0) ∧ J64 r.X1 ∧ J64 r.Y1 := fun s p hs hLp hGp hm => by
            obtain ⟨t1, h1, rfl⟩ := List.mem_map.1 hm
            have h2 := (zbz (V := g) ⟨by omega, by omega⟩ hLp).tools t1 h1
            obtain ⟨t0, h0, rfl⟩ := List.mem_map.1 h1
            have h3 := (hGp.tools t0 h0).1
            refine ⟨?_, h2.2⟩
            show (s ++ t0.Name).size ≤ _
            rw [ByteArray.size_append]; omega
          rcases List.mem_append.1 ht with ht | ht
          · exact key bA a (by decide) hLa hGa ht
          · exact key bB b (by decide) hLb hGb ht
        · have hda : zFP [(⟨1, ⟨#[]⟩, ⟨0, 0⟩, [], 0, 0, []⟩ : zG)] := by
            rw [zEG, zGd]
            have j0 : J64 0 := ⟨by omega, by omega⟩
            exact ⟨⟨by show (0 : Nat) ≤ _; omega, ⟨j0, j0⟩, ⟨by simp, fun q hq => by cases hq⟩, ⟨j0, j0⟩, by simp, by show zFP []; rw [zFP]; trivial⟩, by rw [zFP]; trivial⟩
          rw [List.nil_append]
          exact zNK (zNK (zRs (by decide) _ _ (Nat.le_refl _) (zPA (fun n => zHg _) _ _ (Nat.le_refl _) hLa.steps) a1) hda) (zRs (by decide) _ _ (Nat.le_refl _) (zPA (fun n => zHg _) _ _ (Nat.le_refl _) hLb.steps) b1)
      obtain ⟨c, c1, c2⟩ := zL5 hfu hlen
      unfold zGo
      rw [hj, c1, Option.bind_some]
      by_cases hc : c = 0
      · rw [if_neg (by simpa using hc), Option.bind_some]
        exact ⟨_, _, rfl, fun h => absurd rfl h, fun _ => ⟨hpa, hpb, rfl, c2.1 hc, hfu, hlen⟩⟩
      · rw [if_pos (by simpa using hc), Option.bind_some]
        exact ⟨_, _, rfl, fun _ => rfl, fun h => absurd h hc⟩
    · rw [if_pos (by simpa using h')]
      exact ⟨_, _, rfl, fun _ => rfl, fun h'' => absurd h'' h'⟩
  · rw [if_pos (by simpa using h)]
    exact ⟨_, _, rfl, fun _ => rfl, fun h'' => absurd h'' h⟩
theorem zXE (s t : ByteArray) : (s ++ t).data.toList = s.data.toList ++ t.data.toList := by
  rw [ByteArray.data_append, Array.toList_append]
theorem zhA {s t : ByteArray} (h : s.data.toList = t.data.toList) : s = t := by
  cases s; cases t
  exact congrArg ByteArray.mk (Array.toList_inj.1 h)
theorem zX9 {s x y : ByteArray} (h : s ++ x = s ++ y) : x = y := by
  have := congrArg (fun z => z.data.toList) h
  simp only [zXE] at this
  exact zhA (List.append_cancel_left this)
theorem zlI {x y : ByteArray} (h : bA ++ x = bB ++ y) : False := by
  have := congrArg (fun z => z.data.toList) h
  simp only [zXE] at this
  have e1 : bA.data.toList = [97, 45] := rfl
  have e2 : bB.data.toList = [98, 45] := rfl
  rw [e1, e2] at this
  simp at this
theorem zbl (s x y : ByteArray) : sEq (s ++ x) (s ++ y) = sEq x y := by
  rw [Bool.eq_iff_iff, zFM, zFM]
  exact ⟨zX9, fun h => by rw [h]⟩
theorem zNq (s nm : ByteArray) : ∀ (l : List zV) (i : Int), WJ (fun t : zV => sEq t.Name (s ++ nm)) (l.map (zGy s)) i = WJ (fun t : zV => sEq t.Name nm) l i
  | [], _ => rfl
  | t :: l, i => by
    rw [List.map_cons, WJ, WJ, zNq s nm l]
    show (if sEq (s ++ t.Name) (s ++ nm) then _ else _) = _
    rw [zbl]
theorem zPK {α : Type} {g : α → Bool} : ∀ (l m : List α) (i : Int), (∀ x ∈ l, g x = false) → WJ g (l ++ m) i = WJ g m (i + l.length)
  | [], m, i, _ => by simp
  | x :: l, m, i, h => by
    rw [List.cons_append, WJ, h x List.mem_cons_self, zPK l m (i + 1) (fun y hy => h y (List.mem_cons_of_mem _ hy)), List.length_cons]
    simp only [Bool.false_eq_true, if_false]
    congr 1
    omega
theorem zPJ {α : Type} {g : α → Bool} : ∀ (l m : List α) (i : Int), 0 ≤ i → 0 ≤ WJ g l i → WJ g (l ++ m) i = WJ g l i
  | [], m, i, _, h => by rw [WJ] at h; omega
  | x :: l, m, i, hi, h => by
    rw [List.cons_append, WJ, WJ]
    rw [WJ] at h
    by_cases hx : g x = true
    · rw [if_pos hx, if_pos hx]
    · rw [if_neg hx] at h
      rw [if_neg hx, if_neg hx]
      exact zPJ l m (i + 1) (by omega) h
theorem zPI {α : Type} {g : α → Bool} (c : Int) : ∀ (l : List α) (i : Int), 0 ≤ i → 0 ≤ c → 0 ≤ WJ g l i → WJ g l (i + c) = WJ g l i + c
  | [], i, _, _, h => by rw [WJ] at h; omega
  | x :: l, i, hi, hc, h => by
    rw [WJ, WJ]
    rw [WJ] at h
    by_cases hx : g x = true
    · rw [if_pos hx, if_pos hx]
    · rw [if_neg hx] at h
      rw [if_neg hx, if_neg hx, show i + c + 1 = i + 1 + c by omega]
      exact zPI c l (i + 1) (by omega) hc h
theorem zbg {A B : List zV} {nm : ByteArray} (h : 0 ≤ zAj nm A) : zAj (bA ++ nm) (A.map (zGy bA) ++ B.map (zGy bB)) = zAj nm A := by
  unfold zAj at h ⊢
  rw [zPJ _ _ 0 (Int.le_refl _) (by rw [zNq]; exact h), zNq]
theorem zbf {A B : List zV} {nm : ByteArray} (h : 0 ≤ zAj nm B) : zAj (bB ++ nm) (A.map (zGy bA) ++ B.map (zGy bB)) = zAj nm B + (A.length : Int) := by
  unfold zAj at h ⊢
  rw [zPK _ _ 0 (fun x hx => by
    obtain ⟨t, _, rfl⟩ := List.mem_map.1 hx
    rw [Bool.eq_false_iff]
    intro he
    exact zlI (zFM.1 he)), zNq, List.length_map]
  exact zPI (A.length : Int) B 0 (Int.le_refl _) (by omega) h
theorem zXz {U g k n : Int} (hU : U = g * k) (hu : 1 ≤ U) (hf : zJG n U = true) : okN U g n = true := by
  have h1 := zDl hu hf
  unfold okN
  rw [Ql (by omega) (by omega), hU, show n * (g * k) = (n * k) * g by rw [Int.mul_comm g k, Int.mul_assoc], Int.mul_tmod_left, beq_iff_eq]
theorem zZA {U g k : Int} (hU : U = g * k) (hu : 1 ≤ U) {q : zJ} (hf : zBC q U = true) : zIg U g q = true := by
  unfold zBC at hf
  rw [Bool.and_eq_true] at hf
  unfold zIg
  rw [zXz hU hu hf.1, zXz hU hu hf.2]; rfl
theorem zNp {p : zm} {g k0 : Int} (hU : p.Unit = g * k0) (hu : 1 ≤ p.Unit) : ∀ (k : Nat) (l : List zG) (d : Int), JG l ≤ k → zFX p d l → zGa p.Unit g l = true
  | k, [], _, _, _ => by rw [zQq]
  | 0, x :: l, d, hk, _ => by
    have := Jg x
    rw [Qj] at hk
    omega
  | k + 1, x :: l, d, hk, hv => by
    have hs := Jg x
    rw [Qj] at hk
    rw [zBG, zGm] at hv
    have hx := zJi.1 hv.1.1
    rw [zKo, zNp hU hu k l d (by omega) hv.2, zRn, zNp hU hu k x.Steps (d + 1) (by omega) hv.1.2, zZA hU hu hx.place]
    have : x.Points.all (zIg p.Unit g) = true := by
      rw [List.all_eq_true]
      intro q hq
      by_cases h7 : x.Kind = 7
      · exact zZA hU hu (List.all_eq_true.1 (hx.area h7).1 q hq)
      · rw [hx.points h7] at hq; cases hq
    rw [this]; rfl
theorem zWO {N : Nat} {p : zm} {g k0 : Int} (h : zAB N p) (hU : p.Unit = g * k0) : p.Tools.all (zTY p.Unit g) = true := by
  have hu := h.unit.1
  rw [List.all_eq_true]
  intro t ht
  unfold zTY
  rw [List.all_eq_true]
  intro r hr
  have hz := (zHi (h.tools t ht).2).2.2 r hr
  unfold zLL at hz
  split at hz
  · rename_i hf
    simp only [Bool.and_eq_true] at hf
    unfold zRo
    rw [zXz hU hu hf.1.1.1, zXz hU hu hf.1.1.2, zXz hU hu hf.1.2, zXz hU hu hf.2]; rfl
  · cases hz
theorem zS9 {N : Nat} {a b : zm} (ha : zAB N a) (hb : zAB N b) : Ki (Vb a b) = Ki a ++ Ki b := by
  obtain ⟨g1, g2, ⟨k1, h1⟩, k2, h2⟩ := zPn ha.unit hb.unit
  have t1 := (zS7 ha g1 (zWO ha h1)).2.2
  have t2 := (zS7 hb g1 (zWO hb h2)).2.2
  rw [← t1, ← t2]
  show ((scP a (zEm a b)).Tools.map (zGy bA) ++ (scP b (zEm a b)).Tools.map (zGy bB)).map (fun t => t.Rects.map (scR (zEm a b))) = _
  rw [List.map_append, List.map_map, List.map_map]; rfl
structure zLy (X : List Bd) (o : Int) (s z : MS) : Prop where
  pts : ∀ x y, InB x y s.img ↔ InB x y X ∨ InB x y z.img
  clear : s.clear = z.clear
  cX : X = [] ∨ z.clear = false
  tool : 0 ≤ z.tool → s.tool = z.tool + o
  place : z.placed = true → s.place = z.place ∧ s.placed = true
theorem zL0 {x y : Int} : ¬ InB x y [] := fun ⟨w, h, _⟩ => by simp [rowAt] at h
def zM5 (X : List Bd) (o : Int) (r w : Int × MS) : Prop := w.1 = 0 → (r.1 = 0 ∧ zLy X o r.2 w.2) ∨ (r.1 = 2 ∧ X ≠ [])
section
variable {X : List Bd} {o : Int} {s z : MS}
theorem zam {S : List Bd} (h : zLy X o s z) (hs : zGE s.img) (hz : zGE z.img) (hS : zJX S) : zM5 X o (zNP s S) (zNP z S) := by
  intro h0
  have hc := h.clear
  obtain ⟨_, c2, c3, _⟩ := zSU (c := z.clear) hs.drw hS (Nat.le_refl _)
  obtain ⟨_, d2, d3, _⟩ := zSU (c := z.clear) hz.drw hS (Nat.le_refl _)
  have hp : ∀ x y, InB x y (cmb z.clear s.img S) ↔ InB x y X ∨ InB x y (cmb z.clear z.img S) := fun x y => by
    rw [c3, d3]
    unfold zYJ
    rcases h.cX with hx | hx
    · subst hx
      have hn : ¬ InB x y [] := zL0
      have := h.pts x y
      by_cases hzc : z.clear = true
      · rw [if_pos hzc, if_pos hzc, this]
        exact ⟨fun ⟨a, b⟩ => .inr ⟨a.resolve_left hn, b⟩, fun a => ⟨.inr (a.resolve_left hn).1, (a.resolve_left hn).2⟩⟩
      · rw [if_neg hzc, if_neg hzc, this, or_assoc]
    · rw [hx, if_neg (by simp), if_neg (by simp), h.pts, or_assoc]
  have hl : (QR S).all lim = true := by
    unfold zNP drw at h0
    by_cases hl : (QR S).all lim = true
    · exact hl
    · rw [if_neg hl] at h0; cases h0
  have hf : ¬ 2000 < (QR (cmb z.clear z.img S)).length := by
    unfold zNP drw at h0
    rw [if_pos hl] at h0
    intro hm
    rw [if_pos hm] at h0; cases h0
  unfold zNP drw
  rw [if_pos hl, if_pos hl, if_neg hf, hc]
  by_cases hm : 2000 < (QR (cmb z.clear s.img S)).length
  · rw [if_pos hm]
    refine .inr ⟨rfl, fun hX => ?_⟩
    subst hX
    have : cmb z.clear s.img S = cmb z.clear z.img S := c2.uniq d2 fun x y => by
      rw [hp]
      exact ⟨fun a => a.resolve_left zL0, .inr⟩
    rw [this] at hm
    exact hf hm
  · rw [if_neg hm]
    exact .inl ⟨rfl, hp, rfl, h.cX, h.tool, h.place⟩
theorem zhz (h : zLy X o s z) (a : zJ) : zM5 X o (zAy s a) (zAy z a) := by
  unfold zAy
  cases ptB a
  · intro h0; cases h0
  · exact fun _ => .inl ⟨rfl, h.pts, h.clear, h.cX, h.tool, fun _ => ⟨rfl, rfl⟩⟩
theorem onU (h : zLy X o s z) (a : zJ) : zM5 X o (zEf s a) (zEf z a) := by
  unfold zEf
  cases ptB a
  · intro h0; cases h0
  · exact fun _ => .inl ⟨rfl, h.pts, h.clear, h.cX, h.tool, fun _ => ⟨rfl, rfl⟩⟩
theorem zOs (a : zJ) : (zAy s a).2.img = s.img := by unfold zAy; cases ptB a <;> rfl
theorem zQl (a : zJ) : (zEf s a).2.img = s.img := by unfold zEf; cases ptB a <;> rfl
variable {TS TZ : List (List zS)} (hT : ∀ T ∈ TZ, zFB T) (ho : 0 ≤ o) (hg : ∀ n : Int, 0 ≤ n → n < (TZ.length : Int) → TS.getD (n + o).toNat [] = TZ.getD n.toNat [])
include hg in
theorem swU (h : zLy X o s z) (h0 : 0 ≤ z.tool) (h1 : z.tool < (TZ.length : Int)) (a c : zJ) : swT TS s a c = swT TZ z a c := by
  unfold swT
  rw [h.tool h0, hg _ h0 h1]
include hT ho hg
theorem zgy (h : zLy X o s z) (hs : Wi TS s) (hz : Wi TZ z) (a : zJ) : zM5 X o (zBq TS s a) (zBq TZ z a) := by
  intro h0
  have hr : ¬ z.tool < 0 := fun hn => by
    unfold zBq at h0
    rw [if_pos hn] at h0; cases h0
  have ht := h.tool (by omega)
  have hsw := swU hg h (by omega) hz.tool.2 a a
  unfold zBq at h0 ⊢
  rw [if_neg hr] at h0 ⊢
  rw [if_neg (by omega), hsw]
  by_cases h1 : (zAy z a).1 = 0
  · rw [if_pos h1] at h0 ⊢
    rcases zhz h a h1 with ⟨e1, e2⟩ | ⟨e1, _⟩
    · rw [if_pos e1]
      exact zam e2 (by rw [zOs]; exact hs.img) (by rw [zOs]; exact hz.img) (zJh hT) h0
    · unfold zAy at e1
      cases hp : ptB a
      · rw [hp] at e1; cases e1
      · rw [hp] at e1; cases e1
  · rw [if_neg h1] at h0; exact absurd h0 h1
theorem zh5 (h : zLy X o s z) (hs : Wi TS s) (hz : Wi TZ z) (a : zJ) : zM5 X o (zD4 TS s a) (zD4 TZ z a) := by
  intro h0
  have hr : ¬ (z.tool < 0 ∨ z.placed = false) := fun hn => by
    unfold zD4 at h0
    rw [if_pos hn] at h0; cases h0
  obtain ⟨r1, r2⟩ := not_or.1 hr
  have ht := h.tool (by omega)
  obtain ⟨p1, p2⟩ := h.place (by simpa using r2)
  have hsw := swU hg h (by omega) hz.tool.2 z.place a
  unfold zD4 at h0 ⊢
  rw [if_neg hr] at h0 ⊢
  rw [if_neg (show ¬ (s.tool < 0 ∨ s.placed = false) by rw [p2]; simp; omega), p1, hsw]
  by_cases h2 : a.X ≠ z.place.X ∧ a.Y ≠ z.place.Y
  · rw [if_pos h2] at h0; cases h0
  rw [if_neg h2] at h0 ⊢
  rw [if_neg h2]
  by_cases h1 : (zEf z a).1 = 0
  · rw [if_pos h1] at h0 ⊢
    rcases onU h a h1 with ⟨e1, e2⟩ | ⟨e1, _⟩
    · rw [if_pos e1]
      exact zam e2 (by rw [zQl]; exact hs.img) (by rw [zQl]; exact hz.img) (zJh hT) h0
    · unfold zEf at e1
      cases hp : ptB a
      · rw [hp] at e1; cases e1
      · rw [hp] at e1; cases e1
  · rw [if_neg h1] at h0; exact absurd h0 h1
end
theorem zlN {X : List Bd} {o : Int} {s z : MS} (h : zLy X o s z) (hs : zGE s.img) (hz : zGE z.img) {row : List zJ} (hD : zJX (arB row)) : zM5 X o (zHW s row) (zHW z row) := by
  intro h0
  unfold zHW at h0 ⊢
  by_cases h1 : 2000 < (QR (arB row)).length
  · rw [if_pos h1] at h0; cases h0
  rw [if_neg h1] at h0 ⊢
  by_cases h2 : (row.any fun q => !ptB q) = true
  · rw [if_pos h2] at h0; cases h0
  rw [if_neg h2] at h0 ⊢
  rw [if_neg h1, if_neg h2]
  exact zam h hs hz hD h0
def zRt : Nat → List zG → Prop
  | 0, l => l = []
  | k + 1, l => ∀ x ∈ l, x.Kind ≠ 2 ∧ zRt k x.Steps
theorem zcs {U d : Int} {b : zJ} {l : List zJ} (hu : 1 ≤ U) (hd : d ≤ 5) (hb : zGT d b) (h1 : ∀ q ∈ l, zBC q U = true) (h2 : 4 ≤ l.length ∧ l.length ≤ 2000) (h3 : zMN l l 0 = true) : zJX (arB (l.map fun q => atM U q b)) := by
  obtain ⟨A, a1, a2, a3, a4, a5⟩ := zQB (N := 10000000000) (Nat.le_refl _) (l := l.map fun q => atM U q b) (by
    intro h
    have := List.map_eq_nil_iff.1 h
    rw [this] at h2; simp at h2) (by simpa using h2.2) (fun q hq => by
    obtain ⟨z, hz, rfl⟩ := List.mem_map.1 hq
    obtain ⟨e, b1, b2⟩ := zSZ hu (h1 z hz) hd hb
    unfold zGT at hb
    rw [e]; simp only; omega) (zdk hu h1 hd hb (zTN h3))
  have hA := zbC a2 a5
  have htot := zDE a4
  rw [hA]
  exact ⟨a2, by omega, fun b hb => by have := a4 b hb; omega, Nat.le_trans htot (by have := Nat.mul_le_mul_left 2000 a3; omega)⟩
theorem zHr {p : zm} {TT : List (List zS)} (hT : ∀ T ∈ TT, zFB T) (hl : TT.length = p.Tools.length) (hu : 1 ≤ p.Unit) {l : List zG} {d : Int} {b : zJ} {s : MS} (h0 : 0 ≤ d) (h5 : d ≤ 5) (hv : zFX p d l) (hb : zGT d b) (hi : Wi TT s) : (zAz p TT l b s).1 = 0 → Wi TT (zAz p TT l b s).2 :=
  (zVH hT hl hu (5 - d).toNat d (10000000000 + (5 - d).toNat + 1) l b s (by omega) h0 (by omega) hv hb hi).2
section
variable {p q : zm} {TS TZ : List (List zS)} {X : List Bd} {o : Int} {pre : ByteArray} (hTZ : ∀ T ∈ TZ, zFB T) (hTS : ∀ T ∈ TS, zFB T) (hlZ : TZ.length = p.Tools.length) (hlS : TS.length = q.Tools.length) (ho : 0 ≤ o)
  (hg : ∀ n : Int, 0 ≤ n → n < (TZ.length : Int) → TS.getD (n + o).toNat [] = TZ.getD n.toNat []) (hn : ∀ nm, 0 ≤ zAj nm p.Tools → zAj (pre ++ nm) q.Tools = zAj nm p.Tools + o) (hu : 1 ≤ p.Unit) (hv : 1 ≤ q.Unit)
include hTZ ho hg hn hu hv
theorem zh6 {s z : MS} (h : zLy X o s z) (hs : Wi TS s) (hz : Wi TZ z) {d : Int} (hd : d ≤ 5) {b : zJ} (hb : zGT d b) {x : zG} (hx : zM4 p x d) (ha : zIg p.Unit q.Unit x.At = true) (hp : x.Points.all (zIg p.Unit q.Unit) = true) (hc : X = [] ∨ x.Kind ≠ 2) (h8 : x.Kind ≠ 8) :
    zM5 X o (zKX q TS (zIh pre (zKR p.Unit q.Unit x)) b s) (zKX p TZ x b z) := by
  have h1 := (zOu hu hv hx.place ha).2.2.1 b
  have h2 : (x.Points.map (zED p.Unit q.Unit)).map (fun c => atM q.Unit c b) = x.Points.map fun c => atM p.Unit c b := by
    rw [List.map_map]
    refine List.map_congr_left fun c hcm => ?_
    by_cases h7 : x.Kind = 7
    · exact (zOu hu hv (List.all_eq_true.1 (hx.area h7).1 c hcm) (List.all_eq_true.1 hp c hcm)).2.2.1 b
    · rw [hx.points h7] at hcm; cases hcm
  have hk := hx.kind
  rw [zEN, zEM]
  unfold zKX
  show zM5 X o (if x.Kind = 1 ∨ x.Kind = 2 then _ else if x.Kind = 3 then (0, { s with tool := zAj (if x.Kind = 3 then pre ++ x.Name else x.Name) q.Tools }) else if x.Kind = 4 then zAy s (atM q.Unit (zED p.Unit q.Unit x.At) b) else if x.Kind = 5 then zBq TS s (atM q.Unit (zED p.Unit q.Unit x.At) b) else if x.Kind = 6 then zD4 TS s (atM q.Unit (zED p.Unit q.Unit x.At) b) else if x.Kind = 7 then zHW s ((x.Points.map (zED p.Unit q.Unit)).map fun c => atM q.Unit c b) else (0, s)) _
  rw [h1, h2]
  by_cases h12 : x.Kind = 1 ∨ x.Kind = 2
  · rw [if_pos h12, if_pos h12]
    refine fun _ => .inl ⟨rfl, h.pts, rfl, ?_, h.tool, h.place⟩
    rcases hc with hc | hc
    · exact .inl hc
    · exact .inr (by show (x.Kind == 2) = false; simpa using hc)
  rw [if_neg h12, if_neg h12]
  by_cases h3 : x.Kind = 3
  · rw [if_pos h3, if_pos h3, if_pos h3, hn _ (hx.tool h3)]
    exact fun _ => .inl ⟨rfl, h.pts, h.clear, h.cX, fun _ => rfl, h.place⟩
  rw [if_neg h3, if_neg h3]
  by_cases h4 : x.Kind = 4
  · rw [if_pos h4, if_pos h4]
    exact zhz h _
  rw [if_neg h4, if_neg h4]
  by_cases h5 : x.Kind = 5
  · rw [if_pos h5, if_pos h5]
    exact zgy hTZ ho hg h hs hz _
  rw [if_neg h5, if_neg h5]
  by_cases h6 : x.Kind = 6
  · rw [if_pos h6, if_pos h6]
    exact zh5 hTZ ho hg h hs hz _
  rw [if_neg h6, if_neg h6]
  have h7 : x.Kind = 7 := by omega
  rw [if_pos h7, if_pos h7]
  obtain ⟨a1, a2, a3, a4⟩ := hx.area h7
  exact zlN h hs.img hz.img (zcs hu hd hb (List.all_eq_true.1 a1) ⟨a2, a3⟩ a4)
omit hTZ ho hg hn hu hv in
theorem zZS {β : Type} {f g : β → MS → Int × MS} {IS IZ : MS → Prop} : ∀ {l : List β} {s z : MS}, (∀ c ∈ l, ∀ s z, zLy X o s z → IS s → IZ z → zM5 X o (f c s) (g c z) ∧ ((f c s).1 = 0 → IS (f c s).2) ∧ ((g c z).1 = 0 → IZ (g c z).2)) → zLy X o s z → IS s → IZ z → zM5 X o (zDe f l s) (zDe g l z)
  | [], _, _, _, h, _, _ => fun _ => .inl ⟨rfl, h⟩
  | c :: l, s, z, hf, h, h1, h2 => by
    obtain ⟨r1, r2, r3⟩ := hf c List.mem_cons_self s z h h1 h2
    intro h0
    rw [zDe] at h0
    by_cases hz : (g c z).1 = 0
    · rw [if_pos hz] at h0
      rcases r1 hz with ⟨e1, e2⟩ | ⟨e1, e2⟩
      · have := zZS (fun c hc => hf c (List.mem_cons_of_mem _ hc)) e2 (r2 e1) (r3 hz) h0
        rw [zDe, zDe, if_pos e1, if_pos hz]
        exact this
      · rw [zDe, if_neg (by omega)]
        exact .inr ⟨e1, e2⟩
    · rw [if_neg hz] at h0; exact absurd h0 hz
include hTS hlZ hlS
theorem zbn : ∀ (k : Nat) (l : List zG) (d : Int) (b : zJ) (s z : MS), JG l ≤ k → 0 ≤ d → d ≤ 5 → zFX p d l → zFX q d (Vt pre (Kl p.Unit q.Unit l)) → zGa p.Unit q.Unit l = true → (X = [] ∨ ∃ m, zRt m l) → zGT d b → zLy X o s z → Wi TS s → Wi TZ z →
    zM5 X o (zAz q TS (Vt pre (Kl p.Unit q.Unit l)) b s) (zAz p TZ l b z)
  | k, [], d, b, s, z, _, _, _, _, _, _, _, _, h, _, _ => by
    rw [zFi, zHF, zHB, zHB]
    exact fun _ => .inl ⟨rfl, h⟩
  | 0, x :: l, d, b, s, z, hk, _, _, _, _, _, _, _, _, _, _ => by
    have := Jg x
    rw [Qj] at hk
    omega
  | k + 1, x :: l, d, b, s, z, hk, h0, h5, hvp, hvq, hok, hcl, hb, h, hs, hz => by
    have hsz := Jg x
    rw [Qj] at hk
    have hvp' := (zBG p d x l).1 hvp
    rw [zEC, zFy] at hvq ⊢
    have hvq' := (zBG q d _ _).1 hvq
    have hx1 := (zGm p d x).1 hvp'.1
    have hx2 := (zGm q d _).1 hvq'.1
    have hx := zJi.1 hx1.1
    rw [zKo, Bool.and_eq_true, zRn, Bool.and_eq_true, Bool.and_eq_true] at hok
    have hcx : X = [] ∨ x.Kind ≠ 2 := hcl.imp id fun ⟨m, hm⟩ => by
      cases m with
      | zero => cases hm
      | succ m => exact (hm x List.mem_cons_self).1
    have hcs : X = [] ∨ ∃ m, zRt m x.Steps := hcl.imp id fun ⟨m, hm⟩ => by
      cases m with
      | zero => cases hm
      | succ m => exact ⟨m, (hm x List.mem_cons_self).2⟩
    have hcl' : X = [] ∨ ∃ m, zRt m l := hcl.imp id fun ⟨m, hm⟩ => by
      cases m with
      | zero => cases hm
      | succ m => exact ⟨m + 1, fun y hy => hm y (List.mem_cons_of_mem _ hy)⟩
    have hst : (zIh pre (zKR p.Unit q.Unit x)).Steps = Vt pre (Kl p.Unit q.Unit x.Steps) := by rw [zEN, zEM]
    have hkd : (zIh pre (zKR p.Unit q.Unit x)).Kind = x.Kind := by rw [zEN, zEM]
    have hstep : zM5 X o (zCh q TS (zIh pre (zKR p.Unit q.Unit x)) b s) (zCh p TZ x b z) := by
      rw [zLD, zLD, hkd]
      by_cases h8 : x.Kind = 8
      · rw [if_pos h8, if_pos h8, hst]
        obtain ⟨t1, t2, _, t4⟩ := hx.times h8
        have hnx : (zIh pre (zKR p.Unit q.Unit x)).NX = x.NX := by rw [zEN, zEM]
        have hny : (zIh pre (zKR p.Unit q.Unit x)).NY = x.NY := by rw [zEN, zEM]
        have hat : (zIh pre (zKR p.Unit q.Unit x)).At = zED p.Unit q.Unit x.At := by rw [zEN, zEM]
        rw [hnx, hny, hat]
        have hv2 : zFX q (d + 1) (Vt pre (Kl p.Unit q.Unit x.Steps)) := by rw [← hst]; exact hx2.2
        have hby := (zOu hu hv hx.place hok.1.1.1).2.2.2
        have one : ∀ (j i : Nat), j < 100 → i < 100 → ∀ s z, zLy X o s z → Wi TS s → Wi TZ z → zM5 X o (zAz q TS (Vt pre (Kl p.Unit q.Unit x.Steps)) (byM q.Unit b (zED p.Unit q.Unit x.At) j i) s) (zAz p TZ x.Steps (byM p.Unit b x.At j i) z) ∧ ((zAz q TS (Vt pre (Kl p.Unit q.Unit x.Steps)) (byM q.Unit b (zED p.Unit q.Unit x.At) j i) s).1 = 0 → Wi TS (zAz q TS (Vt pre (Kl p.Unit q.Unit x.Steps)) (byM q.Unit b (zED p.Unit q.Unit x.At) j i) s).2) ∧ ((zAz p TZ x.Steps (byM p.Unit b x.At j i) z).1 = 0 → Wi TZ (zAz p TZ x.Steps (byM p.Unit b x.At j i) z).2) := fun j i hj hi s z h hs hz => by
          have hbb := (zSX hu hx.place ⟨h0, t4⟩ hb hj hi).2
          rw [hby b j i hj hi]
          exact ⟨zbn k x.Steps (d + 1) _ s z (by omega) (by omega) (by omega) hx1.2 hv2 hok.1.1.2 hcs hbb h hs hz, zHr hTS hlS hv (by omega) (by omega) hv2 hbb hs, zHr hTZ hlZ hu (by omega) (by omega) hx1.2 hbb hz⟩
        have hinv : ∀ {p : zm} {TT : List (List zS)} {l : List zG} {U : Int} {at_ : zJ} (hone : ∀ (j i : Nat), j < 100 → i < 100 → ∀ s, Wi TT s → (zAz p TT l (byM U b at_ j i) s).1 = 0 → Wi TT (zAz p TT l (byM U b at_ j i) s).2) (j : Nat), j < 100 → ∀ (L : List Nat), (∀ i ∈ L, i < 100) → ∀ s, Wi TT s → (zDe (fun i s => zAz p TT l (byM U b at_ j i) s) L s).1 = 0 → Wi TT (zDe (fun i s => zAz p TT l (byM U b at_ j i) s) L s).2 := by
          intro p TT l U at_ hone j hj L
          induction L with
          | nil => intro _ s hs _; exact hs
          | cons i L ih =>
            intro hL s hs he
            rw [zDe] at he ⊢
            by_cases h1 : (zAz p TT l (byM U b at_ j i) s).1 = 0
            · rw [if_pos h1] at he ⊢
              exact ih (fun i hi => hL i (List.mem_cons_of_mem _ hi)) _ (hone j i hj (hL i List.mem_cons_self) s hs h1) he
            · rw [if_neg h1] at he; exact absurd he h1
        refine zZS (IS := Wi TS) (IZ := Wi TZ) (fun j hj s z h hs hz => ?_) h hs hz
        have hj' := List.mem_range'.1 hj
        refine ⟨zZS (IS := Wi TS) (IZ := Wi TZ) (fun i hi s z h hs hz => ?_) h hs hz, ?_, ?_⟩
        · have hi' := List.mem_range'.1 hi
          exact one j i (by omega) (by omega) s z h hs hz
        · exact hinv (fun j i hj hi s hs => zHr hTS hlS hv (by omega) (by omega) hv2 (by rw [hby b j i hj hi]; exact (zSX hu hx.place ⟨h0, t4⟩ hb hj hi).2) hs) j (by omega) _ (fun i hi => by have := List.mem_range'.1 hi; omega) s hs
        · exact hinv (fun j i hj hi s hs => zHr hTZ hlZ hu (by omega) (by omega) hx1.2 (zSX hu hx.place ⟨h0, t4⟩ hb hj hi).2 hs) j (by omega) _ (fun i hi => by have := List.mem_range'.1 hi; omega) z hz
      · rw [if_neg h8, if_neg h8]
        exact zh6 hTZ ho hg hn hu hv h hs hz h5 hb hx hok.1.1.1 hok.1.2 hcx h8
    have is : (zCh q TS (zIh pre (zKR p.Unit q.Unit x)) b s).1 = 0 → Wi TS (zCh q TS (zIh pre (zKR p.Unit q.Unit x)) b s).2 := fun he => by
      have := zHr hTS hlS hv h0 h5 ((zBG q d _ []).2 ⟨hvq'.1, zJQ q d⟩) hb hs
      rw [zBj, if_pos he, zHB] at this
      exact this rfl
    have iz : (zCh p TZ x b z).1 = 0 → Wi TZ (zCh p TZ x b z).2 := fun he => by
      have := zHr hTZ hlZ hu h0 h5 ((zBG p d _ []).2 ⟨hvp'.1, zJQ p d⟩) hb hz
      rw [zBj, if_pos he, zHB] at this
      exact this rfl
    intro hw
    rw [zBj] at hw
    by_cases hz0 : (zCh p TZ x b z).1 = 0
    · rw [if_pos hz0] at hw
      rcases hstep hz0 with ⟨e1, e2⟩ | ⟨e1, e2⟩
      · have := zbn k l d b _ _ (by omega) h0 h5 hvp'.2 hvq'.2 hok.2 hcl' hb e2 (is e1) (iz hz0) hw
        rw [zBj, zBj, if_pos e1, if_pos hz0]
        exact this
      · rw [zBj, if_neg (by omega)]
        exact .inr ⟨e1, e2⟩
    · rw [if_neg hz0] at hw; exact absurd hw hz0
end
theorem zUg {p : zm} {d : Int} {l m : List zG} (h : zFX p d (l ++ m)) : zFX p d l ∧ zFX p d m := by
  rw [zLv] at h
  rw [zLv, zLv]
  exact ⟨fun x hx => h x (List.mem_append_left _ hx), fun x hx => h x (List.mem_append_right _ hx)⟩
theorem zNF (p : zm) (TT : List (List zS)) (b : zJ) : ∀ (a l : List zG) (s : MS), zAz p TT (a ++ l) b s = if (zAz p TT a b s).1 = 0 then zAz p TT l b (zAz p TT a b s).2 else zAz p TT a b s
  | [], l, s => by rw [zHB]; rfl
  | x :: a, l, s => by
    rw [List.cons_append, zBj, zBj]
    by_cases h : (zCh p TT x b s).1 = 0
    · rw [if_pos h, if_pos h, zNF p TT b a l]
    · rw [if_neg h, if_neg h, if_neg h]
theorem zZR {N : Nat} {a b : zm} (ha : zAB N a) (hb : zAB N b) (hj : zAB N (Vb a b)) (h1 : (zDG a).1 = 0) (h2 : (zDG b).1 = 0) (hc : ∃ m, zRt m b.Steps) :
    (zDG (Vb a b)).1 = 2 ∨ ((zDG (Vb a b)).1 = 0 ∧ ∀ x y, InB x y (zDG (Vb a b)).2.img ↔ InB x y (zDG a).2.img ∨ InB x y (zDG b).2.img) := by
  obtain ⟨g1, g2, ⟨k1, e1⟩, k2, e2⟩ := zPn ha.unit hb.unit
  have hTT := zS9 ha hb
  have hTa : (Ki a).length = a.Tools.length := by unfold Ki; simp
  have hTb : (Ki b).length = b.Tools.length := by unfold Ki; simp
  have hTj : (Ki (Vb a b)).length = (Vb a b).Tools.length := by unfold Ki; simp
  obtain ⟨v1, v2⟩ := zUg (show zFX (Vb a b) 0 (Vt bA (Kl a.Unit (zEm a b) a.Steps) ++ zOn :: Vt bB (Kl b.Unit (zEm a b) b.Steps)) from hj.steps)
  have v3 := ((zBG _ _ _ _).1 v2).2
  have by0 : zGT 0 ⟨0, 0⟩ := by unfold zGT; simp
  have hA := zbn (p := a) (q := Vb a b) (TS := Ki (Vb a b)) (TZ := Ki a) (X := []) (o := 0) (pre := bA) ha.Ki hj.Ki hTa hTj (Int.le_refl _) (fun n hn hl => by
    rw [hTT, Int.add_zero, List.getD_eq_getElem?_getD, List.getD_eq_getElem?_getD, List.getElem?_append_left (by omega)]) (fun nm hn => by
    show zAj (bA ++ nm) ((a.Tools.map (zHm a.Unit (zEm a b))).map (zGy bA) ++ (b.Tools.map (zHm b.Unit (zEm a b))).map (zGy bB)) = _
    rw [zbg (by rw [zLB]; exact hn), zLB, Int.add_zero]) ha.unit.1 g1 _ a.Steps 0 ⟨0, 0⟩ zBp zBp (Nat.le_refl _) (by omega) (by omega) ha.steps v1 (zNp e1 ha.unit.1 _ a.Steps 0 (Nat.le_refl _) ha.steps) (.inl rfl) by0 ⟨fun x y => ⟨.inr, fun h => h.resolve_left zL0⟩, rfl, .inl rfl, fun h => by simp [zBp] at h, fun h => by cases h⟩ (zI5 _) (zI5 _) h1
  have hij : zDG (Vb a b) = zAz (Vb a b) (Ki (Vb a b)) (Vt bA (Kl a.Unit (zEm a b) a.Steps) ++ zOn :: Vt bB (Kl b.Unit (zEm a b) b.Steps)) ⟨0, 0⟩ zBp := rfl
  rw [hij, zNF]
  have hinv := zHr hj.Ki hTj hj.unit.1 (Int.le_refl 0) (by omega) v1 by0 (zI5 (Ki (Vb a b)))
  have hA' : (zAz (Vb a b) (Ki (Vb a b)) (Vt bA (Kl a.Unit (zEm a b) a.Steps)) ⟨0, 0⟩ zBp).1 = 0 ∧ zLy [] 0 (zAz (Vb a b) (Ki (Vb a b)) (Vt bA (Kl a.Unit (zEm a b) a.Steps)) ⟨0, 0⟩ zBp).2 (zDG a).2 := by
    rcases hA with h | ⟨_, h⟩
    · exact h
    · exact absurd rfl h
  generalize hr : zAz (Vb a b) (Ki (Vb a b)) (Vt bA (Kl a.Unit (zEm a b) a.Steps)) ⟨0, 0⟩ zBp = r at hA' hinv
  obtain ⟨r1, r2⟩ := hA'
  rw [if_pos r1, zBj]
  have hd : zCh (Vb a b) (Ki (Vb a b)) zOn ⟨0, 0⟩ r.2 = (0, { r.2 with clear := false }) := by
    rw [zLD, if_neg (by decide)]
    unfold zKX
    rw [if_pos (.inl rfl)]
    rfl
  rw [hd, if_pos rfl]
  have hri := hinv r1
  have hB := zbn (p := b) (q := Vb a b) (TS := Ki (Vb a b)) (TZ := Ki b) (X := (zDG a).2.img) (o := (a.Tools.length : Int)) (pre := bB) hb.Ki hj.Ki hTb hTj (by omega) (fun n hn hl => by
    rw [hTT, List.getD_eq_getElem?_getD, List.getD_eq_getElem?_getD, List.getElem?_append_right (by omega), show (n + (a.Tools.length : Int)).toNat - (Ki a).length = n.toNat by omega]) (fun nm hn => by
    show zAj (bB ++ nm) ((a.Tools.map (zHm a.Unit (zEm a b))).map (zGy bA) ++ (b.Tools.map (zHm b.Unit (zEm a b))).map (zGy bB)) = _
    rw [zbf (by rw [zLB]; exact hn), zLB, List.length_map]) hb.unit.1 g1 _ b.Steps 0 ⟨0, 0⟩ { r.2 with clear := false } zBp (Nat.le_refl _) (by omega) (by omega) hb.steps v3 (zNp e2 hb.unit.1 _ b.Steps 0 (Nat.le_refl _) hb.steps) (.inr hc) by0 ⟨fun x y => by
      rw [show ({ r.2 with clear := false } : MS).img = r.2.img from rfl, r2.pts]
      exact ⟨fun h => .inl (h.resolve_left zL0), fun h => .inr (h.resolve_right zL0)⟩, rfl, .inr rfl, fun h => by simp [zBp] at h, fun h => by cases h⟩ ⟨hri.img, hri.tool, hri.place⟩ (zI5 _) h2
  rcases hB with ⟨b1, b2⟩ | ⟨b1, _⟩
  · exact .inr ⟨b1, b2.pts⟩
  · exact .inl b1
theorem zRN : ∀ (k : Nat) (l : List zG) (N : Nat), JG l ≤ k → k + 5 ≤ N → k ≤ 4000000000000000000 → ∃ c, KZ N l = some c ∧ (c = false → zRt (k + 1) l)
  | k, l, N, hk, hN, hb => by
    obtain ⟨N, rfl⟩ : ∃ n, N = n + 1 := ⟨N - 1, by omega⟩
    have hlen := zGX l
    show ∃ c, VX N _ l = some c ∧ _
    unfold VX
    have key : ∀ (suf pre : List zG) (m : Nat), l = pre ++ suf → suf.length < m → (∀ x ∈ pre, x.Kind ≠ 2 ∧ zRt k x.Steps) → ∃ c, JZ l (KZ N) m (pre.length : Int) = some c ∧ (c = false → zRt (k + 1) l) := by
      intro suf
      induction suf with
      | nil =>
        intro pre m he hm hp
        obtain ⟨m, rfl⟩ : ∃ j, m = j + 1 := ⟨m - 1, by omega⟩
        rw [List.append_nil] at he
        rw [JZ, if_neg (by rw [he]; simp)]
        exact ⟨_, rfl, fun _ => by rw [he]; exact hp⟩
      | cons x suf ih =>
        intro pre m he hm hp
        obtain ⟨m, rfl⟩ : ∃ j, m = j + 1 := ⟨m - 1, by omega⟩
        have hl : l.length = pre.length + (suf.length + 1) := by rw [he]; simp
        have hx : x ∈ l := by rw [he]; simp
        have hsz := zDL hx
        have hz := Jg x
        simp at hm
        have hi : idx l (pre.length : Int) = some x := by rw [he]; exact Kt _ _ _
        rw [JZ, if_pos (by simp; omega), hi, Option.bind_some]
        by_cases h2 : x.Kind = 2
        · rw [if_pos (by simp [h2]), Option.bind_some, if_pos rfl]
          exact ⟨_, rfl, fun h => by cases h⟩
        · rw [if_neg (by simpa using h2), Option.bind_some]
          obtain ⟨c, c1, c2⟩ : ∃ c, KZ N x.Steps = some c ∧ (c = false → zRt k x.Steps) := by
            cases k with
            | zero => omega
            | succ k => exact zRN k x.Steps N (by omega) (by omega) (by omega)
          rw [c1, Option.bind_some, Option.bind_some]
          cases c
          · rw [if_neg (by simp)]
            have := ih (pre ++ [x]) m (by rw [he]; simp) (by omega) (fun y hy => by
              rcases List.mem_append.1 hy with hy | hy
              · exact hp y hy
              · simp at hy; subst hy; exact ⟨h2, c2 rfl⟩)
            rw [zJe _ x (by omega)]
            exact this
          · rw [if_pos rfl]
            exact ⟨_, rfl, fun h => by cases h⟩
    exact key l [] N rfl (by omega) (fun x hx => by cases hx)
theorem zYc {N : Nat} (hN : 10000000000 ≤ N) {C : List Bd} (h : BOk C) (h2 : (QR C).length ≤ 1000000000000) : zAq N (C.map toP) = some (zTA C) := by
  unfold zAq zTA
  rw [zSb (by omega), Option.bind_some]
  by_cases hm : 2000 < (QR C).length
  · rw [if_pos (by simp; omega), if_pos hm]
  · have hle := h.le
    rw [if_neg (by simp; omega), if_neg hm, zEp hN ⟨by omega, fun b hb => by have := zKl hb; omega, by omega⟩, Option.bind_some]
theorem zYD {N : Nat} (hN : 20000000000 ≤ N) {I J : List Bd} (hI : zGE I) (hJ : zGE J) : ∃ C, BOk C ∧ (∀ x y, InB x y C ↔ InB x y I ∨ InB x y J) ∧ zBl N (QR I) (QR J) = some (zTA C) := by
  obtain ⟨C, c1, c2, c3, c4⟩ := zY9 (N := N) (by omega) hI.ok hJ.ok hI.drw.row hJ.drw.row hI.drw.few hJ.drw.few
  have hreg : ∀ {I : List Bd}, zGE I → zHC (QR I) = 0 ∧ VW N (QR I) = some (I.map toP) := fun {I} h => by
    refine ⟨zXs h.ok ((zLT h.ok).1 h.lim) h.few, ?_⟩
    have hr := zOz h.ok ((zLT h.ok).1 h.lim)
    rw [zLw (by omega) (by have := h.few; omega) (fun r hr' => (hr r hr').r9), zIx h.ok]
  obtain ⟨i1, i2⟩ := hreg hI
  obtain ⟨j1, j2⟩ := hreg hJ
  refine ⟨C, c2, c3, ?_⟩
  unfold zBl zC8
  rw [zJY (by omega), i1, Option.bind_some, if_neg (by simp), zJY (by omega), j1, Option.bind_some, if_neg (by simp), i2, Option.bind_some, j2, Option.bind_some, c1, Option.bind_some, zYc (by omega) c2 c4, Option.bind_some, Option.bind_some]
end Go.Proofs.YtoageaoknnnfbaaGreatDoor
