/- What a closed row goes around, as the program finds it. Plain Lean about the plain functions. Conditions: none beyond each theorem's own. The machine that draws plots: what it does, step by step, as a total function. Plain Lean about the plain functions. Conditions: none beyond each theorem's own. The machine that draws plots: the program's run is the total function's. Plain Lean about the plain functions. Conditions: none beyond each theorem's own. The machine that draws plots: images, needless steps. Plain Lean about the plain functions. Conditions: none beyond each theorem's own. Plots in another unit: what the program and the reference compute. Plain. Conditions: none beyond each theorem's own. Plots: a plot is the same as itself. Plain. Conditions: none beyond each theorem's own. Plots in another unit: sizes of the scaled plot. Plain. Conditions: none beyond each theorem's own. Plots in another unit draw the same. Plain Lean about the plain functions. Conditions: none beyond each theorem's own. -/
import Derived.Test.YtoageaoknnnfbaaGreatDoorJ3
namespace Go.Proofs.YtoageaoknnnfbaaGreatDoor
theorem stk_len (xs : List Int) (x : Int) : (stk xs x).length ≤ xs.length + 1 := by
  unfold stk
  split
  · rw [List.length_dropLast]; omega
  · simp
theorem canc_len_go : ∀ (l xs : List Int), (l.foldl stk xs).length ≤ xs.length + l.length
  | [], xs => by simp
  | x :: l, xs => by
    have h1 := stk_len xs x
    have h2 := canc_len_go l (stk xs x)
    rw [List.foldl_cons, List.length_cons]; omega
theorem canc_len (l : List Int) : (canc l).length ≤ l.length := by
  have := canc_len_go l []
  unfold canc
  simpa using this
theorem zII {ys : List Int} {out : List zV} {k : Nat} {K : List zV → Int → Option (List zV)} {a b : Int} (ha : idx ys (k : Int) = some a) (hb : idx ys (w64 ((k : Int) + 1)) = some b) : ∀ (suf : List zT) (i : Nat) (xs : List Int), xs.length + suf.length ≤ 1000000 →
    JX ys out (k : Int) K suf i xs = (JG out ⟨a, b, (zCf suf a).foldl stk xs⟩).bind fun y => K y (w64 ((k : Int) + 1))
  | [], i, xs, _ => by
    rw [JX, ha, Option.bind_some, hb, Option.bind_some]; rfl
  | s :: l, i, xs, h => by
    simp at h
    rw [JX, ha, Option.bind_some]
    by_cases hc : s.Y0 ≤ a ∧ a < s.Y1
    · have e1 : zCf (s :: l) a = s.X0 :: zCf l a := by
        unfold zCf
        rw [List.filter_cons, if_pos (by simpa using hc)]; rfl
      rw [if_neg (by simp <;> omega), Option.bind_some, Option.bind_some, if_neg (by simp <;> omega), e1, List.foldl_cons]
      rcases List.eq_nil_or_concat xs with hx | ⟨zs, z, hx⟩
      · subst hx
        rw [if_neg (by simp), Option.bind_some, if_neg (by simp), zCI (by simp), Option.bind_some, zII ha hb l (i + 1) _ (by simp <;> omega)]
        rfl
      · rw [List.concat_eq_append] at hx
        subst hx
        simp at h
        have hz : idx (zs ++ [z]) (w64 (((zs ++ [z]).length : Int) - 1)) = some z := by
          rw [Qa (by simp <;> omega) (by simp <;> omega), show ((zs ++ [z]).length : Int) - 1 = (zs.length : Int) by simp]
          exact KI zs [] z
        rw [if_pos (by simp), hz, Option.bind_some, Option.bind_some]
        by_cases he : z = s.X0
        · have hp : pre (zs ++ [z]) (w64 (((zs ++ [z]).length : Int) - 1)) = some zs := by
            rw [Qa (by simp <;> omega) (by simp <;> omega), show ((zs ++ [z]).length : Int) - 1 = (zs.length : Int) by simp]
            unfold pre
            rw [if_pos ⟨by omega, by simp <;> omega⟩]
            simp
          rw [if_pos (by simpa using he), hp, Option.bind_some, zII ha hb l (i + 1) _ (by omega)]
          unfold stk
          rw [if_pos (by simp [he]), List.dropLast_concat]
        · rw [if_neg (by simpa using he), zCI (by simp <;> omega), Option.bind_some, zII ha hb l (i + 1) _ (by simp <;> omega)]
          have : stk (zs ++ [z]) s.X0 = zs ++ [z] ++ [s.X0] := by unfold stk; rw [if_neg (by simp [he])]
          rw [this]
    · have e1 : zCf (s :: l) a = zCf l a := by
        unfold zCf
        rw [List.filter_cons, if_neg (by simpa using hc)]
      rw [e1]
      by_cases h0 : a < s.Y0
      · rw [if_pos (decide_eq_true h0), Option.bind_some, if_pos rfl, zII ha hb l (i + 1) _ (by omega)]
      · rw [if_neg (by simpa using h0), Option.bind_some, Option.bind_some, if_pos (by simp <;> omega), zII ha hb l (i + 1) _ (by omega)]
theorem bands_loop {ys : List Int} {up : List zT} (hy : ys.Pairwise fun x y => x < y) (hs : up.Pairwise fun a b => a.X0 ≤ b.X0) (hev : ∀ y, (zCf up y).length % 2 = 0) (hl : ys.length ≤ 100000) (hu : up.length ≤ 100000) : ∀ (suf pre : List Int) (m : Nat) (out : List Bd), ys = pre ++ suf → suf.length < m → out.length + suf.length ≤ 1000000 →
    JY ys up m (out.map toP) (pre.length : Int) = some ((zBt (fA up) suf out).map toP)
  | [], pre, m, out, he, hm, _ => by
    obtain ⟨m, rfl⟩ : ∃ k, m = k + 1 := ⟨m - 1, by omega⟩
    have hlen : ys.length = pre.length := by rw [he]; simp
    rw [JY, if_neg (by rw [Qa (by omega) (by omega)]; simp; omega)]
    rfl
  | [a], pre, m, out, he, hm, _ => by
    obtain ⟨m, rfl⟩ : ∃ k, m = k + 1 := ⟨m - 1, by omega⟩
    have hlen : ys.length = pre.length + 1 := by rw [he]; simp
    rw [JY, if_neg (by rw [Qa (by omega) (by omega)]; simp; omega)]
    rfl
  | a :: b :: l, pre, m, out, he, hm, ho => by
    obtain ⟨m, rfl⟩ : ∃ k, m = k + 1 := ⟨m - 1, by simp at hm; omega⟩
    simp at hm ho
    have hlen : ys.length = pre.length + (l.length + 2) := by rw [he]; simp
    have hab : a < b := by
      rw [he] at hy
      have := (List.pairwise_append.1 hy).2.1
      exact (List.pairwise_cons.1 this).1 b List.mem_cons_self
    have hia : idx ys (pre.length : Int) = some a := by rw [he]; exact KI _ _ _
    have hib : idx ys (w64 ((pre.length : Int) + 1)) = some b := by
      rw [zFW pre a (by omega), he, show pre ++ a :: b :: l = (pre ++ [a]) ++ b :: l by simp]; exact KI _ _ _
    rw [JY, if_pos (by rw [Qa (by omega) (by omega)]; simp; omega), zII hia hib up 0 [] (by simp; omega)]
    have hpu := push_ok (l := out) (b := (a, b, fA up a)) (by omega) hab
    have e : toP (a, b, fA up a) = ⟨a, b, (zCf up a).foldl stk []⟩ := by
      show (⟨a, b, Qc (fA up a)⟩ : zV) = _
      rw [(fA_ok hs hev a).1]; rfl
    rw [e] at hpu
    rw [hpu, Option.bind_some, zFW pre a (by omega)]
    have hpl := zGG out (a, b, fA up a)
    have := bands_loop hy hs hev hl hu (b :: l) (pre ++ [a]) m (pushB out (a, b, fA up a)) (by rw [he]; simp) (by simp; omega) (by simp; omega)
    rw [this]; rfl
def zJp (s : zI × zI) : Option zT := if s.1.X = s.2.X then some ⟨s.1.X, min s.1.Y s.2.Y, 0, max s.1.Y s.2.Y⟩ else none
theorem zJ6 (p0 x : zI) (r : List zI) : nxt p0 (x :: r) = (x, (r ++ [p0]).headD p0) :: nxt p0 r := by
  cases r with
  | nil => rfl
  | cons y r => rfl
theorem next_head {pre r : List zI} {x p0 : zI} (h0 : (pre ++ x :: r).head? = some p0) : (pre ++ x :: r).getD ((pre.length + 1) % (pre ++ x :: r).length) ⟨0, 0⟩ = (r ++ [p0]).headD p0 := by
  cases r with
  | nil =>
    have : (pre.length + 1) % (pre ++ [x]).length = 0 := by simp
    rw [this]
    cases pre with
    | nil => simp at h0 ⊢; exact h0
    | cons z pre => simp at h0 ⊢; exact h0
  | cons y r =>
    have : (pre.length + 1) % (pre ++ x :: y :: r).length = pre.length + 1 := Nat.mod_eq_of_lt (by simp)
    rw [this]
    simp [List.getD]
theorem zJM {l : List zI} {p0 : zI} (h0 : l.head? = some p0) (hl : l.length ≤ 100000) {K : List Int → List zT → Option (List zV)} : ∀ (suf pre : List zI) (ys : List Int) (up : List zT), l = pre ++ suf → ys.length ≤ pre.length → up.length ≤ pre.length →
    Jo K l suf pre.length ys up = K (ys ++ suf.map (·.Y)) (up ++ (nxt p0 suf).filterMap zJp)
  | [], pre, ys, up, he, hy, hu => by rw [Jo]; simp [nxt]
  | x :: r, pre, ys, up, he, hy, hu => by
    have hlen : l.length = pre.length + (r.length + 1) := by rw [he]; simp
    have hnx : l.getD ((pre.length + 1) % l.length) ⟨0, 0⟩ = (r ++ [p0]).headD p0 := by
      have := next_head (pre := pre) (r := r) (x := x) (p0 := p0) (by rw [← he]; exact h0)
      rw [he]; exact this
    rw [Jo, next_ok2 (by omega) (by omega), hnx, zCI (by simp; omega), Option.bind_some, zJ6]
    by_cases hx : x.X = ((r ++ [p0]).headD p0).X
    · have hv : zJp (x, (r ++ [p0]).headD p0) = some ⟨x.X, min x.Y ((r ++ [p0]).headD p0).Y, 0, max x.Y ((r ++ [p0]).headD p0).Y⟩ := if_pos hx
      rw [if_pos (by simpa using hx), zCI (by simp; omega), Option.bind_some, List.filterMap_cons_some hv]
      have := zJM h0 hl (K := K) r (pre ++ [x]) (ys ++ [x.Y]) (up ++ [⟨x.X, min x.Y ((r ++ [p0]).headD p0).Y, 0, max x.Y ((r ++ [p0]).headD p0).Y⟩]) (by rw [he]; simp) (by simp; omega) (by simp; omega)
      rw [show (pre ++ [x]).length = pre.length + 1 by simp] at this
      rw [this]; simp
    · have hv : zJp (x, (r ++ [p0]).headD p0) = none := if_neg hx
      rw [if_neg (by simpa using hx), List.filterMap_cons_none hv]
      have := zJM h0 hl (K := K) r (pre ++ [x]) (ys ++ [x.Y]) up (by rw [he]; simp) (by simp; omega) (by simp; omega)
      rw [show (pre ++ [x]).length = pre.length + 1 by simp] at this
      rw [this]; simp
theorem vert_cross (y : Int) : ∀ (S : List (zI × zI)), ((S.filterMap zJp).filter fun s => decide (s.Y0 ≤ y) && decide (y < s.Y1)).map (·.X0) = (zG4 y S).map (·.1.X)
  | [] => rfl
  | s :: S => by
    have ih := vert_cross y S
    unfold zG4 at ih ⊢
    by_cases hx : s.1.X = s.2.X
    · have hv : zJp s = some ⟨s.1.X, min s.1.Y s.2.Y, 0, max s.1.Y s.2.Y⟩ := if_pos hx
      rw [List.filterMap_cons_some hv, List.filter_cons, List.filter_cons, decide_eq_true hx, Bool.true_and]
      by_cases hc : (decide (min s.1.Y s.2.Y ≤ y) && decide (y < max s.1.Y s.2.Y)) = true
      · rw [if_pos hc, if_pos hc, List.map_cons, List.map_cons, ih]
      · rw [if_neg hc, if_neg hc, ih]
    · have hv : zJp s = none := if_neg hx
      rw [List.filterMap_cons_none hv, List.filter_cons, decide_eq_false hx, Bool.false_and, if_neg (by simp), ih]
theorem nxt_len (p0 : zI) : ∀ (l : List zI), (nxt p0 l).length = l.length
  | [] => rfl
  | x :: r => by rw [zJ6, List.length_cons, List.length_cons, nxt_len p0 r]
theorem nxt_mem {p0 : zI} : ∀ {l : List zI} {s : zI × zI}, s ∈ nxt p0 l → s.1 ∈ l ∧ (s.2 ∈ l ∨ s.2 = p0)
  | [], s, h => by cases h
  | x :: r, s, h => by
    rw [zJ6] at h
    rcases List.mem_cons.1 h with rfl | h
    · refine ⟨List.mem_cons_self, ?_⟩
      cases r with
      | nil => exact .inr rfl
      | cons y r => exact .inl (by simp)
    · obtain ⟨h1, h2⟩ := nxt_mem h
      exact ⟨List.mem_cons_of_mem _ h1, h2.imp (List.mem_cons_of_mem _) id⟩
def inRow (l : List zI) (x y : Int) : Prop := cle x ((zG4 y (zCu l)).map (·.1.X)) % 2 = 1
theorem bandsF_len {f : Int → List (Int × Int)} {R : Nat} (hf : ∀ y, (f y).length ≤ R) : ∀ (ys : List Int) (out : List Bd), (∀ c ∈ out, c.2.2.length ≤ R) → (zBt f ys out).length ≤ out.length + ys.length ∧ ∀ c ∈ zBt f ys out, c.2.2.length ≤ R
  | [], out, h => ⟨by simp [zBt], h⟩
  | [a], out, h => ⟨by simp [zBt], h⟩
  | a :: b :: ys, out, h => by
    have h1 := zGG out (a, b, f a)
    obtain ⟨h2, h3⟩ := bandsF_len hf (b :: ys) (pushB out (a, b, f a)) (pushB_row h (hf a))
    rw [zBt]
    exact ⟨by simp at h2 ⊢; omega, h3⟩
theorem Around_row {N : Nat} (hN : 10000000000 ≤ N) {l : List zI} (hne : l ≠ []) (hl : l.length ≤ 2000) (hb : ∀ p ∈ l, -1000000000 ≤ p.X ∧ p.X ≤ 1000000000) (hax : axS (zCu l)) :
    ∃ A, zBx N [l] = some (A.map toP) ∧ BOk A ∧ A.length ≤ 2000 ∧ (∀ b ∈ A, b.2.2.length ≤ 2000) ∧ ∀ x y, InB x y A ↔ inRow l x y := by
  obtain ⟨p0, r0, rfl⟩ : ∃ p0 r, l = p0 :: r := by
    cases l with
    | nil => exact absurd rfl hne
    | cons p r => exact ⟨p, r, rfl⟩
  obtain ⟨V, hV⟩ : ∃ V, V = (zCu (p0 :: r0)).filterMap zJp := ⟨_, rfl⟩
  have hVm : ∀ v ∈ V, (v.X0 ∈ (p0 :: r0).map (·.X)) ∧ v.Y0 ∈ (p0 :: r0).map (·.Y) ∧ v.Y1 ∈ (p0 :: r0).map (·.Y) := fun v hv => by
    rw [hV] at hv
    obtain ⟨s, hs, hsv⟩ := List.mem_filterMap.1 hv
    obtain ⟨s1, s2⟩ := nxt_mem (show s ∈ nxt p0 (p0 :: r0) from hs)
    have s2' : s.2 ∈ p0 :: r0 := s2.elim id fun e => e ▸ List.mem_cons_self
    unfold zJp at hsv
    split at hsv
    · cases Option.some.inj hsv
      refine ⟨List.mem_map.2 ⟨s.1, s1, rfl⟩, ?_, ?_⟩
      · show min s.1.Y s.2.Y ∈ _
        rcases (show min s.1.Y s.2.Y = s.1.Y ∨ min s.1.Y s.2.Y = s.2.Y by omega) with e | e <;> rw [e]
        · exact List.mem_map.2 ⟨s.1, s1, rfl⟩
        · exact List.mem_map.2 ⟨s.2, s2', rfl⟩
      · show max s.1.Y s.2.Y ∈ _
        rcases (show max s.1.Y s.2.Y = s.2.Y ∨ max s.1.Y s.2.Y = s.1.Y by omega) with e | e <;> rw [e]
        · exact List.mem_map.2 ⟨s.2, s2', rfl⟩
        · exact List.mem_map.2 ⟨s.1, s1, rfl⟩
    · cases hsv
  have hVl : V.length ≤ 2000 := by
    rw [hV]
    refine Nat.le_trans (List.length_filterMap_le _ _) ?_
    have := nxt_len p0 (p0 :: r0)
    show (nxt p0 (p0 :: r0)).length ≤ 2000
    omega
  have hVx : ∀ v ∈ V, -1000000000 ≤ v.X0 ∧ v.X0 ≤ 1000000000 := fun v hv => by
    obtain ⟨p, hp, e⟩ := List.mem_map.1 (hVm v hv).1
    have := hb p hp
    omega
  obtain ⟨U, u1, u2, u3⟩ := sort_key (c := fun z0 z1 => Wd z0 z1) (k := fun r => r.X0) (l := V) (by omega) (fun x hx y hy => by
    have a := hVx x hx; have b := hVx y hy
    unfold Wd
    rw [Qa (by omega) (by omega)])
  have hxs : ∀ y, (zCf U y).Perm ((zG4 y (zCu (p0 :: r0))).map (·.1.X)) := fun y => by
    rw [← vert_cross, ← hV]
    exact (u2.filter _).map _
  have hev : ∀ y, (zCf U y).length % 2 = 0 := fun y => by
    rw [(hxs y).length_eq, List.length_map]; exact cross_even y hax
  have hcle : ∀ x y, cle x (zCf U y) = cle x ((zG4 y (zCu (p0 :: r0))).map (·.1.X)) := fun x y => ((hxs y).filter _).length_eq
  obtain ⟨ys, hys⟩ : ∃ ys, ys = zFy ((p0 :: r0).map (·.Y)) := ⟨_, rfl⟩
  have hysl : ys.length ≤ 2000 := by rw [hys]; exact Nat.le_trans (srtd_len _) (by simpa using hl)
  obtain ⟨b1, b2⟩ := fA_bands (up := U) (ys := ys) (by rw [hys]; exact zCi _) u3 hev (fun s hs => by
    have := hVm s (u2.subset hs)
    rw [hys, zDp, zDp]; exact this.2)
  have hUl : U.length ≤ 2000 := by rw [u2.length_eq]; exact hVl
  have hrow : ∀ y, (fA U y).length ≤ 2000 := fun y => by
    have h1 := Jd (fA U y)
    rw [(fA_ok u3 hev y).1] at h1
    have h2 := canc_len (zCf U y)
    have h3 : (zCf U y).length ≤ U.length := by unfold zCf; rw [List.length_map]; exact List.length_filter_le _ _
    omega
  obtain ⟨c1, c2⟩ := bandsF_len hrow ys [] (fun c hc => by cases hc)
  refine ⟨zBt (fA U) ys [], ?_, b1, by simp at c1; omega, c2, fun x y => by rw [b2, hcle]; rfl⟩
  unfold zBx
  rw [JZ]
  have hsl := zJM (l := p0 :: r0) (p0 := p0) rfl (by omega) (K := JZ N [] (0 + 1)) (p0 :: r0) [] [] [] rfl (by simp) (by simp)
  rw [show ([] : List zI).length = 0 from rfl] at hsl
  rw [hsl, List.nil_append, List.nil_append, JZ]
  have hso := srtd_ok (l := (p0 :: r0).map (·.Y)) (by rw [List.length_map]; omega)
  rw [srtI_ok (by rw [List.length_map]; omega), Option.bind_some] at hso ⊢
  rw [hso, Option.bind_some, show (nxt p0 (p0 :: r0)).filterMap zJp = V from hV.symm, u1, Option.bind_some, ← hys]
  exact bands_loop (by rw [hys]; exact zCi _) u3 hev (by omega) (by omega) ys [] N [] rfl (by omega) (by simp; omega)
def ptB (q : zI) : Bool := (decide (-1000000 ≤ q.X) && decide (q.X ≤ 1000000)) && (decide (-1000000 ≤ q.Y) && decide (q.Y ≤ 1000000))
theorem ptB_iff {q : zI} : ptB q = true ↔ (-1000000 ≤ q.X ∧ q.X ≤ 1000000) ∧ (-1000000 ≤ q.Y ∧ q.Y ≤ 1000000) := by unfold ptB; simp
theorem IsPt_ok (q : zI) : WF q = some (ptB q) := by
  unfold WF Vi zBu ptB
  cases (decide (-1000000 ≤ q.X) && decide (q.X ≤ 1000000)) <;> rfl
def CmbP (c : Bool) (I S : List Bd) (x y : Int) : Prop := if c then InB x y I ∧ ¬ InB x y S else InB x y I ∨ InB x y S
open Classical in
noncomputable def cmb (c : Bool) (I S : List Bd) : List Bd := if h : ∃ C, BOk C ∧ ∀ x y, InB x y C ↔ CmbP c I S x y then h.choose else []
theorem cmb_eq {c : Bool} {I S C : List Bd} (h1 : BOk C) (h2 : ∀ x y, InB x y C ↔ CmbP c I S x y) : cmb c I S = C := by
  have h : ∃ C, BOk C ∧ ∀ x y, InB x y C ↔ CmbP c I S x y := ⟨C, h1, h2⟩
  unfold cmb
  rw [dif_pos h]
  exact h.choose_spec.1.uniq h1 fun x y => by rw [h.choose_spec.2, h2]
open Classical in
noncomputable def arB (l : List zI) : List Bd := if h : ∃ A, BOk A ∧ ∀ x y, InB x y A ↔ inRow l x y then h.choose else []
theorem arB_eq {l : List zI} {A : List Bd} (h1 : BOk A) (h2 : ∀ x y, InB x y A ↔ inRow l x y) : arB l = A := by
  have h : ∃ A, BOk A ∧ ∀ x y, InB x y A ↔ inRow l x y := ⟨A, h1, h2⟩
  unfold arB
  rw [dif_pos h]
  exact h.choose_spec.1.uniq h1 fun x y => by rw [h.choose_spec.2, h2]
structure ImgOk (I : List Bd) : Prop where
  ok : BOk I
  few : (Qd I).length ≤ 2000
  lim : (Qd I).all lim = true
structure DrwOk (S : List Bd) : Prop where
  ok : BOk S
  few : S.length ≤ 100000
  row : ∀ b ∈ S, b.2.2.length ≤ 10000
  tot : (Qd S).length ≤ 100000000
theorem ImgOk.drw {I : List Bd} (h : ImgOk I) : DrwOk I := by
  have h1 := h.ok.le
  have h2 := h.few
  exact ⟨h.ok, by omega, fun b hb => by have := rectsB_row hb; omega, by omega⟩
noncomputable def drw (c : Bool) (I S : List Bd) : Int × List Bd := if (Qd S).all lim then (if 2000 < (Qd (cmb c I S)).length then (2, cmb c I S) else (0, cmb c I S)) else (1, I)
theorem lim_pts {I : List Bd} (h : BOk I) : (Qd I).all lim = true ↔ ∀ x y, InB x y I → (-1000000 ≤ x ∧ x < 1000000) ∧ (-1000000 ≤ y ∧ y < 1000000) := by
  rw [List.all_eq_true]
  constructor
  · intro hl x y hx
    obtain ⟨r, hr, h1, h2⟩ := (zFH h x y).2 hx
    have := zFc.1 (hl r hr)
    omega
  · intro hp r hr
    have := rectsB_lim h (m := 1000000) hp r hr
    rw [zFc]; omega
theorem cmb_ok {c : Bool} {I S : List Bd} (hI : DrwOk I) (hS : DrwOk S) {N : Nat} (hN : 10000000000 ≤ N) : (if c then Vy N (I.map toP) (S.map toP) else Wu N (I.map toP) (S.map toP)) = some ((cmb c I S).map toP) ∧ BOk (cmb c I S) ∧ (∀ x y, InB x y (cmb c I S) ↔ CmbP c I S x y) ∧ (Qd (cmb c I S)).length ≤ 1000000000000 := by
  cases c
  · obtain ⟨C, c1, c2, c3, c4⟩ := orS_ok hN hI.ok hS.ok hI.row hS.row hI.few hS.few
    have := cmb_eq (c := false) c2 c3
    rw [this]
    exact ⟨c1, c2, c3, c4⟩
  · obtain ⟨C, c1, c2, c3, c4⟩ := lessS_ok hN hI.ok hS.ok hI.row hS.row hI.few hS.few
    have := cmb_eq (c := true) c2 c3
    rw [this]
    exact ⟨c1, c2, c3, c4⟩
theorem drw_img {c : Bool} {I S : List Bd} (hI : ImgOk I) (hS : DrwOk S) (h : (drw c I S).1 = 0) : ImgOk (drw c I S).2 := by
  obtain ⟨_, c2, c3, _⟩ := cmb_ok (c := c) hI.drw hS (Nat.le_refl _)
  unfold drw at h ⊢
  by_cases hl : (Qd S).all lim = true
  · rw [if_pos hl] at h ⊢
    by_cases hm : 2000 < (Qd (cmb c I S)).length
    · rw [if_pos hm] at h; cases h
    · rw [if_neg hm]
      refine ⟨c2, Nat.le_of_not_lt hm, (lim_pts c2).2 fun x y hx => ?_⟩
      have h1 := (lim_pts hI.ok).1 hI.lim x y
      have h2 := (lim_pts hS.ok).1 hl x y
      rw [c3] at hx
      unfold CmbP at hx
      cases c
      · rcases hx with hx | hx
        · exact h1 hx
        · exact h2 hx
      · exact h1 hx.1
  · rw [if_neg hl] at h; cases h
theorem draw_ok {N : Nat} (hN : 10000000000 ≤ N) {m : zAA} {I S : List Bd} (hI : ImgOk I) (hm : m.image = I.map toP) (hS : DrwOk S) : KM N m (S.map toP) = some ((drw m.clear I S).1, (drw m.clear I S).2.map toP) := by
  obtain ⟨c1, c2, c3, c4⟩ := cmb_ok (c := m.clear) hI.drw hS hN
  have hf := Fits_ok (L := Qd S) hS.tot (zIP hS.ok)
  rw [setB_rectsB hS.ok] at hf
  unfold KM drw
  rw [hf, Option.bind_some]
  by_cases hl : (Qd S).all lim = true
  · rw [hl, if_neg (by simp), if_pos rfl]
    have hj : ∀ C : List Bd, (Qd C).length ≤ 1000000000000 → Jk (C.map toP) = some ((if 2000 < (Qd C).length then ((2 : Int), C) else (0, C)).1, (if 2000 < (Qd C).length then ((2 : Int), C) else (0, C)).2.map toP) := fun C hC => by
      unfold Jk
      rw [Many_ok (by omega), Option.bind_some]
      by_cases hm : 2000 < (Qd C).length
      · rw [if_pos (by simp; omega), if_pos hm]
      · rw [if_neg (by simp; omega), if_neg hm]
    rw [hm]
    cases hc : m.clear
    · rw [hc] at c1 c4
      simp only [Bool.false_eq_true, if_false] at c1 ⊢
      rw [c1, Option.bind_some, hj _ c4]
    · rw [hc] at c1 c4
      simp only [if_true] at c1 ⊢
      rw [c1, Option.bind_some, hj _ c4]
  · have hl' : (Qd S).all lim = false := by simpa using hl
    rw [hl', if_pos (by rfl), if_neg (by simp), hm]
structure MS where
  img : List Bd
  clear : Bool
  tool : Int
  place : zI
  placed : Bool
  off : Int
  on : Int
def toM (p : zt) (TT : List (List zT)) (s : MS) : zAA := ⟨p, TT.map fun T => (zCG T).map toP, s.img.map toP, s.clear, s.tool, s.place, s.placed, s.off, s.on⟩
def farM (p q : zI) : Int := w64 ((max (w64 (p.X - q.X)) (w64 (q.X - p.X))) + (max (w64 (p.Y - q.Y)) (w64 (q.Y - p.Y))))
def zCv (s : MS) (q : zI) : Int × MS := if ptB q then (0, { s with place := q, placed := true, off := if s.placed then w64 (s.off + farM s.place q) else s.off }) else (1, s)
def zI7 (s : MS) (q : zI) : Int × MS := if ptB q then (0, { s with place := q, placed := true, on := if s.placed then w64 (s.on + farM s.place q) else s.on }) else (1, s)
noncomputable def drawM (s : MS) (S : List Bd) : Int × MS := ((drw s.clear s.img S).1, { s with img := (drw s.clear s.img S).2 })
def swT (TT : List (List zT)) (s : MS) (p q : zI) : List Bd := zCG ((TT.getD s.tool.toNat []).map (swR (min p.X q.X) (max p.X q.X) (min p.Y q.Y) (max p.Y q.Y)))
noncomputable def zC4 (TT : List (List zT)) (s : MS) (q : zI) : Int × MS := if s.tool < 0 then (11, s) else if (zCv s q).1 = 0 then drawM (zCv s q).2 (swT TT s q q) else zCv s q
noncomputable def zFb (TT : List (List zT)) (s : MS) (q : zI) : Int × MS := if s.tool < 0 ∨ s.placed = false then (11, s) else if q.X ≠ s.place.X ∧ q.Y ≠ s.place.Y then (3, s) else if (zI7 s q).1 = 0 then drawM (zI7 s q).2 (swT TT s s.place q) else zI7 s q
def atM (U : Int) (q by_ : zI) : zI := ⟨w64 (w64 (q.X * U) + by_.X), w64 (w64 (q.Y * U) + by_.Y)⟩
def byM (U : Int) (by_ a : zI) (j i : Nat) : zI := ⟨w64 (by_.X + w64 (w64 ((i : Int) * a.X) * U)), w64 (by_.Y + w64 (w64 ((j : Int) * a.Y) * U))⟩
noncomputable def zJF (s : MS) (row : List zI) : Int × MS := if 2000 < (Qd (arB row)).length then (2, s) else if row.any (fun q => !ptB q) then (1, s) else drawM s (arB row)
noncomputable def zJ9 (p : zt) (TT : List (List zT)) (x : zD) (by_ : zI) (s : MS) : Int × MS :=
  if x.Kind = 1 ∨ x.Kind = 2 then (0, { s with clear := x.Kind == 2 }) else if x.Kind = 3 then (0, { s with tool := zEF x.Name p.Tools }) else if x.Kind = 4 then zCv s (atM p.Unit x.At by_) else if x.Kind = 5 then zC4 TT s (atM p.Unit x.At by_)
  else if x.Kind = 6 then zFb TT s (atM p.Unit x.At by_) else if x.Kind = 7 then zJF s (x.Points.map fun q => atM p.Unit q by_) else (0, s)
def zEK {β : Type} (f : β → MS → Int × MS) : List β → MS → Int × MS
  | [], s => (0, s)
  | b :: l, s => if (f b s).1 = 0 then zEK f l (f b s).2 else f b s
mutual
noncomputable def zEI (p : zt) (TT : List (List zT)) : zD → zI → MS → Int × MS
  | ⟨k, n, a, ps, nx, ny, l⟩, b, s => if k = 8 then zEK (fun j s => zEK (fun i s => zEx p TT l (byM p.Unit b a j i) s) (List.range' 0 nx.toNat) s) (List.range' 0 ny.toNat) s else zJ9 p TT ⟨k, n, a, ps, nx, ny, l⟩ b s
noncomputable def zEx (p : zt) (TT : List (List zT)) : List zD → zI → MS → Int × MS
  | [], _, s => (0, s)
  | x :: l, b, s => if (zEI p TT x b s).1 = 0 then zEx p TT l b (zEI p TT x b s).2 else zEI p TT x b s
end
theorem stepM_eq (p : zt) (TT : List (List zT)) (x : zD) (b : zI) (s : MS) : zEI p TT x b s = if x.Kind = 8 then zEK (fun j s => zEK (fun i s => zEx p TT x.Steps (byM p.Unit b x.At j i) s) (List.range' 0 x.NX.toNat) s) (List.range' 0 x.NY.toNat) s else zJ9 p TT x b s := by
  cases x; rw [zEI]
theorem runM_nil (p : zt) (TT : List (List zT)) (b : zI) (s : MS) : zEx p TT [] b s = (0, s) := by rw [zEx]
theorem zKy (p : zt) (TT : List (List zT)) (x : zD) (l : List zD) (b : zI) (s : MS) : zEx p TT (x :: l) b s = if (zEI p TT x b s).1 = 0 then zEx p TT l b (zEI p TT x b s).2 else zEI p TT x b s := by rw [zEx]
structure zDV (TT : List (List zT)) (s : MS) : Prop where
  img : ImgOk s.img
  tool : -1 ≤ s.tool ∧ s.tool < (TT.length : Int)
  place : s.placed = true → ptB s.place = true
structure zH8 (T : List zT) : Prop where
  few : T.length ≤ 2000
  ne : Ne T
  lim : ∀ r ∈ T, (-1000000 ≤ r.X0 ∧ r.X1 ≤ 1000000) ∧ (-1000000 ≤ r.Y0 ∧ r.Y1 ≤ 1000000)
def encR (r : Int × MS) : Int × Bool × Int × Int × Int × Bool × Int × Int × List zV := (r.1, r.2.clear, r.2.tool, r.2.place.X, r.2.place.Y, r.2.placed, r.2.off, r.2.on, r.2.img.map toP)
theorem setB_drw {L : List zT} (hl : L.length ≤ 2000) (hne : Ne L) : DrwOk (zCG L) := by
  obtain ⟨b1, _⟩ := zGj hne
  obtain ⟨s1, s2⟩ := setB_len L
  have ht := zE1 (R := 2000) (l := zCG L) fun b hb => Nat.le_trans (s2 b hb) hl
  exact ⟨b1, by omega, fun b hb => by have := s2 b hb; omega, by omega⟩
theorem swT_drw {TT : List (List zT)} (hT : ∀ T ∈ TT, zH8 T) {s : MS} {p q : zI} : DrwOk (swT TT s p q) := by
  have hg : zH8 (TT.getD s.tool.toNat []) := by
    rw [List.getD_eq_getElem?_getD]
    cases h : TT[s.tool.toNat]? with
    | none => exact ⟨by simp, fun r hr => by simp at hr, fun r hr => by simp at hr⟩
    | some T => exact hT T (List.mem_of_getElem? h)
  exact setB_drw (by rw [List.length_map]; exact hg.few) (sw_ne (by omega) (by omega) hg.ne)
section
variable {N : Nat} (hN : 10000000000 ≤ N) {p : zt} {TT : List (List zT)} (hT : ∀ T ∈ TT, zH8 T) {s : MS}
theorem setOff_ok (q : zI) : Jj (toM p TT s) q = some ((zCv s q).1, (zCv s q).2.place.X, (zCv s q).2.place.Y, (zCv s q).2.placed, (zCv s q).2.off) := by
  unfold Jj JN zCv
  rw [IsPt_ok, Option.bind_some]
  cases ptB q
  · rfl
  · simp only [Bool.not_true, Bool.false_eq_true, if_false, if_true]
    show (if s.placed = true then _ else _) = _
    cases s.placed <;> rfl
theorem setOn_ok (q : zI) : KL (toM p TT s) q = some ((zI7 s q).1, (zI7 s q).2.place.X, (zI7 s q).2.place.Y, (zI7 s q).2.placed, (zI7 s q).2.on) := by
  unfold KL JM zI7
  rw [IsPt_ok, Option.bind_some]
  cases ptB q
  · rfl
  · simp only [Bool.not_true, Bool.false_eq_true, if_false, if_true]
    show (if s.placed = true then _ else _) = _
    cases s.placed <;> rfl
theorem tools_at (hi : zDV TT s) (h0 : 0 ≤ s.tool) : idx ((toM p TT s).tools) s.tool = some ((zCG (TT.getD s.tool.toNat [])).map toP) := by
  have := hi.tool
  have hlt : s.tool.toNat < TT.length := by omega
  unfold idx
  rw [if_pos h0]
  show (TT.map fun T => (zCG T).map toP)[s.tool.toNat]? = _
  rw [List.getElem?_map, List.getD_eq_getElem?_getD, List.getElem?_eq_getElem hlt]; rfl
theorem tool_ok (hT : ∀ T ∈ TT, zH8 T) (hi : zDV TT s) (h0 : 0 ≤ s.tool) : zH8 (TT.getD s.tool.toNat []) := by
  have := hi.tool
  have hlt : s.tool.toNat < TT.length := by omega
  rw [List.getD_eq_getElem?_getD, List.getElem?_eq_getElem hlt]
  exact hT _ (List.getElem_mem hlt)
include hN hT
theorem sweptM_ok (hi : zDV TT s) (h0 : 0 ≤ s.tool) {a q : zI} (ha : ptB a = true) (hq : ptB q = true) : zBG N ((zCG (TT.getD s.tool.toNat [])).map toP) a q = some ((swT TT s a q).map toP) := by
  have ht := tool_ok hT hi h0
  exact swept_ok hN ht.few ht.ne ht.lim (ptB_iff.1 ha) (ptB_iff.1 hq)
theorem flashM_ok (hi : zDV TT s) (q : zI) : VY N (toM p TT s) q = some ((zC4 TT s q).1, (zC4 TT s q).2.place.X, (zC4 TT s q).2.place.Y, (zC4 TT s q).2.placed, (zC4 TT s q).2.off, (zC4 TT s q).2.img.map toP) ∧ (zC4 TT s q).2.clear = s.clear ∧ (zC4 TT s q).2.tool = s.tool ∧ (zC4 TT s q).2.on = s.on ∧ ((zC4 TT s q).1 = 0 → zDV TT (zC4 TT s q).2) := by
  unfold VY zC4
  by_cases h0 : s.tool < 0
  · rw [if_pos (show decide ((toM p TT s).tool < 0) = true from decide_eq_true h0), if_pos h0]
    exact ⟨rfl, rfl, rfl, rfl, fun h => by cases h⟩
  · rw [if_neg (show ¬ decide ((toM p TT s).tool < 0) = true by rw [decide_eq_true_eq]; exact h0), if_neg h0, setOff_ok, Option.bind_some]
    unfold zCv
    cases hq : ptB q
    · simp only [Bool.false_eq_true, if_false]
      exact ⟨rfl, rfl, rfl, rfl, fun h => by cases h⟩
    · simp only [if_true, bne_self_eq_false, Bool.false_eq_true, if_false]
      rw [show (toM p TT s).tool = s.tool from rfl, tools_at hi (by omega), Option.bind_some, sweptM_ok hN hT hi (by omega) hq hq, Option.bind_some, draw_ok hN hi.img rfl (swT_drw hT), Option.bind_some]
      refine ⟨rfl, rfl, rfl, rfl, fun h => ⟨drw_img hi.img (swT_drw hT) h, hi.tool, fun _ => hq⟩⟩
theorem lineM_ok (hi : zDV TT s) (q : zI) : Vp N (toM p TT s) q = some ((zFb TT s q).1, (zFb TT s q).2.place.X, (zFb TT s q).2.place.Y, (zFb TT s q).2.placed, (zFb TT s q).2.on, (zFb TT s q).2.img.map toP) ∧ (zFb TT s q).2.clear = s.clear ∧ (zFb TT s q).2.tool = s.tool ∧ (zFb TT s q).2.off = s.off ∧ ((zFb TT s q).1 = 0 → zDV TT (zFb TT s q).2) := by
  unfold Vp zFb
  by_cases h0 : s.tool < 0 ∨ s.placed = false
  · rw [if_pos (show (decide ((toM p TT s).tool < 0) || !(toM p TT s).placed) = true by rw [Bool.or_eq_true, decide_eq_true_eq, Bool.not_eq_true']; exact h0), if_pos h0]
    exact ⟨rfl, rfl, rfl, rfl, fun h => by cases h⟩
  · rw [if_neg (show ¬ (decide ((toM p TT s).tool < 0) || !(toM p TT s).placed) = true by rw [Bool.or_eq_true, decide_eq_true_eq, Bool.not_eq_true']; exact h0), if_neg h0]
    obtain ⟨h1, h2⟩ := not_or.1 h0
    have hpl : s.placed = true := by simpa using h2
    by_cases hx : q.X ≠ s.place.X ∧ q.Y ≠ s.place.Y
    · rw [if_pos (show (q.X != (toM p TT s).place.X && q.Y != (toM p TT s).place.Y) = true by simpa [toM] using hx), if_pos hx]
      exact ⟨rfl, rfl, rfl, rfl, fun h => by cases h⟩
    · rw [if_neg (show ¬ (q.X != (toM p TT s).place.X && q.Y != (toM p TT s).place.Y) = true by simpa [toM] using hx), if_neg hx, setOn_ok, Option.bind_some]
      unfold zI7
      cases hq : ptB q
      · simp only [Bool.false_eq_true, if_false]
        exact ⟨rfl, rfl, rfl, rfl, fun h => by cases h⟩
      · simp only [if_true, bne_self_eq_false, Bool.false_eq_true, if_false]
        rw [show (toM p TT s).tool = s.tool from rfl, tools_at hi (by omega), Option.bind_some, show (toM p TT s).place = s.place from rfl, sweptM_ok hN hT hi (by omega) (hi.place hpl) hq, Option.bind_some, draw_ok hN hi.img rfl (swT_drw hT), Option.bind_some]
        refine ⟨rfl, rfl, rfl, rfl, fun h => ⟨drw_img hi.img (swT_drw hT) h, hi.tool, fun _ => hq⟩⟩
end
theorem zDY {n u : Int} (hu : 1 ≤ u) (h : zI1 n u = true) : -1000000 ≤ n * u ∧ n * u ≤ 1000000 := by
  unfold zI1 at h
  rw [Bool.and_eq_true, decide_eq_true_eq, decide_eq_true_eq] at h
  have h1 := Int.mul_le_mul_of_nonneg_right h.2 (show 0 ≤ u by omega)
  have h2 := Int.mul_le_mul_of_nonneg_right h.1 (show 0 ≤ u by omega)
  have h3 := Int.ediv_mul_le 1000000 (show u ≠ 0 by omega)
  rw [Int.neg_mul] at h2
  omega
def zJl (d : Int) (b : zI) : Prop := (-(d * 100000000) ≤ b.X ∧ b.X ≤ d * 100000000) ∧ (-(d * 100000000) ≤ b.Y ∧ b.Y ≤ d * 100000000)
theorem atM_eq {U d : Int} {q b : zI} (hu : 1 ≤ U) (hq : zBa q U = true) (hd : d ≤ 5) (hb : zJl d b) : atM U q b = ⟨q.X * U + b.X, q.Y * U + b.Y⟩ ∧ (-1000000 ≤ q.X * U ∧ q.X * U ≤ 1000000) ∧ (-1000000 ≤ q.Y * U ∧ q.Y * U ≤ 1000000) := by
  unfold zBa at hq
  rw [Bool.and_eq_true] at hq
  have h1 := zDY hu hq.1
  have h2 := zDY hu hq.2
  unfold zJl at hb
  refine ⟨?_, h1, h2⟩
  unfold atM
  generalize q.X * U = a at h1 ⊢
  generalize q.Y * U = c at h2 ⊢
  rw [Qa (x := a) (by omega) (by omega), Qa (x := c) (by omega) (by omega), Qa (by omega) (by omega), Qa (by omega) (by omega)]
theorem byM_ok {U d : Int} {a b : zI} {j i : Nat} (hu : 1 ≤ U) (ha : zBa a U = true) (hd : 0 ≤ d ∧ d < 5) (hb : zJl d b) (hj : j < 100) (hi : i < 100) : byM U b a j i = ⟨b.X + (i : Int) * a.X * U, b.Y + (j : Int) * a.Y * U⟩ ∧ zJl (d + 1) (byM U b a j i) := by
  unfold zBa at ha
  rw [Bool.and_eq_true] at ha
  have h1 := zDY hu ha.1
  have h2 := zDY hu ha.2
  have key : ∀ (n : Int) (k : Nat), k < 100 → -1000000 ≤ n * U ∧ n * U ≤ 1000000 → (-99000000 ≤ (k : Int) * n * U ∧ (k : Int) * n * U ≤ 99000000) ∧ -99000000 ≤ (k : Int) * n ∧ (k : Int) * n ≤ 99000000 := fun n k hk h => by
    have e : (k : Int) * n * U = (k : Int) * (n * U) := Int.mul_assoc _ _ _
    have a1 : (k : Int) * (n * U) ≤ 99 * 1000000 := by
      refine Int.le_trans (Int.mul_le_mul_of_nonneg_left h.2 (by omega)) (Int.mul_le_mul_of_nonneg_right (by omega) (by omega))
    have a2 : 99 * (-1000000) ≤ (k : Int) * (n * U) := by
      refine Int.le_trans ?_ (Int.mul_le_mul_of_nonneg_left h.1 (show (0 : Int) ≤ (k : Int) by omega))
      omega
    have hn : -1000000 ≤ n ∧ n ≤ 1000000 := by
      refine ⟨?_, ?_⟩
      · refine Int.not_lt.1 fun hl => ?_
        have := Int.mul_le_mul_of_nonpos_left (show n ≤ 0 by omega) hu
        omega
      · refine Int.not_lt.1 fun hl => ?_
        have := Int.mul_le_mul_of_nonneg_left hu (show 0 ≤ n by omega)
        omega
    have b1 : (k : Int) * n ≤ 99 * 1000000 := Int.le_trans (Int.mul_le_mul_of_nonneg_left hn.2 (by omega)) (Int.mul_le_mul_of_nonneg_right (by omega) (by omega))
    have b2 : (k : Int) * (-1000000) ≤ (k : Int) * n := Int.mul_le_mul_of_nonneg_left hn.1 (by omega)
    omega
  obtain ⟨x1, x2⟩ := key a.X i hi h1
  obtain ⟨y1, y2⟩ := key a.Y j hj h2
  unfold zJl at hb ⊢
  have e : byM U b a j i = ⟨b.X + (i : Int) * a.X * U, b.Y + (j : Int) * a.Y * U⟩ := by
    unfold byM
    rw [Qa (x := (i : Int) * a.X) (by omega) (by omega), Qa (x := (j : Int) * a.Y) (by omega) (by omega)]
    generalize (i : Int) * a.X * U = p at x1 ⊢
    generalize (j : Int) * a.Y * U = q at y1 ⊢
    rw [Qa (x := p) (by omega) (by omega), Qa (x := q) (by omega) (by omega), Qa (by omega) (by omega), Qa (by omega) (by omega)]
  rw [e]
  refine ⟨rfl, ?_⟩
  simp only
  omega
theorem rowL_ax {l : List zI} {p0 : zI} (h0 : l.head? = some p0) : ∀ (suf pre : List zI), l = pre ++ suf → rowL l suf pre.length = true → axS (nxt p0 suf)
  | [], _, _, _ => fun s hs => by cases hs
  | x :: r, pre, he, h => by
    have hnx : l.getD ((pre.length + 1) % l.length) ⟨0, 0⟩ = (r ++ [p0]).headD p0 := by
      have := next_head (pre := pre) (r := r) (x := x) (p0 := p0) (by rw [← he]; exact h0)
      rw [he]; exact this
    rw [rowL, hnx] at h
    split at h
    · cases h
    rename_i hne
    have ih := rowL_ax h0 r (pre ++ [x]) (by rw [he]; simp) (by rw [List.length_append]; exact h)
    rw [zJ6]
    intro s hs
    rcases List.mem_cons.1 hs with rfl | hs
    · intro hc
      refine hne ?_
      simp only at hc
      rw [beq_iff_eq, Bool.eq_iff_iff, beq_iff_eq, beq_iff_eq]
      rw [hc]
    · exact ih s hs
theorem rowL_axS {l : List zI} (h : rowL l l 0 = true) : axS (zCu l) := by
  cases l with
  | nil => intro s hs; cases hs
  | cons p r => exact rowL_ax (p0 := p) rfl (p :: r) [] rfl h
theorem nxt_map (f : zI → zI) (p0 : zI) : ∀ (l : List zI), nxt (f p0) (l.map f) = (nxt p0 l).map fun s => (f s.1, f s.2)
  | [] => rfl
  | [x] => rfl
  | x :: y :: r => by
    have := nxt_map f p0 (y :: r)
    rw [List.map_cons, List.map_cons, nxt, nxt, List.map_cons]
    rw [List.map_cons] at this
    rw [this]
theorem sidesP_map (f : zI → zI) (l : List zI) : zCu (l.map f) = (zCu l).map fun s => (f s.1, f s.2) := by
  cases l with
  | nil => rfl
  | cons x r => exact nxt_map f x (x :: r)
theorem sidesP_mem {l : List zI} {s : zI × zI} (h : s ∈ zCu l) : s.1 ∈ l ∧ s.2 ∈ l := by
  cases l with
  | nil => cases h
  | cons p r =>
    obtain ⟨h1, h2⟩ := nxt_mem (show s ∈ nxt p (p :: r) from h)
    exact ⟨h1, h2.elim id fun e => e ▸ List.mem_cons_self⟩
theorem ax_at {U d : Int} {b : zI} {l : List zI} (hu : 1 ≤ U) (hl : ∀ q ∈ l, zBa q U = true) (hd : d ≤ 5) (hb : zJl d b) (h : axS (zCu l)) : axS (zCu (l.map fun q => atM U q b)) := by
  rw [sidesP_map]
  intro s hs
  obtain ⟨t, ht, rfl⟩ := List.mem_map.1 hs
  obtain ⟨t1, t2⟩ := sidesP_mem ht
  have e1 := (atM_eq hu (hl _ t1) hd hb).1
  have e2 := (atM_eq hu (hl _ t2) hd hb).1
  have hc : ∀ m n c : Int, (m * U + c = n * U + c) = (m = n) := fun m n c => propext ⟨fun e => Int.eq_of_mul_eq_mul_right (a := U) (by omega) (by omega), fun e => by rw [e]⟩
  have := h t ht
  show ¬ (((atM U t.1 b).X = (atM U t.2 b).X) = ((atM U t.1 b).Y = (atM U t.2 b).Y))
  rw [e1, e2]
  show ¬ ((t.1.X * U + b.X = t.2.X * U + b.X) = (t.1.Y * U + b.Y = t.2.Y * U + b.Y))
  rw [hc, hc]
  exact this
theorem area_any {l : List zI} : Qr l (fun z0 => Jb z0) = some (l.any fun q => !ptB q) := by
  have key : ∀ (l : List zI) (i : Nat), zAD (fun z0 => Jb z0) l i = some (zCO (fun q => !ptB q) l (i : Int)) := by
    intro l
    induction l with
    | nil => intro i; rfl
    | cons x r ih =>
      intro i
      rw [zAD, zCO, ih]
      have e : Jb x = some (!ptB x) := by
        unfold Jb
        rw [IsPt_ok]; rfl
      rw [e, Option.bind_some]
      split <;> rfl
  unfold Qr Kq
  rw [key, Option.bind_some]
  exact congrArg some (ixOf_any _ l 0 (by omega))
section
variable {N : Nat} (hN : 10000000000 ≤ N) {p : zt} {TT : List (List zT)} {s : MS}
theorem moved_ok (q b : zI) : VX (toM p TT s) q b = some (atM p.Unit q b) := rfl
theorem area_go (b : zI) : ∀ (suf : List zI) (i : Nat) (out : List zI), out.length + suf.length ≤ 1000000 → Qm N (toM p TT s) b suf i out = Qm N (toM p TT s) b [] 0 (out ++ suf.map fun q => atM p.Unit q b)
  | [], i, out, _ => by rw [List.map_nil, List.append_nil]; rfl
  | x :: r, i, out, h => by
    simp at h
    rw [Qm.eq_2, moved_ok, Option.bind_some, zCI (by simp; omega), Option.bind_some, area_go b r (i + 1) _ (by simp; omega)]
    simp
include hN
theorem areaM_ok (hu : 1 ≤ p.Unit) (hi : zDV TT s) {d : Int} (hd : d ≤ 5) {b : zI} (hb : zJl d b) {l : List zI} (h1 : ∀ q ∈ l, zBa q p.Unit = true) (h2 : 4 ≤ l.length ∧ l.length ≤ 2000) (h3 : rowL l l 0 = true) :
    Vq N (toM p TT s) l b = some ((zJF s (l.map fun q => atM p.Unit q b)).1, (zJF s (l.map fun q => atM p.Unit q b)).2.img.map toP) ∧ (zJF s (l.map fun q => atM p.Unit q b)).2 = { s with img := (zJF s (l.map fun q => atM p.Unit q b)).2.img } ∧ ((zJF s (l.map fun q => atM p.Unit q b)).1 = 0 → zDV TT (zJF s (l.map fun q => atM p.Unit q b)).2) := by
  obtain ⟨A, a1, a2, a3, a4, a5⟩ := Around_row hN (l := l.map fun q => atM p.Unit q b) (by
    intro h
    have := List.map_eq_nil_iff.1 h
    rw [this] at h2; simp at h2) (by simpa using h2.2) (fun q hq => by
    obtain ⟨z, hz, rfl⟩ := List.mem_map.1 hq
    obtain ⟨e, b1, b2⟩ := atM_eq hu (h1 z hz) hd hb
    unfold zJl at hb
    rw [e]; simp only; omega) (ax_at hu h1 hd hb (rowL_axS h3))
  have hA := arB_eq a2 a5
  have htot := zE1 a4
  have hD : DrwOk A := ⟨a2, by omega, fun b hb => by have := a4 b hb; omega, Nat.le_trans htot (by have := Nat.mul_le_mul_left 2000 a3; omega)⟩
  unfold Vq
  rw [area_go b l 0 [] (by simp; omega), List.nil_append]
  rw [Qm, a1, Option.bind_some, Many_ok (by have := hD.tot; omega), Option.bind_some, area_any, Option.bind_some]
  unfold zJF
  rw [hA]
  by_cases hm : 2000 < (Qd A).length
  · rw [if_pos (by simp; omega), if_pos hm]
    exact ⟨rfl, rfl, fun h => by cases h⟩
  · rw [if_neg (by simp; omega), if_neg hm]
    by_cases hr : ((l.map fun q => atM p.Unit q b).any fun q => !ptB q) = true
    · rw [if_pos hr, if_pos hr]
      exact ⟨rfl, rfl, fun h => by cases h⟩
    · rw [if_neg hr, if_neg hr, draw_ok hN hi.img rfl hD, Option.bind_some]
      exact ⟨rfl, rfl, fun h => ⟨drw_img hi.img hD h, hi.tool, hi.place⟩⟩
end
abbrev RTy := Int × Bool × Int × Int × Int × Bool × Int × Int × List zV
def RunAs (rec : zAA → List zD → zI → Option RTy) (p : zt) (TT : List (List zT)) (l : List zD) (b : zI) (s : MS) : Prop :=
  rec (toM p TT s) l b = some (encR (zEx p TT l b s)) ∧ ((zEx p TT l b s).1 = 0 → zDV TT (zEx p TT l b s).2)
section
variable {N : Nat} (hN : 10000000000 ≤ N) {p : zt} {TT : List (List zT)} (hT : ∀ T ∈ TT, zH8 T) (hl : TT.length = p.Tools.length) (hu : 1 ≤ p.Unit)
include hN hT hl hu
theorem leaf_ok {s : MS} (hi : zDV TT s) {d : Int} (hd : d ≤ 5) {b : zI} (hb : zJl d b) {x : zD} (hx : StepOk p x d) (h8 : x.Kind ≠ 8) (rec : zAA → List zD → zI → Option RTy) :
    Jt rec N (toM p TT s) x b = some (encR (zJ9 p TT x b s)) ∧ ((zJ9 p TT x b s).1 = 0 → zDV TT (zJ9 p TT x b s).2) := by
  have hk := hx.kind
  unfold Jt
  rw [moved_ok, Option.bind_some]
  unfold zJ9
  by_cases h1 : x.Kind = 1
  · rw [if_pos (by simp [h1]), if_pos (.inl h1)]
    have e : (x.Kind == 2) = false := by simp [h1]
    unfold JE
    rw [if_pos (by simp [h1])]
    unfold Ql
    exact ⟨rfl, fun _ => ⟨hi.img, hi.tool, hi.place⟩⟩
  rw [if_neg (by simpa using h1)]
  unfold JE
  by_cases h2 : x.Kind = 2
  · rw [if_pos (by simp [h2]), if_pos (.inr h2)]
    unfold Ql
    exact ⟨rfl, fun _ => ⟨hi.img, hi.tool, hi.place⟩⟩
  rw [if_neg (by simpa using h2), if_neg (show ¬ (x.Kind = 1 ∨ x.Kind = 2) by omega)]
  by_cases h3 : x.Kind = 3
  · have ht := hx.tool h3
    have hlt := ixOf_lo (fun t : zS => sEq t.Name x.Name) p.Tools 0 (by omega)
    have hto : zEF x.Name p.Tools = zCO (fun t : zS => sEq t.Name x.Name) p.Tools 0 := rfl
    rw [if_pos (by simp [h3]), if_pos h3, show (toM p TT s).p = p from rfl, toolAt_ok, Option.bind_some]
    unfold Ql
    refine ⟨rfl, fun _ => ⟨hi.img, ⟨?_, ?_⟩, hi.place⟩⟩
    · show -1 ≤ zEF x.Name p.Tools; omega
    · show zEF x.Name p.Tools < (TT.length : Int)
      rw [hl]
      rcases hlt with h | h <;> omega
  rw [if_neg (by simpa using h3), if_neg h3]
  by_cases h4 : x.Kind = 4
  · rw [if_pos (by simp [h4]), if_pos h4, setOff_ok, Option.bind_some]
    refine ⟨?_, ?_⟩
    · unfold zCv
      cases ptB (atM p.Unit x.At b) <;> rfl
    · intro h
      unfold zCv at h ⊢
      cases hp : ptB (atM p.Unit x.At b)
      · rw [hp] at h; cases h
      · exact ⟨hi.img, hi.tool, fun _ => hp⟩
  rw [if_neg (by simpa using h4), if_neg h4]
  by_cases h5 : x.Kind = 5
  · obtain ⟨f1, f2, f3, f4, f5⟩ := flashM_ok (p := p) hN hT hi (atM p.Unit x.At b)
    rw [if_pos (by simp [h5]), if_pos h5, f1, Option.bind_some]
    refine ⟨?_, f5⟩
    unfold encR
    rw [f2, f3, f4]; rfl
  rw [if_neg (by simpa using h5), if_neg h5]
  by_cases h6 : x.Kind = 6
  · obtain ⟨f1, f2, f3, f4, f5⟩ := lineM_ok (p := p) hN hT hi (atM p.Unit x.At b)
    rw [if_pos (by simp [h6]), if_pos h6, f1, Option.bind_some]
    refine ⟨?_, f5⟩
    unfold encR
    rw [f2, f3, f4]; rfl
  rw [if_neg (by simpa using h6), if_neg h6]
  have h7 : x.Kind = 7 := by omega
  obtain ⟨a1, a2, a3, a4⟩ := hx.area h7
  obtain ⟨f1, f2, f3⟩ := areaM_ok hN (p := p) (TT := TT) hu hi hd hb (l := x.Points) (List.all_eq_true.1 a1) ⟨a2, a3⟩ a4
  rw [if_pos (by simp [h7]), if_pos h7, f1, Option.bind_some]
  refine ⟨?_, f3⟩
  unfold encR
  generalize hg : zJF s (x.Points.map fun q => atM p.Unit q b) = g at f2 ⊢
  rw [f2]; rfl
omit hT hl hu hN in
theorem rep10_ok {rec : zAA → List zD → zI → Option RTy} {s0 : MS} {x : zD} {b : zI} {j : Nat} {K : List zV → Bool → Int → Int → Int → Bool → Int → Int → Int → Option RTy} (hNX : x.NX ≤ 100)
    (hrec : ∀ (i : Nat) (s : MS), (i : Int) < x.NX → zDV TT s → RunAs rec p TT x.Steps (byM p.Unit b x.At j i) s) : ∀ (r m i : Nat) (s : MS), zDV TT s → (i : Int) + r = x.NX → r < m →
    ∃ q, q = zEK (fun i s => zEx p TT x.Steps (byM p.Unit b x.At j i) s) (List.range' i r) s ∧ (q.1 = 0 → zDV TT q.2) ∧
      JD (toM p TT s0) x b rec (j : Int) K m (s.img.map toP) s.clear s.tool s.place.X s.place.Y s.placed s.off s.on (i : Int) = if q.1 = 0 then K (q.2.img.map toP) q.2.clear q.2.tool q.2.place.X q.2.place.Y q.2.placed q.2.off q.2.on (w64 ((j : Int) + 1)) else some (encR q)
  | 0, m, i, s, hs, hi, hm => by
    obtain ⟨m, rfl⟩ : ∃ k, m = k + 1 := ⟨m - 1, by omega⟩
    refine ⟨_, rfl, fun _ => hs, ?_⟩
    rw [JD, if_neg (by simp; omega)]
    rfl
  | r + 1, m, i, s, hs, hi, hm => by
    obtain ⟨m, rfl⟩ : ∃ k, m = k + 1 := ⟨m - 1, by omega⟩
    obtain ⟨h1, h2⟩ := hrec i s (by omega) hs
    refine ⟨_, rfl, ?_⟩
    rw [JD, if_pos (by simp; omega)]
    have h1' : rec (zAA.mk (toM p TT s0).p (toM p TT s0).tools (s.img.map toP) s.clear s.tool (zI.mk s.place.X s.place.Y) s.placed s.off s.on) x.Steps (zI.mk (w64 (b.X + (w64 ((w64 ((i : Int) * x.At.X)) * (toM p TT s0).p.Unit)))) (w64 (b.Y + (w64 ((w64 ((j : Int) * x.At.Y)) * (toM p TT s0).p.Unit))))) = some (encR (zEx p TT x.Steps (byM p.Unit b x.At j i) s)) := h1
    rw [h1', Option.bind_some, List.range'_succ, zEK]
    generalize hg : zEx p TT x.Steps (byM p.Unit b x.At j i) s = g at h2 ⊢
    by_cases h0 : g.1 = 0
    · obtain ⟨q, q1, q2, q3⟩ := rep10_ok hNX hrec r m (i + 1) g.2 (h2 h0) (by omega) (by omega) (s0 := s0) (K := K)
      rw [if_neg (show ¬ ((encR g).1 != 0) = true by show ¬ (g.1 != 0) = true; simp [h0]), if_pos h0, ← q1]
      refine ⟨q2, ?_⟩
      rw [← q3, Qa (by omega) (by omega)]
      rfl
    · rw [if_pos (show ((encR g).1 != 0) = true by show (g.1 != 0) = true; simp [h0]), if_neg h0]
      refine ⟨fun h => absurd h h0, ?_⟩
      rw [if_neg h0]
omit hT hl hu in
theorem rep9_ok {rec : zAA → List zD → zI → Option RTy} {s0 : MS} {x : zD} {b : zI} (hNX : 1 ≤ x.NX ∧ x.NX ≤ 100) (hNY : x.NY ≤ 100)
    (hrec : ∀ (j i : Nat) (s : MS), (j : Int) < x.NY → (i : Int) < x.NX → zDV TT s → RunAs rec p TT x.Steps (byM p.Unit b x.At j i) s) : ∀ (r m j : Nat) (s : MS), zDV TT s → (j : Int) + r = x.NY → r < m →
    ∃ q, q = zEK (fun j s => zEK (fun i s => zEx p TT x.Steps (byM p.Unit b x.At j i) s) (List.range' 0 x.NX.toNat) s) (List.range' j r) s ∧ (q.1 = 0 → zDV TT q.2) ∧
      zAJ N (toM p TT s0) x b rec m (s.img.map toP) s.clear s.tool s.place.X s.place.Y s.placed s.off s.on (j : Int) = some (encR q)
  | 0, m, j, s, hs, hi, hm => by
    obtain ⟨m, rfl⟩ : ∃ k, m = k + 1 := ⟨m - 1, by omega⟩
    refine ⟨_, rfl, fun _ => hs, ?_⟩
    rw [zAJ, if_neg (by simp; omega)]
    rfl
  | r + 1, m, j, s, hs, hi, hm => by
    obtain ⟨m, rfl⟩ : ∃ k, m = k + 1 := ⟨m - 1, by omega⟩
    obtain ⟨q, q1, q2, q3⟩ := rep10_ok (x := x) (rec := rec) (s0 := s0) (K := zAJ N (toM p TT s0) x b rec m) hNX.2 (fun i s => hrec j i s (by omega)) x.NX.toNat N 0 s hs (by omega) (by omega)
    refine ⟨_, rfl, ?_⟩
    rw [zAJ, if_pos (by simp; omega)]
    rw [List.range'_succ, zEK, ← q1]
    rw [show ((0 : Nat) : Int) = 0 from rfl] at q3
    rw [q3]
    by_cases h0 : q.1 = 0
    · obtain ⟨z, z1, z2, z3⟩ := rep9_ok hNX hNY hrec r m (j + 1) q.2 (q2 h0) (by omega) (by omega) (s0 := s0)
      rw [if_pos h0, if_pos h0, ← z1]
      refine ⟨z2, ?_⟩
      rw [← z3, Qa (by omega) (by omega)]
      rfl
    · rw [if_neg h0, if_neg h0]
      exact ⟨fun h => absurd h h0, rfl⟩
theorem stepM_ok {s : MS} (hi : zDV TT s) {d : Int} (hd : 0 ≤ d ∧ d ≤ 5) {b : zI} (hb : zJl d b) {x : zD} (hx : StepOk p x d) {rec : zAA → List zD → zI → Option RTy} (hrec : d < 5 → ∀ b s, zJl (d + 1) b → zDV TT s → RunAs rec p TT x.Steps b s) :
    Jt rec N (toM p TT s) x b = some (encR (zEI p TT x b s)) ∧ ((zEI p TT x b s).1 = 0 → zDV TT (zEI p TT x b s).2) := by
  rw [stepM_eq]
  by_cases h8 : x.Kind = 8
  · obtain ⟨t1, t2, t3, t4⟩ := hx.times h8
    rw [if_pos h8]
    unfold Jt
    rw [moved_ok, Option.bind_some, if_neg (by simp [h8])]
    unfold JE
    rw [if_neg (by simp [h8]), if_neg (by simp [h8]), if_neg (by simp [h8]), if_neg (by simp [h8]), if_neg (by simp [h8]), if_neg (by simp [h8]), if_pos (by simp [h8])]
    obtain ⟨q, q1, q2, q3⟩ := rep9_ok hN (p := p) (TT := TT) (rec := rec) (s0 := s) (b := b) t1 t2.2 (fun j i s hj hx' hs => hrec t4 _ s (byM_ok hu hx.place ⟨hd.1, t4⟩ hb (by omega) (by omega)).2 hs) x.NY.toNat N 0 s hi (by omega) (by omega)
    rw [← q1]
    exact ⟨q3, q2⟩
  · rw [if_neg h8]
    exact leaf_ok hN hT hl hu hi hd.2 hb hx h8 rec
theorem runL_ok {d : Int} (hd : 0 ≤ d ∧ d ≤ 5) {b : zI} (hb : zJl d b) {rec : zAA → List zD → zI → Option RTy} {s0 : MS} : ∀ (l : List zD) (i : Nat) (s : MS), (∀ x ∈ l, StepOk p x d ∧ (d < 5 → ∀ b s, zJl (d + 1) b → zDV TT s → RunAs rec p TT x.Steps b s)) → zDV TT s →
    JA N (toM p TT s0) b rec l i (s.img.map toP) s.clear s.tool s.place.X s.place.Y s.placed s.off s.on = some (encR (zEx p TT l b s)) ∧ ((zEx p TT l b s).1 = 0 → zDV TT (zEx p TT l b s).2)
  | [], i, s, _, hs => by
    rw [JA, runM_nil]
    exact ⟨rfl, fun _ => hs⟩
  | x :: l, i, s, hx, hs => by
    obtain ⟨h1, h2⟩ := stepM_ok hN hT hl hu hs hd hb (hx x List.mem_cons_self).1 (rec := rec) (hx x List.mem_cons_self).2
    rw [JA, zKy]
    have h1' : Jt rec N (zAA.mk (toM p TT s0).p (toM p TT s0).tools (s.img.map toP) s.clear s.tool (zI.mk s.place.X s.place.Y) s.placed s.off s.on) x b = some (encR (zEI p TT x b s)) := h1
    rw [h1', Option.bind_some]
    generalize hg : zEI p TT x b s = g at h2 ⊢
    by_cases h0 : g.1 = 0
    · have ih := runL_ok hd hb (rec := rec) (s0 := s0) l (i + 1) g.2 (fun y hy => hx y (List.mem_cons_of_mem _ hy)) (h2 h0)
      rw [if_neg (show ¬ ((encR g).1 != 0) = true by show ¬ (g.1 != 0) = true; simp [h0]), if_pos h0]
      exact ih
    · rw [if_pos (show ((encR g).1 != 0) = true by show (g.1 != 0) = true; simp [h0]), if_neg h0]
      exact ⟨rfl, fun h => absurd h h0⟩
omit hN in
theorem run_ok : ∀ (k : Nat) (d : Int) (N : Nat) (l : List zD) (b : zI) (s : MS), d + k = 5 → 0 ≤ d → 10000000000 + k + 1 ≤ N → zI3 p d l → zJl d b → zDV TT s → RunAs (VO N) p TT l b s
  | k, d, N, l, b, s, hk, hd, hN, hv, hb, hs => by
    obtain ⟨N, rfl⟩ : ∃ m, N = m + 1 := ⟨N - 1, by omega⟩
    have := runL_ok (N := N) (by omega) hT hl hu (d := d) (by omega) hb (rec := VO N) (s0 := s) l 0 s (fun x hx => by
      have h1 := (zIo p d x).1 ((VldL_iff p d l).1 hv x hx)
      refine ⟨zKs.1 h1.1, fun h5 b s hb hs => ?_⟩
      cases k with
      | zero => omega
      | succ k => exact run_ok k (d + 1) N x.Steps b s (by omega) (by omega) (by omega) h1.2 hb hs) hs
    exact this
end
def scR (u : Int) (r : zT) : zT := ⟨r.X0 * u, r.Y0 * u, r.X1 * u, r.Y1 * u⟩
def zDM (p : zt) : List (List zT) := p.Tools.map fun t => t.Rects.map (scR p.Unit)
def zFz : MS := ⟨[], false, -1, ⟨0, 0⟩, false, 0, 0⟩
theorem zJO {r : zT} {u : Int} (hu : 1 ≤ u) (h : rectE r u = 0) : ((-1000000 ≤ r.X0 * u ∧ r.X0 * u ≤ 1000000) ∧ (-1000000 ≤ r.Y0 * u ∧ r.Y0 * u ≤ 1000000) ∧ (-1000000 ≤ r.X1 * u ∧ r.X1 * u ≤ 1000000) ∧ (-1000000 ≤ r.Y1 * u ∧ r.Y1 * u ≤ 1000000)) ∧ r.X0 * u < r.X1 * u ∧ r.Y0 * u < r.Y1 * u := by
  unfold rectE at h
  split at h
  · rename_i hf
    simp only [Bool.and_eq_true] at hf
    split at h
    · cases h
    rename_i hn
    simp at hn
    exact ⟨⟨zDY hu hf.1.1.1, zDY hu hf.1.1.2, zDY hu hf.1.2, zDY hu hf.2⟩, Int.mul_lt_mul_of_pos_right hn.1 (by omega), Int.mul_lt_mul_of_pos_right hn.2 (by omega)⟩
  · cases h
theorem rectsE_zero {u : Int} : ∀ {l : List zT}, zK0 u l = 0 → ∀ r ∈ l, rectE r u = 0
  | r :: l, h, x, hx => by
    rw [zK0] at h
    split at h
    · rename_i h0
      rcases List.mem_cons.1 hx with rfl | hx
      · exact h0
      · exact rectsE_zero h x hx
    · rename_i h0; exact absurd h h0
theorem zJL {t : zS} {u : Int} (h : zEG t u = 0) : t.Rects ≠ [] ∧ t.Rects.length ≤ 2000 ∧ ∀ r ∈ t.Rects, rectE r u = 0 := by
  unfold zEG at h
  split at h
  · cases h
  split at h
  · cases h
  rename_i h1 h2
  exact ⟨fun e => h1 (by rw [e]; rfl), by omega, rectsE_zero h⟩
theorem toolOk_of {t : zS} {u : Int} (hu : 1 ≤ u) (h : zEG t u = 0) : zH8 (t.Rects.map (scR u)) := by
  obtain ⟨_, h1, h2⟩ := zJL h
  refine ⟨by simpa using h1, fun r hr => ?_, fun r hr => ?_⟩
  · obtain ⟨q, hq, rfl⟩ := List.mem_map.1 hr
    exact (zJO hu (h2 q hq)).2
  · obtain ⟨q, hq, rfl⟩ := List.mem_map.1 hr
    have := (zJO hu (h2 q hq)).1
    exact ⟨⟨this.1.1, this.2.2.1.2⟩, this.2.1.1, this.2.2.2.2⟩
theorem zBU.zDM {N : Nat} {p : zt} (h : zBU N p) : ∀ T ∈ zDM p, zH8 T := fun T hT => by
  obtain ⟨t, ht, rfl⟩ := List.mem_map.1 hT
  exact toolOk_of h.unit.1 (h.tools t ht).2
section
variable {N : Nat} (hN : 10000000000 ≤ N)
include hN
theorem newL4_ok {p : zt} {t : zS} (hu : 1 ≤ p.Unit) (ht : zEG t p.Unit = 0) {acc : List (List zV)} (ha : acc.length ≤ 1000) {K : List (List zV) → Option zAA} : ∀ (suf pre : List zT) (i : Nat), t.Rects = pre ++ suf →
    Ja N p acc K suf i (pre.map (scR p.Unit)) = K (acc ++ [(zCG (t.Rects.map (scR p.Unit))).map toP])
  | [], pre, i, he => by
    rw [List.append_nil] at he
    have hk := toolOk_of hu ht
    rw [Ja, ← he, SetOf_ok hN (by have := hk.few; omega) (fun r hr => by
      have h1 := hk.ne r hr
      have h2 := hk.lim r hr
      exact ⟨by omega, by omega, by omega, by omega, h1.1, h1.2⟩), Option.bind_some, zCI (by simp; omega), Option.bind_some]
  | r :: l, pre, i, he => by
    obtain ⟨_, h1, h2⟩ := zJL ht
    have hlen : t.Rects.length = pre.length + (l.length + 1) := by rw [he]; simp
    have hr := (zJO hu (h2 r (by rw [he]; simp))).1
    rw [Ja, Qa (by omega) (by omega), Qa (by omega) (by omega), Qa (by omega) (by omega), Qa (by omega) (by omega), zCI (by simp; omega), Option.bind_some]
    have := newL4_ok hu ht ha (K := K) l (pre ++ [r]) (i + 1) (by rw [he]; simp)
    rw [List.map_append] at this
    exact this
theorem newL3_ok {p : zt} (hu : 1 ≤ p.Unit) (hp : ∀ t ∈ p.Tools, zEG t p.Unit = 0) (hl : p.Tools.length ≤ 200) : ∀ (suf pre : List zS) (i : Nat), p.Tools = pre ++ suf →
    zAQ N p suf i (pre.map fun t => (zCG (t.Rects.map (scR p.Unit))).map toP) = some (toM p (zDM p) zFz)
  | [], pre, i, he => by
    rw [List.append_nil] at he
    rw [zAQ, ← he]
    unfold toM zDM
    rw [List.map_map]; rfl
  | t :: l, pre, i, he => by
    have hlen : p.Tools.length = pre.length + (l.length + 1) := by rw [he]; simp
    rw [zAQ]
    have h1 := newL4_ok hN hu (hp t (by rw [he]; simp)) (acc := pre.map fun t => (zCG (t.Rects.map (scR p.Unit))).map toP) (by simp; omega) (K := zAQ N p l (i + 1)) t.Rects [] 0 rfl
    rw [List.map_nil] at h1
    rw [h1]
    have := newL3_ok hu hp hl l (pre ++ [t]) (i + 1) (by rw [he]; simp)
    rw [List.map_append] at this
    exact this
theorem newM_ok {p : zt} {M : Nat} (h : zBU M p) : zAZ N p = some (toM p (zDM p) zFz) := by
  unfold zAZ
  exact newL3_ok hN h.unit.1 (fun t ht => (h.tools t ht).2) h.few p.Tools [] 0 rfl
end
theorem inv_zero (TT : List (List zT)) : zDV TT zFz := by
  exact ⟨⟨⟨⟨0, trivial⟩, fun b hb => by cases hb⟩, by simp [zFz, Qd], by simp [zFz, Qd]⟩, ⟨by simp [zFz], by simp [zFz]; omega⟩, fun h => by cases h⟩
noncomputable def imgM (p : zt) : Int × MS := zEx p (zDM p) p.Steps ⟨0, 0⟩ zFz
theorem drawn_ok {N M : Nat} (hN : 20000000000 ≤ N) {p : zt} (h : zBU M p) : zDD N p = some (toM p (zDM p) (imgM p).2, (imgM p).1) ∧ ((imgM p).1 = 0 → zDV (zDM p) (imgM p).2) := by
  obtain ⟨h1, h2⟩ := run_ok h.zDM (by unfold zDM; simp) h.unit.1 5 0 N p.Steps ⟨0, 0⟩ zFz (by omega) (by omega) (by omega) h.steps (by unfold zJl; simp) (inv_zero _)
  unfold zDD
  rw [newM_ok (by omega) h, Option.bind_some, h1, Option.bind_some]
  exact ⟨rfl, h2⟩
theorem Check_ok {N : Nat} {p : zt} (hN : Fu p N) (hL : LenP p) : ∃ e, Jm N p = some e ∧ (e = 0 ↔ zBU N p) := by
  have hw : Jp p.Unit 1 1000 = some (decide (1 ≤ p.Unit) && decide (p.Unit ≤ 1000)) := rfl
  unfold Jm
  rw [hw, Option.bind_some]
  by_cases hu : 1 ≤ p.Unit ∧ p.Unit ≤ 1000
  · rw [if_neg (by simpa using hu)]
    by_cases ht : 200 < (p.Tools.length : Int)
    · rw [if_pos (decide_eq_true ht)]
      exact ⟨2, rfl, fun h => (by cases h), fun h => by have := h.few; omega⟩
    · rw [if_neg (by simpa using ht)]
      obtain ⟨e, e1, e2⟩ := zK3 hN hL hu p.Tools [] rfl (by omega)
      exact ⟨e, e1, e2 (fun _ h => by cases h) trivial⟩
  · rw [if_pos (by simp; omega)]
    exact ⟨1, rfl, fun h => (by cases h), fun h => absurd h.unit hu⟩
theorem ImgOk.small {I : List Bd} (h : ImgOk I) : Small I := by
  have h1 := h.drw
  have h2 := h.few
  exact ⟨by have := h1.few; omega, fun b hb => by have := h1.row b hb; omega, by omega⟩
section
variable (U V : Int)
def scN (n : Int) : Int := w64 ((w64 (n * U)).tdiv V)
def okN (n : Int) : Bool := (w64 (n * U)).tmod V == 0
def zBm (p : zI) : zI := ⟨scN U V p.X, scN U V p.Y⟩
def zHY (p : zI) : Bool := okN U V p.X && okN U V p.Y
def zHX (r : zT) : zT := ⟨scN U V r.X0, scN U V r.Y0, scN U V r.X1, scN U V r.Y1⟩
def okRc (r : zT) : Bool := (okN U V r.X0 && okN U V r.Y0) && (okN U V r.X1 && okN U V r.Y1)
def zGE (t : zS) : zS := ⟨t.Name, t.Rects.map (zHX U V)⟩
def okTl (t : zS) : Bool := t.Rects.all (okRc U V)
mutual
def scSt : zD → zD
  | ⟨k, n, a, ps, nx, ny, l⟩ => ⟨k, n, zBm U V a, ps.map (zBm U V), nx, ny, Wp l⟩
def Wp : List zD → List zD
  | [] => []
  | x :: l => scSt x :: Wp l
end
mutual
def okSt : zD → Bool
  | ⟨_, _, a, ps, _, _, l⟩ => (zHY U V a && zEJ l) && ps.all (zHY U V)
def zEJ : List zD → Bool
  | [] => true
  | x :: l => okSt x && zEJ l
end
variable {U V}
theorem zET (x : zD) : scSt U V x = ⟨x.Kind, x.Name, zBm U V x.At, x.Points.map (zBm U V), x.NX, x.NY, Wp U V x.Steps⟩ := by cases x; rw [scSt]
theorem okSt_eq (x : zD) : okSt U V x = ((zHY U V x.At && zEJ U V x.Steps) && x.Points.all (zHY U V)) := by cases x; rw [okSt]
theorem zDO (x : zD) (l : List zD) : Wp U V (x :: l) = scSt U V x :: Wp U V l := by rw [Wp]
theorem zJQ (x : zD) (l : List zD) : zEJ U V (x :: l) = (okSt U V x && zEJ U V l) := by rw [zEJ]
theorem zEl : Wp U V [] = [] := by rw [Wp]
theorem okSts_nil : zEJ U V [] = true := by rw [zEJ]
theorem zKv : ∀ (l : List zD), (Wp U V l).length = l.length
  | [] => by rw [zEl]
  | x :: l => by rw [zDO, List.length_cons, List.length_cons, zKv l]
theorem zDN {p : zt} (hp : p.Unit = U) (hV : V ≠ 0) (n : Int) (b : Bool) : KQ n b p V = some (scN U V n, b && okN U V n) := by
  unfold KQ md dv
  rw [if_neg hV, if_neg hV, hp]
  cases b
  · rfl
  · rfl
theorem changed1_ok {p : zt} (hp : p.Unit = U) (hV : V ≠ 0) (q : zI) (b : Bool) : Jl q b p V = some (zBm U V q, b && zHY U V q) := by
  unfold Jl
  rw [zDN hp hV, Option.bind_some, zDN hp hV, Option.bind_some]
  simp only [zHY, Bool.and_assoc]; rfl
theorem changed2_ok {p : zt} (hp : p.Unit = U) (hV : V ≠ 0) (r : zT) (b : Bool) : KO r b p V = some (zHX U V r, b && okRc U V r) := by
  unfold KO
  rw [zDN hp hV, Option.bind_some, zDN hp hV, Option.bind_some, zDN hp hV, Option.bind_some, zDN hp hV, Option.bind_some]
  simp only [okRc, Bool.and_assoc]; rfl
theorem sets_mid {α : Type} (pre suf : List α) (x y : α) : sets (pre ++ x :: suf) (pre.length : Int) y = some (pre ++ y :: suf) := by
  unfold sets
  rw [if_pos (by simp)]
  simp
theorem set_mid {α : Type} (pre suf : List α) (x y : α) : (pre ++ x :: suf).set ((pre.length : Int).toNat) y = pre ++ y :: suf := by simp
theorem pts_loop {p : zt} (hp : p.Unit = U) (hV : V ≠ 0) {y : zI × Bool} : ∀ (suf pre : List zI) (b : Bool), zl p V y suf pre.length b (pre ++ suf) = some (y.1.X, y.1.Y, pre ++ suf.map (zBm U V), b && suf.all (zHY U V))
  | [], pre, b => by rw [zl]; simp
  | q :: l, pre, b => by
    rw [zl, KI, Option.bind_some, changed1_ok hp hV, Option.bind_some, Option.bind_some, sets_mid, Option.bind_some]
    have := pts_loop hp hV l (pre ++ [zBm U V q]) (b && zHY U V q) (y := y)
    rw [show (pre ++ [zBm U V q]).length = pre.length + 1 by simp] at this
    rw [show pre ++ zBm U V q :: l = (pre ++ [zBm U V q]) ++ l by simp, this]
    simp [Bool.and_assoc]
theorem changed3_ok {p : zt} (hp : p.Unit = U) (hV : V ≠ 0) (x : zD) (b : Bool) : Qw x b p V = some (scN U V x.At.X, scN U V x.At.Y, x.Points.map (zBm U V), (b && zHY U V x.At) && x.Points.all (zHY U V)) := by
  unfold Qw
  rw [changed1_ok hp hV, Option.bind_some]
  exact pts_loop hp hV x.Points [] _
theorem apdC {α : Type} {l : List α} (h : l.length ≤ 4294967296) : apd ([] : List α) l = some l := by
  rw [zCI (by simpa using h)]; rfl
theorem rects_loop {p : zt} (hp : p.Unit = U) (hV : V ≠ 0) {l0 : List zS} {j : Int} {t0 : zS} (hj : ∃ t, idx l0 j = some t) {k : Bool → List zS → Int → Option (List zS × Bool)} : ∀ (suf pre : List zT) (b : Bool),
    zm p V l0 j k t0 suf pre.length b (pre ++ suf) = k (b && suf.all (okRc U V)) (l0.set j.toNat ⟨t0.Name, pre ++ suf.map (zHX U V)⟩) (w64 (j + 1))
  | [], pre, b => by rw [zm]; simp
  | r :: l, pre, b => by
    obtain ⟨t, ht⟩ := hj
    rw [zm, KI, Option.bind_some, ht, Option.bind_some, changed2_ok hp hV, Option.bind_some, Option.bind_some, sets_mid, Option.bind_some]
    have := rects_loop hp hV ⟨t, ht⟩ l (pre ++ [zHX U V r]) (b && okRc U V r) (t0 := t0) (k := k)
    rw [show (pre ++ [zHX U V r]).length = pre.length + 1 by simp] at this
    rw [show pre ++ zHX U V r :: l = (pre ++ [zHX U V r]) ++ l by simp, this]
    simp [Bool.and_assoc]
theorem tools_loop {p : zt} (hp : p.Unit = U) (hV : V ≠ 0) {l0 : List zS} : ∀ (suf pre : List zS) (m : Nat) (b : Bool), (pre ++ suf).length = l0.length → l0.length ≤ 2000 → (∀ t ∈ suf, t.Rects.length ≤ 2000) → suf.length < m →
    za p V l0 m b (pre ++ suf) (pre.length : Int) = some (pre ++ suf.map (zGE U V), b && suf.all (okTl U V))
  | [], pre, m, b, hl, h2, h, hm => by
    obtain ⟨m, rfl⟩ : ∃ k, m = k + 1 := ⟨m - 1, by omega⟩
    simp at hl
    rw [za, if_neg (by simp; omega)]
    simp
  | t :: l, pre, m, b, hl, h2, h, hm => by
    obtain ⟨m, rfl⟩ : ∃ k, m = k + 1 := ⟨m - 1, by simp at hm; omega⟩
    simp at hm
    have hl' := hl
    simp at hl'
    have hcl : KA t.Rects = some t.Rects := by
      unfold KA
      rw [apdC (by have := h t List.mem_cons_self; omega)]; rfl
    rw [za, if_pos (by simp; omega), KI, Option.bind_some, hcl, Option.bind_some, Option.bind_some, Option.bind_some]
    have hr := rects_loop hp hV (l0 := pre ++ t :: l) (j := (pre.length : Int)) (t0 := t) ⟨t, KI _ _ _⟩ (k := za p V l0 m) t.Rects [] b
    simp only [List.nil_append, List.length_nil] at hr
    rw [hr, set_mid, zFW _ t (by omega), show (pre ++ [t]).length = (pre ++ [zGE U V t]).length by simp, show pre ++ (⟨t.Name, t.Rects.map (zHX U V)⟩ : zS) :: l = (pre ++ [zGE U V t]) ++ l by simp [zGE],
      tools_loop hp hV l (pre ++ [zGE U V t]) m _ (by simpa using hl) h2 (fun x hx => h x (List.mem_cons_of_mem _ hx)) (by omega)]
    simp [Bool.and_assoc, okTl]
theorem own_loop {p : zt} (hp : p.Unit = U) (hV : V ≠ 0) {rec : List zD → Bool → zt → Int → Option (List zD × Bool)} {l0 : List zD} : ∀ (suf pre : List zD) (m : Nat) (b : Bool), (pre ++ suf).length = l0.length → l0.length ≤ 4000 →
    (∀ x ∈ suf, x.Points.length ≤ 2000 ∧ ∀ b, rec x.Steps b p V = some (Wp U V x.Steps, b && zEJ U V x.Steps)) → suf.length < m →
    zk p V rec l0 m b (pre ++ suf) (pre.length : Int) = some (pre ++ Wp U V suf, b && zEJ U V suf)
  | [], pre, m, b, hl, h2, h, hm => by
    obtain ⟨m, rfl⟩ : ∃ k, m = k + 1 := ⟨m - 1, by omega⟩
    simp at hl
    rw [zk, if_neg (by simp; omega), zEl, okSts_nil]
    simp
  | x :: l, pre, m, b, hl, h2, h, hm => by
    obtain ⟨m, rfl⟩ : ∃ k, m = k + 1 := ⟨m - 1, by simp at hm; omega⟩
    simp at hm
    have hl' := hl
    simp at hl'
    obtain ⟨hx1, hx2⟩ := h x List.mem_cons_self
    have hcl : Vo x.Points = some x.Points := by
      unfold Vo
      rw [apdC (by omega)]; rfl
    rw [zk, if_pos (by simp; omega), KI, Option.bind_some, hcl, Option.bind_some, Option.bind_some, Option.bind_some, hx2, Option.bind_some, Option.bind_some, Option.bind_some, changed3_ok hp hV, Option.bind_some,
      set_mid, zFW _ x (by omega), show (pre ++ [x]).length = (pre ++ [scSt U V x]).length by simp]
    rw [show pre ++ (zD.mk x.Kind x.Name (zI.mk (scN U V x.At.X) (scN U V x.At.Y)) (x.Points.map (zBm U V)) x.NX x.NY (Wp U V x.Steps)) :: l = (pre ++ [scSt U V x]) ++ l by simp [zET, zBm],
      own_loop hp hV l (pre ++ [scSt U V x]) m _ (by simpa using hl) h2 (fun y hy => h y (List.mem_cons_of_mem _ hy)) (by omega), zDO, zJQ, okSt_eq]
    simp [Bool.and_assoc, Bool.and_comm, Bool.and_left_comm]
theorem ndSteps_len : ∀ (l : List zD), l.length ≤ zB0 l
  | [] => by simp
  | x :: l => by
    have := ndSteps_len l
    have := ndStep_eq x
    rw [zGm, List.length_cons]; omega
theorem own_ok {p : zt} (hp : p.Unit = U) (hV : V ≠ 0) : ∀ (k : Nat) (l : List zD) (N : Nat) (b : Bool), KT l ≤ k → k + 5 ≤ N → zHK 40 l → zB0 l ≤ 3000 → zAL N l b p V = some (Wp U V l, b && zEJ U V l)
  | k, l, N, b, hk, hN, hg, hn => by
    obtain ⟨N, rfl⟩ : ∃ n, N = n + 1 := ⟨N - 1, by omega⟩
    have hlen := zHm l
    have hnl := ndSteps_len l
    have hcl : VA l = some l := by
      unfold VA
      rw [apdC (by omega)]; rfl
    show zAG N _ l b p V = _
    unfold zAG
    rw [hcl, Option.bind_some]
    exact own_loop hp hV l [] N b rfl (by omega) (fun x hx => by
      have h1 := zDo hx
      have h2 := Vt x
      have h3 := ndSteps_mem hx
      have h4 := ndStep_eq x
      have h5 := (goodT_eq 40 x).1 (goodL_mem hg hx)
      cases k with
      | zero => omega
      | succ k => exact ⟨h5.1.1, fun b => own_ok hp hV k x.Steps N b (by omega) (by omega) h5.2 (by omega)⟩) (by omega)
theorem ownTools_ok {p : zt} (hp : p.Unit = U) (hV : V ≠ 0) {l : List zS} {N : Nat} (b : Bool) (hl : l.length ≤ 2000) (h : ∀ t ∈ l, t.Rects.length ≤ 2000) (hN : 3000 ≤ N) : Qx N l b p V = some (l.map (zGE U V), b && l.all (okTl U V)) := by
  unfold Qx
  have hcl : KG l = some l := by
    unfold KG
    rw [apdC (by omega)]; rfl
  rw [hcl, Option.bind_some]
  exact tools_loop hp hV l [] N b rfl hl h (by omega)
def scP (p : zt) (V : Int) : zt := ⟨V, p.Tools.map (zGE p.Unit V), Wp p.Unit V p.Steps⟩
def okP (p : zt) (V : Int) : Bool := p.Tools.all (okTl p.Unit V) && zEJ p.Unit V p.Steps
theorem scaledP_ok {N : Nat} {p : zt} {V : Int} (hN : Fu p N) (hG : GoodP p) (hV : V ≠ 0) : zCV N p V = some (scP p V, okP p V) := by
  have hf := hG.few
  unfold Fu at hN
  unfold zCV Vj
  rw [ownTools_ok rfl hV true (by omega) (fun t ht => (hG.tools t ht).2) (by omega), Option.bind_some, own_ok rfl hV (KT p.Steps) p.Steps N _ (Nat.le_refl _) (by omega) hG.steps hG.nd]
  simp [scP, okP]
end
theorem zJy : ∀ (suf pre : List zI) (m : Nat), suf.length < m → (pre ++ suf).length ≤ 9223372036854775807 → zAM (pre ++ suf) (pre ++ suf) m (pre.length : Int) = some true
  | [], pre, m, hm, hl => by
    obtain ⟨m, rfl⟩ : ∃ k, m = k + 1 := ⟨m - 1, by omega⟩
    rw [zAM, lt_end, if_neg (by simp)]
  | q :: l, pre, m, hm, hl => by
    obtain ⟨m, rfl⟩ : ∃ k, m = k + 1 := ⟨m - 1, by simp at hm; omega⟩
    simp at hm hl
    rw [zAM, lt_mid, if_pos rfl, KI, Option.bind_some, Option.bind_some, show KD q q = true from zGy.2 rfl, if_neg (by simp), zFW _ q (by omega), snoc_mid, zJy l (pre ++ [q]) m (by omega) (by simp; omega)]
theorem samePts_ok {N : Nat} {l : List zI} (hN : l.length < N) (hl : l.length ≤ 9223372036854775807) : KP N l l = some true := by
  unfold KP
  rw [if_neg (by simp)]
  exact zJy l [] N hN hl
theorem zJx : ∀ (suf pre : List zT) (m : Nat), suf.length < m → (pre ++ suf).length ≤ 9223372036854775807 → zAO (pre ++ suf) (pre ++ suf) m (pre.length : Int) = some true
  | [], pre, m, hm, hl => by
    obtain ⟨m, rfl⟩ : ∃ k, m = k + 1 := ⟨m - 1, by omega⟩
    rw [zAO, lt_end, if_neg (by simp)]
  | q :: l, pre, m, hm, hl => by
    obtain ⟨m, rfl⟩ : ∃ k, m = k + 1 := ⟨m - 1, by simp at hm; omega⟩
    simp at hm hl
    rw [zAO, lt_mid, if_pos rfl, KI, Option.bind_some, Option.bind_some, show zEW q q = true from zFe.2 rfl, if_neg (by simp), zFW _ q (by omega), snoc_mid, zJx l (pre ++ [q]) m (by omega) (by simp; omega)]
theorem sameRcs_ok {N : Nat} {l : List zT} (hN : l.length < N) (hl : l.length ≤ 9223372036854775807) : Kg N l l = some true := by
  unfold Kg
  rw [if_neg (by simp)]
  exact zJx l [] N hN hl
theorem zJw {N : Nat} {rec : List zD → List zD → Option Bool} : ∀ (suf pre : List zD) (m : Nat), suf.length < m → (pre ++ suf).length ≤ 9223372036854775807 → (∀ x ∈ suf, x.Points.length < N ∧ x.Points.length ≤ 9223372036854775807 ∧ rec x.Steps x.Steps = some true) → zAN N (pre ++ suf) (pre ++ suf) rec m (pre.length : Int) = some true
  | [], pre, m, hm, hl, h => by
    obtain ⟨m, rfl⟩ : ∃ k, m = k + 1 := ⟨m - 1, by omega⟩
    rw [zAN, lt_end, if_neg (by simp)]
  | x :: l, pre, m, hm, hl, h => by
    obtain ⟨m, rfl⟩ : ∃ k, m = k + 1 := ⟨m - 1, by simp at hm; omega⟩
    simp at hm hl
    obtain ⟨h1, h2, h3⟩ := h x List.mem_cons_self
    rw [zAN, lt_mid, if_pos rfl, KI, Option.bind_some, Option.bind_some]
    simp only [bne_self_eq_false, zFX.2 rfl, zGy.2 rfl, Bool.not_true, Bool.or_self, Bool.false_eq_true, if_false, samePts_ok h1 h2, h3, Option.bind_some]
    rw [zFW _ x (by omega), snoc_mid, zJw l (pre ++ [x]) m (by omega) (by simp; omega) (fun y hy => h y (List.mem_cons_of_mem _ hy))]
theorem sameSts_ok : ∀ (k : Nat) (l : List zD) (N : Nat), KT l ≤ k → k + 5 ≤ N → l.length ≤ 9223372036854775807 → zI0 l → Ke N l l = some true
  | k, l, N, hk, hN, hl, hA => by
    obtain ⟨N, rfl⟩ : ∃ n, N = n + 1 := ⟨N - 1, by omega⟩
    have hlen := zHm l
    show KE N _ l l = _
    unfold KE
    rw [if_neg (by simp)]
    exact zJw l [] N (by omega) (by simpa using hl) (fun s hs => by
      have h1 := zDo hs
      have h2 := Vt s
      have h3 := (zIS s).1 (zJ8 hA hs)
      cases k with
      | zero => omega
      | succ k => exact ⟨by omega, h3.2.2.1.1, sameSts_ok k s.Steps N (by omega) (by omega) h3.2.2.2.2.1 h3.2.2.2.2.2⟩)
theorem samePl_loop {N : Nat} {p : zt} : ∀ (suf pre : List zS) (m : Nat), p.Tools = pre ++ suf → suf.length < m → p.Tools.length ≤ 9223372036854775807 → (∀ t ∈ suf, t.Rects.length < N ∧ t.Rects.length ≤ 9223372036854775807) → Qs N p p m (pre.length : Int) = some true
  | [], pre, m, he, hm, hl, h => by
    obtain ⟨m, rfl⟩ : ∃ k, m = k + 1 := ⟨m - 1, by omega⟩
    rw [Qs, if_neg (by rw [he]; simp)]
  | t :: l, pre, m, he, hm, hl, h => by
    obtain ⟨m, rfl⟩ : ∃ k, m = k + 1 := ⟨m - 1, by simp at hm; omega⟩
    simp at hm
    have hlen : p.Tools.length = pre.length + (l.length + 1) := by rw [he]; simp
    obtain ⟨h1, h2⟩ := h t List.mem_cons_self
    have hj : idx p.Tools (pre.length : Int) = some t := by rw [he]; exact KI _ _ _
    rw [Qs, if_pos (by simp; omega), hj]
    simp only [Option.bind_some, zFX.2 rfl, Bool.not_true, Bool.false_eq_true, if_false, sameRcs_ok h1 h2]
    rw [zFW _ t (by omega), samePl_loop l (pre ++ [t]) m (by rw [he]; simp) (by omega) hl (fun y hy => h y (List.mem_cons_of_mem _ hy))]
theorem samePl_ok {N : Nat} {p : zt} (hN : KT p.Steps + 5 ≤ N) (hs : p.Steps.length ≤ 9223372036854775807) (hL : zI0 p.Steps) (ht : p.Tools.length < N) (ht2 : p.Tools.length ≤ 9223372036854775807) (hr : ∀ t ∈ p.Tools, t.Rects.length < N ∧ t.Rects.length ≤ 9223372036854775807) : Jc N p p = some true := by
  unfold Jc
  simp only [bne_self_eq_false, Bool.or_self, Bool.false_eq_true, if_false, sameSts_ok (KT p.Steps) p.Steps N (Nat.le_refl _) hN hs hL, Option.bind_some, Bool.not_true]
  exact samePl_loop p.Tools [] N rfl ht ht2 hr
section
variable {U V : Int}
theorem sz_sc : ∀ (k : Nat) (l : List zD), KT l ≤ k → KT (Wp U V l) = KT l
  | k, [], _ => by rw [zEl]
  | k, x :: l, hk => by
    rw [VG, Vt] at hk
    rw [zDO, VG, VG, Vt, Vt, zET]
    cases k with
    | zero => omega
    | succ k =>
      simp only [List.length_map]
      rw [sz_sc k x.Steps (by omega), sz_sc k l (by omega)]
theorem szt_sc (l : List zS) : zER (l.map (zGE U V)) = zER l := by
  induction l with
  | nil => rfl
  | cons t l ih => simp [zER, zGE, ih]
theorem len_sc (hw : ∀ n, J64 (scN U V n)) : ∀ (k : Nat) (l : List zD), KT l ≤ k → zI0 l → zI0 (Wp U V l)
  | k, [], _, _ => by rw [zEl, zI0]; trivial
  | k, x :: l, hk, h => by
    rw [VG, Vt] at hk
    rw [zIT, zIS] at h
    rw [zDO, zIT, zIS, zET]
    cases k with
    | zero => omega
    | succ k =>
      obtain ⟨⟨h1, h2, h3, h4, h5, h6⟩, h7⟩ := h
      refine ⟨⟨h1, ⟨hw _, hw _⟩, ⟨by simpa using h3.1, fun q hq => ?_⟩, h4, by rw [zKv]; exact h5, len_sc hw k x.Steps (by omega) h6⟩, len_sc hw k l (by omega) h7⟩
      obtain ⟨q0, _, rfl⟩ := List.mem_map.1 hq
      exact ⟨hw _, hw _⟩
end
theorem zJo (x : Int) : J64 (w64 x) := by
  unfold J64 w64
  simp [IntKind.wrap, IntKind.bits, IntKind.signed]
  omega
theorem fu_sc {N : Nat} {p : zt} {V : Int} (h : Fu p N) : Fu (scP p V) N := by
  unfold Fu at h ⊢
  show KT (Wp p.Unit V p.Steps) + zER (p.Tools.map (zGE p.Unit V)) + 10000 ≤ N
  rw [sz_sc _ _ (Nat.le_refl _), szt_sc]; exact h
theorem lenP_sc {p : zt} {V : Int} (hV : J64 V) (h : LenP p) : LenP (scP p V) := by
  refine ⟨hV, fun t ht => ?_, by show (Wp p.Unit V p.Steps).length ≤ _; rw [zKv]; exact h.sl, len_sc (fun n => zJo _) _ _ (Nat.le_refl _) h.steps⟩
  obtain ⟨t0, h0, rfl⟩ := List.mem_map.1 ht
  refine ⟨(h.tools t0 h0).1, fun r hr => ?_⟩
  obtain ⟨r0, _, rfl⟩ := List.mem_map.1 hr
  exact ⟨⟨zJo _, zJo _⟩, zJo _, zJo _⟩
theorem zBU.goodP {N : Nat} {p : zt} (hN : Fu p N) (hL : LenP p) (h : zBU N p) : GoodP p := by
  obtain ⟨g1, g2⟩ := h.good hN hL
  have hc := h.cnt
  have key : ∀ (k : Nat) (l : List zD) (d : Int), KT l ≤ k → zI3 p d l → zHK 40 l ∧ (zB0 l : Int) ≤ zEC l := by
    intro k
    induction k with
    | zero =>
      intro l d hk _
      cases l with
      | nil => exact ⟨goodL_nil _, by rw [ndSteps_nil, zGS]; simp⟩
      | cons x l => have := Vt x; rw [VG] at hk; omega
    | succ k ih =>
      intro l
      induction l with
      | nil => intro d _ _; exact ⟨goodL_nil _, by rw [ndSteps_nil, zGS]; simp⟩
      | cons x l ihl =>
        intro d hk hv
        have hs := Vt x
        rw [VG] at hk
        rw [zEp, zIo] at hv
        obtain ⟨i1, i2⟩ := ih x.Steps (d + 1) (by omega) hv.1.2
        obtain ⟨j1, j2⟩ := ihl d (by omega) hv.2
        refine ⟨(goodL_cons _ _ _).2 ⟨(goodT_eq _ _).2 ⟨stepE_good g1 hv.1.1, i1⟩, j1⟩, ?_⟩
        rw [zGm, ndStep_eq, zIn, cntS_eq]
        have h1 := tm_mul x.NX x.NY
        have h2 := Int.mul_le_mul_of_nonneg_right h1.1 (zKV x.Steps)
        omega
  obtain ⟨k1, k2⟩ := key _ p.Steps 0 (Nat.le_refl _) h.steps
  exact ⟨h.unit, h.few, fun t ht => ⟨g1 t ht, toolE_good (h.tools t ht).2⟩, k1, by omega⟩
theorem zKu {U V n : Int} (hu : 1 ≤ U) (hv : 1 ≤ V) (hf : zI1 n U = true) (ho : okN U V n = true) : scN U V n * V = n * U ∧ scN V U (scN U V n) = n ∧ okN V U (scN U V n) = true ∧ -1000000 ≤ scN U V n ∧ scN U V n ≤ 1000000 := by
  have h1 := zDY hu hf
  unfold okN at ho
  have e1 : w64 (n * U) = n * U := Qa (by omega) (by omega)
  rw [e1, beq_iff_eq] at ho
  have hd := Int.mul_tdiv_add_tmod (n * U) V
  rw [ho, Int.add_zero] at hd
  have bnd : ∀ (q W : Int), 1 ≤ W → -1000000 ≤ q * W → q * W ≤ 1000000 → -1000000 ≤ q ∧ q ≤ 1000000 := fun q W hW a b => by
    refine ⟨Int.not_lt.1 fun hl => ?_, Int.not_lt.1 fun hl => ?_⟩
    · have := Int.mul_le_mul_of_nonpos_left (show q ≤ 0 by omega) hW
      omega
    · have := Int.mul_le_mul_of_nonneg_left hW (show 0 ≤ q by omega)
      omega
  have hq : (n * U).tdiv V * V = n * U := by rw [Int.mul_comm]; exact hd
  have b1 := bnd ((n * U).tdiv V) V hv (by omega) (by omega)
  have b2 := bnd n U hu h1.1 h1.2
  have e2 : scN U V n = (n * U).tdiv V := by unfold scN; rw [e1, Qa (by omega) (by omega)]
  rw [e2]
  refine ⟨hq, ?_, ?_, b1⟩
  · unfold scN
    rw [hq, e1, Int.mul_tdiv_cancel _ (by omega), Qa (by omega) (by omega)]
  · unfold okN
    rw [hq, e1, Int.mul_tmod_left, beq_iff_eq]
theorem zJv {U V : Int} {q : zI} (hu : 1 ≤ U) (hv : 1 ≤ V) (hf : zBa q U = true) (ho : zHY U V q = true) : zBm V U (zBm U V q) = q ∧ zHY V U (zBm U V q) = true ∧ (∀ b, atM V (zBm U V q) b = atM U q b) ∧ ∀ (b : zI) (j i : Nat), j < 100 → i < 100 → byM V b (zBm U V q) j i = byM U b q j i := by
  unfold zBa at hf
  unfold zHY at ho
  rw [Bool.and_eq_true] at hf ho
  obtain ⟨x1, x2, x3, x4⟩ := zKu hu hv hf.1 ho.1
  obtain ⟨y1, y2, y3, y4⟩ := zKu hu hv hf.2 ho.2
  have key : ∀ (n : Int) (k : Nat), k < 100 → -1000000 ≤ n ∧ n ≤ 1000000 → -99000000 ≤ (k : Int) * n ∧ (k : Int) * n ≤ 99000000 := fun n k hk hn => by
    have b1 : (k : Int) * n ≤ (k : Int) * 1000000 := Int.mul_le_mul_of_nonneg_left hn.2 (by omega)
    have b2 : (k : Int) * (-1000000) ≤ (k : Int) * n := Int.mul_le_mul_of_nonneg_left hn.1 (by omega)
    omega
  have bq : ∀ n, zI1 n U = true → -1000000 ≤ n ∧ n ≤ 1000000 := fun n hn => by
    have h1 := zDY hu hn
    refine ⟨Int.not_lt.1 fun hl => ?_, Int.not_lt.1 fun hl => ?_⟩
    · have := Int.mul_le_mul_of_nonpos_left (show n ≤ 0 by omega) hu
      omega
    · have := Int.mul_le_mul_of_nonneg_left hu (show 0 ≤ n by omega)
      omega
  refine ⟨?_, ?_, fun b => ?_, fun b j i hj hi => ?_⟩
  · show (⟨scN V U (scN U V q.X), scN V U (scN U V q.Y)⟩ : zI) = q
    rw [x2, y2]
  · show (okN V U (scN U V q.X) && okN V U (scN U V q.Y)) = true
    rw [x3, y3]; rfl
  · show (⟨w64 (w64 (scN U V q.X * V) + b.X), w64 (w64 (scN U V q.Y * V) + b.Y)⟩ : zI) = _
    rw [x1, y1]; rfl
  · have a1 := key _ i hi x4
    have a2 := key _ j hj y4
    have a3 := key _ i hi (bq _ hf.1)
    have a4 := key _ j hj (bq _ hf.2)
    show (⟨w64 (b.X + w64 (w64 ((i : Int) * scN U V q.X) * V)), w64 (b.Y + w64 (w64 ((j : Int) * scN U V q.Y) * V))⟩ : zI) = ⟨w64 (b.X + w64 (w64 ((i : Int) * q.X) * U)), w64 (b.Y + w64 (w64 ((j : Int) * q.Y) * U))⟩
    rw [Qa (x := (i : Int) * scN U V q.X) (by omega) (by omega), Qa (x := (j : Int) * scN U V q.Y) (by omega) (by omega), Qa (x := (i : Int) * q.X) (by omega) (by omega), Qa (x := (j : Int) * q.Y) (by omega) (by omega), Int.mul_assoc, x1, Int.mul_assoc, y1, Int.mul_assoc, Int.mul_assoc]
theorem zHs {β : Type} {f g : β → MS → Int × MS} : ∀ {l : List β} {s : MS}, (∀ b ∈ l, ∀ s, f b s = g b s) → zEK f l s = zEK g l s
  | [], _, _ => rfl
  | b :: l, s, h => by
    rw [zEK, zEK, h b List.mem_cons_self, zHs (l := l) fun c hc => h c (List.mem_cons_of_mem _ hc)]
theorem toolN_sc {U V : Int} {nm : ByteArray} (l : List zS) : zEF nm (l.map (zGE U V)) = zEF nm l := by
  unfold zEF
  have key : ∀ (l : List zS) (i : Int), zCO (fun t : zS => sEq t.Name nm) (l.map (zGE U V)) i = zCO (fun t : zS => sEq t.Name nm) l i := by
    intro l
    induction l with
    | nil => intro i; rfl
    | cons t l ih => intro i; rw [List.map_cons, zCO, zCO, ih]; rfl
  exact key l 0
theorem leafM_sc {p : zt} {V d : Int} (hu : 1 ≤ p.Unit) (hv : 1 ≤ V) {x : zD} (hx : StepOk p x d) (ho : zHY p.Unit V x.At = true) (hp : x.Points.all (zHY p.Unit V) = true) (TT : List (List zT)) (b : zI) (s : MS) : zJ9 (scP p V) TT (scSt p.Unit V x) b s = zJ9 p TT x b s := by
  have h1 := (zJv hu hv hx.place ho).2.2.1 b
  have h2 : (x.Points.map (zBm p.Unit V)).map (fun q => atM V q b) = x.Points.map fun q => atM p.Unit q b := by
    rw [List.map_map]
    refine List.map_congr_left fun q hq => ?_
    by_cases h7 : x.Kind = 7
    · exact (zJv hu hv (List.all_eq_true.1 (hx.area h7).1 q hq) (List.all_eq_true.1 hp q hq)).2.2.1 b
    · rw [hx.points h7] at hq; cases hq
  rw [zET]
  unfold zJ9
  show (if x.Kind = 1 ∨ x.Kind = 2 then _ else if x.Kind = 3 then (0, { s with tool := zEF x.Name (p.Tools.map (zGE p.Unit V)) }) else if x.Kind = 4 then zCv s (atM V (zBm p.Unit V x.At) b) else if x.Kind = 5 then zC4 TT s (atM V (zBm p.Unit V x.At) b) else if x.Kind = 6 then zFb TT s (atM V (zBm p.Unit V x.At) b) else if x.Kind = 7 then zJF s ((x.Points.map (zBm p.Unit V)).map fun q => atM V q b) else (0, s)) = _
  rw [h1, h2, toolN_sc]
theorem steps_sc {p : zt} {V : Int} (hu : 1 ≤ p.Unit) (hv : 1 ≤ V) : ∀ (k : Nat) (l : List zD) (d : Int), KT l ≤ k → zI3 p d l → zEJ p.Unit V l = true →
    Wp V p.Unit (Wp p.Unit V l) = l ∧ zEJ V p.Unit (Wp p.Unit V l) = true ∧ ∀ TT b s, zEx (scP p V) TT (Wp p.Unit V l) b s = zEx p TT l b s
  | k, [], d, _, _, _ => by rw [zEl, zEl, okSts_nil]; exact ⟨rfl, rfl, fun _ _ _ => by rw [runM_nil, runM_nil]⟩
  | 0, x :: l, d, hk, hvl, ho => by
    have hs := Vt x
    rw [VG] at hk
    omega
  | k + 1, x :: l, d, hk, hvl, ho => by
    have hs := Vt x
    rw [VG] at hk
    rw [zEp, zIo] at hvl
    rw [zJQ, Bool.and_eq_true, okSt_eq, Bool.and_eq_true, Bool.and_eq_true] at ho
    obtain ⟨i1, i2, i3⟩ := steps_sc hu hv k l d (by omega) hvl.2 ho.2
    obtain ⟨j1, j2, j3⟩ := steps_sc hu hv k x.Steps (d + 1) (by omega) hvl.1.2 ho.1.1.2
    have hx := zKs.1 hvl.1.1
    obtain ⟨a1, a2, a3, a4⟩ := zJv hu hv hx.place ho.1.1.1
    have hpts : ∀ q ∈ x.Points, zBm V p.Unit (zBm p.Unit V q) = q ∧ zHY V p.Unit (zBm p.Unit V q) = true := fun q hq => by
      by_cases h7 : x.Kind = 7
      · obtain ⟨c1, c2, _⟩ := zJv hu hv (List.all_eq_true.1 (hx.area h7).1 q hq) (List.all_eq_true.1 ho.1.2 q hq)
        exact ⟨c1, c2⟩
      · rw [hx.points h7] at hq; cases hq
    rw [zDO, zDO, zJQ]
    refine ⟨?_, ?_, fun TT b s => ?_⟩
    · rw [i1, zET, zET]
      show (⟨x.Kind, x.Name, zBm V p.Unit (zBm p.Unit V x.At), (x.Points.map (zBm p.Unit V)).map (zBm V p.Unit), x.NX, x.NY, Wp V p.Unit (Wp p.Unit V x.Steps)⟩ : zD) :: l = x :: l
      rw [a1, j1, show (x.Points.map (zBm p.Unit V)).map (zBm V p.Unit) = x.Points from by rw [List.map_map]; exact (List.map_congr_left (g := id) fun q hq => (hpts q hq).1).trans (List.map_id _)]
      cases x; rfl
    · rw [i2, Bool.and_true, okSt_eq, zET]
      show ((zHY V p.Unit (zBm p.Unit V x.At) && zEJ V p.Unit (Wp p.Unit V x.Steps)) && (x.Points.map (zBm p.Unit V)).all (zHY V p.Unit)) = true
      rw [a2, j2, List.all_map, Bool.true_and, Bool.true_and, List.all_eq_true]
      exact fun q hq => (hpts q hq).2
    · have he : zEI (scP p V) TT (scSt p.Unit V x) b s = zEI p TT x b s := by
        rw [stepM_eq, stepM_eq]
        have hk8 : (scSt p.Unit V x).Kind = x.Kind := by rw [zET]
        rw [hk8]
        by_cases h8 : x.Kind = 8
        · rw [if_pos h8, if_pos h8]
          obtain ⟨t1, t2, _, _⟩ := hx.times h8
          rw [zET]
          show zEK (fun j s => zEK (fun i s => zEx (scP p V) TT (Wp p.Unit V x.Steps) (byM V b (zBm p.Unit V x.At) j i) s) (List.range' 0 x.NX.toNat) s) (List.range' 0 x.NY.toNat) s = _
          refine zHs fun j hj s => zHs fun i hi s => ?_
          have hj' := List.mem_range'.1 hj
          have hi' := List.mem_range'.1 hi
          rw [j3, a4 b j i (by omega) (by omega)]
        · rw [if_neg h8, if_neg h8]
          exact leafM_sc hu hv hx ho.1.1.1 ho.1.2 TT b s
      rw [zKy, zKy, he]
      by_cases h0 : (zEI p TT x b s).1 = 0
      · rw [if_pos h0, if_pos h0, i3]
      · rw [if_neg h0, if_neg h0]
theorem tools_sc {N : Nat} {p : zt} {V : Int} (h : zBU N p) (hv : 1 ≤ V) (ho : p.Tools.all (okTl p.Unit V) = true) : (p.Tools.map (zGE p.Unit V)).map (zGE V p.Unit) = p.Tools ∧ (p.Tools.map (zGE p.Unit V)).all (okTl V p.Unit) = true ∧ zDM (scP p V) = zDM p := by
  have hu := h.unit.1
  have key : ∀ t ∈ p.Tools, ∀ r ∈ t.Rects, zHX V p.Unit (zHX p.Unit V r) = r ∧ okRc V p.Unit (zHX p.Unit V r) = true ∧ scR V (zHX p.Unit V r) = scR p.Unit r := fun t ht r hr => by
    have hok := List.all_eq_true.1 (List.all_eq_true.1 ho t ht) r hr
    unfold okRc at hok
    simp only [Bool.and_eq_true] at hok
    have hz := (zJL (h.tools t ht).2).2.2 r hr
    unfold rectE at hz
    split at hz
    · rename_i hf
      simp only [Bool.and_eq_true] at hf
      obtain ⟨a1, a2, a3, _⟩ := zKu hu hv hf.1.1.1 hok.1.1
      obtain ⟨b1, b2, b3, _⟩ := zKu hu hv hf.1.1.2 hok.1.2
      obtain ⟨c1, c2, c3, _⟩ := zKu hu hv hf.1.2 hok.2.1
      obtain ⟨d1, d2, d3, _⟩ := zKu hu hv hf.2 hok.2.2
      refine ⟨?_, ?_, ?_⟩
      · show (⟨scN V p.Unit (scN p.Unit V r.X0), scN V p.Unit (scN p.Unit V r.Y0), scN V p.Unit (scN p.Unit V r.X1), scN V p.Unit (scN p.Unit V r.Y1)⟩ : zT) = r
        rw [a2, b2, c2, d2]
      · show ((okN V p.Unit (scN p.Unit V r.X0) && okN V p.Unit (scN p.Unit V r.Y0)) && (okN V p.Unit (scN p.Unit V r.X1) && okN V p.Unit (scN p.Unit V r.Y1))) = true
        rw [a3, b3, c3, d3]; rfl
      · show (⟨scN p.Unit V r.X0 * V, scN p.Unit V r.Y0 * V, scN p.Unit V r.X1 * V, scN p.Unit V r.Y1 * V⟩ : zT) = _
        rw [a1, b1, c1, d1]; rfl
    · cases hz
  refine ⟨?_, ?_, ?_⟩
  · rw [List.map_map]
    refine (List.map_congr_left (g := id) fun t ht => ?_).trans (List.map_id _)
    show (⟨t.Name, (t.Rects.map (zHX p.Unit V)).map (zHX V p.Unit)⟩ : zS) = t
    rw [show (t.Rects.map (zHX p.Unit V)).map (zHX V p.Unit) = t.Rects from by rw [List.map_map]; exact (List.map_congr_left (g := id) fun r hr => (key t ht r hr).1).trans (List.map_id _)]
  · rw [List.all_map, List.all_eq_true]
    intro t ht
    show (t.Rects.map (zHX p.Unit V)).all (okRc V p.Unit) = true
    rw [List.all_map, List.all_eq_true]
    exact fun r hr => (key t ht r hr).2.1
  · show (p.Tools.map (zGE p.Unit V)).map (fun t => t.Rects.map (scR V)) = p.Tools.map fun t => t.Rects.map (scR p.Unit)
    rw [List.map_map]
    refine List.map_congr_left fun t ht => ?_
    show (t.Rects.map (zHX p.Unit V)).map (scR V) = _
    rw [List.map_map]
    exact List.map_congr_left fun r hr => (key t ht r hr).2.2
theorem plot_sc {N : Nat} {p : zt} {V : Int} (h : zBU N p) (hv : 1 ≤ V) (ho : okP p V = true) : scP (scP p V) p.Unit = p ∧ okP (scP p V) p.Unit = true ∧ imgM (scP p V) = imgM p := by
  unfold okP at ho
  rw [Bool.and_eq_true] at ho
  obtain ⟨t1, t2, t3⟩ := tools_sc h hv ho.1
  obtain ⟨s1, s2, s3⟩ := steps_sc h.unit.1 hv _ p.Steps 0 (Nat.le_refl _) h.steps ho.2
  refine ⟨?_, ?_, ?_⟩
  · show (⟨p.Unit, (p.Tools.map (zGE p.Unit V)).map (zGE V p.Unit), Wp V p.Unit (Wp p.Unit V p.Steps)⟩ : zt) = p
    rw [t1, s1]
  · show ((p.Tools.map (zGE p.Unit V)).all (okTl V p.Unit) && zEJ V p.Unit (Wp p.Unit V p.Steps)) = true
    rw [t2, s2]; rfl
  · show zEx (scP p V) (zDM (scP p V)) (Wp p.Unit V p.Steps) ⟨0, 0⟩ zFz = _
    rw [t3, s3]; rfl
noncomputable def imgV (p : zt) : List zT × Int := if (imgM p).1 = 0 then (Qd (imgM p).2.img, 0) else ([], (imgM p).1)
theorem Image_val {N : Nat} (hN : 20000000000 ≤ N) {p : zt} (hF : Fu p N) (hL : LenP p) (hp : zBU N p) : zBH N p = some (imgV p) := by
  obtain ⟨d1, d2⟩ := drawn_ok hN hp
  unfold zBH zDE imgV
  rw [(PlotOk_iff hF hL).2 hp, Option.bind_some, if_neg (by simp), d1, Option.bind_some]
  by_cases h0 : (imgM p).1 = 0
  · rw [if_neg (by simpa using h0), if_pos h0, Option.bind_some]
    show ((Va N ((imgM p).2.img.map toP)).bind _) = _
    rw [Rects_ok (by omega) (d2 h0).img.small, Option.bind_some]
  · rw [if_pos (by simpa using h0), if_neg h0, Option.bind_some]
    have := Rects_ok (N := N) (by omega) (l := []) ⟨by simp, by simp, by simp [Qd]⟩
    rw [List.map_nil] at this
    rw [this, Option.bind_some]; rfl
theorem Scaled_val {N : Nat} {p : zt} {V : Int} (hN : Fu p N) (hL : LenP p) : ∃ r, zAc N p V = some r ∧ (((r.2.2 ≠ 0 ∨ r.2.1 = false) ∧ r.1.Unit = 0) ∨ (r = (scP p V, true, 0) ∧ zBU N p ∧ okP p V = true ∧ zBU N (scP p V) ∧ (1 ≤ V ∧ V ≤ 1000))) ∧ (zBU N p → (1 ≤ V ∧ V ≤ 1000) → okP p V = true → zBU N (scP p V) → r = (scP p V, true, 0)) := by
  have hN' := hN
  unfold Fu at hN'
  obtain ⟨e, e1, e2⟩ := Check_ok hN hL
  have hw : Jp V 1 1000 = some (decide (1 ≤ V) && decide (V ≤ 1000)) := rfl
  unfold zAc
  rw [e1, Option.bind_some, hw, Option.bind_some]
  by_cases h0 : e = 0
  · have hp := e2.1 h0
    have hG := hp.goodP hN hL
    rw [if_neg (by simpa using h0)]
    by_cases hv : 1 ≤ V ∧ V ≤ 1000
    · rw [if_neg (by simpa using hv), scaledP_ok hN hG (by omega), Option.bind_some]
      by_cases ho : okP p V = true
      · rw [ho, if_neg (by simp)]
        obtain ⟨e', f1, f2⟩ := Check_ok (fu_sc (V := V) hN) (lenP_sc (V := V) ⟨by omega, by omega⟩ hL)
        unfold zFo
        rw [f1, Option.bind_some]
        by_cases h1 : e' = 0
        · subst h1
          rw [if_neg (by simp), Option.bind_some]
          exact ⟨_, rfl, .inr ⟨rfl, hp, rfl, f2.1 rfl, hv⟩, fun _ _ _ _ => rfl⟩
        · rw [if_pos (by simpa using h1), Option.bind_some]
          exact ⟨_, rfl, .inl ⟨.inl h1, rfl⟩, fun _ _ _ h => absurd (f2.2 h) h1⟩
      · have ho' : okP p V = false := by simpa using ho
        rw [ho', if_pos (show (!(scP p V, false).2) = true from rfl)]
        exact ⟨_, rfl, .inl ⟨.inr rfl, rfl⟩, fun _ _ h => absurd h (by simp)⟩
    · rw [if_pos (by simp; omega)]
      exact ⟨_, rfl, .inl ⟨.inl (by simp), rfl⟩, fun _ h => absurd h hv⟩
  · rw [if_pos (by simpa using h0)]
    exact ⟨_, rfl, .inl ⟨.inl h0, rfl⟩, fun h => absurd (e2.2 h) h0⟩
end Go.Proofs.YtoageaoknnnfbaaGreatDoor
