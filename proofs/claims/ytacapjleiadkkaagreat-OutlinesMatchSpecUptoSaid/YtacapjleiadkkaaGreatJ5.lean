/- What closed rows go around, as the program finds it (as for plots). Plain Lean about the plain functions. Conditions: none beyond each theorem's own. What rows go around, as the reference finds it. Plain Lean about the plain functions. Conditions: none beyond each theorem's own. Filled rows: the reference's and the program's answers are alike. Plain Lean about the plain functions. Conditions: none beyond each theorem's own. Chapter 1: the law's own small region. Plain Lean about the plain functions. The law: Outlines and Filled are as specified. Plain Lean about the plain functions. Conditions: none beyond each theorem's own. -/
import Derived.Test.YtacapjleiadkkaaGreatJ4
import Derived.Test.YtacapjleiadkkaaGreatXF
import Derived.Test.YtacapjleiadkkaaGreatJ3
namespace Go.Proofs.YtacapjleiadkkaaGreat
theorem zcY (xs : List Int) (x : Int) : (stk xs x).length ≤ xs.length + 1 := by
  unfold stk
  split
  · rw [List.length_dropLast]; omega
  · simp
theorem zMF : ∀ (l xs : List Int), (l.foldl stk xs).length ≤ xs.length + l.length
  | [], xs => by simp
  | x :: l, xs => by
    have h1 := zcY xs x
    have h2 := zMF l (stk xs x)
    rw [List.foldl_cons, List.length_cons]; omega
theorem zby (l : List Int) : (zUU l).length ≤ l.length := by
  have := zMF l []
  unfold zUU
  simpa using this
theorem zId {ys : List Int} {out : List JD} {k : Nat} {K : List JD → Int → Option (List JD)} {a b : Int} (ha : idx ys (k : Int) = some a) (hb : idx ys (w64 ((k : Int) + 1)) = some b) : ∀ (suf : List zJ) (i : Nat) (xs : List Int), xs.length + suf.length ≤ 1000000 →
    Ki ys out (k : Int) K suf i xs = (VG out ⟨a, b, (zC3 suf a).foldl stk xs⟩).bind fun y => K y (w64 ((k : Int) + 1))
  | [], i, xs, _ => by
    rw [Ki, ha, Option.bind_some, hb, Option.bind_some]; rfl
  | s :: l, i, xs, h => by
    simp at h
    rw [Ki, ha, Option.bind_some]
    by_cases hc : s.Y0 ≤ a ∧ a < s.Y1
    · have e1 : zC3 (s :: l) a = s.X0 :: zC3 l a := by
        unfold zC3
        rw [List.filter_cons, if_pos (by simpa using hc)]; rfl
      rw [if_neg (by simp <;> omega), Option.bind_some, Option.bind_some, if_neg (by simp <;> omega), e1, List.foldl_cons]
      rcases List.eq_nil_or_concat xs with hx | ⟨zs, z, hx⟩
      · subst hx
        rw [if_neg (by simp), Option.bind_some, if_neg (by simp), Kl (by simp), Option.bind_some, zId ha hb l (i + 1) _ (by simp <;> omega)]
        rfl
      · rw [List.concat_eq_append] at hx
        subst hx
        simp at h
        have hz : idx (zs ++ [z]) (w64 (((zs ++ [z]).length : Int) - 1)) = some z := by
          rw [Qg (by simp <;> omega) (by simp <;> omega), show ((zs ++ [z]).length : Int) - 1 = (zs.length : Int) by simp]
          exact Qn zs [] z
        rw [if_pos (by simp), hz, Option.bind_some, Option.bind_some]
        by_cases he : z = s.X0
        · have hp : pre (zs ++ [z]) (w64 (((zs ++ [z]).length : Int) - 1)) = some zs := by
            rw [Qg (by simp <;> omega) (by simp <;> omega), show ((zs ++ [z]).length : Int) - 1 = (zs.length : Int) by simp]
            unfold pre
            rw [if_pos ⟨by omega, by simp <;> omega⟩]
            simp
          rw [if_pos (by simpa using he), hp, Option.bind_some, zId ha hb l (i + 1) _ (by omega)]
          unfold stk
          rw [if_pos (by simp [he]), List.dropLast_concat]
        · rw [if_neg (by simpa using he), Kl (by simp <;> omega), Option.bind_some, zId ha hb l (i + 1) _ (by simp <;> omega)]
          have : stk (zs ++ [z]) s.X0 = zs ++ [z] ++ [s.X0] := by unfold stk; rw [if_neg (by simp [he])]
          rw [this]
    · have e1 : zC3 (s :: l) a = zC3 l a := by
        unfold zC3
        rw [List.filter_cons, if_neg (by simpa using hc)]
      rw [e1]
      by_cases h0 : a < s.Y0
      · rw [if_pos (decide_eq_true h0), Option.bind_some, if_pos rfl, zId ha hb l (i + 1) _ (by omega)]
      · rw [if_neg (by simpa using h0), Option.bind_some, Option.bind_some, if_pos (by simp <;> omega), zId ha hb l (i + 1) _ (by omega)]
theorem zPE {ys : List Int} {up : List zJ} (hy : ys.Pairwise fun x y => x < y) (hs : up.Pairwise fun a b => a.X0 ≤ b.X0) (hev : ∀ y, (zC3 up y).length % 2 = 0) (hl : ys.length ≤ 100000) (hu : up.length ≤ 100000) : ∀ (suf pre : List Int) (m : Nat) (out : List Bd), ys = pre ++ suf → suf.length < m → out.length + suf.length ≤ 1000000 →
    Kj ys up m (out.map toP) (pre.length : Int) = some ((zAc (fA up) suf out).map toP)
  | [], pre, m, out, he, hm, _ => by
    obtain ⟨m, rfl⟩ : ∃ k, m = k + 1 := ⟨m - 1, by omega⟩
    have hlen : ys.length = pre.length := by rw [he]; simp
    rw [Kj, if_neg (by rw [Qg (by omega) (by omega)]; simp; omega)]
    rfl
  | [a], pre, m, out, he, hm, _ => by
    obtain ⟨m, rfl⟩ : ∃ k, m = k + 1 := ⟨m - 1, by omega⟩
    have hlen : ys.length = pre.length + 1 := by rw [he]; simp
    rw [Kj, if_neg (by rw [Qg (by omega) (by omega)]; simp; omega)]
    rfl
  | a :: b :: l, pre, m, out, he, hm, ho => by
    obtain ⟨m, rfl⟩ : ∃ k, m = k + 1 := ⟨m - 1, by simp at hm; omega⟩
    simp at hm ho
    have hlen : ys.length = pre.length + (l.length + 2) := by rw [he]; simp
    have hab : a < b := by
      rw [he] at hy
      have := (List.pairwise_append.1 hy).2.1
      exact (List.pairwise_cons.1 this).1 b List.mem_cons_self
    have hia : idx ys (pre.length : Int) = some a := by rw [he]; exact Qn _ _ _
    have hib : idx ys (w64 ((pre.length : Int) + 1)) = some b := by
      rw [zMe pre a (by omega), he, show pre ++ a :: b :: l = (pre ++ [a]) ++ b :: l by simp]; exact Qn _ _ _
    rw [Kj, if_pos (by rw [Qg (by omega) (by omega)]; simp; omega), zId hia hib up 0 [] (by simp; omega)]
    have hpu := zRu (l := out) (b := (a, b, fA up a)) (by omega) hab
    have e : toP (a, b, fA up a) = ⟨a, b, (zC3 up a).foldl stk []⟩ := by
      show (⟨a, b, Qf (fA up a)⟩ : JD) = _
      rw [(zXd hs hev a).1]; rfl
    rw [e] at hpu
    rw [hpu, Option.bind_some, zMe pre a (by omega)]
    have hpl := zFF out (a, b, fA up a)
    have := zPE hy hs hev hl hu (b :: l) (pre ++ [a]) m (pushB out (a, b, fA up a)) (by rw [he]; simp) (by simp; omega) (by simp; omega)
    rw [this]; rfl
def zHZ (s : zG × zG) : Option zJ := if s.1.X = s.2.X then some ⟨s.1.X, min s.1.Y s.2.Y, 0, max s.1.Y s.2.Y⟩ else none
theorem zIB (p0 x : zG) (r : List zG) : nxt p0 (x :: r) = (x, (r ++ [p0]).headD p0) :: nxt p0 r := by
  cases r with
  | nil => rfl
  | cons y r => rfl
theorem zLV {pre r : List zG} {x p0 : zG} (h0 : (pre ++ x :: r).head? = some p0) : (pre ++ x :: r).getD ((pre.length + 1) % (pre ++ x :: r).length) ⟨0, 0⟩ = (r ++ [p0]).headD p0 := by
  cases r with
  | nil =>
    have : (pre.length + 1) % (pre ++ [x]).length = 0 := by simp
    rw [this]
    cases pre with
    | nil => simp at h0 ⊢; exact h0
    | cons z pre => simp at h0 ⊢; exact h0
  | cons y r =>
    have : (pre.length + 1) % (pre ++ x :: y :: r).length = pre.length + 1 := Nat.mod_eq_of_lt (by simp)
    rw [this]
    simp [List.getD]
theorem zJj {l : List zG} {p0 : zG} (h0 : l.head? = some p0) (hl : l.length ≤ 100000) {K : List Int → List zJ → Option (List JD)} : ∀ (suf pre : List zG) (ys : List Int) (up : List zJ), l = pre ++ suf → ys.length + suf.length ≤ 1000000000 → up.length + suf.length ≤ 1000000000 →
    Kh K l suf pre.length ys up = K (ys ++ suf.map (·.Y)) (up ++ (nxt p0 suf).filterMap zHZ)
  | [], pre, ys, up, he, hy, hu => by rw [Kh]; simp [nxt]
  | x :: r, pre, ys, up, he, hy, hu => by
    simp only [List.length_cons] at hy hu
    have hlen : l.length = pre.length + (r.length + 1) := by rw [he]; simp
    have hnx : l.getD ((pre.length + 1) % l.length) ⟨0, 0⟩ = (r ++ [p0]).headD p0 := by
      have := zLV (pre := pre) (r := r) (x := x) (p0 := p0) (by rw [← he]; exact h0)
      rw [he]; exact this
    rw [Kh, zKN (by omega) (by omega), hnx, Kl (by simp; omega), Option.bind_some, zIB]
    by_cases hx : x.X = ((r ++ [p0]).headD p0).X
    · have hv : zHZ (x, (r ++ [p0]).headD p0) = some ⟨x.X, min x.Y ((r ++ [p0]).headD p0).Y, 0, max x.Y ((r ++ [p0]).headD p0).Y⟩ := if_pos hx
      rw [if_pos (by simpa using hx), Kl (by simp; omega), Option.bind_some, List.filterMap_cons_some hv]
      have := zJj h0 hl (K := K) r (pre ++ [x]) (ys ++ [x.Y]) (up ++ [⟨x.X, min x.Y ((r ++ [p0]).headD p0).Y, 0, max x.Y ((r ++ [p0]).headD p0).Y⟩]) (by rw [he]; simp) (by first | omega | (simp; omega)) (by first | omega | (simp; omega))
      rw [show (pre ++ [x]).length = pre.length + 1 by simp] at this
      rw [this]; simp
    · have hv : zHZ (x, (r ++ [p0]).headD p0) = none := if_neg hx
      rw [if_neg (by simpa using hx), List.filterMap_cons_none hv]
      have := zJj h0 hl (K := K) r (pre ++ [x]) (ys ++ [x.Y]) up (by rw [he]; simp) (by first | omega | (simp; omega)) (by first | omega | (simp; omega))
      rw [show (pre ++ [x]).length = pre.length + 1 by simp] at this
      rw [this]; simp
theorem zNd (y : Int) : ∀ (S : List (zG × zG)), ((S.filterMap zHZ).filter fun s => decide (s.Y0 ≤ y) && decide (y < s.Y1)).map (·.X0) = (Vw y S).map (·.1.X)
  | [] => rfl
  | s :: S => by
    have ih := zNd y S
    unfold Vw at ih ⊢
    by_cases hx : s.1.X = s.2.X
    · have hv : zHZ s = some ⟨s.1.X, min s.1.Y s.2.Y, 0, max s.1.Y s.2.Y⟩ := if_pos hx
      rw [List.filterMap_cons_some hv, List.filter_cons, List.filter_cons, decide_eq_true hx, Bool.true_and]
      by_cases hc : (decide (min s.1.Y s.2.Y ≤ y) && decide (y < max s.1.Y s.2.Y)) = true
      · rw [if_pos hc, if_pos hc, List.map_cons, List.map_cons, ih]
      · rw [if_neg hc, if_neg hc, ih]
    · have hv : zHZ s = none := if_neg hx
      rw [List.filterMap_cons_none hv, List.filter_cons, decide_eq_false hx, Bool.false_and, if_neg (by simp), ih]
theorem zWw (p0 : zG) : ∀ (l : List zG), (nxt p0 l).length = l.length
  | [] => rfl
  | x :: r => by rw [zIB, List.length_cons, List.length_cons, zWw p0 r]
theorem zWv {p0 : zG} : ∀ {l : List zG} {s : zG × zG}, s ∈ nxt p0 l → s.1 ∈ l ∧ (s.2 ∈ l ∨ s.2 = p0)
  | [], s, h => by cases h
  | x :: r, s, h => by
    rw [zIB] at h
    rcases List.mem_cons.1 h with rfl | h
    · refine ⟨List.mem_cons_self, ?_⟩
      cases r with
      | nil => exact .inr rfl
      | cons y r => exact .inl (by simp)
    · obtain ⟨h1, h2⟩ := zWv h
      exact ⟨List.mem_cons_of_mem _ h1, h2.imp (List.mem_cons_of_mem _) id⟩
theorem zJy {f : Int → List (Int × Int)} {R : Nat} (hf : ∀ y, (f y).length ≤ R) : ∀ (ys : List Int) (out : List Bd), (∀ c ∈ out, c.2.2.length ≤ R) → (zAc f ys out).length ≤ out.length + ys.length ∧ ∀ c ∈ zAc f ys out, c.2.2.length ≤ R
  | [], out, h => ⟨by simp [zAc], h⟩
  | [a], out, h => ⟨by simp [zAc], h⟩
  | a :: b :: ys, out, h => by
    have h1 := zFF out (a, b, f a)
    obtain ⟨h2, h3⟩ := zJy hf (b :: ys) (pushB out (a, b, f a)) (zIk h (hf a))
    rw [zAc]
    exact ⟨by simp at h2 ⊢; omega, h3⟩
def zDq (rows : List (List zG)) : List (zG × zG) := rows.flatMap zBi
def zVU (rows : List (List zG)) (x y : Int) : Prop := cle x ((Vw y (zDq rows)).map (·.1.X)) % 2 = 1
def zD5 (rows : List (List zG)) : List Int := rows.flatMap fun l => l.map (·.Y)
theorem zJR (y : Int) (a b : List (zG × zG)) : Vw y (a ++ b) = Vw y a ++ Vw y b := by unfold Vw; rw [List.filter_append]
theorem zIR (y : Int) : ∀ {rows : List (List zG)}, (∀ l ∈ rows, axS (zBi l)) → (Vw y (zDq rows)).length % 2 = 0
  | [], _ => rfl
  | l :: rows, h => by
    have h1 := zWF y (h l (by simp))
    have h2 := zIR y (rows := rows) fun m hm => h m (by simp [hm])
    have e : zDq (l :: rows) = zBi l ++ zDq rows := rfl
    rw [e, zJR, List.length_append]; omega
theorem zNs (l : List zG) : (zBi l).length = l.length := by
  cases l with
  | nil => rfl
  | cons x r => exact zWw x (x :: r)
theorem zGu : ∀ rows : List (List zG), (zDq rows).length = rows.flatten.length
  | [] => rfl
  | l :: rows => by
    have e : zDq (l :: rows) = zBi l ++ zDq rows := rfl
    rw [e, List.flatten_cons, List.length_append, List.length_append, zNs, zGu rows]
theorem zIV : ∀ rows : List (List zG), (zD5 rows).length = rows.flatten.length
  | [] => rfl
  | l :: rows => by
    have e : zD5 (l :: rows) = l.map (·.Y) ++ zD5 rows := rfl
    rw [e, List.flatten_cons, List.length_append, List.length_append, List.length_map, zIV rows]
theorem zNr {l : List zG} {s : zG × zG} (h : s ∈ zBi l) : s.1 ∈ l ∧ s.2 ∈ l := by
  cases l with
  | nil => cases h
  | cons x r =>
    obtain ⟨s1, s2⟩ := zWv (show s ∈ nxt x (x :: r) from h)
    exact ⟨s1, s2.elim id fun e => e ▸ List.mem_cons_self⟩
theorem zQA {N : Nat} : ∀ (suf : List (List zG)) (i : Nat) (ys : List Int) (up : List zJ), (∀ l ∈ suf, l.length ≤ 100000) → ys.length + suf.flatten.length ≤ 1000000000 → up.length + suf.flatten.length ≤ 1000000000 →
    JV N suf i ys up = JV N [] (i + suf.length) (ys ++ zD5 suf) (up ++ (zDq suf).filterMap zHZ)
  | [], i, ys, up, _, _, _ => by simp [zD5, zDq]
  | l :: suf, i, ys, up, hl, hy, hu => by
    rw [List.flatten_cons, List.length_append] at hy hu
    have e1 : zD5 (l :: suf) = l.map (·.Y) ++ zD5 suf := rfl
    have e2 : zDq (l :: suf) = zBi l ++ zDq suf := rfl
    rw [JV.eq_2, e1, e2, List.filterMap_append, List.length_cons]
    have hfl := List.length_filterMap_le zHZ (zBi l)
    rw [zNs] at hfl
    have ih := zQA (N := N) suf (i + 1) (ys ++ l.map (·.Y)) (up ++ (zBi l).filterMap zHZ) (fun m hm => hl m (by simp [hm])) (by rw [List.length_append, List.length_map]; omega) (by rw [List.length_append]; omega)
    cases l with
    | nil =>
      rw [Kh]
      simp only [List.map_nil, List.append_nil, List.nil_append, zBi, List.filterMap_nil] at ih ⊢
      rw [ih]; congr 1; omega
    | cons x r =>
      have hsl := zJj (l := x :: r) (p0 := x) rfl (hl _ (by simp)) (K := JV N suf (i + 1)) (x :: r) [] ys up rfl (by omega) (by omega)
      rw [show ([] : List zG).length = 0 from rfl] at hsl
      rw [hsl]
      show JV N suf (i + 1) (ys ++ (x :: r).map (·.Y)) (up ++ (zBi (x :: r)).filterMap zHZ) = _
      rw [ih, List.append_assoc, List.append_assoc]
      congr 1; omega
theorem zUm {N : Nat} (hN : 10000000000 ≤ N) {rows : List (List zG)} (hl : rows.flatten.length ≤ 2000) (hb : ∀ l ∈ rows, ∀ p ∈ l, -1000000000 ≤ p.X ∧ p.X ≤ 1000000000) (hax : ∀ l ∈ rows, axS (zBi l)) :
    ∃ A, zA6 N rows = some (A.map toP) ∧ BOk A ∧ A.length ≤ 2000 ∧ (∀ b ∈ A, b.2.2.length ≤ 2000) ∧ (∀ x y, InB x y A ↔ zVU rows x y) := by
  have hrl : ∀ l ∈ rows, l.length ≤ 2000 := fun l h => by
    have : l.length ≤ rows.flatten.length := by
      obtain ⟨a, b, rfl⟩ := List.append_of_mem h
      simp; omega
    omega
  obtain ⟨V, hV⟩ : ∃ V, V = (zDq rows).filterMap zHZ := ⟨_, rfl⟩
  have hVm : ∀ v ∈ V, (∃ l ∈ rows, v.X0 ∈ l.map (·.X)) ∧ v.Y0 ∈ zD5 rows ∧ v.Y1 ∈ zD5 rows := fun v hv => by
    rw [hV] at hv
    obtain ⟨s, hs, hsv⟩ := List.mem_filterMap.1 hv
    obtain ⟨l, hlr, hs⟩ := List.mem_flatMap.1 hs
    obtain ⟨s1, s2⟩ := zNr hs
    have y1 : s.1.Y ∈ zD5 rows := List.mem_flatMap.2 ⟨l, hlr, List.mem_map.2 ⟨s.1, s1, rfl⟩⟩
    have y2 : s.2.Y ∈ zD5 rows := List.mem_flatMap.2 ⟨l, hlr, List.mem_map.2 ⟨s.2, s2, rfl⟩⟩
    unfold zHZ at hsv
    split at hsv
    · cases Option.some.inj hsv
      refine ⟨⟨l, hlr, List.mem_map.2 ⟨s.1, s1, rfl⟩⟩, ?_, ?_⟩
      · show min s.1.Y s.2.Y ∈ _
        rcases (show min s.1.Y s.2.Y = s.1.Y ∨ min s.1.Y s.2.Y = s.2.Y by omega) with e | e <;> rw [e]
        · exact y1
        · exact y2
      · show max s.1.Y s.2.Y ∈ _
        rcases (show max s.1.Y s.2.Y = s.2.Y ∨ max s.1.Y s.2.Y = s.1.Y by omega) with e | e <;> rw [e]
        · exact y2
        · exact y1
    · cases hsv
  have hVl : V.length ≤ 2000 := by
    rw [hV]
    refine Nat.le_trans (List.length_filterMap_le _ _) ?_
    rw [zGu]; exact hl
  have hVx : ∀ v ∈ V, -1000000000 ≤ v.X0 ∧ v.X0 ≤ 1000000000 := fun v hv => by
    obtain ⟨l, hlr, h1⟩ := (hVm v hv).1
    obtain ⟨p, hp, e⟩ := List.mem_map.1 h1
    have := hb l hlr p hp
    omega
  obtain ⟨U, u1, u2, u3⟩ := zNm (c := fun z0 z1 => zAx z0 z1) (k := fun r => r.X0) (l := V) (by omega) (fun x hx y hy => by
    have a := hVx x hx; have b := hVx y hy
    unfold zAx
    rw [Qg (by omega) (by omega)])
  have hxs : ∀ y, (zC3 U y).Perm ((Vw y (zDq rows)).map (·.1.X)) := fun y => by
    rw [← zNd, ← hV]
    exact (u2.filter _).map _
  have hev : ∀ y, (zC3 U y).length % 2 = 0 := fun y => by
    rw [(hxs y).length_eq, List.length_map]; exact zIR y hax
  have hcle : ∀ x y, cle x (zC3 U y) = cle x ((Vw y (zDq rows)).map (·.1.X)) := fun x y => ((hxs y).filter _).length_eq
  obtain ⟨ys, hys⟩ : ∃ ys, ys = QP (zD5 rows) := ⟨_, rfl⟩
  have hysl : ys.length ≤ 2000 := by rw [hys]; exact Nat.le_trans (zCV _) (by rw [zIV]; exact hl)
  obtain ⟨b1, b2⟩ := zbf (up := U) (ys := ys) (by rw [hys]; exact JG _) u3 hev (fun s hs => by
    have := hVm s (u2.subset hs)
    rw [hys, Vd, Vd]; exact this.2)
  have hUl : U.length ≤ 2000 := by rw [u2.length_eq]; exact hVl
  have hrow : ∀ y, (fA U y).length ≤ 2000 := fun y => by
    have h1 := Kr (fA U y)
    rw [(zXd u3 hev y).1] at h1
    have h2 := zby (zC3 U y)
    have h3 : (zC3 U y).length ≤ U.length := by unfold zC3; rw [List.length_map]; exact List.length_filter_le _ _
    omega
  obtain ⟨c1, c2⟩ := zJy hrow ys [] (fun c hc => by cases hc)
  refine ⟨zAc (fA U) ys [], ?_, b1, by simp at c1; omega, c2, fun x y => by rw [b2, hcle]; rfl⟩
  unfold zA6
  rw [zQA rows 0 [] [] (fun l h => by have := hrl l h; omega) (by rw [List.length_nil]; omega) (by rw [List.length_nil]; omega), List.nil_append, List.nil_append, JV.eq_1]
  have hso := zWi (l := zD5 rows) (by rw [zIV]; omega)
  rw [zRj (by rw [zIV]; omega), Option.bind_some] at hso ⊢
  rw [hso, Option.bind_some, ← hV, u1, Option.bind_some, ← hys]
  exact zPE (by rw [hys]; exact JG _) u3 hev (by omega) (by omega) ys [] N [] rfl (by omega) (by simp; omega)
theorem zWp {l : List zG} {p0 : zG} (h0 : l.head? = some p0) : ∀ (suf pre : List zG), l = pre ++ suf → (zMU l suf pre.length = true ↔ axS (nxt p0 suf))
  | [], pre, _ => by
    constructor
    · intro _ s hs; cases hs
    · intro _; rfl
  | x :: r, pre, he => by
    have hnx : l.getD ((pre.length + 1) % l.length) ⟨0, 0⟩ = (r ++ [p0]).headD p0 := by
      have := zLV (pre := pre) (r := r) (x := x) (p0 := p0) (by rw [← he]; exact h0)
      rw [he]; exact this
    have ih := zWp h0 r (pre ++ [x]) (by rw [he]; simp)
    rw [List.length_append, List.length_singleton] at ih
    rw [zIB, zMU, hnx]
    generalize (r ++ [p0]).headD p0 = q
    have hb : ((x.X == q.X) == (x.Y == q.Y)) = true ↔ ¬ (x.X = q.X) ≠ (x.Y = q.Y) := by
      have e1 : (x.X == q.X) = decide (x.X = q.X) := rfl
      have e2 : (x.Y == q.Y) = decide (x.Y = q.Y) := rfl
      rw [e1, e2]
      by_cases h1 : x.X = q.X <;> by_cases h2 : x.Y = q.Y <;> simp [h1, h2]
    by_cases hc : ((x.X == q.X) == (x.Y == q.Y)) = true
    · rw [if_pos hc]
      constructor
      · intro h; cases h
      · intro h
        exact absurd (h (x, q) List.mem_cons_self) (hb.1 hc)
    · rw [if_neg hc, ih]
      constructor
      · intro h s hs
        rcases List.mem_cons.1 hs with rfl | hs
        · by_cases hh : (x.X = q.X) ≠ (x.Y = q.Y)
          · exact hh
          · exact absurd (hb.2 hh) hc
        · exact h s hs
      · intro h s hs
        exact h s (List.mem_cons_of_mem _ hs)
theorem zLM {l : List zG} : zC6 l = 0 ↔ 4 ≤ l.length ∧ (∀ p ∈ l, ptB p = true) ∧ axS (zBi l) := by
  unfold zC6
  by_cases h4 : (l.length : Int) < 4
  · rw [if_pos h4]
    constructor
    · intro h; cases h
    · rintro ⟨h, _⟩; omega
  · rw [if_neg h4]
    have hne : l ≠ [] := fun e => by subst e; simp at h4
    obtain ⟨p0, r0, rfl⟩ := List.exists_cons_of_ne_nil hne
    have hax := zWp (l := p0 :: r0) (p0 := p0) rfl (p0 :: r0) [] rfl
    rw [List.length_nil] at hax
    by_cases hp : ((p0 :: r0).any fun q => !ptB q) = true
    · rw [if_pos hp]
      constructor
      · intro h; cases h
      · rintro ⟨_, h, _⟩
        obtain ⟨q, q1, q2⟩ := List.any_eq_true.1 hp
        rw [h q q1] at q2; cases q2
    · rw [if_neg hp]
      have hp' : ∀ p ∈ p0 :: r0, ptB p = true := fun p hpm => by
        cases hb : ptB p with
        | true => rfl
        | false => exact absurd (List.any_eq_true.2 ⟨p, hpm, by rw [hb]; rfl⟩) hp
      by_cases hr : zMU (p0 :: r0) (p0 :: r0) 0 = true
      · rw [if_pos hr]
        exact ⟨fun _ => ⟨by omega, hp', hax.1 hr⟩, fun _ => rfl⟩
      · rw [if_neg hr]
        constructor
        · intro h; cases h
        · rintro ⟨_, _, h⟩; exact absurd (hax.2 h) hr
theorem zNz : ∀ {rows : List (List zG)}, zAn rows = 0 → ∀ l ∈ rows, zC6 l = 0
  | m :: rows, h, l, hl => by
    unfold zAn at h
    by_cases he : zC6 m = 0
    · rw [if_pos he] at h
      rcases List.mem_cons.1 hl with rfl | hl
      · exact he
      · exact zNz h l hl
    · rw [if_neg he] at h; exact absurd h he
def zHa (l : List Int) : List Int := l.mergeSort fun a b => decide (a ≤ b)
theorem zFP (l : List Int) : (zHa l).Perm l := List.mergeSort_perm l _
theorem zS8 (l : List Int) : (zHa l).Pairwise fun a b => a ≤ b := by
  have := List.pairwise_mergeSort (le := fun x y : Int => decide (x ≤ y)) (fun a b c h1 h2 => by simp at *; omega) (fun a b => by simp; omega) l
  exact this.imp fun h => of_decide_eq_true h
theorem zYb {l m : List Int} (hl : l.Pairwise fun a b => a ≤ b) (hm : m.Pairwise fun a b => a ≤ b) (h : l.Perm m) : l = m :=
  h.eq_of_pairwise (fun x y _ _ h1 h2 => by omega) hl hm
def zC7 : List Int → List (Int × Int) → List (Int × Int)
  | a :: b :: l, out => zC7 l (if a < b then zCY out (a, b) else out)
  | _, out => out
def zJM (l : List Int) : List (Int × Int) := zC7 (zHa l) []
theorem zQJ {lo : Int} : ∀ (n : Nat) (l done : List Int) (out : List (Int × Int)), l.length ≤ n → l.length % 2 = 0 → done.length % 2 = 0 → (done ++ l).Pairwise (fun a b => a ≤ b) → (∀ z ∈ l, lo < z) → Can lo out → (∀ x, InS x out ↔ cle x done % 2 = 1) →
    Can lo (zC7 l out) ∧ ∀ x, InS x (zC7 l out) ↔ cle x (done ++ l) % 2 = 1
  | _, [], done, out, _, _, _, _, _, hc, hi => by
    rw [zC7, List.append_nil]
    · exact ⟨hc, hi⟩
    · intro a b l h; cases h
  | _, [a], done, out, _, hl, _, _, _, _, _ => by simp at hl
  | 0, a :: b :: l, done, out, h, _, _, _, _, _, _ => by simp at h
  | n + 1, a :: b :: l, done, out, hn, hl, hd, hp, hlo, hc, hi => by
    have hp2 := hp
    obtain ⟨p1, p2, p3⟩ := List.pairwise_append.1 hp
    obtain ⟨q1, q2⟩ := List.pairwise_cons.1 p2
    have hab := q1 b (by simp)
    have hda : ∀ z ∈ done, z ≤ a := fun z hz => p3 z hz a (by simp)
    have hcle : ∀ x, a ≤ x → cle x done = done.length := fun x hx => by
      unfold cle
      rw [List.filter_eq_self.2 fun z hz => decide_eq_true (Int.le_trans (hda z hz) hx)]
    have e1 : ∀ x, cle x (done ++ [a, b]) = cle x done + ((if a ≤ x then 1 else 0) + (if b ≤ x then 1 else 0)) := fun x => by
      rw [show done ++ [a, b] = done ++ ([a] ++ [b]) from rfl, zCb, zCb, zNE, zNE]
    have e2 : done ++ a :: b :: l = (done ++ [a, b]) ++ l := by simp
    rw [zC7, e2]
    have hout : Can lo (if a < b then zCY out (a, b) else out) ∧ ∀ x, InS x (if a < b then zCY out (a, b) else out) ↔ cle x (done ++ [a, b]) % 2 = 1 := by
      by_cases h : a < b
      · rw [if_pos h]
        obtain ⟨j1, j2⟩ := zOJ (p := (a, b)) hc (hlo a (by simp)) h
        refine ⟨j1, fun x => ?_⟩
        rw [j2, zBS, VX, e1, hi]
        have h0 : ¬ InS x [] := VF
        have := hcle x
        by_cases h1 : a ≤ x
        · have := this h1
          by_cases h2 : b ≤ x <;> simp only [h1, h2, if_true, if_false, h0, or_false, true_and] <;> omega
        · have h2 : ¬ b ≤ x := by omega
          simp only [h1, h2, if_false, h0, or_false, false_and, Nat.add_zero]
      · rw [if_neg h]
        refine ⟨hc, fun x => ?_⟩
        rw [e1, hi]
        have h3 : (a ≤ x) = (b ≤ x) := propext ⟨fun _ => by omega, fun _ => by omega⟩
        by_cases h1 : b ≤ x <;> simp only [h3, h1, if_true, if_false] <;> omega
    exact zQJ n l (done ++ [a, b]) _ (by simp at hn; omega) (by simp at hl; omega) (by simp; omega) (by rw [← e2]; exact hp2) (fun z hz => hlo z (by simp [hz])) hout.1 hout.2
theorem zTM {l : List Int} (he : l.length % 2 = 0) : (∃ lo, Can lo (zJM l)) ∧ ∀ x, InS x (zJM l) ↔ cle x l % 2 = 1 := by
  have hp := zFP l
  obtain ⟨lo, hlo⟩ := zR1 (zHa l)
  have := zQJ (lo := lo) (zHa l).length (zHa l) [] [] (Nat.le_refl _) (by rw [hp.length_eq]; exact he) rfl (zS8 l) hlo trivial (fun x => ⟨fun h => absurd h VF, fun h => by simp [cle] at h⟩)
  refine ⟨⟨lo, this.1⟩, fun x => ?_⟩
  unfold zJM
  rw [this.2, List.nil_append, show cle x (zHa l) = cle x l from (hp.filter _).length_eq]
theorem zYj : zJM [] = [] := by
  unfold zJM
  have : zHa [] = [] := List.eq_nil_of_length_eq_zero (zFP []).length_eq
  rw [this, zC7]
  intro a b l h; cases h
theorem zN5 : ∀ (n : Nat) (l : List Int) (out : List (Int × Int)), l.length ≤ n → (zC7 l out).length ≤ out.length + l.length
  | _, [], out, _ => by rw [zC7]; · simp
                        intro a b l h; cases h
  | _, [a], out, _ => by rw [zC7]; · simp
                         intro a b l h; cases h
  | 0, a :: b :: l, out, h => by simp at h
  | n + 1, a :: b :: l, out, h => by
    rw [zC7]
    have h1 := zGe out (a, b)
    have h2 := zN5 n l (if a < b then zCY out (a, b) else out) (by simp at h; omega)
    simp only [List.length_cons]
    have h3 : (if a < b then zCY out (a, b) else out).length ≤ out.length + 1 := by split <;> omega
    omega
theorem zQI (l : List Int) : (zJM l).length ≤ l.length := by
  have := zN5 _ (zHa l) [] (Nat.le_refl _)
  rw [(zFP l).length_eq] at this
  simpa [zJM] using this
theorem zTN {p0 : List Int} {x : Int} {i : Int} {k : List Int → Int → Option (List KH)} {l : List Int} (hx : idx p0 i = some x) (hl : l.length ≤ 1000000000) (hs : l.Pairwise fun a b => a ≤ b) : ∀ (n f : Nat), n ≤ l.length → n < f → (∀ z ∈ l.drop n, x < z) →
    ∃ l', l'.Perm (l ++ [x]) ∧ (l'.Pairwise fun a b => a ≤ b) ∧ Js p0 l i k f (n : Int) = k l' (w64 (i + 1))
  | _, 0, _, hf, _ => absurd hf (Nat.not_lt_zero _)
  | n, f + 1, hn, hf, hd => by
    have hput : (Proofs.YtacapjleiadkkaaGreat.pre l (n : Int)).bind (fun zaB => (apd ([] : List Int) zaB).bind fun zaA => (idx p0 i).bind fun zRc => (apd zaA [zRc]).bind fun zZ9 => (cut l (n : Int) (l.length : Int)).bind fun zZ8 => (apd zZ9 zZ8).bind fun zZ7 => k zZ7 (w64 (i + 1))) = k (l.take n ++ [x] ++ l.drop n) (w64 (i + 1)) := by
      have e2 : Proofs.YtacapjleiadkkaaGreat.pre l (n : Int) = some (l.take n) := by
        unfold Proofs.YtacapjleiadkkaaGreat.pre
        rw [if_pos (by omega)]
        simp
      have e3 : cut l (n : Int) (l.length : Int) = some (l.drop n) := by
        unfold cut
        rw [if_pos (by omega), Int.toNat_natCast, Int.toNat_natCast, List.take_length]
      rw [e2, Option.bind_some, Kl (by simp; omega), Option.bind_some, List.nil_append, hx, Option.bind_some, Kl (by simp; omega), Option.bind_some, e3, Option.bind_some, Kl (by simp; omega), Option.bind_some]
    have hperm : (l.take n ++ [x] ++ l.drop n).Perm (l ++ [x]) := by
      have h1 : (l.take n ++ [x] ++ l.drop n).Perm (l.take n ++ (l.drop n ++ [x])) := by
        rw [List.append_assoc]
        exact List.Perm.append_left _ List.perm_append_comm
      rw [← List.append_assoc, List.take_append_drop] at h1
      exact h1
    have hsplit := hs
    rw [← List.take_append_drop n l] at hsplit
    obtain ⟨s1, s2, s3⟩ := List.pairwise_append.1 hsplit
    cases n with
    | zero =>
      refine ⟨_, hperm, ?_, ?_⟩
      · simp only [List.take_zero, List.drop_zero, List.nil_append, List.singleton_append] at hd ⊢
        exact List.pairwise_cons.2 ⟨fun z hz => Int.le_of_lt (hd z hz), hs⟩
      · rw [Js.eq_2, if_neg (by simp), Option.bind_some, if_neg (by simp)]
        exact hput
    | succ n =>
      have hnl : n < l.length := by omega
      have ex : w64 (((n + 1 : Nat) : Int) - 1) = (n : Int) := by rw [Qg (by omega) (by omega)]; omega
      rw [Js.eq_2, if_pos (by simp), ex, zDe hnl, Option.bind_some, hx, Option.bind_some, Option.bind_some]
      by_cases hp : x < l[n]
      · rw [if_pos (by simpa using hp)]
        refine zTN hx hl hs n f (by omega) (by omega) fun z hz => ?_
        rw [List.drop_eq_getElem_cons hnl] at hz
        rcases List.mem_cons.1 hz with rfl | hz
        · exact hp
        · exact hd z hz
      · rw [if_neg (by simpa using hp), ← hx]
        refine ⟨_, hperm, ?_, hput⟩
        rw [List.append_assoc, List.singleton_append]
        refine List.pairwise_append.2 ⟨s1, List.pairwise_cons.2 ⟨fun z hz => Int.le_of_lt (hd z hz), s2⟩, fun a ha b hb => ?_⟩
        rcases List.mem_cons.1 hb with rfl | hb
        · rw [List.take_add_one, List.getElem?_eq_getElem hnl] at ha s1
          rcases List.mem_append.1 ha with ha | ha
          · have := (List.pairwise_append.1 s1).2.2 a ha l[n] (by simp)
            omega
          · have : a = l[n] := by simpa using ha
            rw [this]; omega
        · exact s3 a ha b hb
theorem zN6 {N : Nat} (hN : 10000000000 ≤ N) {l : List Int} (hl : l.length ≤ 100000000) : ∀ (n : Nat) (suf pre : List Int) (m : Nat) (out : List (Int × Int)), suf.length ≤ n → l = pre ++ suf → suf.length < m → out.length ≤ pre.length → Qz N l m (out.map Ku) (pre.length : Int) = some ((zC7 suf out).map Ku)
  | _, _, _, 0, _, _, _, hm, _ => absurd hm (Nat.not_lt_zero _)
  | _, [], pre, m + 1, out, _, h, _, _ => by
    have hlen : l.length = pre.length := by rw [h]; simp
    rw [Qz.eq_2, Qg (by omega) (by omega), if_neg (by simp; omega), zC7]
    intro a b l h; cases h
  | _, [a], pre, m + 1, out, _, h, _, _ => by
    have hlen : l.length = pre.length + 1 := by rw [h]; simp
    rw [Qz.eq_2, Qg (by omega) (by omega), if_neg (by simp; omega), zC7]
    intro a b l h; cases h
  | 0, a :: b :: suf, _, _, _, h, _, _, _ => by simp at h
  | n + 1, a :: b :: suf, pre, m + 1, out, hn, h, hm, ho => by
    have hlen : l.length = pre.length + (suf.length + 2) := by rw [h]; simp
    have e1 : w64 ((pre.length : Int) + 1) = ((pre ++ [a]).length : Int) := zAP pre a (by omega)
    have e2 : w64 ((pre.length : Int) + 2) = ((pre ++ [a, b]).length : Int) := by rw [Qg (by omega) (by omega)]; simp
    have i1 : idx l (pre.length : Int) = some a := by rw [h]; exact Qn _ _ _
    have i2 : idx l ((pre ++ [a]).length : Int) = some b := by rw [h, show pre ++ a :: b :: suf = (pre ++ [a]) ++ b :: suf by simp]; exact Qn _ _ _
    rw [Qz.eq_2, e1, e2, if_pos (by simp; omega), i1, Option.bind_some, i2, Option.bind_some, zC7]
    by_cases hab : a < b
    · rw [if_pos (by simpa using hab), if_pos hab, Option.bind_some, Option.bind_some]
      show (VV N (out.map Ku) (Ku (a, b))).bind _ = _
      have hj := zGe out (a, b)
      rw [zQR hN (by omega), Option.bind_some]
      exact zN6 hN hl n suf (pre ++ [a, b]) m (zCY out (a, b)) (by simp at hn; omega) (by rw [h]; simp) (by simp at hm; omega) (by simp; omega)
    · rw [if_neg (by simpa using hab), if_neg hab]
      exact zN6 hN hl n suf (pre ++ [a, b]) m out (by simp at hn; omega) (by rw [h]; simp) (by simp at hm; omega) (by simp; omega)
theorem zTO {N : Nat} (hN : 10000000000 ≤ N) {p0 : List Int} (hl : p0.length ≤ 100000000) : ∀ (suf pre : List Int) (m : Nat) (out : List Int), p0 = pre ++ suf → suf.length < m → out.Perm pre → (out.Pairwise fun a b => a ≤ b) → Qr N p0 m out (pre.length : Int) = some ((zJM p0).map Ku)
  | _, _, 0, _, _, hm, _, _ => absurd hm (Nat.not_lt_zero _)
  | [], pre, m + 1, out, h, _, hp, hs => by
    have hlen : p0.length = pre.length := by rw [h]; simp
    rw [Qr.eq_2, if_neg (by rw [h]; simp)]
    have e : out = zHa p0 := zYb hs (zS8 p0) (by rw [h, List.append_nil] at *; exact hp.trans (zFP pre).symm)
    subst e
    have hll := (zFP p0).length_eq
    exact zN6 hN (by omega) (zHa p0).length (zHa p0) [] N [] (Nat.le_refl _) rfl (by omega) (Nat.le_refl _)
  | x :: suf, pre, m + 1, out, h, hm, hp, hs => by
    have hlen : p0.length = pre.length + (suf.length + 1) := by rw [h]; simp
    have hx : idx p0 (pre.length : Int) = some x := by rw [h]; exact Qn _ _ _
    have hol : out.length = pre.length := hp.length_eq
    obtain ⟨l', g1, g2, g3⟩ := zTN (k := Qr N p0 m) hx (by omega) hs out.length N (Nat.le_refl _) (by omega) (by rw [List.drop_length]; intro z hz; cases hz)
    rw [Qr.eq_2, if_pos (by rw [h]; exact zBz pre suf x), g3, zAP pre x (by omega)]
    exact zTO hN hl suf (pre ++ [x]) m l' (by rw [h]; simp) (by simp at hm; omega) (g1.trans (hp.append_right _)) g2
theorem zYi {N : Nat} (hN : 10000000000 ≤ N) {p0 : List Int} (hl : p0.length ≤ 100000000) : zAr N p0 = some ((zJM p0).map Ku) :=
  zTO hN hl p0 [] N [] rfl (by omega) (List.Perm.refl _) .nil
theorem zbe {N : Nat} (hN : 10000000000 ≤ N) {p0 : List (List zG)} {x : Int} {l : List zG} {k : List Int → Int → Option (List zJ)} (hx : idx p0 x = some l) (hl : l.length ≤ 100000) : ∀ (suf pre : List zG) (m : Nat) (out : List Int), l = pre ++ suf → suf.length < m → (out.Pairwise fun a b => a < b) → out.length + suf.length ≤ 1000000000 →
    ∃ out' : List Int, (out'.Pairwise fun a b => a < b) ∧ (∀ z, z ∈ out' ↔ z ∈ out ∨ z ∈ suf.map (·.Y)) ∧ out'.length ≤ out.length + suf.length ∧ JX N p0 x k m out (pre.length : Int) = k out' (w64 (x + 1))
  | _, _, 0, _, _, hm, _, _ => absurd hm (Nat.not_lt_zero _)
  | [], pre, m + 1, out, h, _, hs, _ => by
    refine ⟨out, hs, fun z => by simp, by simp, ?_⟩
    rw [JX.eq_2, hx, Option.bind_some, if_neg (by rw [h]; simp)]
  | q :: suf, pre, m + 1, out, h, hm, hs, ho => by
    have hlen : l.length = pre.length + (suf.length + 1) := by rw [h]; simp
    have hid : idx l (pre.length : Int) = some q := by rw [h]; exact Qn _ _ _
    simp only [List.length_cons] at ho hm
    obtain ⟨o1, p1, p2, p3, p4⟩ := zJl (x := q.Y) hN hs (by omega)
    obtain ⟨o2, r1, r2, r3, r4⟩ := zbe hN (k := k) hx hl suf (pre ++ [q]) m o1 (by rw [h]; simp) (by omega) p2 (by omega)
    refine ⟨o2, r1, fun z => ?_, by simp only [List.length_cons]; omega, ?_⟩
    · rw [r2, p3, List.map_cons, List.mem_cons]
      constructor
      · rintro ((h | h) | h)
        · exact .inr (.inl h)
        · exact .inl h
        · exact .inr (.inr h)
      · rintro (h | h | h)
        · exact .inl (.inr h)
        · exact .inl (.inl h)
        · exact .inr h
    · rw [JX.eq_2, hx, Option.bind_some, if_pos (by rw [h]; exact zBz pre suf q), Option.bind_some, hid, Option.bind_some, p1, Option.bind_some, zAP pre q (by omega)]
      exact r4
theorem zXb {N : Nat} (hN : 10000000000 ≤ N) {p0 : List (List zG)} (hp : p0.length ≤ 1000000) (hl : ∀ l ∈ p0, l.length ≤ 100000) : ∀ (suf pre : List (List zG)) (m : Nat) (out : List Int), p0 = pre ++ suf → suf.length < m → (out.Pairwise fun a b => a < b) → (∀ z, z ∈ out ↔ z ∈ zD5 pre) → out.length + suf.flatten.length ≤ 1000000000 →
    Qe N p0 m out (pre.length : Int) = QC N p0 (QP (zD5 p0)) N [] 1
  | _, _, 0, _, _, hm, _, _, _ => absurd hm (Nat.not_lt_zero _)
  | [], pre, m + 1, out, h, _, hs, hz, _ => by
    rw [List.append_nil] at h
    subst h
    rw [Qe.eq_2, if_neg (by simp), zDC hs (JG (zD5 p0)) fun z => by rw [Vd, hz]]
  | l :: suf, pre, m + 1, out, h, hm, hs, hz, ho => by
    have hpl : pre.length + 1 ≤ 1000000 := by rw [h] at hp; simp at hp; omega
    have hid : idx p0 (pre.length : Int) = some l := by rw [h]; exact Qn _ _ _
    rw [List.flatten_cons, List.length_append] at ho
    have e0 : ((([] : List zG).length : Nat) : Int) = 0 := rfl
    have hll := hl l (by rw [h]; simp)
    obtain ⟨o2, r1, r2, r3, r4⟩ := zbe (N := N) hN (k := Qe N p0 m) hid hll l [] N out rfl (by omega) hs (by omega)
    rw [e0] at r4
    rw [Qe.eq_2, if_pos (by rw [h]; exact zBz pre suf l), r4, zAP pre l (by omega)]
    refine zXb hN hp hl suf (pre ++ [l]) m o2 (by rw [h]; simp) (by simp at hm; omega) r1 (fun z => ?_) (by omega)
    rw [r2, hz]
    unfold zD5
    rw [List.flatMap_append]
    simp
theorem zba {p0 : List (List zG)} {ys : List Int} {k x y : Int} {l : List zG} {q0 : zG} {K : List Int → Int → Option (List zJ)} (hx : idx p0 x = some l) (hy : idx ys (w64 (k - 1)) = some y) (hl : l.length ≤ 100000) (h0 : l.head? = some q0) : ∀ (suf pre : List zG) (m : Nat) (out : List Int), l = pre ++ suf → suf.length < m → out.length + suf.length ≤ 1000000000 →
    Qj p0 ys k x K m out (pre.length : Int) = K (out ++ (Vw y (nxt q0 suf)).map (·.1.X)) (w64 (x + 1))
  | _, _, 0, _, _, hm, _ => absurd hm (Nat.not_lt_zero _)
  | [], pre, m + 1, out, h, _, _ => by
    rw [Qj.eq_2, hx, Option.bind_some, if_neg (by rw [h]; simp)]
    simp [nxt, Vw]
  | q :: suf, pre, m + 1, out, h, hm, ho => by
    have hlen : l.length = pre.length + (suf.length + 1) := by rw [h]; simp
    have hid : idx l (pre.length : Int) = some q := by rw [h]; exact Qn _ _ _
    have hnx : l.getD ((pre.length + 1) % l.length) ⟨0, 0⟩ = (suf ++ [q0]).headD q0 := by
      have := zLV (pre := pre) (r := suf) (x := q) (p0 := q0) (by rw [← h]; exact h0)
      rw [h]; exact this
    simp only [List.length_cons] at ho hm
    have ih := fun o ho => zba (K := K) hx hy hl h0 suf (pre ++ [q]) m o (by rw [h]; simp) (by omega) ho
    rw [Qj.eq_2, hx, Option.bind_some, if_pos (by rw [h]; exact zBz pre suf q), Option.bind_some, hid, Option.bind_some, Option.bind_some, Option.bind_some, zKN (by omega) (by omega), hnx, hy, zIB, zAP pre q (by omega)]
    generalize (suf ++ [q0]).headD q0 = r
    unfold Vw at ih ⊢
    rw [List.filter_cons]
    have hg : ((if (q.X == r.X) = true then ((some y).bind fun zcP => some (decide (min q.Y r.Y ≤ zcP))) else some false).bind fun zYx => (if zYx = true then ((some y).bind fun zcO => some (decide (zcO < max q.Y r.Y))) else some false)) = some (decide (q.X = r.X) && (decide (min q.Y r.Y ≤ y) && decide (y < max q.Y r.Y))) := by
      have e1 : (q.X == r.X) = decide (q.X = r.X) := rfl
      rw [e1]
      cases decide (q.X = r.X)
      · rfl
      · show (if decide (min q.Y r.Y ≤ y) = true then some (decide (y < max q.Y r.Y)) else some false) = some (true && (decide (min q.Y r.Y ≤ y) && decide (y < max q.Y r.Y)))
        generalize decide (min q.Y r.Y ≤ y) = u1
        generalize decide (y < max q.Y r.Y) = u2
        cases u1 <;> cases u2 <;> rfl
    obtain ⟨g1, hg1, hg2⟩ := Option.bind_eq_some_iff.1 hg
    rw [hg1, Option.bind_some, hg2, Option.bind_some]
    by_cases hc : (decide (q.X = r.X) && (decide (min q.Y r.Y ≤ y) && decide (y < max q.Y r.Y))) = true
    · rw [if_pos hc, if_pos hc, Kl (by simp; omega), Option.bind_some, ih _ (by simp; omega)]
      simp
    · rw [if_neg hc, if_neg hc, ih _ (by omega)]
def fR (rows : List (List zG)) (y : Int) : List (Int × Int) := zJM ((Vw y (zDq rows)).map (·.1.X))
theorem zXW {N : Nat} (hN : 10000000000 ≤ N) {p0 : List (List zG)} {ys : List Int} {k a b : Int} {bd : List Bd} {K : List zk → Int → Option (List zJ)} (hp : p0.length ≤ 1000000) (hl : ∀ l ∈ p0, l.length ≤ 100000) (ha : idx ys (w64 (k - 1)) = some a) (hb : idx ys k = some b) (hbl : bd.length ≤ 1000000) (hbs : ∀ c ∈ bd, c.2.2.length ≤ 1000000) (hall : p0.flatten.length ≤ 1000000) :
    ∀ (suf pre : List (List zG)) (m : Nat), p0 = pre ++ suf → suf.length < m →
    Qa N p0 ys (bd.map zAy) k K m ((Vw a (zDq pre)).map (·.1.X)) (pre.length : Int) = K ((pushB bd (a, b, fR p0 a)).map zAy) (w64 (k + 1))
  | _, _, 0, _, hm => absurd hm (Nat.not_lt_zero _)
  | [], pre, m + 1, h, _ => by
    rw [List.append_nil] at h
    subst h
    have hcl : ((Vw a (zDq p0)).map (·.1.X)).length ≤ 1000000 := by
      rw [List.length_map]
      unfold Vw
      have := zGu p0
      exact Nat.le_trans (List.length_filter_le _ _) (by omega)
    have hst := zNk (N := N) (l := bd) (b := (a, b, fR p0 a)) hN (by omega) (fun c hc => by have := hbs c hc; omega)
    rw [Qa.eq_2, if_neg (by simp), ha, Option.bind_some, hb, Option.bind_some, zYi hN (by omega), Option.bind_some]
    show (KQ N (bd.map zAy) (zAy (a, b, fR p0 a))).bind _ = _
    rw [hst, Option.bind_some]
  | l :: suf, pre, m + 1, h, hm => by
    have hpl : pre.length + 1 ≤ 1000000 := by rw [h] at hp; simp at hp; omega
    have hid : idx p0 (pre.length : Int) = some l := by rw [h]; exact Qn _ _ _
    have hll := hl l (by rw [h]; simp)
    have hpre : ((Vw a (zDq pre)).map (·.1.X)).length ≤ 1000000 := by
      rw [List.length_map]
      unfold Vw
      have := zGu pre
      have h2 : pre.flatten.length ≤ p0.flatten.length := by rw [h]; simp
      exact Nat.le_trans (List.length_filter_le _ _) (by omega)
    have ih := zXW hN (K := K) hp hl ha hb hbl hbs hall suf (pre ++ [l]) m (by rw [h]; simp) (by simp at hm; omega)
    have e1 : zDq (pre ++ [l]) = zDq pre ++ zBi l := by unfold zDq; rw [List.flatMap_append]; simp
    rw [e1, zJR, List.map_append] at ih
    rw [Qa.eq_2, if_pos (by rw [h]; exact zBz pre suf l)]
    have e0 : ((([] : List zG).length : Nat) : Int) = 0 := rfl
    cases l with
    | nil =>
      obtain ⟨N', rfl⟩ : ∃ k, N = k + 1 := ⟨N - 1, by omega⟩
      rw [Qj.eq_2, hid, Option.bind_some, if_neg (by simp), zAP pre _ (by omega)]
      have e2 : Vw a (zBi []) = [] := rfl
      rw [e2, List.map_nil, List.append_nil] at ih
      exact ih
    | cons q r =>
      have hf := zba (K := Qa N p0 ys (bd.map zAy) k K m) (x := (pre.length : Int)) (q0 := q) hid ha hll rfl (q :: r) [] N ((Vw a (zDq pre)).map (·.1.X)) rfl (by omega) (by omega)
      rw [e0] at hf
      rw [hf, zAP pre _ (by omega)]
      exact ih
theorem zXc {N : Nat} (hN : 10000000000 ≤ N) {p0 : List (List zG)} {ys : List Int} (hp : p0.length ≤ 1000000) (hl : ∀ l ∈ p0, l.length ≤ 100000) (hall : p0.flatten.length ≤ 2000) (hy : ys.length ≤ 2000) : ∀ (suf pre : List Int) (m : Nat) (bd : List Bd), ys = pre ++ suf → suf ≠ [] → suf.length < m → bd.length + suf.length ≤ 4000 → (∀ c ∈ bd, c.2.2.length ≤ 2000) →
    QC N p0 ys m (bd.map zAy) ((pre.length + 1 : Nat) : Int) = Vp N ((zAc (fR p0) suf bd).map zAy)
  | _, _, 0, _, _, _, hm, _, _ => absurd hm (Nat.not_lt_zero _)
  | [], _, _ + 1, _, _, h, _, _, _ => absurd rfl h
  | [a], pre, m + 1, bd, h, _, _, _, _ => by
    have hlen : ys.length = pre.length + 1 := by rw [h]; simp
    rw [QC.eq_2, if_neg (by simp; omega), zAc]
    · cases Vp N (bd.map zAy) <;> rfl
    · intro a b l h; cases h
  | a :: b :: suf, pre, m + 1, bd, h, _, hm, hbl, hbs => by
    have hlen : ys.length = pre.length + (suf.length + 2) := by rw [h]; simp
    have e1 : w64 (((pre.length + 1 : Nat) : Int) - 1) = (pre.length : Int) := by rw [Qg (by omega) (by omega)]; omega
    have ha : idx ys (w64 (((pre.length + 1 : Nat) : Int) - 1)) = some a := by rw [e1, h]; exact Qn _ _ _
    have hb : idx ys ((pre.length + 1 : Nat) : Int) = some b := by
      have := Qn (pre ++ [a]) suf b
      rw [List.length_append, List.length_singleton] at this
      rw [h, show pre ++ a :: b :: suf = (pre ++ [a]) ++ b :: suf by simp]; exact this
    have e2 : w64 (((pre.length + 1 : Nat) : Int) + 1) = (((pre ++ [a]).length + 1 : Nat) : Int) := by rw [Qg (by omega) (by omega)]; simp
    simp only [List.length_cons] at hm hbl
    have hx := zXW (bd := bd) hN (K := QC N p0 ys m) hp hl ha hb (by omega) (fun c hc => by have := hbs c hc; omega) (by omega) p0 [] N rfl (by omega)
    have e0 : ((([] : List (List zG)).length : Nat) : Int) = 0 := rfl
    have e3 : (Vw a (zDq [])).map (·.1.X) = [] := rfl
    rw [e0, e3] at hx
    have hrl : (fR p0 a).length ≤ 2000 := by
      unfold fR
      refine Nat.le_trans (zQI _) ?_
      rw [List.length_map]
      unfold Vw
      have := zGu p0
      exact Nat.le_trans (List.length_filter_le _ _) (by omega)
    have hpl := zFF bd (a, b, fR p0 a)
    rw [QC.eq_2, if_pos (by simp; omega), hx, e2, zAc]
    exact zXc hN hp hl hall hy (b :: suf) (pre ++ [a]) m _ (by rw [h]; simp) (by simp) (by simp; omega) (by simp; omega) (zIk hbs hrl)
theorem zUj {N : Nat} (hN : 10000000000 ≤ N) {rows : List (List zG)} (hl : rows.flatten.length ≤ 2000) (hp : rows.length ≤ 2000) (hax : ∀ l ∈ rows, axS (zBi l)) :
    ∃ A, Ko N rows = some (KR A) ∧ BOk A ∧ (∀ x y, InB x y A ↔ zVU rows x y) := by
  have hrl : ∀ l ∈ rows, l.length ≤ 2000 := fun l h => by
    have : l.length ≤ rows.flatten.length := by
      obtain ⟨a, b, rfl⟩ := List.append_of_mem h
      simp; omega
    omega
  have hev : ∀ y, ((Vw y (zDq rows)).map (·.1.X)).length % 2 = 0 := fun y => by rw [List.length_map]; exact zIR y hax
  have hcan : ∀ y, ∃ lo, Can lo (fR rows y) := fun y => (zTM (hev y)).1
  have hsy : ∀ s ∈ zDq rows, s.1.Y ∈ QP (zD5 rows) ∧ s.2.Y ∈ QP (zD5 rows) := fun s hs => by
    obtain ⟨l, hlr, hs⟩ := List.mem_flatMap.1 hs
    obtain ⟨s1, s2⟩ := zNr hs
    rw [Vd, Vd]
    exact ⟨List.mem_flatMap.2 ⟨l, hlr, List.mem_map.2 ⟨s.1, s1, rfl⟩⟩, List.mem_flatMap.2 ⟨l, hlr, List.mem_map.2 ⟨s.2, s2, rfl⟩⟩⟩
  have hnil : ∀ y, (∀ s ∈ zDq rows, ¬ (min s.1.Y s.2.Y ≤ y ∧ y < max s.1.Y s.2.Y)) → fR rows y = [] := fun y h => by
    have : Vw y (zDq rows) = [] := by
      unfold Vw
      rw [List.filter_eq_nil_iff]
      intro s hs
      have := h s hs
      simp only [Bool.and_eq_true, decide_eq_true_eq]
      exact fun hh => this hh.2
    unfold fR
    rw [this, List.map_nil, zYj]
  obtain ⟨b1, b2⟩ := zJx (f := fR rows) (JG (zD5 rows)) hcan (fun a y hay h => by
    unfold fR
    have : Vw y (zDq rows) = Vw a (zDq rows) := by
      unfold Vw
      apply List.filter_congr
      intro s hs
      obtain ⟨m1, m2⟩ := hsy s hs
      have k1 := h _ m1
      have k2 := h _ m2
      congr 1
      rw [Bool.eq_iff_iff]
      simp only [Bool.and_eq_true, decide_eq_true_eq]
      omega
    rw [this])
    (fun y h => hnil y fun s hs hh => by obtain ⟨m1, m2⟩ := hsy s hs; have := h _ m1; have := h _ m2; omega)
    (fun y h => hnil y fun s hs hh => by obtain ⟨m1, m2⟩ := hsy s hs; have := h _ m1; have := h _ m2; omega)
  have hrow : ∀ y, (fR rows y).length ≤ 2000 := fun y => by
    unfold fR
    refine Nat.le_trans (zQI _) ?_
    rw [List.length_map]
    unfold Vw
    have := zGu rows
    exact Nat.le_trans (List.length_filter_le _ _) (by omega)
  have hysl : (QP (zD5 rows)).length ≤ 2000 := Nat.le_trans (zCV _) (by rw [zIV]; exact hl)
  obtain ⟨c1, c2⟩ := zJy hrow (QP (zD5 rows)) [] (fun c hc => by cases hc)
  rw [List.length_nil] at c1
  have hsm : Small (zAc (fR rows) (QP (zD5 rows)) []) := ⟨by omega, fun b hb => by have := c2 b hb; omega, by
    have := zJk c2
    have h2 := Nat.mul_le_mul_left 2000 (show (zAc (fR rows) (QP (zD5 rows)) []).length ≤ 2000 by omega)
    omega⟩
  refine ⟨zAc (fR rows) (QP (zD5 rows)) [], ?_, b1, fun x y => by unfold InB; rw [b2]; exact (zTM (hev y)).2 x⟩
  unfold Ko
  have h1 := zXb (p0 := rows) hN (by omega) (fun l hlr => by have := hrl l hlr; omega) rows [] N [] rfl (by omega) .nil (fun z => by simp [zD5]) (by simp only [List.length_nil]; omega)
  have e0 : ((([] : List (List zG)).length : Nat) : Int) = 0 := rfl
  rw [e0] at h1
  rw [h1]
  have e1 : ((0 + 1 : Nat) : Int) = 1 := rfl
  by_cases hys : QP (zD5 rows) = []
  · obtain ⟨N', rfl⟩ : ∃ k, N = k + 1 := ⟨N - 1, by omega⟩
    rw [hys] at hsm ⊢
    rw [QC.eq_2, if_neg (by simp)]
    have hb0 : zAc (fR rows) [] [] = [] := by rw [zAc]; intro a b l h; cases h
    rw [hb0] at hsm ⊢
    have := zMf (N := N' + 1) hN hsm
    rw [List.map_nil] at this
    rw [this]; rfl
  · have := zXc (p0 := rows) hN (by omega) (fun l hlr => by have := hrl l hlr; omega) hl hysl (QP (zD5 rows)) [] N [] rfl hys (by omega) (by simp; omega) (fun c hc => by cases hc)
    rw [List.length_nil, e1] at this
    rw [show ([] : List zk) = ([] : List Bd).map zAy from rfl, this]
    exact zMf hN hsm
theorem zUi {N : Nat} (hN : 10000000000 ≤ N) {rows : List (List zG)} (hp : rows.length ≤ 100000000) (hl : rows.flatten.length ≤ 100000000) : ∃ y, zBn N rows = some y ∧ WB N rows = some y ∧
    (zIS rows 0 ≤ 2000 → zAn rows = 0 → ∃ A, BOk A ∧ (∀ x y, InB x y A ↔ zVU rows x y) ∧ y = zS2 A) := by
  have hrl : ∀ l ∈ rows, l.length ≤ 100000000 := fun l h => by
    have : l.length ≤ rows.flatten.length := by
      obtain ⟨a, b, rfl⟩ := List.append_of_mem h
      simp; omega
    omega
  rw [zWV (N := N) (fun l h => by have := hrl l h; omega), zWU hN (by omega) (fun l h => by have := hrl l h; omega)]
  by_cases hc : 2000 < zIS rows 0
  · rw [if_pos hc, if_pos hc]
    exact ⟨_, rfl, rfl, fun h => absurd hc (by omega)⟩
  · rw [if_neg hc, if_neg hc]
    by_cases he : zAn rows = 0
    · rw [if_pos he, if_pos he]
      have hcnt : ∀ (suf : List (List zG)) (n : Nat), n + suf.flatten.length ≤ 100000000 → zIS suf (n : Int) = ((n + suf.flatten.length : Nat) : Int) := by
        intro suf
        induction suf with
        | nil => intro n _; simp [zIS]
        | cons l suf ih =>
          intro n hn
          rw [List.flatten_cons, List.length_append] at hn
          unfold zIS
          have e : w64 ((n : Int) + (l.length : Int)) = ((n + l.length : Nat) : Int) := by rw [Qg (by omega) (by omega)]; omega
          rw [e, ih (n + l.length) (by omega), List.flatten_cons, List.length_append]
          omega
      have hfl : rows.flatten.length ≤ 2000 := by
        have := hcnt rows 0 (by omega)
        have e0 : ((0 : Nat) : Int) = 0 := rfl
        rw [e0] at this
        omega
      have hro := zNz he
      have hax : ∀ l ∈ rows, axS (zBi l) := fun l h => (zLM.1 (hro l h)).2.2
      have hpt : ∀ l ∈ rows, ∀ p ∈ l, -1000000000 ≤ p.X ∧ p.X ≤ 1000000000 := fun l h p hpl => by
        have := zcl.1 ((zLM.1 (hro l h)).2.1 p hpl)
        omega
      have hrows : rows.length ≤ 2000 := by
        have key : ∀ rs : List (List zG), (∀ l ∈ rs, 4 ≤ l.length) → rs.length ≤ rs.flatten.length := by
          intro rs
          induction rs with
          | nil => intro _; simp
          | cons l rs ih =>
            intro h
            have h1 := h l (by simp)
            have h2 := ih fun m hm => h m (by simp [hm])
            rw [List.flatten_cons, List.length_append, List.length_cons]; omega
        have := key rows fun l h => (zLM.1 (hro l h)).1
        omega
      obtain ⟨A, a1, a2, a3, a4, a5⟩ := zUm hN hfl hpt hax
      obtain ⟨A', b1, b2, b3⟩ := zUj hN hfl hrows hax
      have : A' = A := b2.uniq a2 fun x y => by rw [a5, b3]
      subst this
      refine ⟨zS2 A', ?_, ?_, fun _ _ => ⟨A', a2, a5, rfl⟩⟩
      · have h2 := zJk a4
        have h3 := Nat.mul_le_mul_left 2000 a3
        rw [a1, Option.bind_some, zdu hN (by omega) (by omega), Option.bind_some]
      · rw [b1, Option.bind_some]
        unfold Vi zS2
        by_cases hx : 2000 < (KR A').length
        · rw [if_pos (by simp; omega), if_pos hx]; rfl
        · rw [if_neg (by simp; omega), if_neg hx]; rfl
    · rw [if_neg he, if_neg he]
      exact ⟨_, rfl, rfl, fun _ h => absurd h he⟩
theorem zS7 {α : Type} {a : α} {c : α → α → Option Int} {k : Int} (h : c a a = some k) (hk : ¬ k < 0) : zJi [a] c = some [a] := by
  have hs : zDr c [a] := ⟨by simp, fun x hx y hy => by simp at hx hy; subst hx hy; exact ⟨k, h⟩, fun x hx => by simp at hx; subst hx; simp [ltC, h]; omega, fun x hx y hy z hz h1 => by
    simp at hx hy; subst hx hy; simp [ltC, h] at h1; omega, fun x hx y hy z hz _ _ => by simp at hx hz; subst hx hz; simp [ltC, h]; omega⟩
  obtain ⟨m, hm⟩ := zRk hs
  obtain ⟨_, hp, _⟩ := zIg hm
  rw [hm, List.perm_singleton.1 hp]
def r23 : zJ := ⟨0, 0, 2, 3⟩
theorem zlq (m : Nat) : Wj (m + 10) [r23] = some [⟨0, 3, [0, 2]⟩] := by
  have h1 : zJi [r23] (fun z0 z1 => zAf z0 z1) = some [r23] := zS7 (k := 0) rfl (by decide)
  have h2 : zJi [r23] (fun z0 z1 => WG z0 z1) = some [r23] := zS7 (k := 0) rfl (by decide)
  have h3 : zPd [0, 3] = some [0, 3] := by
    unfold zPd
    rw [if_pos (by simp), List.mergeSort_of_pairwise (by simp)]
  have h4 : WI [r23] = some ([0, 2], [r23]) := by
    unfold WI
    rw [h2]; rfl
  have h5 : cpI [0, 3] = some [0, 3] := rfl
  unfold Wj zAj
  rw [show apd ([] : List zJ) [r23] = some [r23] from rfl, Option.bind_some, Option.bind_some, h1, Option.bind_some, VE.eq_2, show apd ([] : List Int) [r23.Y0, r23.Y1] = some [0, 3] from rfl, Option.bind_some, VE.eq_1, h3, Option.bind_some, h5, Option.bind_some,
    Qo.eq_2, if_pos (by decide), show VY (m + 10) ([] : List zJ) (fun z0 => zAe z0 [0, 3] 0) = some [] from rfl, Option.bind_some, Kc.eq_2]
  show ((some (decide (r23.Y0 ≤ 0))).bind fun zYy => if zYy then _ else _) = _
  rw [Option.bind_some, if_pos (by decide)]
  show Kc [r23] [0, 3] 0 [] (Qo (m + 10) [r23] [0, 3] (m + 9)) (m + 9) [r23] 1 = _
  rw [Kc.eq_2]
  show (((WI [r23]).bind fun zD1 => (VG [] (JD.mk 0 3 zD1.1)).bind fun zMM => Qo (m + 10) [r23] [0, 3] (m + 9) 1 zMM zD1.2 1)) = _
  rw [h4]
  show Qo (m + 10) [r23] [0, 3] (m + 9) 1 [⟨0, 3, [0, 2]⟩] [r23] 1 = _
  rw [Qo.eq_2, if_neg (by decide)]
theorem zY7 {N : Nat} (hN : 10 ≤ N) : zAC N = some true := by
  obtain ⟨m, rfl⟩ : ∃ m, N = m + 10 := ⟨N - 10, by omega⟩
  unfold zAC zE8 WH
  rw [show zAJ [zJ.mk 0 0 2 3] = some 0 from rfl, Option.bind_some, if_neg (by decide), Qp.eq_2, if_neg (by decide)]
  have := zlq m
  unfold r23 at this
  rw [this]
  rfl
theorem zZA : ∀ l : List zG, zAS l l = some true := fun l => by
  unfold zAS
  rw [if_neg (by simp)]
  have key : ∀ (suf pre : List zG), l = pre ++ suf → Jo l suf pre.length = some true := by
    intro suf
    induction suf with
    | nil => intro pre _; rw [Jo.eq_1]
    | cons x suf ih =>
      intro pre h
      have hid : idx l (pre.length : Int) = some x := by rw [h]; exact Qn _ _ _
      have ih := ih (pre ++ [x]) (by rw [h]; simp)
      rw [List.length_append, List.length_singleton] at ih
      have hx : Vo x x = true := zHN.2 rfl
      rw [Jo.eq_2, hid, Option.bind_some, hx, if_neg (by simp)]
      exact ih
  exact key l [] rfl
theorem zWW : ∀ l : List (List zG), Kw l l = some true := fun l => by
  unfold Kw
  rw [if_neg (by simp)]
  have key : ∀ (suf pre : List (List zG)), l = pre ++ suf → QX l suf pre.length = some true := by
    intro suf
    induction suf with
    | nil => intro pre _; rw [QX.eq_1]
    | cons x suf ih =>
      intro pre h
      have hid : idx l (pre.length : Int) = some x := by rw [h]; exact Qn _ _ _
      have ih := ih (pre ++ [x]) (by rw [h]; simp)
      rw [List.length_append, List.length_singleton] at ih
      rw [QX.eq_2, hid, Option.bind_some, zZA, Option.bind_some, if_neg (by simp)]
      exact ih
  exact key l [] rfl
theorem zTP {N : Nat} (hN : 10000000000 ≤ N) (l : List zJ) {rows : List (List zG)} (hp : rows.length ≤ 100000000) (hl : rows.flatten.length ≤ 100000000) : KW N l rows = some true := by
  obtain ⟨y, y1, y2, _⟩ := zPt hN l
  obtain ⟨z, z1, z2, _⟩ := zUi hN hp hl
  obtain ⟨b, b1, b2⟩ := zRQ z.1 z.1
  have hb := b2.2 rfl
  subst hb
  unfold KW
  rw [y1, Option.bind_some, y2, Option.bind_some, z1, Option.bind_some, z2, Option.bind_some, zWW, Option.bind_some, if_pos (by simp), b1, Option.bind_some, Option.bind_some, if_pos (by simp), zY7 (by omega), Option.bind_some, Option.bind_some]
theorem zJG (l : List zJ) (rows : List (List zG)) {X Y : Prop} (_ : X) (_ : Y) (h : rows.length + rows.flatten.length ≤ 1048576) : ∃ N, KW N l rows = some true := ⟨10000000000, zTP (Nat.le_refl _) l (by omega) (by omega)⟩
end Go.Proofs.YtacapjleiadkkaaGreat
