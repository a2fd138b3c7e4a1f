/- Marks of a panel and how it lies: the program and the reference find the same turns. Plain Lean about the plain functions. -/
import Derived.Test.YtgabfobigjmckaaB0
namespace Go.Proofs.Ytgabfobigjmckaa
def Near (q : TPoint) : Prop := (-1000000 ≤ q.X ∧ q.X ≤ 1000000) ∧ (-1000000 ≤ q.Y ∧ q.Y ≤ 1000000)
/-- Where a point comes by a turn that does not flip. -/
def tkP (t : TTurn) (q : TPoint) : TPoint := ⟨rotX t.Quarters q.X q.Y + t.At.X, rotY t.Quarters q.X q.Y + t.At.Y⟩
structure TOk (t : TTurn) : Prop where
  flip : t.Flip = false
  q : 0 ≤ t.Quarters ∧ t.Quarters ≤ 3
  x : -2000000 ≤ t.At.X ∧ t.At.X ≤ 2000000
  y : -2000000 ≤ t.At.Y ∧ t.At.Y ≤ 2000000
theorem TOk.p {N : Nat} {t : TTurn} (h : TOk t) (hN : 5 ≤ N) {q : TPoint} (hq : Near q) : F_shape_TurnPoint N q t = some (tkP t q) := by
  obtain ⟨⟨a, b⟩, c, d⟩ := hq
  exact turn_ok hN h.flip h.q ⟨by omega, by omega⟩ ⟨by omega, by omega⟩ ⟨by have := h.x; omega, by have := h.x; omega⟩ ⟨by have := h.y; omega, by have := h.y; omega⟩
theorem TOk.r {N : Nat} {t : TTurn} (h : TOk t) (hN : 5 ≤ N) {q : TPoint} (hq : Near q) : F_etchhouseref1_TurnPoint N q t = some (tkP t q) := by
  obtain ⟨⟨a, b⟩, c, d⟩ := hq
  exact turnR_ok hN h.flip h.q ⟨by omega, by omega⟩ ⟨by omega, by omega⟩ ⟨by have := h.x; omega, by have := h.x; omega⟩ ⟨by have := h.y; omega, by have := h.y; omega⟩
theorem ContainsQ_ok {g : TPoint → Bool} {f : TPoint → Option Bool} {l : List TPoint} (h : ∀ x ∈ l, f x = some (g x)) : F_slices_ContainsFunc_Point l f = some (l.any g) := by
  have key : ∀ (l : List TPoint) (i : Nat), (∀ x ∈ l, f x = some (g x)) → F_slices_IndexFunc_Point_L1 f l i = some (ixOf g l i) := by
    intro l
    induction l with
    | nil => intro i _; rfl
    | cons x l ih =>
      intro i h
      rw [F_slices_IndexFunc_Point_L1.eq_2, h x (by simp), Option.bind_some, ih (i + 1) (fun y hy => h y (by simp [hy])), ixOf, show ((i + 1 : Nat) : Int) = (i : Int) + 1 by omega]
      cases g x <;> rfl
  unfold F_slices_ContainsFunc_Point F_slices_IndexFunc_Point
  rw [key l 0 h, Option.bind_some, show ((0 : Nat) : Int) = 0 from rfl, ixOf_any g l 0 (by omega)]
/-- Does a turn take points to others? -/
def takesB (t : TTurn) (l to : List TPoint) : Bool := decide (l.length = to.length) && l.all fun q => decide (tkP t q ∈ to)
section
variable {N : Nat} {t : TTurn} {l to : List TPoint} (hN : 5000 ≤ N) (ht : TOk t) (hl : ∀ q ∈ l, Near q)
include hN ht hl
theorem takes_ok : F_panel_takes N t l to = some (takesB t l to) := by
  unfold F_panel_takes takesB
  have h1 : F_slices_ContainsFunc_Point l (fun z0 => F_panel_takes_1 N z0 to t) = some (l.any fun q => !decide (tkP t q ∈ to)) := ContainsQ_ok (fun q hq => by
    unfold F_panel_takes_1
    rw [ht.p (by omega) (hl q hq), Option.bind_some, ContainsP_ok, Option.bind_some])
  have h2 : (!l.any fun q => !decide (tkP t q ∈ to)) = l.all fun q => decide (tkP t q ∈ to) := by
    rw [List.not_any_eq_all_not]; simp
  rw [h1, Option.bind_some, h2]
  by_cases he : l.length = to.length
  · rw [if_pos (by simp; omega)]; simp [he]
  · rw [if_neg (by simp; omega)]; simp [he]
omit hN ht hl in
theorem takesR_in {K : Int → Option Bool} {x : Int} {y : TPoint} (hto : to.length ≤ 1000) : ∀ (r m : Nat) (f : Bool) (i : Nat), i + r = to.length → r < m →
    F_etchhouseref9_takes_L4 to x K y m f i = if f || decide (y ∈ to.drop i) then K (w64 (x + 1)) else some false
  | 0, m + 1, f, i, h1, _ => by
    rw [F_etchhouseref9_takes_L4.eq_2, if_neg (by simp; omega), List.drop_of_length_le (by omega)]
    cases f <;> simp
  | r + 1, m + 1, f, i, h1, h2 => by
    have hlt : i < to.length := by omega
    have ih := fun f => takesR_in (K := K) (x := x) (y := y) hto r m f (i + 1) (by omega) (by omega)
    rw [F_etchhouseref9_takes_L4.eq_2, if_pos (by simp; omega), idx_nat hlt, w64_id (x := (i : Int) + 1) (by omega) (by omega)]
    have e : ∀ f, F_etchhouseref9_takes_L4 to x K y m f ((i : Int) + 1) = F_etchhouseref9_takes_L4 to x K y m f ((i + 1 : Nat) : Int) := fun f => by rw [Int.natCast_succ]
    cases f
    · simp only [Bool.false_eq_true, if_false, Option.bind_some, e, ih]
      have hmem : (y ∈ to.drop i) ↔ (y = to[i] ∨ y ∈ to.drop (i + 1)) := by rw [List.drop_eq_getElem_cons hlt]; exact List.mem_cons
      have hq : eqTPoint to[i] y = decide (to[i] = y) := eqP
      rw [hq]
      by_cases hy : to[i] = y
      · simp [hmem, hy]
      · have hy' : ¬ y = to[i] := fun h => hy h.symm
        simp [hmem, hy, hy']
    · simp only [if_true, Option.bind_some, e, ih]
      simp
theorem takesR_out (hll : l.length ≤ 1000) (hto : to.length ≤ 1000) : ∀ (r m : Nat) (i : Nat), i + r = l.length → r < m → F_etchhouseref9_takes_L3 N t l to m i = some ((l.drop i).all fun q => decide (tkP t q ∈ to))
  | 0, m + 1, i, h1, _ => by rw [F_etchhouseref9_takes_L3.eq_2, if_neg (by simp; omega), List.drop_of_length_le (by omega)]; rfl
  | r + 1, m + 1, i, h1, h2 => by
    have hlt : i < l.length := by omega
    have ih := takesR_out hll hto r m (i + 1) (by omega) (by omega)
    rw [F_etchhouseref9_takes_L3.eq_2, if_pos (by simp; omega), idx_nat hlt, Option.bind_some, ht.r (by omega) (hl _ (List.getElem_mem hlt)), Option.bind_some]
    have := takesR_in (K := F_etchhouseref9_takes_L3 N t l to m) (x := i) (y := tkP t l[i]) hto to.length N false 0 (by omega) (by omega)
    rw [show ((0 : Nat) : Int) = 0 from rfl] at this
    rw [this, w64_id (x := (i : Int) + 1) (by omega) (by omega), List.drop_eq_getElem_cons hlt, List.all_cons, List.drop_zero]
    rw [Int.natCast_succ] at ih
    by_cases hm : tkP t l[i] ∈ to
    · simp [hm, ih]
    · simp [hm]
theorem takesR_ok (hll : l.length ≤ 1000) (hto : to.length ≤ 1000) : F_etchhouseref9_takes N t l to = some (takesB t l to) := by
  unfold F_etchhouseref9_takes takesB
  by_cases he : l.length = to.length
  · rw [if_neg (by simp; omega)]
    have := takesR_out hN ht hl hll hto l.length N 0 (by omega) (by omega)
    rw [show ((0 : Nat) : Int) = 0 from rfl] at this
    rw [this]; simp [he]
  · rw [if_pos (by simp; omega)]; simp [he]
end
/-- The turn that takes a to x. -/
def turnAt (q : Int) (a x : TPoint) : TTurn := ⟨false, q, ⟨x.X - rotX q a.X a.Y, x.Y - rotY q a.X a.Y⟩⟩
def grp (q : Int) (a : TPoint) (l to : List TPoint) : List TTurn := (to.map (turnAt q a)).filter fun t => takesB t l to
theorem rot_near {q : Int} {a : TPoint} (h : Near a) : (-1000000 ≤ rotX q a.X a.Y ∧ rotX q a.X a.Y ≤ 1000000) ∧ (-1000000 ≤ rotY q a.X a.Y ∧ rotY q a.X a.Y ≤ 1000000) := rot_bd h.1 h.2
theorem turnAt_ok {q : Int} {a x : TPoint} (hq : 0 ≤ q ∧ q ≤ 3) (ha : Near a) (hx : Near x) : TOk (turnAt q a x) := by
  obtain ⟨r1, r2⟩ := rot_near (q := q) ha
  obtain ⟨x1, x2⟩ := hx
  exact ⟨rfl, hq, by unfold turnAt; dsimp only; omega, by unfold turnAt; dsimp only; omega⟩
theorem grp_mem {q : Int} {a : TPoint} {l to : List TPoint} (hq : 0 ≤ q ∧ q ≤ 3) (ha : Near a) (hto : ∀ x ∈ to, Near x) {t : TTurn} (h : t ∈ grp q a l to) : TOk t ∧ t.Quarters = q := by
  obtain ⟨h1, _⟩ := List.mem_filter.1 h
  obtain ⟨x, hx, rfl⟩ := List.mem_map.1 h1
  exact ⟨turnAt_ok hq ha (hto x hx), rfl⟩
/-- The order of turns: by Y, then X. -/
def ltT (a b : TTurn) : Bool := decide (a.At.Y < b.At.Y) || (decide (a.At.Y = b.At.Y) && decide (a.At.X < b.At.X))
theorem cmp_ok {a b : TTurn} (ha : TOk a) (hb : TOk b) : (∃ k, F_panel_turns_1 a b = some k) ∧ ltC (fun z0 z1 => F_panel_turns_1 z0 z1) a b = ltT a b := by
  have h1 := ha.x; have h2 := ha.y; have h3 := hb.x; have h4 := hb.y
  have e : F_panel_turns_1 a b = some (if a.At.Y = b.At.Y then a.At.X - b.At.X else a.At.Y - b.At.Y) := by
    unfold F_panel_turns_1
    by_cases hy : a.At.Y = b.At.Y
    · rw [if_neg (by simpa using hy), if_pos hy, w64_id (by omega) (by omega)]
    · rw [if_pos (by simpa using hy), if_neg hy, w64_id (by omega) (by omega)]
  refine ⟨⟨_, e⟩, ?_⟩
  show decide ((F_panel_turns_1 a b).getD 0 < 0) = ltT a b
  rw [e]
  unfold ltT
  by_cases hy : a.At.Y = b.At.Y
  · simp [hy]; omega
  · simp [hy]; omega
theorem sort_grp {g : List TTurn} (hl : g.length ≤ 1000) (h : ∀ t ∈ g, TOk t) : SortOk (fun z0 z1 => F_panel_turns_1 z0 z1) g where
  len := by omega
  tot x hx y hy := (cmp_ok (h x hx) (h y hy)).1
  irr x hx := by rw [(cmp_ok (h x hx) (h x hx)).2]; unfold ltT; simp
  tr x hx y hy z hz h1 h2 := by
    rw [(cmp_ok (h x hx) (h y hy)).2] at h1; rw [(cmp_ok (h y hy) (h z hz)).2] at h2; rw [(cmp_ok (h x hx) (h z hz)).2]
    unfold ltT at *; simp at *; omega
  ntr x hx y hy z hz h1 h2 := by
    rw [(cmp_ok (h x hx) (h y hy)).2] at h1; rw [(cmp_ok (h y hy) (h z hz)).2] at h2; rw [(cmp_ok (h x hx) (h z hz)).2]
    unfold ltT at *; simp at *; omega
/-- A group, sorted. -/
def Sorted (m g : List TTurn) : Prop := m.Perm g ∧ m.Pairwise fun x y => ltT y x = false
section
variable {N : Nat} {l to : List TPoint} {a : TPoint} (hN : 5000 ≤ N) (hla : idx l 0 = some a) (hl : ∀ q ∈ l, Near q) (hto : ∀ x ∈ to, Near x) (hl1 : l.length ≤ 1000) (hto1 : to.length ≤ 1000)
include hN hla hl hto hl1 hto1
omit hto hl1 hto1 in
theorem turns_in {q : Int} (hq : 0 ≤ q ∧ q ≤ 3) (ha : Near a) {out : List TTurn} {K : List TTurn → Int → Option (List TTurn)} (ho : out.length ≤ 4000) : ∀ (suf : List TPoint) (i : Nat) (acc : List TTurn), (∀ x ∈ suf, Near x) → (∀ t ∈ acc, TOk t) → acc.length + suf.length ≤ 1000 →
    ∃ m, F_panel_turns_L4 N l to out q K suf i acc = K (out ++ m) (w64 (q + 1)) ∧ Sorted m (acc ++ (suf.map (turnAt q a)).filter fun t => takesB t l to)
  | [], i, acc, _, hacc, hlen => by
    simp at hlen
    obtain ⟨m, hm⟩ := srtF_ok (sort_grp hlen hacc)
    obtain ⟨_, h2, h3⟩ := srtF_some hm
    refine ⟨m, ?_, by simpa using h2, ?_⟩
    · have hml : m.length ≤ 1000 := by rw [h2.length_eq]; exact hlen
      rw [F_panel_turns_L4.eq_1, hm, Option.bind_some, apd_ok (by omega), Option.bind_some]
    · refine h3.imp_of_mem (fun {x y} hx hy h => ?_)
      rw [← (cmp_ok (hacc y (h2.subset hy)) (hacc x (h2.subset hx))).2]; exact h
  | x :: suf, i, acc, hs, hacc, hlen => by
    have hx := hs x (by simp)
    obtain ⟨r1, r2⟩ := rot_near (q := q) ha
    obtain ⟨x1, x2⟩ := id hx
    have hT := turnAt_ok hq ha hx
    have e0 : F_shape_TurnPoint N a (TTurn.mk false q (TPoint.mk 0 0)) = some ⟨rotX q a.X a.Y, rotY q a.X a.Y⟩ := by
      have := TOk.p (N := N) (t := ⟨false, q, ⟨0, 0⟩⟩) ⟨rfl, hq, by simp, by simp⟩ (by omega) ha
      simpa [tkP] using this
    have e1 : (TTurn.mk false q (TPoint.mk (w64 (x.X - rotX q a.X a.Y)) (w64 (x.Y - rotY q a.X a.Y)))) = turnAt q a x := by
      unfold turnAt
      rw [w64_id (by omega) (by omega), w64_id (by omega) (by omega)]
    rw [F_panel_turns_L4.eq_2, hla, Option.bind_some, e0, Option.bind_some]
    dsimp only
    rw [e1, takes_ok hN hT hl, Option.bind_some, List.map_cons]
    by_cases hb : takesB (turnAt q a x) l to = true
    · rw [if_pos hb, List.filter_cons_of_pos (p := fun t => takesB t l to) hb, apd_ok (by simp at hlen ⊢; omega), Option.bind_some]
      obtain ⟨m, h1, h2⟩ := turns_in hq ha ho suf (i + 1) (acc ++ [turnAt q a x]) (fun y hy => hs y (by simp [hy])) (fun t ht => by
        rcases List.mem_append.1 ht with ht | ht
        · exact hacc t ht
        · simp at ht; subst ht; exact hT) (by simp at hlen ⊢; omega)
      exact ⟨m, h1, by simpa using h2⟩
    · rw [if_neg hb, List.filter_cons_of_neg (p := fun t => takesB t l to) hb]
      exact turns_in hq ha ho suf (i + 1) acc (fun y hy => hs y (by simp [hy])) hacc (by simp at hlen; omega)
omit hl1 in
theorem turns_ok (ha : Near a) : ∃ m0 m1 m2 m3, F_panel_turns N l to = some (m0 ++ m1 ++ m2 ++ m3) ∧ Sorted m0 (grp 0 a l to) ∧ Sorted m1 (grp 1 a l to) ∧ Sorted m2 (grp 2 a l to) ∧ Sorted m3 (grp 3 a l to) := by
  unfold F_panel_turns
  obtain ⟨n, rfl⟩ : ∃ n, N = n + 5 := ⟨N - 5, by omega⟩
  have hg : ∀ (q : Int) (m : List TTurn), Sorted m (grp q a l to) → m.length ≤ 1000 := fun q m h => by
    rw [h.1.length_eq]; unfold grp
    exact Nat.le_trans (List.length_filter_le _ _) (by simpa using hto1)
  have step : ∀ (q : Int) (hq : 0 ≤ q ∧ q ≤ 3) (out : List TTurn) (fu : Nat), out.length ≤ 4000 → ∃ m, F_panel_turns_L3 (n + 5) l to (fu + 1) out q = F_panel_turns_L3 (n + 5) l to fu (out ++ m) (q + 1) ∧ Sorted m (grp q a l to) := fun q hq out fu ho => by
    obtain ⟨m, h1, h2⟩ := turns_in (N := n + 5) hN hla hl hq ha (out := out) (K := F_panel_turns_L3 (n + 5) l to fu) ho to 0 [] hto (by simp) (by simpa using hto1)
    refine ⟨m, ?_, by simpa [grp] using h2⟩
    rw [F_panel_turns_L3.eq_2, if_pos (by simp; omega), h1, w64_id (x := q + 1) (by omega) (by omega)]
  obtain ⟨m0, a0, s0⟩ := step 0 (by omega) [] (n + 4) (by simp)
  obtain ⟨m1, a1, s1⟩ := step 1 (by omega) m0 (n + 3) (by have := hg 0 m0 s0; omega)
  obtain ⟨m2, a2, s2⟩ := step 2 (by omega) (m0 ++ m1) (n + 2) (by have := hg 0 m0 s0; have := hg 1 m1 s1; simp; omega)
  obtain ⟨m3, a3, s3⟩ := step 3 (by omega) (m0 ++ m1 ++ m2) (n + 1) (by have := hg 0 m0 s0; have := hg 1 m1 s1; have := hg 2 m2 s2; simp; omega)
  refine ⟨m0, m1, m2, m3, ?_, s0, s1, s2, s3⟩
  rw [a0, List.nil_append, show (0 : Int) + 1 = 1 from rfl, a1, show (1 : Int) + 1 = 2 from rfl, a2, show (2 : Int) + 1 = 3 from rfl, a3, show (3 : Int) + 1 = 4 from rfl, F_panel_turns_L3.eq_2, if_neg (by simp)]
omit hla in
theorem turnsR_in {q : Int} (hq : 0 ≤ q ∧ q ≤ 3) (ha : Near a) {K : List TTurn → Int → Option (List TTurn)} : ∀ (r m i : Nat) (acc : List TTurn), i + r = to.length → r < m → acc.length + r ≤ 5000 →
    F_etchhouseref9_turns_L4 N l to q K ⟨rotX q a.X a.Y, rotY q a.X a.Y⟩ m acc i = K (acc ++ ((to.drop i).map (turnAt q a)).filter fun t => takesB t l to) (w64 (q + 1))
  | 0, m + 1, i, acc, h1, _, _ => by rw [F_etchhouseref9_turns_L4.eq_2, if_neg (by simp; omega), List.drop_of_length_le (by omega)]; simp
  | r + 1, m + 1, i, acc, h1, h2, h3 => by
    have hlt : i < to.length := by omega
    have hx := hto _ (List.getElem_mem hlt)
    obtain ⟨r1, r2⟩ := rot_near (q := q) ha
    obtain ⟨x1, x2⟩ := id hx
    have hT := turnAt_ok hq ha hx
    have e1 : (TTurn.mk false q (TPoint.mk (w64 (to[i].X - rotX q a.X a.Y)) (w64 (to[i].Y - rotY q a.X a.Y)))) = turnAt q a to[i] := by
      unfold turnAt
      rw [w64_id (by omega) (by omega), w64_id (by omega) (by omega)]
    rw [F_etchhouseref9_turns_L4.eq_2, if_pos (by simp; omega), idx_nat hlt, Option.bind_some, Option.bind_some, e1, takesR_ok hN hT hl hl1 hto1, Option.bind_some, w64_id (x := (i : Int) + 1) (by omega) (by omega), List.drop_eq_getElem_cons hlt, List.map_cons]
    have e : ∀ acc, F_etchhouseref9_turns_L4 N l to q K ⟨rotX q a.X a.Y, rotY q a.X a.Y⟩ m acc ((i : Int) + 1) = F_etchhouseref9_turns_L4 N l to q K ⟨rotX q a.X a.Y, rotY q a.X a.Y⟩ m acc ((i + 1 : Nat) : Int) := fun acc => by rw [Int.natCast_succ]
    by_cases hb : takesB (turnAt q a to[i]) l to = true
    · rw [if_pos hb, List.filter_cons_of_pos (p := fun t => takesB t l to) hb, apd_ok (by simp; omega), Option.bind_some, e, turnsR_in hq ha r m (i + 1) _ (by omega) (by omega) (by simp; omega)]
      simp
    · rw [if_neg hb, List.filter_cons_of_neg (p := fun t => takesB t l to) hb, e, turnsR_in hq ha r m (i + 1) _ (by omega) (by omega) (by omega)]
theorem turnsR_ok (ha : Near a) (hlen : l.length = to.length) : F_etchhouseref9_turns N l to = some (grp 0 a l to ++ grp 1 a l to ++ grp 2 a l to ++ grp 3 a l to) := by
  have hl0 : l.length ≠ 0 := fun h => by
    have : l = [] := List.eq_nil_of_length_eq_zero h
    subst this; cases hla
  unfold F_etchhouseref9_turns
  rw [if_neg (by simp; exact ⟨by intro h; subst h; simp at hl0, by omega⟩)]
  obtain ⟨n, rfl⟩ : ∃ n, N = n + 5 := ⟨N - 5, by omega⟩
  have hg : ∀ (q : Int), (grp q a l to).length ≤ 1000 := fun q => by
    unfold grp
    exact Nat.le_trans (List.length_filter_le _ _) (by simpa using hto1)
  have step : ∀ (q : Int) (hq : 0 ≤ q ∧ q ≤ 3) (out : List TTurn) (fu : Nat), out.length ≤ 4000 → F_etchhouseref9_turns_L3 (n + 5) l to (fu + 1) out q = F_etchhouseref9_turns_L3 (n + 5) l to fu (out ++ grp q a l to) (q + 1) := fun q hq out fu ho => by
    have e0 : F_etchhouseref1_TurnPoint (n + 5) a (TTurn.mk false q (TPoint.mk 0 0)) = some ⟨rotX q a.X a.Y, rotY q a.X a.Y⟩ := by
      have := TOk.r (N := n + 5) (t := ⟨false, q, ⟨0, 0⟩⟩) ⟨rfl, hq, by simp, by simp⟩ (by omega) ha
      simpa [tkP] using this
    have := turnsR_in (N := n + 5) hN hl hto hl1 hto1 hq ha (K := F_etchhouseref9_turns_L3 (n + 5) l to fu) to.length (n + 5) 0 out (by omega) (by omega) (by omega)
    rw [show ((0 : Nat) : Int) = 0 from rfl, List.drop_zero, w64_id (x := q + 1) (by omega) (by omega)] at this
    rw [F_etchhouseref9_turns_L3.eq_2, if_pos (by simp; omega), hla, Option.bind_some, e0, Option.bind_some, this]; rfl
  have g0 := hg 0; have g1 := hg 1; have g2 := hg 2
  rw [step 0 (by omega) [] (n + 4) (by simp), List.nil_append, show (0 : Int) + 1 = 1 from rfl, step 1 (by omega) _ (n + 3) (by omega), show (1 : Int) + 1 = 2 from rfl, step 2 (by omega) _ (n + 2) (by simp; omega), show (2 : Int) + 1 = 3 from rfl, step 3 (by omega) _ (n + 1) (by simp; omega), show (3 : Int) + 1 = 4 from rfl, F_etchhouseref9_turns_L3.eq_2, if_neg (by simp)]
end
end Go.Proofs.Ytgabfobigjmckaa
