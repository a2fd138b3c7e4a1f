/- Gaps of regions: the program's gap of two. Plain Lean about the plain functions. -/
import Derived.Test.YtnlhigfglfahiaaS8
namespace Go.Proofs.Ytnlhigfglfahiaa
/-- How far two stretches, two rectangles are from one another. -/
def bt (a0 a1 b0 b1 : Int) : Int := max (max 0 (b0 - a1 + 1)) (a0 - b1 + 1)
def far (r q : TRect) : Int := max (bt r.X0 r.X1 q.X0 q.X1) (bt r.Y0 r.Y1 q.Y0 q.Y1)
/-- A rectangle within limits that are a bit wider. -/
structure R2 (r : TRect) : Prop where
  x0 : -3000000 ≤ r.X0 ∧ r.X0 ≤ 3000000
  y0 : -3000000 ≤ r.Y0 ∧ r.Y0 ≤ 3000000
  x1 : -3000000 ≤ r.X1 ∧ r.X1 ≤ 3000000
  y1 : -3000000 ≤ r.Y1 ∧ r.Y1 ≤ 3000000
  x : r.X0 < r.X1
  y : r.Y0 < r.Y1
theorem ROk.r2 {r : TRect} (h : ROk r) : R2 r := by
  have := h.x0; have := h.x1; have := h.y0; have := h.y1
  exact ⟨by omega, by omega, by omega, by omega, h.x, h.y⟩
theorem far_lim {r q : TRect} (h : R2 r) (k : R2 q) : 0 ≤ far r q ∧ far r q ≤ 6000001 := by
  have := h.x0; have := h.x1; have := h.y0; have := h.y1; have := k.x0; have := k.x1; have := k.y0; have := k.y1
  unfold far bt
  omega
theorem Far_ok {r q : TRect} (h : R2 r) (k : R2 q) : F_shape_Far r q = some (far r q) := by
  have := h.x0; have := h.x1; have := h.y0; have := h.y1; have := k.x0; have := k.x1; have := k.y0; have := k.y1
  unfold F_shape_Far F_shape_between far bt
  simp only [Option.bind_some]
  rw [w64_id (x := q.X0 - r.X1) (by omega) (by omega), w64_id (x := q.X0 - r.X1 + 1) (by omega) (by omega), w64_id (x := r.X0 - q.X1) (by omega) (by omega), w64_id (x := r.X0 - q.X1 + 1) (by omega) (by omega),
    w64_id (x := q.Y0 - r.Y1) (by omega) (by omega), w64_id (x := q.Y0 - r.Y1 + 1) (by omega) (by omega), w64_id (x := r.Y0 - q.Y1) (by omega) (by omega), w64_id (x := r.Y0 - q.Y1 + 1) (by omega) (by omega)]
/-- All pairs of two lists, in order. -/
def prs (a b : List TRect) : List (TRect × TRect) := a.flatMap fun x => b.map fun y => (x, y)
theorem prs_cons (x : TRect) (a b : List TRect) : prs (x :: a) b = (b.map fun y => (x, y)) ++ prs a b := rfl
theorem mem_prs {a b : List TRect} {p : TRect × TRect} : p ∈ prs a b ↔ p.1 ∈ a ∧ p.2 ∈ b := by
  unfold prs
  simp only [List.mem_flatMap, List.mem_map]
  constructor
  · rintro ⟨x, hx, y, hy, rfl⟩; exact ⟨hx, hy⟩
  · rintro ⟨h1, h2⟩; exact ⟨p.1, h1, p.2, h2, rfl⟩
def mn (m : Int) (p : TRect × TRect) : Int := min m (far p.1 p.2)
def pg (m : Int) (p : TRect × TRect) : Int := if m < 0 ∨ far p.1 p.2 < m then far p.1 p.2 else m
/-- The least distance of two regions. -/
def least (a b : List TRect) : Int := match a, b with
  | x :: a, y :: b => (prs (x :: a) (y :: b)).foldl mn (far x y)
  | _, _ => 0
theorem mn_le : ∀ (l : List (TRect × TRect)) (m : Int), l.foldl mn m ≤ m ∧ (∀ p ∈ l, l.foldl mn m ≤ far p.1 p.2) ∧ (l.foldl mn m = m ∨ ∃ p ∈ l, l.foldl mn m = far p.1 p.2)
  | [], m => ⟨Int.le_refl _, by simp, .inl rfl⟩
  | p :: l, m => by
    obtain ⟨h1, h2, h3⟩ := mn_le l (mn m p)
    rw [List.foldl_cons]
    have e1 : mn m p ≤ m := Int.min_le_left _ _
    have e2 : mn m p ≤ far p.1 p.2 := Int.min_le_right _ _
    refine ⟨by omega, fun q hq => ?_, ?_⟩
    · rcases List.mem_cons.1 hq with rfl | hq
      · omega
      · exact h2 q hq
    · rcases h3 with h3 | ⟨q, hq, h3⟩
      · rcases Int.le_total m (far p.1 p.2) with k | k
        · exact .inl (h3.trans (Int.min_eq_left k))
        · exact .inr ⟨p, by simp, h3.trans (Int.min_eq_right k)⟩
      · exact .inr ⟨q, by simp [hq], h3⟩
theorem pg_mn : ∀ (l : List (TRect × TRect)) (m : Int), 0 ≤ m → (∀ p ∈ l, 0 ≤ far p.1 p.2) → l.foldl pg m = l.foldl mn m
  | [], _, _, _ => rfl
  | p :: l, m, h, hp => by
    have h1 := hp p (by simp)
    have e : pg m p = mn m p := by
      unfold pg mn
      split <;> omega
    rw [List.foldl_cons, List.foldl_cons, e]
    exact pg_mn l _ (by unfold mn; omega) fun q hq => hp q (by simp [hq])
theorem least_pg {a b : List TRect} (ha : a ≠ []) (hb : b ≠ []) (h : ∀ p ∈ prs a b, 0 ≤ far p.1 p.2) : (prs a b).foldl pg (-1) = least a b := by
  cases a with
  | nil => exact absurd rfl ha
  | cons x a =>
    cases b with
    | nil => exact absurd rfl hb
    | cons y b =>
      have h0 := h (x, y) (mem_prs.2 ⟨by simp, by simp⟩)
      have hl : least (x :: a) (y :: b) = (prs (x :: a) (y :: b)).foldl mn (far x y) := rfl
      rw [hl]
      rw [prs_cons] at h ⊢
      rw [List.map_cons, List.cons_append, List.foldl_cons, List.foldl_cons]
      have e1 : pg (-1) (x, y) = far x y := by unfold pg; rw [if_pos (.inl (by omega))]
      have e2 : mn (far x y) (x, y) = far x y := by unfold mn; exact Int.min_self _
      rw [e1, e2]
      exact pg_mn _ _ h0 fun p hp => h p (by rw [List.map_cons, List.cons_append]; exact List.mem_cons_of_mem _ hp)
theorem least_ok {a b : List TRect} (ha : a ≠ []) (hb : b ≠ []) : (∀ p ∈ prs a b, least a b ≤ far p.1 p.2) ∧ ∃ p ∈ prs a b, least a b = far p.1 p.2 := by
  cases a with
  | nil => exact absurd rfl ha
  | cons x a =>
    cases b with
    | nil => exact absurd rfl hb
    | cons y b =>
      obtain ⟨h1, h2, h3⟩ := mn_le (prs (x :: a) (y :: b)) (far x y)
      refine ⟨h2, ?_⟩
      rcases h3 with h3 | h3
      · exact ⟨(x, y), mem_prs.2 ⟨by simp, by simp⟩, h3⟩
      · exact h3
/-- The least point of pairs that are near: coordinates, and whether there is one. -/
def nearP (p : TRect × TRect) (n : Int) : TPoint := ⟨max p.1.X0 (p.2.X0 - n), max p.1.Y0 (p.2.Y0 - n)⟩
def lessP (p q : TPoint) : Bool := decide (p.Y < q.Y) || ((p.Y == q.Y) && decide (p.X < q.X))
def upd (n : Int) (s : Int × Int × Bool) (p : TRect × TRect) : Int × Int × Bool :=
  if ((far p.1 p.2 == n) && (!s.2.2 || lessP (nearP p n) ⟨s.1, s.2.1⟩)) = true then ((nearP p n).X, (nearP p n).Y, true) else s
theorem near_ok {r q : TRect} {n : Int} (k : R2 q) (hn : 0 ≤ n ∧ n ≤ 6000001) : F_shape_near r q n = some (nearP (r, q) n) := by
  have := k.x0; have := k.y0
  unfold F_shape_near nearP
  rw [w64_id (by omega) (by omega), w64_id (by omega) (by omega)]
/-- The pick of the program, one pair. -/
theorem pick_step {n : Int} {r q : TRect} (h : R2 r) (k : R2 q) (hn : 0 ≤ n ∧ n ≤ 6000001) {u v : Int} {ok : Bool} {R : Type} {K : Int → Int → Bool → Option R} :
    ((F_shape_near r q n).bind fun y354 => (F_shape_Far r q).bind fun y356 => (if (y356 == n) then (if (!ok) then some true else (F_shape_less y354 (TPoint.mk u v)).bind fun y363 => some y363).bind fun g362 => some g362 else some false).bind fun g360 => if g360 then K y354.X y354.Y true else K u v ok) = K (upd n (u, v, ok) (r, q)).1 (upd n (u, v, ok) (r, q)).2.1 (upd n (u, v, ok) (r, q)).2.2 := by
  rw [near_ok k hn, Far_ok h k]
  simp only [Option.bind_some]
  have hl : F_shape_less (nearP (r, q) n) ⟨u, v⟩ = some (lessP (nearP (r, q) n) ⟨u, v⟩) := rfl
  rw [hl]
  unfold upd
  cases (far r q == n) <;> cases ok <;> cases lessP (nearP (r, q) n) ⟨u, v⟩ <;> rfl
theorem L7_ok {n x y : Int} (hn : 0 ≤ n ∧ n ≤ 6000001) (hxy : (-3000000 ≤ x ∧ x ≤ 2000000) ∧ (-3000000 ≤ y ∧ y ≤ 2000000)) : ∀ (l : List TRect) (i : Nat) (u v : Int) (ok : Bool), (∀ r ∈ l, R2 r) →
    F_shape_GapOf_L7 n x y l i u v ok = some ⟨0, 0, n - 1, ⟨x, y⟩, ⟨((prs l [⟨x, y, x + 1, y + 1⟩]).foldl (upd n) (u, v, ok)).1, ((prs l [⟨x, y, x + 1, y + 1⟩]).foldl (upd n) (u, v, ok)).2.1⟩⟩
  | [], i, u, v, ok, _ => by rw [F_shape_GapOf_L7.eq_1, w64_id (by omega) (by omega)]; rfl
  | r :: l, i, u, v, ok, h => by
    have hu : R2 ⟨x, y, x + 1, y + 1⟩ := ⟨⟨by show -3000000 ≤ x; omega, by show x ≤ 3000000; omega⟩, ⟨by show -3000000 ≤ y; omega, by show y ≤ 3000000; omega⟩, ⟨by show _ ≤ x + 1; omega, by show x + 1 ≤ _; omega⟩, ⟨by show _ ≤ y + 1; omega, by show y + 1 ≤ _; omega⟩, by show x < x + 1; omega, by show y < y + 1; omega⟩
    rw [F_shape_GapOf_L7.eq_2, w64_id (x := x + 1) (by omega) (by omega), w64_id (x := y + 1) (by omega) (by omega), pick_step (K := fun a b c => F_shape_GapOf_L7 n x y l (i + 1) a b c) (h r (by simp)) hu hn, L7_ok hn hxy l (i + 1) _ _ _ fun q hq => h q (by simp [hq])]
    rfl
theorem L8_ok {n : Int} (hn : 0 ≤ n ∧ n ≤ 6000001) {r : TRect} (hr : R2 r) {K : Int → Int → Bool → Option TGap} : ∀ (l : List TRect) (i : Nat) (u v : Int) (ok : Bool), (∀ q ∈ l, R2 q) →
    F_shape_GapOf_L8 n K r l i u v ok = K ((l.map fun q => (r, q)).foldl (upd n) (u, v, ok)).1 ((l.map fun q => (r, q)).foldl (upd n) (u, v, ok)).2.1 ((l.map fun q => (r, q)).foldl (upd n) (u, v, ok)).2.2
  | [], i, u, v, ok, _ => rfl
  | q :: l, i, u, v, ok, h => by
    rw [F_shape_GapOf_L8.eq_2, pick_step (K := fun a b c => F_shape_GapOf_L8 n K r l (i + 1) a b c) hr (h q (by simp)) hn, L8_ok hn hr l (i + 1) _ _ _ fun q hq => h q (by simp [hq])]
    rfl
theorem L6_ok {n : Int} (hn : 0 ≤ n ∧ n ≤ 6000001) {b : List TRect} (hb : ∀ q ∈ b, R2 q) : ∀ (l : List TRect) (i : Nat) (u v : Int) (ok : Bool), (∀ q ∈ l, R2 q) →
    F_shape_GapOf_L6 b n l i u v ok = F_shape_GapOf_L7 n ((prs l b).foldl (upd n) (u, v, ok)).1 ((prs l b).foldl (upd n) (u, v, ok)).2.1 b 0 0 0 false
  | [], i, u, v, ok, _ => rfl
  | r :: l, i, u, v, ok, h => by
    rw [F_shape_GapOf_L6.eq_2, L8_ok hn (h r (by simp)) b 0 _ _ _ hb, L6_ok hn hb l (i + 1) _ _ _ fun q hq => h q (by simp [hq]), prs_cons, List.foldl_append]
theorem L9_ok {r : TRect} (hr : R2 r) {K : Int → Option TGap} : ∀ (l : List TRect) (i : Nat) (m : Int), (∀ q ∈ l, R2 q) → F_shape_GapOf_L9 K r l i m = K ((l.map fun q => (r, q)).foldl pg m)
  | [], i, m, _ => rfl
  | q :: l, i, m, h => by
    rw [F_shape_GapOf_L9.eq_2, Far_ok hr (h q (by simp)), Option.bind_some, L9_ok hr l _ _ fun q hq => h q (by simp [hq]), L9_ok hr l _ _ fun q hq => h q (by simp [hq]), List.map_cons, List.foldl_cons]
    unfold pg
    by_cases hc : m < 0 ∨ far r q < m
    · rw [if_pos (by simpa using hc), if_pos hc]
    · rw [if_neg (by simpa using hc), if_neg hc]
theorem L3_ok {a b : List TRect} (hb : ∀ q ∈ b, R2 q) : ∀ (l : List TRect) (i : Nat) (m : Int), (∀ q ∈ l, R2 q) → F_shape_GapOf_L3 a b l i m = F_shape_GapOf_L6 b ((prs l b).foldl pg m) a 0 0 0 false
  | [], i, m, _ => rfl
  | r :: l, i, m, h => by
    rw [F_shape_GapOf_L3.eq_2, L9_ok (h r (by simp)) b 0 _ hb, L3_ok hb l (i + 1) _ fun q hq => h q (by simp [hq]), prs_cons, List.foldl_append]
/-- The gap of two regions. -/
def fromV (a b : List TRect) : Int × Int × Bool := (prs a b).foldl (upd (least a b)) (0, 0, false)
def toV (a b : List TRect) : Int × Int × Bool := (prs b [⟨(fromV a b).1, (fromV a b).2.1, (fromV a b).1 + 1, (fromV a b).2.1 + 1⟩]).foldl (upd (least a b)) (0, 0, false)
def gapV (a b : List TRect) : TGap := ⟨0, 0, least a b - 1, ⟨(fromV a b).1, (fromV a b).2.1⟩, ⟨(toV a b).1, (toV a b).2.1⟩⟩
theorem upd_true (n : Int) : ∀ (l : List (TRect × TRect)) (s : Int × Int × Bool), (l.foldl (upd n) s = s ∨ ∃ p ∈ l, far p.1 p.2 = n ∧ l.foldl (upd n) s = ((nearP p n).X, (nearP p n).Y, true)) ∧ ((∃ p ∈ l, far p.1 p.2 = n) → (l.foldl (upd n) s).2.2 = true)
  | [], s => ⟨.inl rfl, by simp⟩
  | p :: l, s => by
    obtain ⟨h1, h2⟩ := upd_true n l (upd n s p)
    have hu : upd n s p = s ∨ (far p.1 p.2 = n ∧ upd n s p = ((nearP p n).X, (nearP p n).Y, true)) := by
      unfold upd
      split
      · rename_i h
        rw [Bool.and_eq_true] at h
        exact .inr ⟨by simpa using h.1, rfl⟩
      · exact .inl rfl
    have hok : s.2.2 = true → (upd n s p).2.2 = true := fun h => by
      rcases hu with e | ⟨_, e⟩
      · rw [e]; exact h
      · rw [e]
    have hkeep : ∀ (l : List (TRect × TRect)) (s : Int × Int × Bool), s.2.2 = true → (l.foldl (upd n) s).2.2 = true := by
      intro l
      induction l with
      | nil => intro s h; exact h
      | cons q l ih =>
        intro s h
        refine ih _ ?_
        unfold upd
        split
        · rfl
        · exact h
    rw [List.foldl_cons]
    refine ⟨?_, ?_⟩
    · rcases h1 with h1 | ⟨q, hq, h3, h4⟩
      · rcases hu with e | ⟨e1, e2⟩
        · exact .inl (h1.trans e)
        · exact .inr ⟨p, by simp, e1, h1.trans e2⟩
      · exact .inr ⟨q, by simp [hq], h3, h4⟩
    · rintro ⟨q, hq, h3⟩
      rcases List.mem_cons.1 hq with rfl | hq
      · refine hkeep l _ ?_
        unfold upd
        cases hs : s.2.2
        · rw [if_pos (by simp [h3])]
        · split
          · rfl
          · exact hs
      · exact h2 ⟨q, hq, h3⟩
/-- Near enough: what is cut out is not empty. -/
theorem near_iff {r q : TRect} (h : R2 r) (k : R2 q) {n : Int} (hn : 0 ≤ n) : far r q ≤ n ↔ (max r.X0 (q.X0 - n) ≤ min r.X1 (q.X1 + n) - 1 ∧ max r.Y0 (q.Y0 - n) ≤ min r.Y1 (q.Y1 + n) - 1) := by
  have := h.x; have := h.y; have := k.x; have := k.y
  unfold far bt
  omega
theorem from_in {a b : List TRect} (ha : a ≠ []) (hb : b ≠ []) (h1 : ∀ r ∈ a, R2 r) (h2 : ∀ r ∈ b, R2 r) : ∃ r ∈ a, (r.X0 ≤ (fromV a b).1 ∧ (fromV a b).1 < r.X1) ∧ (r.Y0 ≤ (fromV a b).2.1 ∧ (fromV a b).2.1 < r.Y1) := by
  obtain ⟨l1, p, hp, l2⟩ := least_ok ha hb
  obtain ⟨u1, u2⟩ := upd_true (least a b) (prs a b) (0, 0, false)
  have hok := u2 ⟨p, hp, l2.symm⟩
  unfold fromV
  rcases u1 with e | ⟨q, hq, e1, e2⟩
  · rw [e] at hok; cases hok
  · rw [e2]
    obtain ⟨q1, q2⟩ := mem_prs.1 hq
    have k1 := h1 _ q1
    have k2 := h2 _ q2
    have hn := (far_lim k1 k2).1
    have := (near_iff k1 k2 (n := least a b) (by omega)).1 (by omega)
    refine ⟨q.1, q1, ?_⟩
    show (q.1.X0 ≤ max q.1.X0 (q.2.X0 - least a b) ∧ max q.1.X0 (q.2.X0 - least a b) < q.1.X1) ∧ (q.1.Y0 ≤ max q.1.Y0 (q.2.Y0 - least a b) ∧ max q.1.Y0 (q.2.Y0 - least a b) < q.1.Y1)
    omega
theorem least_lim {a b : List TRect} (ha : a ≠ []) (hb : b ≠ []) (h1 : ∀ r ∈ a, R2 r) (h2 : ∀ r ∈ b, R2 r) : 0 ≤ least a b ∧ least a b ≤ 6000001 := by
  obtain ⟨_, p, hp, l2⟩ := least_ok ha hb
  obtain ⟨q1, q2⟩ := mem_prs.1 hp
  rw [l2]
  exact far_lim (h1 _ q1) (h2 _ q2)
theorem GapOf_ok {a b : List TRect} (ha : a ≠ []) (hb : b ≠ []) (h1 : ∀ r ∈ a, ROk r) (h2 : ∀ r ∈ b, ROk r) : F_shape_GapOf a b = some (gapV a b) := by
  have k1 : ∀ r ∈ a, R2 r := fun r hr => (h1 r hr).r2
  have k2 : ∀ r ∈ b, R2 r := fun r hr => (h2 r hr).r2
  have hn := least_lim ha hb k1 k2
  obtain ⟨r, hr, hf⟩ := from_in ha hb k1 k2
  have hrl := h1 r hr
  have := hrl.x0; have := hrl.x1; have := hrl.y0; have := hrl.y1
  unfold F_shape_GapOf
  rw [L3_ok k2 a 0 _ k1, least_pg ha hb (fun p hp => by obtain ⟨q1, q2⟩ := mem_prs.1 hp; exact (far_lim (k1 _ q1) (k2 _ q2)).1), L6_ok hn k2 a 0 _ _ _ k1]
  have := L7_ok hn (x := (fromV a b).1) (y := (fromV a b).2.1) ⟨by omega, by omega⟩ b 0 0 0 false k2
  exact this
end Go.Proofs.Ytnlhigfglfahiaa
