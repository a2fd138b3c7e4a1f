/- Sets of squares: bands in their one form, told by their points. Plain Lean. -/
import Derived.Test.YtfdglihcpfpefaaGreatS7
namespace Go.Proofs.YtfdglihcpfpefaaGreat
/-- A square lies in bands. -/
def InB (x y : Int) (l : List Bd) : Prop := InS x (rowAt l y)
/-- A square lies in a rectangle of many. -/
def InR (x y : Int) (l : List TRect) : Prop := ∃ r ∈ l, (r.X0 ≤ x ∧ x < r.X1) ∧ (r.Y0 ≤ y ∧ y < r.Y1)
/-- Bands in their one form. -/
structure BOk (l : List Bd) : Prop where
  can : ∃ lo, CanB lo l
  row : ∀ b ∈ l, ∃ lo, Can lo b.2.2
theorem rowAt_mem : ∀ {l : List Bd} {y : Int}, rowAt l y = [] ∨ ∃ b ∈ l, b.1 ≤ y ∧ y < b.2.1 ∧ rowAt l y = b.2.2
  | [], _ => .inl rfl
  | b :: l, y => by
    unfold rowAt
    by_cases h : b.1 ≤ y ∧ y < b.2.1
    · rw [if_pos h]; exact .inr ⟨b, by simp, h.1, h.2, rfl⟩
    · rw [if_neg h]
      rcases rowAt_mem (l := l) (y := y) with h1 | ⟨c, h1, h2⟩
      · exact .inl h1
      · exact .inr ⟨c, by simp [h1], h2⟩
theorem BOk.at {l : List Bd} (h : BOk l) (y : Int) : ∃ lo, Can lo (rowAt l y) := by
  rcases rowAt_mem (l := l) (y := y) with h1 | ⟨b, h1, _, _, h2⟩
  · rw [h1]; exact ⟨0, trivial⟩
  · rw [h2]; exact h.row b h1
theorem CanB.mem : ∀ {l : List Bd} {lo : Int}, CanB lo l → ∀ b ∈ l, lo ≤ b.1 ∧ b.1 < b.2.1 ∧ b.2.2 ≠ []
  | [], _, _, b, hb => by simp at hb
  | c :: l, lo, h, b, hb => by
    rcases List.mem_cons.1 hb with rfl | hb
    · exact ⟨h.1, h.2.1, h.2.2.1⟩
    · have hm := h.2.2.2.2.mem b hb
      have := h.1; have := h.2.1
      exact ⟨by omega, hm.2.1, hm.2.2⟩
theorem rowAt_of : ∀ {l : List Bd} {lo y : Int} {b : Bd}, CanB lo l → b ∈ l → b.1 ≤ y → y < b.2.1 → rowAt l y = b.2.2
  | [], _, _, _, _, hb, _, _ => by simp at hb
  | c :: l, lo, y, b, h, hb, h1, h2 => by
    unfold rowAt
    rcases List.mem_cons.1 hb with rfl | hb
    · rw [if_pos ⟨h1, h2⟩]
    · have := h.2.2.2.2.mem b hb
      rw [if_neg (by omega)]
      exact rowAt_of h.2.2.2.2 hb h1 h2
/-- The form is one: bands with the same squares are the same. -/
theorem BOk.uniq {l m : List Bd} (h1 : BOk l) (h2 : BOk m) (h : ∀ x y, InB x y l ↔ InB x y m) : l = m := by
  obtain ⟨lo, c1⟩ := h1.can
  obtain ⟨lo', c2⟩ := h2.can
  refine c1.uniq c2 fun y => ?_
  obtain ⟨a, ha⟩ := h1.at y
  obtain ⟨b, hb⟩ := h2.at y
  exact ha.uniq hb fun x => h x y
theorem low_ex : ∀ (l : List (Int × Int)), ∃ lo, ∀ p ∈ l, lo < p.1
  | [] => ⟨0, by simp⟩
  | q :: l => by
    obtain ⟨lo, h⟩ := low_ex l
    refine ⟨min lo (q.1 - 1), fun p hp => ?_⟩
    rcases List.mem_cons.1 hp with rfl | hp
    · omega
    · have := h p hp; omega
theorem cov_ok {l : List (Int × Int)} (h : ∀ p ∈ l, p.1 < p.2) : (∃ lo, Can lo (covS l)) ∧ ∀ x, InS x (covS l) ↔ InS x l := by
  obtain ⟨lo, hlo⟩ := low_ex l
  obtain ⟨h1, h2⟩ := covS_ok (lo := lo) (l := l) fun p hp => ⟨hlo p hp, h p hp⟩
  exact ⟨⟨lo, h1⟩, h2⟩
theorem rowS_ok {l : List TRect} (h : ∀ r ∈ l, r.X0 < r.X1) (y : Int) : (∃ lo, Can lo (rowS l y)) ∧ ∀ x, InS x (rowS l y) ↔ InR x y l := by
  obtain ⟨h1, h2⟩ := cov_ok (l := (l.filter fun r => decide (r.Y0 ≤ y) && decide (y < r.Y1)).map xsR) fun p hp => by
    obtain ⟨r, hr, rfl⟩ := List.mem_map.1 hp
    exact h r (List.mem_filter.1 hr).1
  refine ⟨h1, fun x => (h2 x).trans ?_⟩
  unfold InS InR
  constructor
  · rintro ⟨p, hp, hx⟩
    obtain ⟨r, hr, rfl⟩ := List.mem_map.1 hp
    obtain ⟨hr, hy⟩ := List.mem_filter.1 hr
    simp at hy
    exact ⟨r, hr, hx, hy⟩
  · rintro ⟨r, hr, hx, hy⟩
    exact ⟨xsR r, List.mem_map.2 ⟨r, List.mem_filter.2 ⟨hr, by simp [hy]⟩, rfl⟩, hx⟩
theorem can_eq {l m : List (Int × Int)} (h1 : ∃ lo, Can lo l) (h2 : ∃ lo, Can lo m) (h : ∀ x, InS x l ↔ InS x m) : l = m := by
  obtain ⟨_, h1⟩ := h1
  obtain ⟨_, h2⟩ := h2
  exact h1.uniq h2 h
theorem can_nil {l : List (Int × Int)} (h1 : ∃ lo, Can lo l) (h : ∀ x, ¬ InS x l) : l = [] := can_eq h1 ⟨0, trivial⟩ fun x => ⟨fun hx => absurd hx (h x), fun hx => absurd hx InS_nil⟩
theorem pushB_cons {c : Bd} {l : List Bd} {b : Bd} (h : l ≠ []) : pushB (c :: l) b = c :: pushB l b := by
  by_cases he : b.2.2 = []
  · rw [pushB_empty he, pushB_empty he]
  · rcases List.eq_nil_or_concat l with rfl | ⟨j, d, hc⟩
    · exact absurd rfl h
    · rw [List.concat_eq_append] at hc
      subst hc
      rw [← List.cons_append, pushB_snoc he, pushB_snoc he]
      split <;> rfl
theorem pushB_head {c : Bd} {l : List Bd} {b : Bd} : ∃ e m, pushB (c :: l) b = e :: m ∧ e.1 = c.1 ∧ e.2.2 = c.2.2 := by
  by_cases hl : l = []
  · subst hl
    by_cases he : b.2.2 = []
    · rw [pushB_empty he]; exact ⟨c, [], rfl, rfl, rfl⟩
    · have := pushB_snoc (l := []) (c := c) he
      rw [List.nil_append] at this
      rw [this]
      split
      · exact ⟨_, _, rfl, rfl, rfl⟩
      · exact ⟨_, _, rfl, rfl, rfl⟩
  · rw [pushB_cons hl]; exact ⟨_, _, rfl, rfl, rfl⟩
/-- One band more behind all others. -/
theorem CanB.push : ∀ {l : List Bd} {lo : Int} {b : Bd}, CanB lo l → (∀ c ∈ l, c.2.1 ≤ b.1) → lo ≤ b.1 → b.1 < b.2.1 →
    CanB lo (pushB l b) ∧ (∀ c ∈ pushB l b, c.2.1 ≤ b.2.1 ∧ (c.2.2 = b.2.2 ∨ ∃ d ∈ l, c.2.2 = d.2.2)) ∧ ∀ y, rowAt (pushB l b) y = if b.1 ≤ y ∧ y < b.2.1 then b.2.2 else rowAt l y
  | [], lo, b, h, h1, h2, h3 => by
    by_cases he : b.2.2 = []
    · rw [pushB_empty he]
      exact ⟨h, by simp, fun y => by unfold rowAt; split <;> simp [he]⟩
    · rw [pushB_nil he]
      exact ⟨⟨h2, h3, he, by simp, trivial⟩, by simp, fun y => by unfold rowAt; rfl⟩
  | [c], lo, b, h, h1, h2, h3 => by
    have hc := h1 c (by simp)
    have h4 := h.2.1
    by_cases he : b.2.2 = []
    · rw [pushB_empty he]
      refine ⟨h, fun d hd => ⟨by have := h1 d hd; omega, .inr ⟨d, hd, rfl⟩⟩, fun y => ?_⟩
      by_cases hy : b.1 ≤ y ∧ y < b.2.1
      · rw [if_pos hy, he]; unfold rowAt; rw [if_neg (by omega)]; rfl
      · rw [if_neg hy]
    · have hp := pushB_snoc (l := []) (c := c) he
      rw [List.nil_append] at hp
      rw [hp]
      by_cases hj : c.2.1 = b.1 ∧ c.2.2 = b.2.2
      · rw [if_pos hj]
        refine ⟨⟨h.1, by show c.1 < b.2.1; omega, h.2.2.1, by simp, trivial⟩, fun d hd => ?_, fun y => ?_⟩
        · simp at hd; subst hd; exact ⟨Int.le_refl _, .inr ⟨c, by simp, rfl⟩⟩
        · show (if c.1 ≤ y ∧ y < b.2.1 then c.2.2 else []) = if b.1 ≤ y ∧ y < b.2.1 then b.2.2 else if c.1 ≤ y ∧ y < c.2.1 then c.2.2 else []
          rw [hj.2]
          by_cases ha : b.1 ≤ y ∧ y < b.2.1
          · rw [if_pos ha, if_pos (by omega)]
          · rw [if_neg ha]
            by_cases hb : c.1 ≤ y ∧ y < c.2.1
            · rw [if_pos hb, if_pos (by omega)]
            · rw [if_neg hb, if_neg (by omega)]
      · rw [if_neg hj]
        refine ⟨⟨h.1, h.2.1, h.2.2.1, fun d hd e => ?_, ⟨hc, h3, he, by simp, trivial⟩⟩, fun d hd => ?_, fun y => ?_⟩
        · simp at hd; subst hd
          exact fun h' => hj ⟨e.symm, h'.symm⟩
        · simp at hd
          rcases hd with rfl | rfl
          · exact ⟨by omega, .inr ⟨d, by simp, rfl⟩⟩
          · exact ⟨Int.le_refl _, .inl rfl⟩
        · show (if c.1 ≤ y ∧ y < c.2.1 then c.2.2 else if b.1 ≤ y ∧ y < b.2.1 then b.2.2 else []) = if b.1 ≤ y ∧ y < b.2.1 then b.2.2 else if c.1 ≤ y ∧ y < c.2.1 then c.2.2 else []
          by_cases ha : b.1 ≤ y ∧ y < b.2.1
          · rw [if_pos ha, if_neg (by omega), if_pos ha]
          · rw [if_neg ha, if_neg ha]
  | c :: d :: l, lo, b, h, h1, h2, h3 => by
    obtain ⟨i1, i2, i3⟩ := CanB.push (l := d :: l) (lo := c.2.1) (b := b) h.2.2.2.2 (fun e he => h1 e (by simp [List.mem_cons.1 he])) (h1 c (by simp)) h3
    rw [pushB_cons (by simp)]
    have hc := h1 c (by simp)
    have h4 := h.2.1
    refine ⟨⟨h.1, h.2.1, h.2.2.1, fun e he e1 => ?_, i1⟩, fun e he => ?_, fun y => ?_⟩
    · obtain ⟨f, m, p1, p2, p3⟩ := pushB_head (c := d) (l := l) (b := b)
      rw [p1] at he
      simp at he
      subst he
      rw [p3]
      exact h.2.2.2.1 d rfl (by omega)
    · rcases List.mem_cons.1 he with rfl | he
      · exact ⟨by omega, .inr ⟨e, by simp, rfl⟩⟩
      · obtain ⟨j1, j2 | ⟨f, j2, j3⟩⟩ := i2 e he
        · exact ⟨j1, .inl j2⟩
        · exact ⟨j1, .inr ⟨f, by simp [List.mem_cons.1 j2], j3⟩⟩
    · show (if c.1 ≤ y ∧ y < c.2.1 then c.2.2 else rowAt (pushB (d :: l) b) y) = if b.1 ≤ y ∧ y < b.2.1 then b.2.2 else if c.1 ≤ y ∧ y < c.2.1 then c.2.2 else rowAt (d :: l) y
      rw [i3 y]
      by_cases ha : b.1 ≤ y ∧ y < b.2.1
      · rw [if_pos ha, if_pos ha, if_neg (by omega)]
      · rw [if_neg ha, if_neg ha]
/-- Bands over heights, one behind the other. -/
def bandsF (f : Int → List (Int × Int)) : List Int → List Bd → List Bd
  | a :: b :: ys, out => bandsF f (b :: ys) (pushB out (a, b, f a))
  | _, out => out
theorem bandsGo_F (l : List TRect) : ∀ (ys : List Int) (out : List Bd), bandsGo l ys out = bandsF (rowS l) ys out
  | [], _ => rfl
  | [_], _ => rfl
  | a :: b :: ys, out => bandsGo_F l (b :: ys) (pushB out (a, b, rowS l a))
/-- The same all over, between one height and the next one. -/
def ConstOn (f : Int → List (Int × Int)) : List Int → Prop
  | a :: b :: ys => (∀ y, a ≤ y → y < b → f y = f a) ∧ ConstOn f (b :: ys)
  | _ => True
theorem constOn {f : Int → List (Int × Int)} {zs : List Int} (hc : ∀ a y, a ≤ y → (∀ z ∈ zs, z ≤ a ∨ y < z) → f y = f a) : ∀ {ys pre : List Int}, zs = pre ++ ys → zs.Pairwise (fun x y => x < y) → ConstOn f ys
  | [], _, _, _ => trivial
  | [_], _, _, _ => trivial
  | a :: b :: ys, pre, e, h => by
    refine ⟨fun y h1 h2 => hc a y h1 fun z hz => ?_, constOn hc (ys := b :: ys) (pre := pre ++ [a]) (by rw [e]; simp) h⟩
    rw [e] at hz h
    obtain ⟨_, k1, k2⟩ := List.pairwise_append.1 h
    rcases List.mem_append.1 hz with hz | hz
    · have := k2 z hz a (by simp); exact .inl (by omega)
    · rcases List.mem_cons.1 hz with rfl | hz
      · exact .inl (Int.le_refl _)
      · rcases List.mem_cons.1 hz with rfl | hz
        · exact .inr h2
        · have := (List.pairwise_cons.1 (List.pairwise_cons.1 k1).2).1 z hz; exact .inr (by omega)
theorem bands_ok {f : Int → List (Int × Int)} {lo : Int} (hf : ∀ y, ∃ lo, Can lo (f y)) : ∀ (ys : List Int) (out : List Bd), ys.Pairwise (fun x y => x < y) → ConstOn f ys → CanB lo out → (∀ b ∈ out, ∃ lo, Can lo b.2.2) → (∀ a, ys.head? = some a → lo ≤ a ∧ (∀ c ∈ out, c.2.1 ≤ a)) →
    CanB lo (bandsF f ys out) ∧ (∀ b ∈ bandsF f ys out, ∃ lo, Can lo b.2.2) ∧ ∀ y, rowAt (bandsF f ys out) y = if (∃ a ∈ ys, a ≤ y) ∧ (∃ z ∈ ys, y < z) then f y else rowAt out y
  | [], out, _, _, h1, h2, _ => ⟨h1, h2, fun y => by rw [if_neg (by simp)]; rfl⟩
  | [a], out, _, _, h1, h2, _ => ⟨h1, h2, fun y => by rw [if_neg (by rintro ⟨⟨c, hc, h1⟩, z, hz, h2⟩; simp at hc hz; omega)]; rfl⟩
  | a :: b :: ys, out, hs, hc, h1, h2, h3 => by
    have hab : a < b := (List.pairwise_cons.1 hs).1 b (by simp)
    have hs2 := (List.pairwise_cons.1 hs).2
    obtain ⟨h5, h6⟩ := h3 a rfl
    obtain ⟨p1, p2, p3⟩ := h1.push (b := (a, b, f a)) h6 h5 hab
    obtain ⟨i1, i2, i3⟩ := bands_ok hf (b :: ys) (pushB out (a, b, f a)) hs2 hc.2 p1 (fun c hc => by
      rcases (p2 c hc).2 with e | ⟨d, hd, e⟩
      · rw [e]; exact hf a
      · rw [e]; exact h2 d hd) (fun z hz => by
      simp at hz; subst hz
      exact ⟨by omega, fun c hc => (p2 c hc).1⟩)
    refine ⟨i1, i2, fun y => ?_⟩
    show rowAt (bandsF f (b :: ys) (pushB out (a, b, f a))) y = _
    rw [i3 y, p3 y]
    show (if (∃ c ∈ b :: ys, c ≤ y) ∧ (∃ z ∈ b :: ys, y < z) then f y else if a ≤ y ∧ y < b then f a else rowAt out y) = _
    by_cases ya : y < a
    · rw [if_neg (fun h => by
        obtain ⟨⟨c, hc, hcy⟩, _⟩ := h
        rcases List.mem_cons.1 hc with rfl | hc
        · omega
        · have := (List.pairwise_cons.1 hs2).1 c hc; omega), if_neg (by omega), if_neg (fun h => by
        obtain ⟨⟨c, hc, hcy⟩, _⟩ := h
        rcases List.mem_cons.1 hc with rfl | hc
        · omega
        · have := (List.pairwise_cons.1 hs).1 c hc; omega)]
    · by_cases yb : y < b
      · rw [if_neg (fun h => by
          obtain ⟨⟨c, hc, hcy⟩, _⟩ := h
          rcases List.mem_cons.1 hc with rfl | hc
          · omega
          · have := (List.pairwise_cons.1 hs2).1 c hc; omega), if_pos (by omega), if_pos ⟨⟨a, by simp, by omega⟩, ⟨b, by simp, yb⟩⟩]
        exact (hc.1 y (by omega) yb).symm
      · by_cases hz : ∃ z ∈ b :: ys, y < z
        · obtain ⟨z, hz, hyz⟩ := hz
          rw [if_pos ⟨⟨b, by simp, by omega⟩, z, hz, hyz⟩, if_pos ⟨⟨a, by simp, by omega⟩, z, List.mem_cons_of_mem _ hz, hyz⟩]
        · rw [if_neg (fun h => hz h.2), if_neg (by omega), if_neg (fun h => by
            obtain ⟨_, z, hm, hyz⟩ := h
            rcases List.mem_cons.1 hm with rfl | hm
            · omega
            · exact hz ⟨z, hm, hyz⟩)]
/-- Bands over all heights at which something changes. -/
theorem bandsF_row {f : Int → List (Int × Int)} {ys : List Int} (hs : ys.Pairwise fun x y => x < y) (hf : ∀ y, ∃ lo, Can lo (f y)) (hc : ∀ a y, a ≤ y → (∀ z ∈ ys, z ≤ a ∨ y < z) → f y = f a) (h0 : ∀ y, (∀ a ∈ ys, y < a) → f y = []) (h1 : ∀ y, (∀ a ∈ ys, a ≤ y) → f y = []) : BOk (bandsF f ys []) ∧ ∀ y, rowAt (bandsF f ys []) y = f y := by
  obtain ⟨lo, hlo⟩ : ∃ lo : Int, ∀ z ∈ ys, lo ≤ z := by
    have : ∀ m : List Int, ∃ lo : Int, ∀ z ∈ m, lo ≤ z := by
      intro m
      induction m with
      | nil => exact ⟨0, by simp⟩
      | cons a m ih =>
        obtain ⟨lo, h⟩ := ih
        refine ⟨min lo a, fun z hz => ?_⟩
        rcases List.mem_cons.1 hz with rfl | hz
        · omega
        · have := h z hz; omega
    exact this _
  obtain ⟨i1, i2, i3⟩ := bands_ok (lo := lo) hf ys [] hs (constOn hc (ys := ys) (pre := []) rfl hs) trivial (by simp) (fun a ha => ⟨hlo a (List.mem_of_mem_head? (by rw [ha]; rfl)), by simp⟩)
  refine ⟨⟨⟨lo, i1⟩, i2⟩, fun y => ?_⟩
  rw [i3 y]
  by_cases ha : ∃ a ∈ ys, a ≤ y
  · by_cases hz : ∃ z ∈ ys, y < z
    · rw [if_pos ⟨ha, hz⟩]
    · rw [if_neg (fun h => hz h.2), h1 y (fun a ham => by
        rcases Int.lt_or_le y a with h | h
        · exact absurd ⟨a, ham, h⟩ hz
        · exact h)]; rfl
  · rw [if_neg (fun h => ha h.1), h0 y (fun a ham => by
      rcases Int.lt_or_le y a with h | h
      · exact h
      · exact absurd ⟨a, ham, h⟩ ha)]; rfl
theorem rowS_nil {l : List TRect} (hl : ∀ r ∈ l, r.X0 < r.X1) {y : Int} (h : ∀ r ∈ l, ¬ (r.Y0 ≤ y ∧ y < r.Y1)) : rowS l y = [] := by
  obtain ⟨c1, c2⟩ := rowS_ok hl y
  exact can_nil c1 fun x hx => by
    obtain ⟨r, hr, _, hy⟩ := (c2 x).1 hx
    exact h r hr hy
theorem rowS_const {l : List TRect} (hl : ∀ r ∈ l, r.X0 < r.X1) {a y : Int} (h : ∀ r ∈ l, (r.Y0 ≤ y ∧ y < r.Y1) ↔ (r.Y0 ≤ a ∧ a < r.Y1)) : rowS l y = rowS l a := by
  obtain ⟨c1, c2⟩ := rowS_ok hl y
  obtain ⟨c3, c4⟩ := rowS_ok hl a
  refine can_eq c1 c3 fun x => (c2 x).trans (Iff.trans ?_ (c4 x).symm)
  unfold InR
  constructor
  · rintro ⟨r, hr, hx, hy⟩; exact ⟨r, hr, hx, (h r hr).1 hy⟩
  · rintro ⟨r, hr, hx, hy⟩; exact ⟨r, hr, hx, (h r hr).2 hy⟩
/-- Heights of rectangles: what lies at a height changes there alone. -/
theorem rowS_change {l : List TRect} {ys : List Int} (hl : ∀ r ∈ l, r.X0 < r.X1 ∧ r.Y0 < r.Y1) (hy : ∀ r ∈ l, r.Y0 ∈ ys ∧ r.Y1 ∈ ys) : (∀ a y, a ≤ y → (∀ z ∈ ys, z ≤ a ∨ y < z) → rowS l y = rowS l a) ∧ (∀ y, (∀ a ∈ ys, y < a) → rowS l y = []) ∧ (∀ y, (∀ a ∈ ys, a ≤ y) → rowS l y = []) := by
  have hx : ∀ r ∈ l, r.X0 < r.X1 := fun r hr => (hl r hr).1
  refine ⟨fun a y hay h => rowS_const hx fun r hr => ?_, fun y h => rowS_nil hx fun r hr hh => ?_, fun y h => rowS_nil hx fun r hr hh => ?_⟩
  · have := h _ (hy r hr).1; have := h _ (hy r hr).2; omega
  · have := h _ (hy r hr).1; omega
  · have := h _ (hy r hr).2; omega
/-- The bands of rectangles have the one form; what lies at each height. -/
theorem setB_row {l : List TRect} (hl : ∀ r ∈ l, r.X0 < r.X1 ∧ r.Y0 < r.Y1) : BOk (setB l) ∧ ∀ y, rowAt (setB l) y = rowS l y := by
  obtain ⟨h1, h2, h3⟩ := rowS_change (ys := srtd (ysOfR l)) hl fun r hr => ⟨(srtd_mem _ _).2 (mem_ysOfR.2 ⟨r, hr, .inl rfl⟩), (srtd_mem _ _).2 (mem_ysOfR.2 ⟨r, hr, .inr rfl⟩)⟩
  have := bandsF_row (srtd_strict (ysOfR l)) (fun y => (rowS_ok (fun r hr => (hl r hr).1) y).1) h1 h2 h3
  unfold setB
  rw [bandsGo_F]
  exact this
theorem setB_ok {l : List TRect} (hl : ∀ r ∈ l, r.X0 < r.X1 ∧ r.Y0 < r.Y1) : BOk (setB l) ∧ ∀ x y, InB x y (setB l) ↔ InR x y l := by
  obtain ⟨h1, h2⟩ := setB_row hl
  refine ⟨h1, fun x y => ?_⟩
  unfold InB
  rw [h2]
  exact (rowS_ok (fun r hr => (hl r hr).1) y).2 x
theorem setB_congr {l m : List TRect} (hl : ∀ r ∈ l, r.X0 < r.X1 ∧ r.Y0 < r.Y1) (hm : ∀ r ∈ m, r.X0 < r.X1 ∧ r.Y0 < r.Y1) (h : ∀ x y, InR x y l ↔ InR x y m) : setB l = setB m := by
  obtain ⟨a1, a2⟩ := setB_ok hl
  obtain ⟨b1, b2⟩ := setB_ok hm
  exact a1.uniq b1 fun x y => by rw [a2, b2, h]
theorem mem_rectsB {l : List Bd} {r : TRect} : r ∈ rectsB l ↔ ∃ b ∈ l, ∃ s ∈ b.2.2, r = ⟨s.1, b.1, s.2, b.2.1⟩ := by
  unfold rectsB rectsOf
  simp only [List.mem_flatMap, List.mem_map]
  constructor
  · rintro ⟨b, hb, s, hs, rfl⟩; exact ⟨b, hb, s, hs, rfl⟩
  · rintro ⟨b, hb, s, hs, rfl⟩; exact ⟨b, hb, s, hs, rfl⟩
theorem InR_rectsB {l : List Bd} (h : BOk l) (x y : Int) : InR x y (rectsB l) ↔ InB x y l := by
  obtain ⟨lo, hc⟩ := h.can
  unfold InR InB
  constructor
  · rintro ⟨r, hr, hx, hy⟩
    obtain ⟨b, hb, s, hs, rfl⟩ := mem_rectsB.1 hr
    rw [rowAt_of hc hb hy.1 hy.2]
    exact ⟨s, hs, hx⟩
  · intro hx
    rcases rowAt_mem (l := l) (y := y) with h1 | ⟨b, hb, h1, h2, h3⟩
    · rw [h1] at hx; exact absurd hx InS_nil
    · rw [h3] at hx
      obtain ⟨s, hs, hx⟩ := hx
      exact ⟨_, mem_rectsB.2 ⟨b, hb, s, hs, rfl⟩, hx, h1, h2⟩
theorem rectsB_ne {l : List Bd} (h : BOk l) : ∀ r ∈ rectsB l, r.X0 < r.X1 ∧ r.Y0 < r.Y1 := fun r hr => by
  obtain ⟨lo, hc⟩ := h.can
  obtain ⟨b, hb, s, hs, rfl⟩ := mem_rectsB.1 hr
  obtain ⟨lo', hr⟩ := h.row b hb
  exact ⟨(hr.mem s hs).2, (hc.mem b hb).2.1⟩
/-- The bands of the rectangles of bands are the bands. -/
theorem setB_rectsB {l : List Bd} (h : BOk l) : setB (rectsB l) = l := by
  obtain ⟨a1, a2⟩ := setB_ok (rectsB_ne h)
  exact a1.uniq h fun x y => by rw [a2, InR_rectsB h]
theorem rectsB_inj {l m : List Bd} (h1 : BOk l) (h2 : BOk m) (h : rectsB l = rectsB m) : l = m := by rw [← setB_rectsB h1, ← setB_rectsB h2, h]
/-- Squares within limits: rectangles within limits. -/
theorem rectsB_rok {l : List Bd} (h : BOk l) (hx : ∀ x y, InB x y l → (-1000000 ≤ x ∧ x < 1000000) ∧ (-1000000 ≤ y ∧ y < 1000000)) : ∀ r ∈ rectsB l, ROk r := fun r hr => by
  have hne := rectsB_ne h r hr
  have h1 := hx r.X0 r.Y0 ((InR_rectsB h _ _).1 ⟨r, hr, ⟨Int.le_refl _, hne.1⟩, ⟨Int.le_refl _, hne.2⟩⟩)
  have h2 := hx (r.X1 - 1) (r.Y1 - 1) ((InR_rectsB h _ _).1 ⟨r, hr, ⟨by omega, by omega⟩, ⟨by omega, by omega⟩⟩)
  exact ⟨by omega, by omega, by omega, by omega, hne.1, hne.2⟩
theorem ordR_append : ∀ {l m : List TRect}, ordR l = true → ordR m = true → (∀ a ∈ l, ∀ b ∈ m, ltR a b = true) → ordR (l ++ m) = true
  | [], _, _, h, _ => h
  | [a], [], _, _, _ => rfl
  | [a], b :: m, _, h2, h3 => by
    show (ltR a b && ordR (b :: m)) = true
    rw [h3 a (by simp) b (by simp), h2]; rfl
  | a :: c :: l, m, h1, h2, h3 => by
    have h1 : (ltR a c && ordR (c :: l)) = true := h1
    rw [Bool.and_eq_true] at h1
    show (ltR a c && ordR (c :: l ++ m)) = true
    rw [h1.1, ordR_append h1.2 h2 fun x hx y hy => h3 x (by simp [List.mem_cons.1 hx]) y hy]; rfl
theorem ordR_rectsOf {b : Bd} : ∀ {l : List (Int × Int)} {lo : Int}, Can lo l → ordR (l.map fun s => (⟨s.1, b.1, s.2, b.2.1⟩ : TRect)) = true
  | [], _, _ => rfl
  | [p], _, _ => rfl
  | p :: q :: l, lo, h => by
    show (ltR _ _ && ordR (List.map (fun s => (⟨s.1, b.1, s.2, b.2.1⟩ : TRect)) (q :: l))) = true
    rw [ordR_rectsOf h.2.2, Bool.and_true]
    unfold ltR
    have := h.2.1; have := h.2.2.1
    simp
    omega
theorem ordR_rectsB : ∀ {l : List Bd} {lo : Int}, CanB lo l → (∀ b ∈ l, ∃ lo, Can lo b.2.2) → ordR (rectsB l) = true
  | [], _, _, _ => rfl
  | b :: l, lo, h, hr => by
    rw [rectsB_cons]
    obtain ⟨lo', h1⟩ := hr b (by simp)
    refine ordR_append (ordR_rectsOf h1) (ordR_rectsB h.2.2.2.2 fun c hc => hr c (by simp [hc])) fun x hx y hy => ?_
    obtain ⟨s, hs, rfl⟩ := List.mem_map.1 hx
    obtain ⟨c, hc, t, ht, rfl⟩ := mem_rectsB.1 hy
    have := h.2.2.2.2.mem c hc
    have := h.2.1
    unfold ltR
    simp
    omega
theorem CanB.mono {l : List Bd} {lo lo' : Int} (h : CanB lo l) (hl : lo' ≤ lo) : CanB lo' l := by
  cases l with
  | nil => trivial
  | cons b l => exact ⟨by have := h.1; omega, h.2⟩
/-- What is right with a region: the bands that it comes from. -/
theorem region_of {l : List Bd} (h : BOk l) (hx : ∀ x y, InB x y l → (-1000000 ≤ x ∧ x < 1000000) ∧ (-1000000 ≤ y ∧ y < 1000000)) (hn : (rectsB l).length ≤ 2000) : regionErr (rectsB l) = 0 := by
  unfold regionErr
  have h1 : rectsErr (rectsB l) = 0 := by
    unfold rectsErr
    rw [if_neg (by omega)]
    exact rsErr_of (rectsB_rok h hx)
  obtain ⟨lo, hc⟩ := h.can
  rw [if_pos h1, if_pos (ordR_rectsB hc h.row), if_pos (by rw [setB_rectsB h])]
theorem regionErr_ok {l : List TRect} (h : regionErr l = 0) : rectsErr l = 0 ∧ l.length ≤ 2000 ∧ (∀ r ∈ l, ROk r) ∧ rectsB (setB l) = l := by
  unfold regionErr at h
  by_cases h1 : rectsErr l = 0
  · obtain ⟨h2, h3⟩ := rectsErr_ok h1
    rw [if_pos h1] at h
    split at h
    · split at h
      · rename_i h4; exact ⟨h1, h2, h3, h4⟩
      · omega
    · omega
  · rw [if_neg h1] at h; exact absurd h h1
theorem ROk.ne {l : List TRect} (h : ∀ r ∈ l, ROk r) : ∀ r ∈ l, r.X0 < r.X1 ∧ r.Y0 < r.Y1 := fun r hr => ⟨(h r hr).x, (h r hr).y⟩
theorem InR_lim {l : List TRect} (h : ∀ r ∈ l, ROk r) {x y : Int} (hx : InR x y l) : (-1000000 ≤ x ∧ x < 1000000) ∧ (-1000000 ≤ y ∧ y < 1000000) := by
  obtain ⟨r, hr, h1, h2⟩ := hx
  have a := h r hr
  have := a.x0; have := a.x1; have := a.y0; have := a.y1
  omega
end Go.Proofs.YtfdglihcpfpefaaGreat
