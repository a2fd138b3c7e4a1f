/- Two sets of bands, merged: the program's Merge. Plain Lean about the plain functions. Sets of squares: what grows, what shrinks; how many rectangles they can have. Plain Lean. Sets that are spread. Plain Lean about the plain functions. Pieces and holes, as the program finds them. Plain Lean about the plain functions. Sets of rectangles: the reference's bands are the ones. Plain Lean about the plain functions. Regions: what the reference tells of sets. Plain Lean about the plain functions. Regions: what the reference checks. Plain Lean about the plain functions. The parts of a set, as the reference finds them. Plain Lean about the plain functions. Two lists of stretches, and two sets, combined: the reference. Plain Lean about the plain functions. Two sets combined: the reference's bands. Plain Lean about the plain functions. The least rectangle around a region, the reference's. Plain Lean about the plain functions. Chapter 1: the law's own small region. Plain Lean about the plain functions. Pieces and holes: program and reference. Plain Lean about the plain functions. -/
import Derived.Test.YtnlhigfglfahiaaJ3
import Derived.Test.YtnlhigfglfahiaaXF
namespace Go.Proofs.Ytnlhigfglfahiaa
/-- Bands that end behind a height. -/
def dropB (y : Int) : List Bd → List Bd
  | [] => []
  | b :: l => if b.2.1 ≤ y then dropB y l else b :: l
theorem dropB_sub (y : Int) : ∀ l : List Bd, ∀ b ∈ dropB y l, b ∈ l
  | [], b, h => h
  | c :: l, b, h => by
    unfold dropB at h
    split at h
    · exact List.mem_cons_of_mem _ (dropB_sub y l b h)
    · exact h
theorem dropB_len (y : Int) : ∀ l : List Bd, (dropB y l).length ≤ l.length
  | [] => by simp [dropB]
  | c :: l => by
    unfold dropB
    split
    · have := dropB_len y l; simp; omega
    · simp
theorem dropB_can (y : Int) : ∀ {l : List Bd} {lo : Int}, CanB lo l → ∃ lo, CanB lo (dropB y l)
  | [], lo, h => ⟨lo, h⟩
  | c :: l, lo, h => by
    unfold dropB
    split
    · exact dropB_can y h.2.2.2.2
    · exact ⟨lo, h⟩
theorem dropB_row {y z : Int} (hz : y ≤ z) : ∀ l : List Bd, rowAt (dropB y l) z = rowAt l z
  | [] => rfl
  | c :: l => by
    unfold dropB
    split
    · rw [dropB_row hz l]
      show _ = if c.1 ≤ z ∧ z < c.2.1 then c.2.2 else rowAt l z
      rw [if_neg (by omega)]
    · rfl
theorem dropB_head {y : Int} : ∀ {l : List Bd} {b : Bd}, (dropB y l).head? = some b → y < b.2.1
  | [], b, h => by simp [dropB] at h
  | c :: l, b, h => by
    unfold dropB at h
    split at h
    · exact dropB_head h
    · simp at h; subst h; omega
/-- What bands have at a height before which none of them ends; and where this changes next. -/
def rowH : List Bd → Int → List (Int × Int)
  | [], _ => []
  | b :: _, y => if y < b.1 then [] else b.2.2
def nextH (e : Int) : List Bd → Int → Int
  | [], _ => e
  | b :: _, y => if y < b.1 then min e b.1 else min e b.2.1
theorem at_ok (l : List Bd) (y e : Int) : F_shape_Set__at (l.map toP) y e = some (flatS (rowH l y), nextH e l y) := by
  unfold F_shape_Set__at
  cases l with
  | nil => rfl
  | cons b l =>
    rw [if_neg (by simp; omega), List.map_cons, show idx (toP b :: l.map toP) 0 = some (toP b) from rfl, Option.bind_some]
    simp only [rowH, nextH]
    by_cases h : y < b.1
    · rw [if_pos (decide_eq_true (show y < (toP b).Y0 from h)), if_pos h, if_pos h, Option.bind_some]; rfl
    · rw [if_neg (show ¬ decide (y < (toP b).Y0) = true from by rw [decide_eq_true_eq]; exact h), if_neg h, if_neg h, Option.bind_some, Option.bind_some]; rfl
theorem rowH_ok {l : List Bd} {lo y e : Int} (h : CanB lo l) (hh : ∀ b, l.head? = some b → y < b.2.1) (hy : y < e) : y < nextH e l y ∧ nextH e l y ≤ e ∧ (∀ z, y ≤ z → z < nextH e l y → rowAt l z = rowH l y) ∧ (nextH e l y = e ∨ ∃ b ∈ l, nextH e l y = b.1 ∨ nextH e l y = b.2.1) := by
  cases l with
  | nil => exact ⟨hy, Int.le_refl _, fun _ _ _ => rfl, .inl rfl⟩
  | cons b l =>
    have hb := hh b rfl
    simp only [rowH, nextH]
    by_cases h1 : y < b.1
    · rw [if_pos h1, if_pos h1]
      refine ⟨by omega, by omega, fun z k1 k2 => ?_, ?_⟩
      · show (if b.1 ≤ z ∧ z < b.2.1 then b.2.2 else rowAt l z) = []
        rw [if_neg (by omega)]
        exact rowAt_lo h.2.2.2.2 (by have := h.2.1; omega)
      · by_cases k : e ≤ b.1
        · exact .inl (by omega)
        · exact .inr ⟨b, by simp, .inl (by omega)⟩
    · rw [if_neg h1, if_neg h1]
      refine ⟨by omega, by omega, fun z k1 k2 => ?_, ?_⟩
      · show (if b.1 ≤ z ∧ z < b.2.1 then b.2.2 else rowAt l z) = b.2.2
        rw [if_pos (by omega)]
      · by_cases k : e ≤ b.2.1
        · exact .inl (by omega)
        · exact .inr ⟨b, by simp, .inr (by omega)⟩
section
variable {N : Nat} {f : Bool → Bool → Option Bool} {e : Int} {out : List TBand} {y : Int} {K : List TBand → List TBand → List TBand → Int → Option (List TBand)}
/-- What the merge does at a height. -/
def bodyM (N : Nat) (f : Bool → Bool → Option Bool) (e : Int) (out : List TBand) (y : Int) (K : List TBand → List TBand → List TBand → Int → Option (List TBand)) (a b : List Bd) : Option (List TBand) :=
  (F_shape_line N (flatS (rowH a y)) (flatS (rowH b y)) f).bind fun y344 =>
  (F_shape_Set__push out (TBand.mk y (min (nextH e a y) (nextH e b y)) y344)).bind fun y348 =>
  K (a.map toP) (b.map toP) y348 (min (nextH e a y) (nextH e b y))
theorem L11_ok (a : List Bd) : ∀ (b : List Bd) (m : Nat), b.length < m → F_shape_Merge_L11 N f e out y K (a.map toP) m (b.map toP) = bodyM N f e out y K a (dropB y b)
  | b, 0, h => absurd h (Nat.not_lt_zero _)
  | [], m + 1, h => by
    rw [F_shape_Merge_L11.eq_2, if_neg (by simp), Option.bind_some, if_neg (by simp), at_ok, Option.bind_some, at_ok, Option.bind_some]; rfl
  | c :: b, m + 1, h => by
    simp only [List.length_cons] at h
    rw [F_shape_Merge_L11.eq_2, if_pos (by simp), List.map_cons, show idx (toP c :: b.map toP) 0 = some (toP c) from rfl, Option.bind_some, Option.bind_some]
    unfold dropB
    by_cases hc : c.2.1 ≤ y
    · rw [if_pos (decide_eq_true (show (toP c).Y1 ≤ y from hc)), if_pos hc, cut_tail, Option.bind_some]
      exact L11_ok a b m (by omega)
    · rw [if_neg (show ¬ decide ((toP c).Y1 ≤ y) = true from by rw [decide_eq_true_eq]; exact hc), if_neg hc, ← List.map_cons, at_ok, Option.bind_some, at_ok, Option.bind_some]; rfl
theorem L10_ok {b : List Bd} (hb : b.length < N) : ∀ (a : List Bd) (m : Nat), a.length < m → F_shape_Merge_L10 N f e (b.map toP) out y K m (a.map toP) = bodyM N f e out y K (dropB y a) (dropB y b)
  | a, 0, h => absurd h (Nat.not_lt_zero _)
  | [], m + 1, h => by
    rw [F_shape_Merge_L10.eq_2, if_neg (by simp), Option.bind_some, if_neg (by simp)]
    exact L11_ok [] b N hb
  | c :: a, m + 1, h => by
    simp only [List.length_cons] at h
    rw [F_shape_Merge_L10.eq_2, if_pos (by simp), List.map_cons, show idx (toP c :: a.map toP) 0 = some (toP c) from rfl, Option.bind_some, Option.bind_some]
    have hd : dropB y (c :: a) = if c.2.1 ≤ y then dropB y a else c :: a := rfl
    rw [hd]
    by_cases hc : c.2.1 ≤ y
    · rw [if_pos (decide_eq_true (show (toP c).Y1 ≤ y from hc)), if_pos hc, cut_tail, Option.bind_some]
      exact L10_ok hb a m (by omega)
    · rw [if_neg (show ¬ decide ((toP c).Y1 ≤ y) = true from by rw [decide_eq_true_eq]; exact hc), if_neg hc, ← List.map_cons]
      exact L11_ok (c :: a) b N hb
end
/-- Heights behind one. -/
def aft (ev : List Int) (y : Int) : Nat := (ev.filter fun z => decide (y < z)).length
theorem aft_lt {y z : Int} (hyz : y < z) : ∀ {ev : List Int}, z ∈ ev → aft ev z < aft ev y := by
  have mono : ∀ ev : List Int, aft ev z ≤ aft ev y := by
    intro ev
    induction ev with
    | nil => simp [aft]
    | cons a ev ih =>
      unfold aft at *
      rw [List.filter_cons, List.filter_cons]
      by_cases h1 : z < a
      · rw [if_pos (by simpa using h1), if_pos (by simp; omega)]; simp; exact ih
      · rw [if_neg (by simpa using h1)]
        split
        · simp; omega
        · exact ih
  intro ev
  induction ev with
  | nil => intro h; simp at h
  | cons a ev ih =>
    intro h
    have hm := mono ev
    unfold aft at *
    rw [List.filter_cons, List.filter_cons]
    rcases List.mem_cons.1 h with rfl | h
    · rw [if_neg (by simp), if_pos (by simpa using hyz)]
      simp; omega
    · have := ih h
      by_cases h1 : z < a
      · rw [if_pos (by simpa using h1), if_pos (by simp; omega)]; simp; exact this
      · rw [if_neg (by simpa using h1)]
        split
        · simp; omega
        · exact this
theorem aft_len (ev : List Int) (y : Int) : aft ev y ≤ ev.length := List.length_filter_le _ _
/-- A square is kept, by whether it is in the one and in the other one. -/
def Kept (k : Bool → Bool → Bool) (A B : List Bd) (x y : Int) : Prop := ∃ p q, (p = true ↔ InB x y A) ∧ (q = true ↔ InB x y B) ∧ k p q = true
theorem merge_go {k : Bool → Bool → Bool} {f : Bool → Bool → Option Bool} (hf : ∀ a b, f a b = some (k a b)) (hk : k false false = false) {N : Nat} (hN : 10000000000 ≤ N) {A B : List Bd} {R1 R2 : Nat} (hrA : ∀ b ∈ A, (∃ lo, Can lo b.2.2) ∧ b.2.2.length ≤ R1) (hrB : ∀ b ∈ B, (∃ lo, Can lo b.2.2) ∧ b.2.2.length ≤ R2) (hR : R1 + R2 ≤ 500000000) (hAl : A.length ≤ 500000000) (hBl : B.length ≤ 500000000) {ev : List Int} {e lo : Int} (hev : e ∈ ev) (hevA : ∀ b ∈ A, b.1 ∈ ev ∧ b.2.1 ∈ ev) (hevB : ∀ b ∈ B, b.1 ∈ ev ∧ b.2.1 ∈ ev) :
    ∀ (m : Nat) (a b out : List Bd) (y : Int), (∃ lo, CanB lo a) → (∃ lo, CanB lo b) → (∀ c ∈ a, c ∈ A) → (∀ c ∈ b, c ∈ B) → a.length ≤ A.length → b.length ≤ B.length → (∀ z, y ≤ z → rowAt a z = rowAt A z) → (∀ z, y ≤ z → rowAt b z = rowAt B z) → CanB lo out → lo ≤ y → (∀ c ∈ out, c.2.1 ≤ y ∧ (∃ lo, Can lo c.2.2) ∧ c.2.2.length ≤ R1 + R2) → (∀ x z, InB x z out ↔ z < y ∧ Kept k A B x z) → aft ev y < m → out.length + aft ev y ≤ 900000000 → (∀ x z, e ≤ z → ¬ Kept k A B x z) →
    ∃ C, F_shape_Merge_L9 N f e m (a.map toP) (b.map toP) (out.map toP) y = some (C.map toP) ∧ BOk C ∧ (∀ x z, InB x z C ↔ Kept k A B x z) ∧ C.length ≤ out.length + aft ev y ∧ ∀ c ∈ C, c.2.2.length ≤ R1 + R2
  | 0, _, _, _, _, _, _, _, _, _, _, _, _, _, _, _, _, h, _, _ => absurd h (Nat.not_lt_zero _)
  | m + 1, a, b, out, y, ⟨la, ca⟩, ⟨lb, cb⟩, sa, sb, hal, hbl, ra, rb, co, hlo, ho, hin, hm, hl, hend => by
    by_cases hye : y < e
    · rw [F_shape_Merge_L9.eq_2, if_pos (by simpa using hye), L10_ok (by omega) a N (by omega)]
      obtain ⟨la', ca'⟩ := dropB_can y ca
      obtain ⟨lb', cb'⟩ := dropB_can y cb
      have sa' : ∀ c ∈ dropB y a, c ∈ A := fun c hc => sa c (dropB_sub y a c hc)
      have sb' : ∀ c ∈ dropB y b, c ∈ B := fun c hc => sb c (dropB_sub y b c hc)
      obtain ⟨na, na2, wa, va⟩ := rowH_ok (e := e) ca' (fun c hc => dropB_head hc) hye
      obtain ⟨nb, nb2, wb, vb⟩ := rowH_ok (e := e) cb' (fun c hc => dropB_head hc) hye
      have rowcan : ∀ {l : List Bd} {L : List Bd} {R : Nat}, (∀ b ∈ L, (∃ lo, Can lo b.2.2) ∧ b.2.2.length ≤ R) → (∀ c ∈ l, c ∈ L) → (∃ lo, Can lo (rowH l y)) ∧ (rowH l y).length ≤ R := fun {l L R} h1 h2 => by
        cases l with
        | nil => exact ⟨⟨0, trivial⟩, Nat.zero_le _⟩
        | cons c l =>
          simp only [rowH]
          split
          · exact ⟨⟨0, trivial⟩, Nat.zero_le _⟩
          · exact h1 c (h2 c (by simp))
      obtain ⟨ra1, ra2⟩ := rowcan hrA sa'
      obtain ⟨rb1, rb2⟩ := rowcan hrB sb'
      obtain ⟨C0, k1, k2, k3, k4⟩ := line_ok hf hk (N := N) ra1 rb1 (by omega) (by omega)
      unfold bodyM
      rw [k1, Option.bind_some]
      generalize hn : min (nextH e (dropB y a) y) (nextH e (dropB y b) y) = n
      have hyn : y < n := by omega
      have hne : n ≤ e := by omega
      have hnev : n ∈ ev := by
        have key : ∀ {l L : List Bd}, (∀ c ∈ l, c ∈ L) → (∀ b ∈ L, b.1 ∈ ev ∧ b.2.1 ∈ ev) → (nextH e l y = e ∨ ∃ b ∈ l, nextH e l y = b.1 ∨ nextH e l y = b.2.1) → nextH e l y ∈ ev := fun h1 h2 h3 => by
          rcases h3 with h | ⟨c, hc, h | h⟩
          · rw [h]; exact hev
          · rw [h]; exact (h2 c (h1 c hc)).1
          · rw [h]; exact (h2 c (h1 c hc)).2
        have e1 := key sa' hevA va
        have e2 := key sb' hevB vb
        rcases Int.le_total (nextH e (dropB y a) y) (nextH e (dropB y b) y) with h | h
        · rw [← hn, Int.min_eq_left h]; exact e1
        · rw [← hn, Int.min_eq_right h]; exact e2
      have haft := aft_lt hyn hnev
      have hp : F_shape_Set__push (out.map toP) (TBand.mk y n (flatS C0)) = some ((pushB out (y, n, C0)).map toP) := push_ok (l := out) (b := (y, n, C0)) (by omega) hyn
      rw [hp, Option.bind_some]
      obtain ⟨p1, p2, p3⟩ := co.push (b := (y, n, C0)) (fun c hc => (ho c hc).1) hlo hyn
      have hpl := pushB_len out (y, n, C0)
      have hkept : ∀ x z, y ≤ z → z < n → (InS x C0 ↔ Kept k A B x z) := fun x z z1 z2 => by
        rw [k4 x, ← wa z z1 (by omega), ← wb z z1 (by omega), dropB_row z1, dropB_row z1, ra z z1, rb z z1]
        exact Iff.rfl
      obtain ⟨C, i1, i2, i3, i4, i5⟩ := merge_go hf hk hN hrA hrB hR hAl hBl hev hevA hevB m (dropB y a) (dropB y b) (pushB out (y, n, C0)) n ⟨la', ca'⟩ ⟨lb', cb'⟩ sa' sb' (Nat.le_trans (dropB_len y a) hal) (Nat.le_trans (dropB_len y b) hbl) (fun z hz => by rw [dropB_row (by omega), ra z (by omega)]) (fun z hz => by rw [dropB_row (by omega), rb z (by omega)]) p1 (by omega) (fun c hc => by
        obtain ⟨q1, q2 | ⟨d, q2, q3⟩⟩ := p2 c hc
        · exact ⟨q1, by rw [q2]; exact k2, by rw [q2]; show C0.length ≤ _; omega⟩
        · exact ⟨q1, by rw [q3]; exact (ho d q2).2.1, by rw [q3]; exact (ho d q2).2.2⟩) (fun x z => by
        have h1 : InB x z (pushB out (y, n, C0)) ↔ InS x (if y ≤ z ∧ z < n then C0 else rowAt out z) := by
          unfold InB
          rw [p3 z]
        rw [h1]
        by_cases hz : y ≤ z ∧ z < n
        · rw [if_pos hz, hkept x z hz.1 hz.2]
          exact ⟨fun h => ⟨hz.2, h⟩, fun h => h.2⟩
        · rw [if_neg hz]
          refine (hin x z).trans ⟨fun h => ⟨by omega, h.2⟩, fun h => ⟨by omega, h.2⟩⟩) (by omega) (by omega) hend
      exact ⟨C, i1, i2, i3, by omega, i5⟩
    · rw [F_shape_Merge_L9.eq_2, if_neg (by simpa using hye)]
      refine ⟨out, rfl, ⟨⟨lo, co⟩, fun c hc => (ho c hc).2.1⟩, fun x z => ?_, by omega, fun c hc => (ho c hc).2.2⟩
      rw [hin]
      exact ⟨fun h => h.2, fun h => ⟨by
        rcases Int.lt_or_le z y with hz | hz
        · exact hz
        · exact absurd h (hend x z (by omega)), h⟩⟩
/-- The merge of two sets. -/
theorem Merge_ok {k : Bool → Bool → Bool} {f : Bool → Bool → Option Bool} (hf : ∀ a b, f a b = some (k a b)) (hk : k false false = false) {N : Nat} (hN : 10000000000 ≤ N) {A B : List Bd} {R1 R2 : Nat} (hA : BOk A) (hB : BOk B) (hrA : ∀ b ∈ A, b.2.2.length ≤ R1) (hrB : ∀ b ∈ B, b.2.2.length ≤ R2) (hR : R1 + R2 ≤ 500000000) (hl : A.length + B.length ≤ 200000000) :
    ∃ C, F_shape_Merge N (A.map toP) (B.map toP) f = some (C.map toP) ∧ BOk C ∧ (∀ x z, InB x z C ↔ Kept k A B x z) ∧ C.length ≤ 2 * A.length + 2 * B.length + 1 ∧ ∀ c ∈ C, c.2.2.length ≤ R1 + R2 := by
  have hnot : ∀ {A B : List Bd} {x z : Int}, ¬ InB x z A → ¬ InB x z B → ¬ Kept k A B x z := fun h1 h2 ⟨p, q, hp, hq, h⟩ => by
    have e1 : p = false := by rw [Bool.eq_false_iff]; exact fun h => h1 (hp.1 h)
    have e2 : q = false := by rw [Bool.eq_false_iff]; exact fun h => h2 (hq.1 h)
    rw [e1, e2, hk] at h; cases h
  have inlo : ∀ {l : List Bd} {lo x z : Int}, CanB lo l → InB x z l → lo ≤ z := fun {l lo x z} h hx => by
    rcases Int.lt_or_le z lo with hz | hz
    · unfold InB at hx
      rw [rowAt_lo h hz] at hx
      exact absurd hx InS_nil
    · exact hz
  have inhi : ∀ {l : List Bd} {b : Bd} {lo x z : Int}, CanB lo (l ++ [b]) → InB x z (l ++ [b]) → z < b.2.1 := by
    intro l
    induction l with
    | nil =>
      intro b lo x z h hx
      unfold InB at hx
      by_cases hz : b.1 ≤ z ∧ z < b.2.1
      · exact hz.2
      · have : rowAt ([] ++ [b]) z = [] := by show (if b.1 ≤ z ∧ z < b.2.1 then b.2.2 else []) = []; rw [if_neg hz]
        rw [this] at hx; exact absurd hx InS_nil
    | cons c l ih =>
      intro b lo x z h hx
      have hcan : CanB c.2.1 (l ++ [b]) := h.2.2.2.2
      by_cases hz : c.1 ≤ z ∧ z < c.2.1
      · have := hcan.mem b (by simp)
        omega
      · refine ih hcan (x := x) ?_
        unfold InB at hx ⊢
        have : rowAt (c :: l ++ [b]) z = rowAt (l ++ [b]) z := by show (if c.1 ≤ z ∧ z < c.2.1 then c.2.2 else rowAt (l ++ [b]) z) = _; rw [if_neg hz]
        rw [← this]; exact hx
  obtain ⟨la, ca⟩ := hA.can
  obtain ⟨lb, cb⟩ := hB.can
  have go : ∀ (y e : Int), (∀ x z, InB x z A → y ≤ z ∧ z < e) → (∀ x z, InB x z B → y ≤ z ∧ z < e) → ∃ C, F_shape_Merge_L9 N f e N (A.map toP) (B.map toP) ([] : List TBand) y = some (C.map toP) ∧ BOk C ∧ (∀ x z, InB x z C ↔ Kept k A B x z) ∧ C.length ≤ 2 * A.length + 2 * B.length + 1 ∧ ∀ c ∈ C, c.2.2.length ≤ R1 + R2 := fun y e h1 h2 => by
    have hlen : (e :: (A.flatMap (fun b => [b.1, b.2.1]) ++ B.flatMap fun b => [b.1, b.2.1])).length = 2 * A.length + 2 * B.length + 1 := by
      have : ∀ l : List Bd, (l.flatMap fun b => [b.1, b.2.1]).length = 2 * l.length := by
        intro l
        induction l with
        | nil => rfl
        | cons b l ih => rw [List.flatMap_cons, List.length_append, ih]; simp; omega
      rw [List.length_cons, List.length_append, this, this]
    have haf := aft_len (e :: (A.flatMap (fun b => [b.1, b.2.1]) ++ B.flatMap fun b => [b.1, b.2.1])) y
    rw [hlen] at haf
    have hmem : ∀ l : List Bd, ∀ b ∈ l, b.1 ∈ l.flatMap (fun b => [b.1, b.2.1]) ∧ b.2.1 ∈ l.flatMap (fun b => [b.1, b.2.1]) := fun l b hb => ⟨List.mem_flatMap.2 ⟨b, hb, by simp⟩, List.mem_flatMap.2 ⟨b, hb, by simp⟩⟩
    obtain ⟨C, c1, c2, c3, c4, c5⟩ := merge_go hf hk hN (A := A) (B := B) (R1 := R1) (R2 := R2) (fun b hb => ⟨hA.row b hb, hrA b hb⟩) (fun b hb => ⟨hB.row b hb, hrB b hb⟩) hR (by omega) (by omega) (ev := e :: (A.flatMap (fun b => [b.1, b.2.1]) ++ B.flatMap fun b => [b.1, b.2.1])) (e := e) (lo := y) (by simp) (fun b hb => ⟨List.mem_cons_of_mem _ (List.mem_append_left _ (hmem A b hb).1), List.mem_cons_of_mem _ (List.mem_append_left _ (hmem A b hb).2)⟩) (fun b hb => ⟨List.mem_cons_of_mem _ (List.mem_append_right _ (hmem B b hb).1), List.mem_cons_of_mem _ (List.mem_append_right _ (hmem B b hb).2)⟩)
      N A B [] y hA.can hB.can (fun _ h => h) (fun _ h => h) (Nat.le_refl _) (Nat.le_refl _) (fun _ _ => rfl) (fun _ _ => rfl) trivial (Int.le_refl _) (by simp) (fun x z => by
        constructor
        · intro h; unfold InB at h; exact absurd h InS_nil
        · rintro ⟨hz, h⟩
          exact absurd h (hnot (fun h => by have := h1 x z h; omega) (fun h => by have := h2 x z h; omega))) (by omega) (by simp; omega) (fun x z hz => hnot (fun h => by have := h1 x z h; omega) (fun h => by have := h2 x z h; omega))
    exact ⟨C, c1, c2, c3, by simp at c4; omega, c5⟩
  have two : ∀ {l : List Bd}, l ≠ [] → BOk l → l.length ≤ 200000000 → ∃ b c, idx (l.map toP) 0 = some (toP b) ∧ idx (l.map toP) (w64 (((l.map toP).length : Int) - 1)) = some (toP c) ∧ ∀ x z, InB x z l → b.1 ≤ z ∧ z < c.2.1 := fun {l} hne hok hlen => by
    obtain ⟨lo, hc⟩ := hok.can
    have h1 : ∃ b, idx (l.map toP) 0 = some (toP b) ∧ ∀ x z, InB x z l → b.1 ≤ z := by
      cases l with
      | nil => exact absurd rfl hne
      | cons b l => exact ⟨b, rfl, fun x z h => inlo (l := b :: l) (lo := b.1) (show CanB b.1 (b :: l) from ⟨Int.le_refl _, hc.2⟩) h⟩
    have h2 : ∃ c, idx (l.map toP) (w64 (((l.map toP).length : Int) - 1)) = some (toP c) ∧ ∀ x z, InB x z l → z < c.2.1 := by
      rcases List.eq_nil_or_concat l with h | ⟨j, c, h⟩
      · exact absurd h hne
      · rw [List.concat_eq_append] at h
        subst h
        refine ⟨c, ?_, fun x z h => inhi hc h⟩
        have e1 : w64 ((((j ++ [c]).map toP).length : Int) - 1) = ((j.map toP).length : Int) := by
          rw [w64_id (by first | (simp; done) | (simp; omega)) (by simp at hlen ⊢; omega)]; simp
        rw [e1, List.map_append]
        exact idx_mid _ [] _
    obtain ⟨b, b1, b2⟩ := h1
    obtain ⟨c, c1, c2⟩ := h2
    exact ⟨b, c, b1, c1, fun x z h => ⟨b2 x z h, c2 x z h⟩⟩
  unfold F_shape_Merge
  have hz : w64 (((A.map toP).length : Int) + ((B.map toP).length : Int)) = (A.length : Int) + (B.length : Int) := by rw [w64_id (by simp; omega) (by simp; omega)]; simp
  rw [hz]
  by_cases h0 : A.length + B.length = 0
  · have eA : A = [] := List.eq_nil_of_length_eq_zero (by omega)
    have eB : B = [] := List.eq_nil_of_length_eq_zero (by omega)
    subst eA eB
    rw [if_pos (by simp)]
    exact ⟨[], rfl, ⟨⟨0, trivial⟩, by simp⟩, fun x z => ⟨fun h => absurd h InS_nil, fun h => absurd h (hnot InS_nil InS_nil)⟩, by simp, by simp⟩
  · rw [if_neg (by simp; omega)]
    obtain ⟨m, hm⟩ : ∃ k, N = k + 3 := ⟨N - 3, by omega⟩
    have hfu : F_shape_Merge_L3 N (A.map toP) (B.map toP) f N 0 0 [A.map toP, B.map toP] 0 = F_shape_Merge_L3 N (A.map toP) (B.map toP) f (m + 3) 0 0 [A.map toP, B.map toP] 0 := congrArg (fun z => F_shape_Merge_L3 N (A.map toP) (B.map toP) f z 0 0 [A.map toP, B.map toP] 0) hm
    rw [hfu, F_shape_Merge_L3.eq_2, if_pos (by decide), show idx [A.map toP, B.map toP] 0 = some (A.map toP) from rfl, Option.bind_some, show w64 (0 + 1) = 1 from rfl]
    by_cases hA0 : A = []
    · have hB0 : B ≠ [] := fun h => h0 (by rw [hA0, h]; rfl)
      obtain ⟨b, c, b1, b2, b3⟩ := two hB0 hB (by omega)
      rw [if_neg (by rw [hA0]; simp), F_shape_Merge_L3.eq_2, if_pos (by decide), show idx [A.map toP, B.map toP] 1 = some (B.map toP) from rfl, Option.bind_some, if_pos (by have := List.length_pos_iff.2 hB0; simp; omega), if_pos (by rw [hA0]; rfl), b1, Option.bind_some, b2, Option.bind_some]
      unfold F_shape_Merge_J4
      rw [b1, Option.bind_some, b2, Option.bind_some, show w64 (1 + 1) = 2 from rfl, F_shape_Merge_L3.eq_2, if_neg (by decide)]
      exact go _ _ (fun x z h => by rw [hA0] at h; exact absurd h InS_nil) (fun x z h => by have := b3 x z h; show min b.1 b.1 ≤ z ∧ z < max c.2.1 c.2.1; omega)
    · obtain ⟨b, c, b1, b2, b3⟩ := two hA0 hA (by omega)
      rw [if_pos (by have := List.length_pos_iff.2 hA0; simp; omega), if_pos (by rfl), b1, Option.bind_some, b2, Option.bind_some]
      unfold F_shape_Merge_J4
      rw [b1, Option.bind_some, b2, Option.bind_some, show w64 (0 + 1) = 1 from rfl, F_shape_Merge_L3.eq_2, if_pos (by decide), show idx [A.map toP, B.map toP] 1 = some (B.map toP) from rfl, Option.bind_some]
      by_cases hB0 : B = []
      · rw [if_neg (by rw [hB0]; simp), show w64 (1 + 1) = 2 from rfl, F_shape_Merge_L3.eq_2, if_neg (by decide)]
        exact go _ _ (fun x z h => by have := b3 x z h; show min b.1 b.1 ≤ z ∧ z < max c.2.1 c.2.1; omega) (fun x z h => by rw [hB0] at h; exact absurd h InS_nil)
      · obtain ⟨d, g, d1, d2, d3⟩ := two hB0 hB (by omega)
        have hAl := List.length_pos_iff.2 hA0
        rw [if_pos (by have := List.length_pos_iff.2 hB0; simp; omega), if_neg (by simp; exact hA0)]
        unfold F_shape_Merge_J4
        rw [d1, Option.bind_some, d2, Option.bind_some, show w64 (1 + 1) = 2 from rfl, F_shape_Merge_L3.eq_2, if_neg (by decide)]
        exact go _ _ (fun x z h => by have := b3 x z h; show min (min b.1 b.1) d.1 ≤ z ∧ z < max (max c.2.1 c.2.1) g.2.1; omega) (fun x z h => by have := d3 x z h; show min (min b.1 b.1) d.1 ≤ z ∧ z < max (max c.2.1 c.2.1) g.2.1; omega)
end Go.Proofs.Ytnlhigfglfahiaa
namespace Go.Proofs.Ytnlhigfglfahiaa
/-- Squares so near to a set; squares so deep in it. -/
def Nr (n : Int) (S : Int → Int → Prop) (x y : Int) : Prop := ∃ u v, S u v ∧ (x - n ≤ u ∧ u ≤ x + n) ∧ (y - n ≤ v ∧ v ≤ y + n)
def Deep (n : Int) (S : Int → Int → Prop) (x y : Int) : Prop := ∀ u v, (x - n ≤ u ∧ u ≤ x + n) → (y - n ≤ v ∧ v ≤ y + n) → S u v
def widen (n : Int) (r : TRect) : TRect := ⟨r.X0 - n, r.Y0 - n, r.X1 + n, r.Y1 + n⟩
theorem widen_ne {n : Int} (hn : 0 ≤ n) {l : List TRect} (h : ∀ r ∈ l, r.X0 < r.X1 ∧ r.Y0 < r.Y1) : ∀ r ∈ l.map (widen n), r.X0 < r.X1 ∧ r.Y0 < r.Y1 := fun r hr => by
  obtain ⟨q, hq, rfl⟩ := List.mem_map.1 hr
  have := h q hq
  show q.X0 - n < q.X1 + n ∧ q.Y0 - n < q.Y1 + n
  omega
theorem InR_widen {n : Int} (hn : 0 ≤ n) {l : List TRect} (h : ∀ r ∈ l, r.X0 < r.X1 ∧ r.Y0 < r.Y1) (x y : Int) : InR x y (l.map (widen n)) ↔ Nr n (fun u v => InR u v l) x y := by
  unfold InR Nr
  constructor
  · rintro ⟨r, hr, hx, hy⟩
    obtain ⟨q, hq, rfl⟩ := List.mem_map.1 hr
    have := h q hq
    have hx : q.X0 - n ≤ x ∧ x < q.X1 + n := hx
    have hy : q.Y0 - n ≤ y ∧ y < q.Y1 + n := hy
    refine ⟨max q.X0 (min x (q.X1 - 1)), max q.Y0 (min y (q.Y1 - 1)), ⟨q, hq, ⟨by omega, by omega⟩, by omega, by omega⟩, ⟨by omega, by omega⟩, by omega, by omega⟩
  · rintro ⟨u, v, ⟨q, hq, hu, hv⟩, h1, h2⟩
    refine ⟨widen n q, List.mem_map.2 ⟨q, hq, rfl⟩, ?_, ?_⟩
    · show q.X0 - n ≤ x ∧ x < q.X1 + n; omega
    · show q.Y0 - n ≤ y ∧ y < q.Y1 + n; omega
/-- What is not near to what lies around is deep. -/
theorem core_pts {n : Int} (hn : 0 ≤ n) {S B : Int → Int → Prop} (hB : ∀ x y, S x y → ∀ u v, (x - n ≤ u ∧ u ≤ x + n) → (y - n ≤ v ∧ v ≤ y + n) → B u v) (x y : Int) : (S x y ∧ ¬ Nr n (fun u v => B u v ∧ ¬ S u v) x y) ↔ (S x y ∧ Deep n S x y) := by
  constructor
  · rintro ⟨h1, h2⟩
    refine ⟨h1, fun u v hu hv => Classical.byContradiction fun hs => h2 ⟨u, v, ⟨hB x y h1 u v hu hv, hs⟩, hu, hv⟩⟩
  · rintro ⟨h1, h2⟩
    exact ⟨h1, fun ⟨u, v, ⟨_, hs⟩, hu, hv⟩ => hs (h2 u v hu hv)⟩
theorem deep_in {n : Int} (hn : 0 ≤ n) {S : Int → Int → Prop} {x y : Int} (h : Deep n S x y) : S x y := h x y (by omega) (by omega)
theorem Nr_congr {n : Int} {S T : Int → Int → Prop} (h : ∀ x y, S x y ↔ T x y) (x y : Int) : Nr n S x y ↔ Nr n T x y := by
  unfold Nr
  constructor
  · rintro ⟨u, v, h1, h2⟩; exact ⟨u, v, (h u v).1 h1, h2⟩
  · rintro ⟨u, v, h1, h2⟩; exact ⟨u, v, (h u v).2 h1, h2⟩
theorem Nr_add {n m : Int} (hn : 0 ≤ n) (hm : 0 ≤ m) {S : Int → Int → Prop} (x y : Int) : Nr m (Nr n S) x y ↔ Nr (n + m) S x y := by
  unfold Nr
  constructor
  · rintro ⟨u, v, ⟨a, b, h1, h2, h3⟩, h4, h5⟩
    exact ⟨a, b, h1, by omega, by omega⟩
  · rintro ⟨a, b, h1, h2, h3⟩
    refine ⟨max (x - m) (min (x + m) a), max (y - m) (min (y + m) b), ⟨a, b, h1, by omega, by omega⟩, by omega, by omega⟩
/-- Ascending numbers of a list are no more than it has. -/
theorem strict_aft {ys : List Int} : ∀ {l : List Int} {a : Int}, l.Pairwise (fun x y => x < y) → (∀ z ∈ l, z ∈ ys ∧ a < z) → l.length ≤ aft ys a
  | [], _, _, _ => Nat.zero_le _
  | b :: l, a, h, hm => by
    have hb := hm b (by simp)
    have h2 := List.pairwise_cons.1 h
    have i := strict_aft (ys := ys) (a := b) h2.2 fun z hz => ⟨(hm z (by simp [hz])).1, h2.1 z hz⟩
    have := aft_lt hb.2 hb.1
    rw [List.length_cons]
    omega
theorem strict_len {ys l : List Int} (h : l.Pairwise fun x y => x < y) (hm : ∀ z ∈ l, z ∈ ys) : l.length ≤ ys.length := by
  obtain ⟨a, ha⟩ := lo_ex l
  exact Nat.le_trans (strict_aft (a := a) h fun z hz => ⟨hm z hz, ha z hz⟩) (aft_len _ _)
/-- Where a set begins and ends along X; where it changes along Y. -/
def XL (xs : List Int) (P : Int → Int → Prop) : Prop := ∀ x y, P x y → ¬ P (x - 1) y → x ∈ xs
def XR (xs : List Int) (P : Int → Int → Prop) : Prop := ∀ x y, ¬ P x y → P (x - 1) y → x ∈ xs
def YY (ys : List Int) (P : Int → Int → Prop) : Prop := ∀ x y, ¬ (P x y ↔ P x (y - 1)) → y ∈ ys
theorem Can.starts : ∀ {l : List (Int × Int)} {lo : Int}, Can lo l → (l.map (·.1)).Pairwise (fun x y => x < y) ∧ ∀ p ∈ l, InS p.1 l ∧ ¬ InS (p.1 - 1) l
  | [], _, _ => ⟨List.Pairwise.nil, by simp⟩
  | q :: l, lo, h => by
    obtain ⟨h1, h2, h3⟩ := h
    obtain ⟨i1, i2⟩ := h3.starts
    refine ⟨List.pairwise_cons.2 ⟨fun z hz => ?_, i1⟩, fun p hp => ?_⟩
    · obtain ⟨p, hp, rfl⟩ := List.mem_map.1 hz
      have := h3.mem p hp
      show q.1 < p.1; omega
    · rcases List.mem_cons.1 hp with rfl | hp
      · refine ⟨InS_cons.2 (.inl ⟨Int.le_refl _, h2⟩), fun h => ?_⟩
        rcases InS_cons.1 h with h | h
        · omega
        · have := h3.lt h; omega
      · obtain ⟨k1, k2⟩ := i2 p hp
        refine ⟨InS_cons.2 (.inr k1), fun h => ?_⟩
        rcases InS_cons.1 h with h | h
        · have := h3.mem p hp; omega
        · exact k2 h
theorem CanB.starts : ∀ {l : List Bd} {lo : Int}, CanB lo l → (l.map (·.1)).Pairwise (fun x y => x < y) ∧ ∀ b ∈ l, rowAt l (b.1 - 1) ≠ b.2.2
  | [], _, _ => ⟨List.Pairwise.nil, by simp⟩
  | c :: l, lo, h => by
    obtain ⟨h1, h2, h3, h4, h5⟩ := h
    obtain ⟨i1, i2⟩ := h5.starts
    refine ⟨List.pairwise_cons.2 ⟨fun z hz => ?_, i1⟩, fun b hb => ?_⟩
    · obtain ⟨p, hp, rfl⟩ := List.mem_map.1 hz
      have := h5.mem p hp
      show c.1 < p.1; omega
    · rcases List.mem_cons.1 hb with rfl | hb
      · have e : rowAt (b :: l) (b.1 - 1) = [] := by
          show (if b.1 ≤ b.1 - 1 ∧ b.1 - 1 < b.2.1 then b.2.2 else rowAt l (b.1 - 1)) = []
          rw [if_neg (by omega)]
          exact rowAt_lo h5 (by omega)
        rw [e]
        exact fun h => h3 h.symm
      · have hbm := h5.mem b hb
        show (if c.1 ≤ b.1 - 1 ∧ b.1 - 1 < c.2.1 then c.2.2 else rowAt l (b.1 - 1)) ≠ b.2.2
        split
        · cases l with
          | nil => simp at hb
          | cons d l =>
            have hd : b = d := by
              rcases List.mem_cons.1 hb with h | h
              · exact h
              · have := h5.2.2.2.2.mem b h; have := h5.1; have := h5.2.1; omega
            subst hd
            exact fun h => h4 b rfl (by omega) h.symm
        · exact i2 b hb
/-- How many rectangles a set has at most. -/
theorem tot_edges {C : List Bd} (h : BOk C) {xs ys : List Int} (hx : XL xs fun x y => InB x y C) (hy : YY ys fun x y => InB x y C) : C.length ≤ ys.length ∧ (∀ b ∈ C, b.2.2.length ≤ xs.length) ∧ (rectsB C).length ≤ xs.length * ys.length := by
  obtain ⟨lo, hc⟩ := h.can
  obtain ⟨s1, s2⟩ := hc.starts
  have k1 : C.length ≤ ys.length := by
    have := strict_len (ys := ys) s1 fun z hz => by
      obtain ⟨b, hb, rfl⟩ := List.mem_map.1 hz
      refine Classical.byContradiction fun hn => ?_
      have hall : ∀ x, InB x b.1 C ↔ InB x (b.1 - 1) C := fun x => Classical.byContradiction fun hne => hn (hy x b.1 hne)
      refine s2 b hb ?_
      have hbm := hc.mem b hb
      rw [← rowAt_of hc hb (Int.le_refl _) hbm.2.1]
      exact can_eq (h.at _) (h.at _) fun x => (hall x).symm
    simpa using this
  have k2 : ∀ b ∈ C, b.2.2.length ≤ xs.length := fun b hb => by
    obtain ⟨lo', hr⟩ := h.row b hb
    obtain ⟨r1, r2⟩ := hr.starts
    have hbm := hc.mem b hb
    have := strict_len (ys := xs) r1 fun z hz => by
      obtain ⟨p, hp, rfl⟩ := List.mem_map.1 hz
      obtain ⟨a1, a2⟩ := r2 p hp
      have e := rowAt_of hc hb (Int.le_refl _) hbm.2.1
      refine hx p.1 b.1 ?_ ?_
      · show InS p.1 (rowAt C b.1); rw [e]; exact a1
      · show ¬ InS (p.1 - 1) (rowAt C b.1); rw [e]; exact a2
    simpa using this
  exact ⟨k1, k2, Nat.le_trans (rectsB_len k2) (Nat.mul_le_mul_left _ k1)⟩
theorem edges_R (l : List TRect) : XL (l.map (·.X0)) (fun x y => InR x y l) ∧ XR (l.map (·.X1)) (fun x y => InR x y l) ∧ YY (ysOfR l) (fun x y => InR x y l) := by
  refine ⟨fun x y ⟨r, hr, h1, h2⟩ hn => ?_, fun x y hn ⟨r, hr, h1, h2⟩ => ?_, fun x y hn => ?_⟩
  · refine List.mem_map.2 ⟨r, hr, ?_⟩
    have : ¬ r.X0 ≤ x - 1 := fun h => hn ⟨r, hr, ⟨h, by omega⟩, h2⟩
    show r.X0 = x; omega
  · refine List.mem_map.2 ⟨r, hr, ?_⟩
    have : ¬ x < r.X1 := fun h => hn ⟨r, hr, ⟨by omega, h⟩, h2⟩
    show r.X1 = x; omega
  · refine Classical.byContradiction fun hm => hn ?_
    have hne : ∀ r ∈ l, r.Y0 ≠ y ∧ r.Y1 ≠ y := fun r hr => ⟨fun e => hm (mem_ysOfR.2 ⟨r, hr, .inl e.symm⟩), fun e => hm (mem_ysOfR.2 ⟨r, hr, .inr e.symm⟩)⟩
    unfold InR
    constructor
    · rintro ⟨r, hr, h1, h2⟩; have := hne r hr; exact ⟨r, hr, h1, by omega, by omega⟩
    · rintro ⟨r, hr, h1, h2⟩; have := hne r hr; exact ⟨r, hr, h1, by omega, by omega⟩
theorem edges_less {P Q : Int → Int → Prop} {xl xr yp xl' xr' yq : List Int} (a1 : XL xl P) (a2 : XR xr P) (a3 : YY yp P) (b1 : XL xl' Q) (b2 : XR xr' Q) (b3 : YY yq Q) : XL (xl ++ xr') (fun x y => P x y ∧ ¬ Q x y) ∧ XR (xr ++ xl') (fun x y => P x y ∧ ¬ Q x y) ∧ YY (yp ++ yq) (fun x y => P x y ∧ ¬ Q x y) := by
  refine ⟨fun x y ⟨h1, h2⟩ hn => ?_, fun x y hn ⟨h1, h2⟩ => ?_, fun x y hn => ?_⟩
  · by_cases hp : P (x - 1) y
    · have hq : Q (x - 1) y := Classical.byContradiction fun hq => hn ⟨hp, hq⟩
      exact List.mem_append_right _ (b2 x y h2 hq)
    · exact List.mem_append_left _ (a1 x y h1 hp)
  · by_cases hp : P x y
    · have hq : Q x y := Classical.byContradiction fun hq => hn ⟨hp, hq⟩
      exact List.mem_append_right _ (b1 x y hq h2)
    · exact List.mem_append_left _ (a2 x y hp h1)
  · by_cases hp : P x y ↔ P x (y - 1)
    · by_cases hq : Q x y ↔ Q x (y - 1)
      · exact absurd (show (P x y ∧ ¬ Q x y) ↔ (P x (y - 1) ∧ ¬ Q x (y - 1)) by rw [hp, hq]) hn
      · exact List.mem_append_right _ (b3 x y hq)
    · exact List.mem_append_left _ (a3 x y hp)
theorem edges_near {n : Int} {P : Int → Int → Prop} {xl xr ys : List Int} (a1 : XL xl P) (a2 : XR xr P) (a3 : YY ys P) : XL (xl.map (· - n)) (Nr n P) ∧ XR (xr.map (· + n)) (Nr n P) ∧ YY (ys.map (· - n) ++ ys.map (· + n)) (Nr n P) := by
  refine ⟨fun x y ⟨u, v, h1, h2, h3⟩ hn => ?_, fun x y hn ⟨u, v, h1, h2, h3⟩ => ?_, fun x y hn => ?_⟩
  · have h4 : ¬ u ≤ x - 1 + n := fun h => hn ⟨u, v, h1, by omega, h3⟩
    have h5 : ¬ P (u - 1) v := fun h => hn ⟨u - 1, v, h, by omega, h3⟩
    exact List.mem_map.2 ⟨u, a1 u v h1 h5, by omega⟩
  · have h4 : ¬ x - n ≤ u := fun h => hn ⟨u, v, h1, by omega, h3⟩
    have h5 : ¬ P (u + 1) v := fun h => hn ⟨u + 1, v, h, by omega, h3⟩
    exact List.mem_map.2 ⟨u + 1, a2 (u + 1) v h5 (by rw [Int.add_sub_cancel]; exact h1), by omega⟩
  · by_cases hp : Nr n P x y
    · have hq : ¬ Nr n P x (y - 1) := fun hq => hn ⟨fun _ => hq, fun _ => hp⟩
      obtain ⟨u, v, h1, h2, h3⟩ := hp
      have h4 : ¬ v ≤ y - 1 + n := fun h => hq ⟨u, v, h1, h2, by omega, by omega⟩
      have h5 : ¬ P u (v - 1) := fun h => hq ⟨u, v - 1, h, h2, by omega, by omega⟩
      exact List.mem_append_left _ (List.mem_map.2 ⟨v, a3 u v (fun h => h5 (h.1 h1)), by omega⟩)
    · have hq : Nr n P x (y - 1) := Classical.byContradiction fun hq => hn ⟨fun h => absurd h hp, fun h => absurd h hq⟩
      obtain ⟨u, v, h1, h2, h3⟩ := hq
      have h4 : ¬ y - n ≤ v := fun h => hp ⟨u, v, h1, h2, by omega, by omega⟩
      have h5 : ¬ P u (v + 1) := fun h => hp ⟨u, v + 1, h, h2, by omega, by omega⟩
      exact List.mem_append_right _ (List.mem_map.2 ⟨v + 1, a3 u (v + 1) (fun h => h5 (h.2 (by rw [Int.add_sub_cancel]; exact h1))), by omega⟩)
end Go.Proofs.Ytnlhigfglfahiaa
namespace Go.Proofs.Ytnlhigfglfahiaa
theorem bands_le {C : List Bd} (h : ∀ b ∈ C, b.2.2 ≠ []) : C.length ≤ (rectsB C).length := by
  induction C with
  | nil => simp
  | cons b l ih =>
    rw [rectsB_cons, List.length_append, rectsOf_len, List.length_cons]
    have := ih fun c hc => h c (by simp [hc])
    have := List.length_pos_iff.2 (h b (by simp))
    omega
theorem BOk.le {C : List Bd} (h : BOk C) : C.length ≤ (rectsB C).length := by
  obtain ⟨lo, hc⟩ := h.can
  exact bands_le fun b hb => (hc.mem b hb).2.2
/-- Rectangles of squares within limits. -/
theorem rectsB_lim {C : List Bd} (h : BOk C) {m : Int} (hx : ∀ x y, InB x y C → (-m ≤ x ∧ x < m) ∧ (-m ≤ y ∧ y < m)) : ∀ r ∈ rectsB C, (-m ≤ r.X0 ∧ r.X0 < r.X1 ∧ r.X1 ≤ m) ∧ (-m ≤ r.Y0 ∧ r.Y0 < r.Y1 ∧ r.Y1 ≤ m) := fun r hr => by
  have hne := rectsB_ne h r hr
  have h1 := hx r.X0 r.Y0 ((InR_rectsB h _ _).1 ⟨r, hr, ⟨Int.le_refl _, hne.1⟩, ⟨Int.le_refl _, hne.2⟩⟩)
  have h2 := hx (r.X1 - 1) (r.Y1 - 1) ((InR_rectsB h _ _).1 ⟨r, hr, ⟨by omega, by omega⟩, ⟨by omega, by omega⟩⟩)
  omega
theorem widen_r9 {n : Int} (hn : 0 ≤ n ∧ n ≤ 100000) {l : List TRect} (h : ∀ r ∈ l, (-1900000000 ≤ r.X0 ∧ r.X0 < r.X1 ∧ r.X1 ≤ 1900000000) ∧ (-1900000000 ≤ r.Y0 ∧ r.Y0 < r.Y1 ∧ r.Y1 ≤ 1900000000)) : ∀ r ∈ l.map (widen n), R9 r := fun r hr => by
  obtain ⟨q, hq, rfl⟩ := List.mem_map.1 hr
  have := h q hq
  constructor <;> simp only [widen] <;> omega
theorem lim_of_ok {l : List TRect} (h : ∀ r ∈ l, ROk r) : ∀ r ∈ l, (-1900000000 ≤ r.X0 ∧ r.X0 < r.X1 ∧ r.X1 ≤ 1900000000) ∧ (-1900000000 ≤ r.Y0 ∧ r.Y0 < r.Y1 ∧ r.Y1 ≤ 1900000000) := fun r hr => by
  have k := h r hr
  have := k.x0; have := k.x1; have := k.y0; have := k.y1; have h1 := k.x; have h2 := k.y
  omega
section
variable {N : Nat} (hN : 10000000000 ≤ N) {n : Int} (hn : 0 ≤ n ∧ n ≤ 100000)
include hN hn
theorem Spread_ok {S : List Bd} (hS : BOk S) (ht : (rectsB S).length ≤ 100000000) (hlim : ∀ r ∈ rectsB S, (-1900000000 ≤ r.X0 ∧ r.X0 < r.X1 ∧ r.X1 ≤ 1900000000) ∧ (-1900000000 ≤ r.Y0 ∧ r.Y0 < r.Y1 ∧ r.Y1 ≤ 1900000000)) : F_shape_Set__Spread N (S.map toP) n n n n = some ((setB ((rectsB S).map (widen n))).map toP) := by
  have hle := hS.le
  have loop : ∀ (suf pre : List TRect) (m : Nat), rectsB S = pre ++ suf → suf.length < m → F_shape_Set__Spread_L1 N n n n n (rectsB S) m (pre.map (widen n) ++ suf) pre.length = some ((setB ((rectsB S).map (widen n))).map toP) := by
    intro suf
    induction suf with
    | nil =>
      intro pre m h1 h2
      obtain ⟨m, rfl⟩ : ∃ k, m = k + 1 := ⟨m - 1, by omega⟩
      rw [List.append_nil] at h1
      rw [F_shape_Set__Spread_L1.eq_2, if_neg (by rw [h1]; simp), List.append_nil, ← h1, SetOf_ok hN (by simp; omega) (widen_r9 hn hlim)]; rfl
    | cons r suf ih =>
      intro pre m h1 h2
      obtain ⟨m, rfl⟩ : ∃ k, m = k + 1 := ⟨m - 1, by omega⟩
      have hpl : pre.length ≤ 100000000 := by rw [h1] at ht; simp at ht; omega
      have hr := hlim r (by rw [h1]; simp)
      have e0 : (pre.length : Int) = ((pre.map (widen n)).length : Int) := by simp
      have hid : idx (pre.map (widen n) ++ r :: suf) (pre.length : Int) = some r := by rw [e0]; exact idx_mid _ suf r
      have hset : sets (pre.map (widen n) ++ r :: suf) (pre.length : Int) (widen n r) = some ((pre ++ [r]).map (widen n) ++ suf) := by
        unfold sets
        rw [if_pos ⟨by omega, by simp⟩]
        simp
      have hw : TRect.mk (w64 (r.X0 - n)) (w64 (r.Y0 - n)) (w64 (r.X1 + n)) (w64 (r.Y1 + n)) = widen n r := by
        rw [w64_id (by omega) (by omega), w64_id (by omega) (by omega), w64_id (by omega) (by omega), w64_id (by omega) (by omega)]; rfl
      rw [F_shape_Set__Spread_L1.eq_2, if_pos (by rw [h1]; exact lt_mid pre suf r), hid, Option.bind_some, Option.bind_some, hw, hset, Option.bind_some, up_mid pre r (by omega)]
      exact ih (pre ++ [r]) m (by rw [h1]; simp) (by simp at h2; omega)
  unfold F_shape_Set__Spread
  rw [Rects_ok hN ⟨by omega, fun b hb => by have := rectsB_row hb; omega, by omega⟩, Option.bind_some]
  exact loop (rectsB S) [] N rfl (by omega)
end
end Go.Proofs.Ytnlhigfglfahiaa
namespace Go.Proofs.Ytnlhigfglfahiaa
theorem r9_of_lim {l : List TRect} (h : ∀ r ∈ l, (-1900000000 ≤ r.X0 ∧ r.X0 < r.X1 ∧ r.X1 ≤ 1900000000) ∧ (-1900000000 ≤ r.Y0 ∧ r.Y0 < r.Y1 ∧ r.Y1 ≤ 1900000000)) : ∀ r ∈ l, R9 r := fun r hr => by
  have := h r hr
  constructor <;> omega
theorem small_of {B : List Bd} (h : BOk B) (hn : (rectsB B).length ≤ 20000000) : Small B :=
  ⟨by have := h.le; omega, fun b hb => by have := rectsB_row hb; omega, by omega⟩
section
variable {N : Nat} (hN : 10000000000 ≤ N)
include hN
/-- THE PARTS OF A SET, as sets. -/
theorem Parts_set {B : List Bd} (hB : BOk B) (hn : (rectsB B).length ≤ 20000000) (h9 : ∀ r ∈ rectsB B, R9 r) :
    ∃ P, F_shape_Set__Parts N (B.map toP) = some (P.map fun b => b.map toP) ∧ PS (fun x y => InB x y B) P ∧ (∀ b ∈ P, Small b) ∧ P.length ≤ (rectsB B).length := by
  obtain ⟨L, h1, h2, h3, h4⟩ := Parts_ok hN hB (small_of hB hn) (by omega) (by have := hB.le; omega) h9
  have hps := (h2.ps (rectsB_ne hB)).congr (T := fun x y => InB x y B) fun x y => InR_rectsB hB x y
  refine ⟨L.map setB, by rw [h1, List.map_map]; rfl, hps, fun b hb => ?_, by simpa using h3⟩
  have := hps.len hB hb
  exact small_of (hps.ok b hb).1 (by omega)
theorem Pieces_loop : ∀ (P : List (List Bd)) (i : Nat) (out : List (List TRect)), (∀ b ∈ P, Small b) → out.length + P.length ≤ 4294967296 → F_shape_Pieces_L1 N (P.map fun b => b.map toP) i out = some (out ++ P.map rectsB, 0)
  | [], i, out, _, _ => by rw [List.map_nil, F_shape_Pieces_L1.eq_1]; simp
  | b :: P, i, out, h, ho => by
    simp only [List.length_cons] at ho
    rw [List.map_cons, F_shape_Pieces_L1.eq_2, Rects_ok hN (h b (by simp)), Option.bind_some, apd_ok (by simp; omega), Option.bind_some, Pieces_loop P (i + 1) _ (fun c hc => h c (by simp [hc])) (by simp; omega)]
    simp
/-- What Pieces gives. -/
structure PiecesOk (r : List TRect) (v : List (List TRect) × Int) : Prop where
  err : regionErr r ≠ 0 → v = ([], regionErr r)
  ok : regionErr r = 0 → ∃ P, PS (fun x y => InR x y r) P ∧ v = (P.map rectsB, 0) ∧ P.length ≤ 2000
omit hN in
theorem PiecesOk.uniq {r : List TRect} {v u : List (List TRect) × Int} (h : PiecesOk r v) (k : PiecesOk r u) : v = u := by
  by_cases hr : regionErr r = 0
  · obtain ⟨P, p1, p2, _⟩ := h.ok hr
    obtain ⟨Q, q1, q2, _⟩ := k.ok hr
    rw [p2, q2, p1.uniq q1]
  · rw [h.err hr, k.err hr]
theorem Pieces_ok (r : List TRect) : ∃ v, F_shape_Pieces N r = some v ∧ PiecesOk r v := by
  unfold F_shape_Pieces
  rw [CheckRegion_ok hN, Option.bind_some]
  by_cases hr : regionErr r = 0
  · obtain ⟨_, hl, hok, hrr⟩ := regionErr_ok hr
    obtain ⟨b1, b2⟩ := setB_ok (ROk.ne hok)
    rw [if_neg (by simpa using hr), SetOf_ok hN (by omega) (fun q hq => (hok q hq).r9), Option.bind_some]
    obtain ⟨P, p1, p2, p3, p4⟩ := Parts_set hN b1 (by rw [hrr]; omega) (fun q hq => (hok q (by rw [hrr] at hq; exact hq)).r9)
    rw [hrr] at p4
    rw [p1, Option.bind_some, Pieces_loop hN P 0 [] p3 (by simp; omega)]
    exact ⟨_, rfl, fun h => absurd hr h, fun _ => ⟨P, p2.congr b2, by simp, by omega⟩⟩
  · rw [if_pos (by simpa using hr)]
    exact ⟨_, rfl, fun _ => rfl, fun h => absurd h hr⟩
omit hN in
theorem First_ok {l : List Bd} (h : BOk l) (hne : l ≠ []) : F_shape_Set__First (l.map toP) = some ⟨(fst l).1, (fst l).2⟩ := by
  obtain ⟨lo, hc⟩ := h.can
  match l, hne, hc with
  | b :: l, _, hc =>
    obtain ⟨_, _, c3, _, _⟩ := hc
    obtain ⟨b0, b1, b2⟩ := b
    match b2, c3 with
    | s :: t, _ => rfl
theorem Holes_loop {B : List Bd} {W : List Bd} (hW : BOk W) (hWn : W ≠ []) : ∀ (P : List (List Bd)) (i : Nat) (out : List (List TRect)), (∀ b ∈ P, Small b ∧ BOk b ∧ b ≠ []) → out.length + P.length ≤ 4294967296 →
    F_shape_Holes_L1 N (W.map toP) (P.map fun b => b.map toP) i out = some (out ++ (P.filter fun b => decide (fst b ≠ fst W)).map rectsB, 0)
  | [], i, out, _, _ => by rw [List.map_nil, F_shape_Holes_L1.eq_1]; simp
  | b :: P, i, out, h, ho => by
    simp only [List.length_cons] at ho
    obtain ⟨h1, h2, h3⟩ := h b (by simp)
    rw [List.map_cons, F_shape_Holes_L1.eq_2, First_ok h2 h3, Option.bind_some, First_ok hW hWn, Option.bind_some]
    by_cases e : fst b = fst W
    · have e2 : eqTPoint ⟨(fst b).1, (fst b).2⟩ ⟨(fst W).1, (fst W).2⟩ = true := by rw [eqTPoint_iff, e]
      rw [if_neg (by rw [e2]; simp), Holes_loop hW hWn P (i + 1) out (fun c hc => h c (by simp [hc])) (by omega), List.filter_cons_of_neg (by simp [e])]
      exact B
    · have e2 : eqTPoint ⟨(fst b).1, (fst b).2⟩ ⟨(fst W).1, (fst W).2⟩ = false := by
        rw [Bool.eq_false_iff]
        intro h
        have := eqTPoint_iff.1 h
        simp only [TPoint.mk.injEq] at this
        exact e (Prod.ext this.1 this.2)
      rw [if_pos (by rw [e2]; rfl), Rects_ok hN h1, Option.bind_some, apd_ok (by simp; omega), Option.bind_some, Holes_loop hW hWn P (i + 1) _ (fun c hc => h c (by simp [hc])) (by simp; omega), List.filter_cons_of_pos (by simpa using e)]
      · simp
      · exact B
/-- What Holes gives. -/
structure HolesOk (r : List TRect) (v : List (List TRect) × Int) : Prop where
  err : regionErr r ≠ 0 → v = ([], regionErr r)
  nil : r = [] → v = ([], 0)
  ok : regionErr r = 0 → r ≠ [] → ∃ H, HS (setB r) H ∧ v = (H.map rectsB, 0) ∧ H.length ≤ 20000000
omit hN in
theorem regionErr_nil : regionErr [] = 0 := region_of (l := []) ⟨⟨0, trivial⟩, by simp⟩ (fun x y h => absurd h InS_nil) (by simp [rectsB])
omit hN in
theorem HolesOk.uniq {r : List TRect} {v u : List (List TRect) × Int} (h : HolesOk r v) (k : HolesOk r u) : v = u := by
  by_cases hr : regionErr r = 0
  · by_cases hn : r = []
    · rw [h.nil hn, k.nil hn]
    · obtain ⟨P, p1, p2, _⟩ := h.ok hr hn
      obtain ⟨Q, q1, q2, _⟩ := k.ok hr hn
      rw [p2, q2, p1.uniq q1]
  · rw [h.err hr, k.err hr]
omit hN in
theorem tight_of {B : List Bd} {a : TRect} (h : IsBnd (fun x y => InB x y B) a) : Tight B (a.X0 - 1) (a.Y0 - 1) (a.X1 + 1) (a.Y1 + 1) := by
  obtain ⟨u, hu⟩ := h.x0
  obtain ⟨v, hv⟩ := h.y0
  have h1 := h.all _ _ hu
  refine ⟨⟨fun x y hx => by have := h.all x y hx; omega, by omega⟩, ?_, ?_, ?_, ?_⟩
  · obtain ⟨y, hy⟩ := h.x0; exact ⟨y, by rw [show a.X0 - 1 + 1 = a.X0 by omega]; exact hy⟩
  · obtain ⟨y, hy⟩ := h.x1; exact ⟨y, by rw [show a.X1 + 1 - 2 = a.X1 - 1 by omega]; exact hy⟩
  · obtain ⟨y, hy⟩ := h.y0; exact ⟨y, by rw [show a.Y0 - 1 + 1 = a.Y0 by omega]; exact hy⟩
  · obtain ⟨y, hy⟩ := h.y1; exact ⟨y, by rw [show a.Y1 + 1 - 2 = a.Y1 - 1 by omega]; exact hy⟩
omit hN in
/-- The box around, as a set. -/
theorem box_set {a : TRect} (h : a.X0 < a.X1 ∧ a.Y0 < a.Y1) : BOk (setB [widen 1 a]) ∧ setB [widen 1 a] ≠ [] ∧ fst (setB [widen 1 a]) = (a.X0 - 1, a.Y0 - 1) ∧ ∀ x y, InB x y (setB [widen 1 a]) ↔ (a.X0 - 1 ≤ x ∧ x < a.X1 + 1) ∧ (a.Y0 - 1 ≤ y ∧ y < a.Y1 + 1) := by
  have hne : ∀ r ∈ [widen 1 a], r.X0 < r.X1 ∧ r.Y0 < r.Y1 := fun r hr => by
    rw [List.mem_singleton] at hr
    subst hr
    simp only [widen]; omega
  obtain ⟨b1, b2⟩ := setB_ok hne
  refine ⟨b1, setB_nil hne (by simp), fst_head (l := []) hne (by simp), fun x y => ?_⟩
  rw [b2]
  unfold InR
  simp [widen]
theorem Holes_ok (r : List TRect) : ∃ v, F_shape_Holes N r = some v ∧ HolesOk r v := by
  unfold F_shape_Holes
  rw [CheckRegion_ok hN, Option.bind_some]
  by_cases hr : regionErr r = 0
  · by_cases hnil : r = []
    · subst hnil
      rw [if_pos (by simp)]
      exact ⟨_, rfl, fun h => absurd hr h, fun _ => by rw [hr], fun _ h => absurd rfl h⟩
    · obtain ⟨_, hl, hok, hrr⟩ := regionErr_ok hr
      obtain ⟨b1, b2⟩ := setB_ok (ROk.ne hok)
      have hbn : setB r ≠ [] := fun e => hnil (by rw [← hrr, e]; rfl)
      have hlen : r.length ≠ 0 := fun e => hnil (List.eq_nil_of_length_eq_zero e)
      obtain ⟨s1, s2⟩ := setB_len r
      rw [if_neg (by simp [hr]; omega), SetOf_ok hN (by omega) (fun q hq => (hok q hq).r9), Option.bind_some]
      obtain ⟨a, a1, a2⟩ := Around_ok b1 hbn (by omega) (fun b hb => by have := s2 b hb; omega)
      have hT := tight_of a2
      have hab : ((-1000000 ≤ a.X0 ∧ a.X0 < a.X1) ∧ (-1000000 ≤ a.Y0 ∧ a.Y0 < a.Y1)) ∧ a.X1 ≤ 1000000 ∧ a.Y1 ≤ 1000000 := by
        obtain ⟨y0, k0⟩ := a2.x0
        obtain ⟨y1, k1⟩ := a2.x1
        obtain ⟨x0, k2⟩ := a2.y0
        obtain ⟨x1, k3⟩ := a2.y1
        have q0 := InR_lim hok ((b2 _ _).1 k0)
        have q1 := InR_lim hok ((b2 _ _).1 k1)
        have q2 := InR_lim hok ((b2 _ _).1 k2)
        have q3 := InR_lim hok ((b2 _ _).1 k3)
        have w0 := a2.all _ _ k0
        have w2 := a2.all _ _ k2
        omega
      have ha9 : ∀ q ∈ [a], R9 q := fun q hq => by
        rw [List.mem_singleton] at hq
        subst hq
        constructor <;> omega
      have hane : ∀ q ∈ [a], q.X0 < q.X1 ∧ q.Y0 < q.Y1 := fun q hq => ⟨(ha9 q hq).x, (ha9 q hq).y⟩
      obtain ⟨c1, c2⟩ := setB_ok hane
      obtain ⟨w1, w2, w3, w4⟩ := box_set (a := a) (by omega)
      rw [a1, Option.bind_some, SetOf_ok hN (by simp) ha9, Option.bind_some]
      have hlimA : ∀ x y, InB x y (setB [a]) → (-1000001 ≤ x ∧ x < 1000001) ∧ (-1000001 ≤ y ∧ y < 1000001) := fun x y hx => by
        obtain ⟨q, hq, hx, hy⟩ := (c2 x y).1 hx
        rw [List.mem_singleton] at hq
        subst hq
        omega
      have hAl : ∀ r ∈ rectsB (setB [a]), (-1900000000 ≤ r.X0 ∧ r.X0 < r.X1 ∧ r.X1 ≤ 1900000000) ∧ (-1900000000 ≤ r.Y0 ∧ r.Y0 < r.Y1 ∧ r.Y1 ≤ 1900000000) := fun q hq => by
        have := rectsB_lim c1 (m := 1000001) (fun x y hx => by have := hlimA x y hx; omega) q hq
        omega
      obtain ⟨t1, t2⟩ := setB_len [a]
      have hAt : (rectsB (setB [a])).length ≤ 100000000 := by
        have := rectsB_len (R := 1) (l := setB [a]) fun b hb => by have := t2 b hb; simpa using this
        simp at t1
        omega
      have hW : F_shape_Set__Wide N ((setB [a]).map toP) 1 = some ((setB [widen 1 a]).map toP) := by
        unfold F_shape_Set__Wide
        rw [Spread_ok hN (n := 1) (by omega) c1 hAt hAl, Option.bind_some]
        congr 2
        refine setB_congr (widen_ne (by omega) (rectsB_ne c1)) (widen_ne (n := 1) (l := [a]) (by omega) hane) fun x y => ?_
        rw [InR_widen (by omega) (rectsB_ne c1)]
        refine Iff.trans (Nr_congr (fun u v => (InR_rectsB c1 u v).trans (c2 u v)) x y) ?_
        exact (InR_widen (n := 1) (l := [a]) (by omega) hane x y).symm
      rw [hW, Option.bind_some]
      obtain ⟨u1, u2⟩ := setB_len [widen 1 a]
      obtain ⟨C, k1, k2, k3, k4, k5⟩ := Merge_ok (k := fun p q => p && !q) (f := fun z0 z1 => F_shape_Set__Less_1 z0 z1) (fun _ _ => rfl) rfl hN (R1 := 1) (R2 := 2000) w1 b1 (fun c hc => by have := u2 c hc; simpa using this) (fun c hc => by have := s2 c hc; omega) (by omega) (by simp at u1; omega)
      have hL : F_shape_Set__Less N ((setB [widen 1 a]).map toP) ((setB r).map toP) = some (C.map toP) := by
        unfold F_shape_Set__Less
        rw [k1]; rfl
      rw [hL, Option.bind_some]
      have hCo : ∀ x y, InB x y C ↔ Out (setB r) (a.X0 - 1) (a.Y0 - 1) (a.X1 + 1) (a.Y1 + 1) x y := fun x y => by
        rw [k3]
        unfold Kept Out
        rw [← w4]
        constructor
        · rintro ⟨p, q, h1, h2, h3⟩
          cases p <;> cases q <;> simp at h3
          exact ⟨h1.1 rfl, fun hx => by have := h2.2 hx; cases this⟩
        · rintro ⟨h1, h2⟩
          exact ⟨true, false, ⟨fun _ => h1, fun _ => rfl⟩, ⟨fun h => (by cases h), fun h => absurd h h2⟩, rfl⟩
      have hCt : (rectsB C).length ≤ 20000000 := by
        have h1 := rectsB_len (R := 2001) (l := C) fun c hc => by have := k5 c hc; omega
        have h2 : C.length ≤ 8005 := by simp at u1; omega
        have := Nat.mul_le_mul_left 2001 h2
        omega
      have hC9 : ∀ q ∈ rectsB C, R9 q := r9_of_lim fun q hq => by
        have := rectsB_lim k2 (m := 1000001) (fun x y hx => by have := ((hCo x y).1 hx).1; omega) q hq
        omega
      obtain ⟨P, p1, p2, p3, p4⟩ := Parts_set hN k2 hCt hC9
      have p2' := p2.congr hCo
      rw [p1, Option.bind_some, Holes_loop hN (B := []) w1 w2 P 0 [] (fun b hb => ⟨p3 b hb, p2.ok b hb⟩) (by simp; omega), w3]
      refine ⟨_, rfl, fun h => absurd hr h, fun h => absurd h hnil, fun _ _ => ⟨_, ⟨_, _, _, _, P, hT, p2', rfl⟩, by simp, ?_⟩⟩
      have := List.length_filter_le (fun b => decide (fst b ≠ (a.X0 - 1, a.Y0 - 1))) P
      omega
  · rw [if_pos (by simp [hr])]
    refine ⟨_, rfl, fun _ => rfl, fun h => ?_, fun h => absurd h hr⟩
    subst h
    exact absurd regionErr_nil hr
end
end Go.Proofs.Ytnlhigfglfahiaa
namespace Go.Proofs.Ytnlhigfglfahiaa
def toSp (p : Int × Int) : TSpan := ⟨p.1, p.2⟩
def toRB (b : Bd) : Tetchhouseref1Band := ⟨b.1, b.2.1, b.2.2.map toSp⟩
theorem toSp_inj {l m : List (Int × Int)} (h : l.map toSp = m.map toSp) : l = m := by
  induction l generalizing m with
  | nil => cases m with | nil => rfl | cons q m => simp at h
  | cons p l ih =>
    cases m with
    | nil => simp at h
    | cons q m =>
      rw [List.map_cons, List.map_cons] at h
      injection h with h1 h2
      rw [ih h2]
      unfold toSp at h1
      injection h1 with h3 h4
      congr 1
      obtain ⟨a, b⟩ := p; obtain ⟨c, d⟩ := q
      simp only at h3 h4
      rw [h3, h4]
/-- A number more in a strictly ascending list. -/
theorem put_loop {l : List Int} {x : Int} (hs : l.Pairwise fun a b => a < b) (hl : l.length ≤ 1000000000) : ∀ (n lo hi m : Nat), hi - lo ≤ n → n < m → lo ≤ hi → hi ≤ l.length → (∀ i, (h : i < l.length) → i < lo → l[i] < x) → (∀ i, (h : i < l.length) → hi ≤ i → x ≤ l[i]) →
    ∃ l', F_etchhouseref1_put_L1 l x m lo hi = some l' ∧ (l'.Pairwise fun a b => a < b) ∧ (∀ z, z ∈ l' ↔ z = x ∨ z ∈ l) ∧ l'.length ≤ l.length + 1
  | n, lo, hi, 0, _, h, _, _, _, _ => absurd h (Nat.not_lt_zero _)
  | n, lo, hi, m + 1, h1, h2, h3, h4, h5, h6 => by
    by_cases hlt : lo < hi
    · have hmid : (lo + hi) / 2 < l.length := by omega
      have hw : w64 (Int.tdiv (w64 ((lo : Int) + hi)) 2) = (((lo + hi) / 2 : Nat) : Int) := by
        rw [w64_id (x := (lo : Int) + hi) (by omega) (by omega), Int.tdiv_eq_ediv_of_nonneg (by omega), w64_id (by omega) (by omega)]
        omega
      rw [F_etchhouseref1_put_L1.eq_2, if_pos (by simpa using hlt), hw, idx_nat hmid, Option.bind_some]
      obtain ⟨n, rfl⟩ : ∃ k, n = k + 1 := ⟨n - 1, by omega⟩
      have hord : ∀ i j, (hi : i < l.length) → (hj : j < l.length) → i ≤ j → l[i] ≤ l[j] := fun i j hi hj hij => by
        rcases Nat.lt_or_eq_of_le hij with h | h
        · exact Int.le_of_lt (List.pairwise_iff_getElem.1 hs i j hi hj h)
        · subst h; exact Int.le_refl _
      by_cases hc : l[(lo + hi) / 2] < x
      · rw [if_pos (by simpa using hc), w64_id (by omega) (by omega)]
        have := put_loop hs hl n ((lo + hi) / 2 + 1) hi m (by omega) (by omega) (by omega) h4 (fun i hi' hlt' => by have := hord i _ hi' hmid (by omega); omega) h6
        simpa using this
      · rw [if_neg (by simpa using hc)]
        exact put_loop hs hl n lo ((lo + hi) / 2) m (by omega) (by omega) (by omega) (by omega) h5 (fun i hi' hle => by have := hord _ i hmid hi' hle; omega)
    · have heq : lo = hi := by omega
      subst heq
      rw [F_etchhouseref1_put_L1.eq_2, if_neg (by simp)]
      have hsplit : l = l.take lo ++ l.drop lo := (List.take_append_drop lo l).symm
      have hA : ∀ a ∈ l.take lo, a < x := fun a ha => by
        obtain ⟨i, hi, rfl⟩ := List.mem_iff_getElem.1 ha
        simp at hi
        have := h5 i (by omega) (by omega)
        simpa using this
      have hB : ∀ b ∈ l.drop lo, x ≤ b := fun b hb => by
        obtain ⟨i, hi, rfl⟩ := List.mem_iff_getElem.1 hb
        simp at hi
        have := h6 (lo + i) (by omega) (by omega)
        simpa using this
      by_cases hin : x ∈ l
      · have hxlo : lo < l.length ∧ ∀ h : lo < l.length, l[lo] = x := by
          rw [hsplit] at hin
          rcases List.mem_append.1 hin with h | h
          · have := hA x h; omega
          · have hne : lo < l.length := by
              have := List.length_pos_of_mem h
              simp at this; omega
            refine ⟨hne, fun _ => ?_⟩
            have hd : l.drop lo = l[lo] :: l.drop (lo + 1) := List.drop_eq_getElem_cons hne
            rw [hd] at h
            rcases List.mem_cons.1 h with h | h
            · exact h.symm
            · have a := hB l[lo] (by rw [hd]; exact List.mem_cons_self)
              have hs2 : (l[lo] :: l.drop (lo + 1)).Pairwise fun a b => a < b := by rw [← hd]; exact hs.sublist (List.drop_sublist _ _)
              have b := (List.pairwise_cons.1 hs2).1 x h
              omega
        rw [if_pos (by simpa using hxlo.1), idx_nat hxlo.1, Option.bind_some, hxlo.2 hxlo.1, Option.bind_some, if_pos (by simp)]
        exact ⟨l, rfl, hs, fun z => ⟨fun h => .inr h, fun h => by rcases h with rfl | h; exact hin; exact h⟩, by omega⟩
      · have hcond : ((if (decide ((lo : Int) < (l.length : Int))) then (idx l (lo : Int)).bind fun x113 => some (x113 == x) else some false).bind fun g112 => if g112 then some l else
            (pre l (lo : Int)).bind fun l114 => (apd ([] : List Int) l114).bind fun l115 => (apd l115 [x]).bind fun l117 => (cut l (lo : Int) (l.length : Int)).bind fun l118 => (apd l117 l118).bind fun l119 => some l119) = some (l.take lo ++ [x] ++ l.drop lo) := by
          have e1 : (if (decide ((lo : Int) < (l.length : Int))) then (idx l (lo : Int)).bind fun x113 => some (x113 == x) else some false) = some false := by
            by_cases hlo : lo < l.length
            · rw [if_pos (by simpa using hlo), idx_nat hlo, Option.bind_some]
              have : l[lo] ≠ x := fun e => hin (e ▸ List.getElem_mem hlo)
              simp [this]
            · rw [if_neg (by simpa using hlo)]
          have e2 : pre l (lo : Int) = some (l.take lo) := by
            unfold pre
            rw [if_pos ⟨by omega, by omega⟩]; simp
          have e3 : cut l (lo : Int) (l.length : Int) = some (l.drop lo) := by
            unfold cut
            rw [if_pos ⟨by omega, by omega, by omega⟩]; simp
          rw [e1, Option.bind_some, if_neg (by simp), e2, Option.bind_some, apd_ok (by simp; omega), Option.bind_some, apd_ok (by simp; omega), Option.bind_some, e3, Option.bind_some, apd_ok (by simp; omega), Option.bind_some]
          simp
        rw [hcond]
        have hB' : ∀ b ∈ l.drop lo, x < b := fun b hb => by
          have := hB b hb
          have hne : b ≠ x := fun e => hin (by rw [hsplit]; exact List.mem_append_right _ (e ▸ hb))
          omega
        refine ⟨_, rfl, ?_, fun z => ?_, by simp; omega⟩
        · rw [List.append_assoc, List.pairwise_append]
          refine ⟨hs.sublist (List.take_sublist _ _), ?_, fun a ha b hb => ?_⟩
          · show (x :: l.drop lo).Pairwise _
            rw [List.pairwise_cons]
            exact ⟨hB', hs.sublist (List.drop_sublist _ _)⟩
          · have := hA a ha
            rcases List.mem_cons.1 (show b ∈ x :: l.drop lo from hb) with rfl | hb
            · exact this
            · have := hB' b hb; omega
        · rw [List.append_assoc, List.mem_append]
          show (z ∈ l.take lo ∨ z ∈ x :: l.drop lo) ↔ _
          rw [List.mem_cons]
          have : z ∈ l ↔ z ∈ l.take lo ∨ z ∈ l.drop lo := by
            rw [← List.mem_append, List.take_append_drop]
          rw [this]
          constructor
          · rintro (h | h | h)
            · exact .inr (.inl h)
            · exact .inl h
            · exact .inr (.inr h)
          · rintro (h | h | h)
            · exact .inr (.inl h)
            · exact .inl h
            · exact .inr (.inr h)
theorem put_ok {N : Nat} {l : List Int} {x : Int} (hN : 10000000000 ≤ N) (hs : l.Pairwise fun a b => a < b) (hl : l.length ≤ 1000000000) : ∃ l', F_etchhouseref1_put N l x = some l' ∧ (l'.Pairwise fun a b => a < b) ∧ (∀ z, z ∈ l' ↔ z = x ∨ z ∈ l) ∧ l'.length ≤ l.length + 1 :=
  put_loop hs hl l.length 0 l.length N (by omega) (by omega) (by omega) (by omega) (fun i _ h => by omega) (fun i h h' => by omega)
theorem heights_ok {N : Nat} {l : List TRect} (hN : 10000000000 ≤ N) (hl : l.length ≤ 100000000) : F_etchhouseref1_heights N l = some (srtd (ysOfR l)) := by
  have key : ∀ (suf pre : List TRect) (m : Nat) (out : List Int), l = pre ++ suf → suf.length < m → out.Pairwise (fun a b => a < b) → (∀ z, z ∈ out ↔ z ∈ ysOfR pre) → out.length ≤ 2 * pre.length → F_etchhouseref1_heights_L1 N l m out pre.length = some (srtd (ysOfR l)) := by
    intro suf
    induction suf with
    | nil =>
      intro pre m out h1 h2 h3 h4 h5
      obtain ⟨m, rfl⟩ : ∃ k, m = k + 1 := ⟨m - 1, by omega⟩
      rw [List.append_nil] at h1
      subst h1
      rw [F_etchhouseref1_heights_L1.eq_2, if_neg (by simp)]
      congr 1
      exact strict_uniq h3 (srtd_strict _) fun z => by rw [srtd_mem, h4]
    | cons r suf ih =>
      intro pre m out h1 h2 h3 h4 h5
      obtain ⟨m, rfl⟩ : ∃ k, m = k + 1 := ⟨m - 1, by omega⟩
      have hpl : pre.length + 1 ≤ 100000000 := by rw [h1] at hl; simp at hl; omega
      have hid : idx l (pre.length : Int) = some r := by rw [h1]; exact idx_mid pre suf r
      obtain ⟨o1, p1, p2, p3, p4⟩ := put_ok (x := r.Y0) hN h3 (by omega)
      obtain ⟨o2, q1, q2, q3, q4⟩ := put_ok (x := r.Y1) hN p2 (by omega)
      rw [F_etchhouseref1_heights_L1.eq_2, if_pos (by rw [h1]; exact lt_mid pre suf r), hid, Option.bind_some, Option.bind_some, p1, Option.bind_some, q1, Option.bind_some, up_mid pre r (by omega)]
      refine ih (pre ++ [r]) m o2 (by rw [h1]; simp) (by simp at h2; omega) q2 (fun z => ?_) (by simp; omega)
      rw [q3, p3, h4, mem_ysOfR, mem_ysOfR]
      constructor
      · rintro (h | h | ⟨s, hs, h⟩)
        · exact ⟨r, by simp, .inr h⟩
        · exact ⟨r, by simp, .inl h⟩
        · exact ⟨s, by simp [hs], h⟩
      · rintro ⟨s, hs, h⟩
        rcases List.mem_append.1 hs with hs | hs
        · exact .inr (.inr ⟨s, hs, h⟩)
        · simp at hs; subst hs
          rcases h with h | h
          · exact .inr (.inl h)
          · exact .inl h
  exact key l [] N [] rfl (by omega) .nil (fun z => by simp [ysOfR]) (by simp)
theorem join2_loop {p0 pre : List (Int × Int)} (hl : p0.length ≤ 1000000000) (hpl : pre.length ≤ 1000000000) : ∀ (suf pre2 : List (Int × Int)) (m : Nat) (a b : Int), p0 = pre2 ++ suf → suf.length < m → F_etchhouseref1_joined_L2 (p0.map toSp) (pre.map toSp) m a b pre2.length = some ((pre ++ joinGo a b suf).map toSp)
  | [], pre2, m + 1, a, b, h1, _ => by
    have hc : cut (p0.map toSp) (pre2.length : Int) ((p0.map toSp).length : Int) = some [] := by
      unfold cut
      rw [h1, if_pos ⟨by omega, by simp, by omega⟩]; simp
    rw [F_etchhouseref1_joined_L2.eq_2, if_neg (by rw [h1]; simp), Option.bind_some, if_neg (by simp), apd_ok (by simp; omega), Option.bind_some, hc, Option.bind_some, apd_ok (by simp; omega), Option.bind_some]
    simp [joinGo, toSp]
  | q :: suf, pre2, m + 1, a, b, h1, h2 => by
    have hp2 : pre2.length ≤ 1000000000 := by rw [h1] at hl; simp at hl; omega
    have hm : p0.map toSp = pre2.map toSp ++ toSp q :: suf.map toSp := by rw [h1]; simp
    have hlen : pre2.length = (pre2.map toSp).length := by simp
    have hid : idx (p0.map toSp) (pre2.length : Int) = some (toSp q) := by rw [hm, hlen]; exact idx_mid _ _ _
    rw [F_etchhouseref1_joined_L2.eq_2, if_pos (by rw [h1]; simp; omega), hid, Option.bind_some, Option.bind_some]
    unfold joinGo
    by_cases hle : q.1 ≤ b
    · rw [if_pos (decide_eq_true (show (toSp q).from_ ≤ b from hle)), if_pos hle, Option.bind_some, Option.bind_some, up_mid pre2 q (by omega)]
      exact join2_loop hl hpl suf (pre2 ++ [q]) m _ _ (by rw [h1]; simp) (by simp at h2; omega)
    · have hc : cut (p0.map toSp) (pre2.length : Int) ((p0.map toSp).length : Int) = some ((q :: suf).map toSp) := by
        unfold cut
        rw [h1, if_pos ⟨by omega, by simp; omega, by omega⟩, Int.toNat_natCast, Int.toNat_natCast, List.take_length, List.map_append, show pre2.length = (pre2.map toSp).length by simp, List.drop_left]
      have hsl : suf.length ≤ 1000000000 := by rw [h1] at hl; simp at hl; omega
      rw [if_neg (show ¬ decide ((toSp q).from_ ≤ b) = true from by rw [decide_eq_true_eq]; exact hle), if_neg hle, apd_ok (by simp; omega), Option.bind_some, hc, Option.bind_some, apd_ok (by simp; omega), Option.bind_some]
      simp [toSp]
theorem join_loop {N : Nat} {p0 : List (Int × Int)} {p : Int × Int} (hN : 10000000000 ≤ N) (hl : p0.length ≤ 1000000000) : ∀ (suf pre : List (Int × Int)) (m : Nat), p0 = pre ++ suf → suf.length < m → F_etchhouseref1_joined_L1 N (p0.map toSp) (toSp p) m (pre.map toSp) pre.length = some ((pre ++ join1 suf p).map toSp)
  | [], pre, m + 1, h1, _ => by
    have hp2 : pre.length ≤ 1000000000 := by rw [h1] at hl; simp at hl; omega
    rw [F_etchhouseref1_joined_L1.eq_2, if_neg (by rw [h1]; simp), Option.bind_some, if_neg (by simp)]
    exact join2_loop hl hp2 [] pre N p.1 p.2 h1 (by simp; omega)
  | q :: suf, pre, m + 1, h1, h2 => by
    have hp2 : pre.length ≤ 1000000000 := by rw [h1] at hl; simp at hl; omega
    have hm : p0.map toSp = pre.map toSp ++ toSp q :: suf.map toSp := by rw [h1]; simp
    have hlen : pre.length = (pre.map toSp).length := by simp
    have hid : idx (p0.map toSp) (pre.length : Int) = some (toSp q) := by rw [hm, hlen]; exact idx_mid _ _ _
    rw [F_etchhouseref1_joined_L1.eq_2, if_pos (by rw [h1]; simp; omega), hid, Option.bind_some, Option.bind_some]
    unfold join1
    by_cases hlt : q.2 < p.1
    · rw [if_pos (decide_eq_true (show (toSp q).to_ < (toSp p).from_ from hlt)), if_pos hlt, Option.bind_some, apd_ok (by simp; omega), Option.bind_some, up_mid pre q (by omega)]
      have := join_loop (p := p) hN hl suf (pre ++ [q]) m (by rw [h1]; simp) (by simp at h2; omega)
      rw [show (pre.map toSp ++ [toSp q]) = (pre ++ [q]).map toSp by simp, this]
      simp
    · rw [if_neg (show ¬ decide ((toSp q).to_ < (toSp p).from_) = true from by rw [decide_eq_true_eq]; exact hlt), if_neg hlt]
      exact join2_loop hl hp2 (q :: suf) pre N p.1 p.2 h1 (by rw [h1] at hl; simp at hl ⊢; omega)
theorem joined_ok {N : Nat} {l : List (Int × Int)} {p : Int × Int} (hN : 10000000000 ≤ N) (hl : l.length ≤ 1000000000) : F_etchhouseref1_joined N (l.map toSp) (toSp p) = some ((join1 l p).map toSp) :=
  join_loop hN hl l [] N rfl (by omega)
theorem row_ok {N : Nat} {l : List TRect} {y : Int} (hN : 10000000000 ≤ N) (hl : l.length ≤ 100000000) : F_etchhouseref1_row N l y = some ((rowS l y).map toSp) := by
  have key : ∀ (suf pre : List TRect) (m : Nat) (out : List (Int × Int)), l = pre ++ suf → suf.length < m → out.length ≤ pre.length → F_etchhouseref1_row_L1 N l y m (out.map toSp) pre.length = some ((((suf.filter fun r => decide (r.Y0 ≤ y) && decide (y < r.Y1)).map xsR).foldl join1 out).map toSp) := by
    intro suf
    induction suf with
    | nil =>
      intro pre m out h1 h2 h3
      obtain ⟨m, rfl⟩ : ∃ k, m = k + 1 := ⟨m - 1, by omega⟩
      rw [F_etchhouseref1_row_L1.eq_2, if_neg (by rw [h1]; simp)]; rfl
    | cons r suf ih =>
      intro pre m out h1 h2 h3
      obtain ⟨m, rfl⟩ : ∃ k, m = k + 1 := ⟨m - 1, by omega⟩
      have hpl : pre.length + 1 ≤ 100000000 := by rw [h1] at hl; simp at hl; omega
      have hid : idx l (pre.length : Int) = some r := by rw [h1]; exact idx_mid pre suf r
      rw [F_etchhouseref1_row_L1.eq_2, if_pos (by rw [h1]; exact lt_mid pre suf r), hid, Option.bind_some, Option.bind_some, up_mid pre r (by omega), List.filter_cons]
      cases hc : (decide (r.Y0 ≤ y) && decide (y < r.Y1))
      · have hg : (if (decide (r.Y0 ≤ y)) then some (decide (y < r.Y1)) else some false) = some false := by
          cases h1 : decide (r.Y0 ≤ y)
          · rfl
          · rw [h1, Bool.true_and] at hc; rw [if_pos rfl, hc]
        rw [hg, Option.bind_some, if_neg (by simp), if_neg (by simp)]
        exact ih (pre ++ [r]) m out (by rw [h1]; simp) (by simp at h2; omega) (by simp; omega)
      · have hg : (if (decide (r.Y0 ≤ y)) then some (decide (y < r.Y1)) else some false) = some true := by
          rw [Bool.and_eq_true] at hc
          rw [if_pos hc.1, hc.2]
        have hj := joined_ok (N := N) (l := out) (p := xsR r) hN (by omega)
        rw [hg, Option.bind_some, if_pos rfl, if_pos rfl, Option.bind_some, Option.bind_some]
        show (F_etchhouseref1_joined N (out.map toSp) (toSp (xsR r))).bind _ = _
        rw [hj, Option.bind_some, List.map_cons, List.foldl_cons]
        have := join1_len out (xsR r)
        exact ih (pre ++ [r]) m _ (by rw [h1]; simp) (by simp at h2; omega) (by simp; omega)
  exact key l [] N [] rfl (by omega) (by simp)
theorem sameSpans_ok {N : Nat} {l m : List (Int × Int)} (hN : 10000000000 ≤ N) (hl : l.length ≤ 1000000000) : F_etchhouseref1_sameSpans N (l.map toSp) (m.map toSp) = some (decide (l = m)) := by
  have key : ∀ (s1 s2 p1 p2 : List (Int × Int)) (n : Nat), l = p1 ++ s1 → m = p2 ++ s2 → p1.length = p2.length → s1.length = s2.length → s1.length < n → F_etchhouseref1_sameSpans_L1 (l.map toSp) (m.map toSp) n p1.length = some (decide (s1 = s2)) := by
    intro s1
    induction s1 with
    | nil =>
      intro s2 p1 p2 n h1 h2 h3 h4 h5
      obtain ⟨n, rfl⟩ : ∃ k, n = k + 1 := ⟨n - 1, by omega⟩
      have : s2 = [] := List.eq_nil_of_length_eq_zero h4.symm
      subst this
      rw [F_etchhouseref1_sameSpans_L1.eq_2, if_neg (by rw [h1]; simp)]; rfl
    | cons q s1 ih =>
      intro s2 p1 p2 n h1 h2 h3 h4 h5
      obtain ⟨n, rfl⟩ : ∃ k, n = k + 1 := ⟨n - 1, by omega⟩
      cases s2 with
      | nil => simp at h4
      | cons q2 s2 =>
        have hp : p1.length ≤ 1000000000 := by rw [h1] at hl; simp at hl; omega
        have e1 : idx (l.map toSp) (p1.length : Int) = some (toSp q) := by
          rw [h1, List.map_append, List.map_cons, show p1.length = (p1.map toSp).length by simp]; exact idx_mid _ _ _
        have e2 : idx (m.map toSp) (p1.length : Int) = some (toSp q2) := by
          rw [h2, List.map_append, List.map_cons, h3, show p2.length = (p2.map toSp).length by simp]; exact idx_mid _ _ _
        rw [F_etchhouseref1_sameSpans_L1.eq_2, if_pos (by rw [h1]; simp; omega), e1, Option.bind_some, e2, Option.bind_some, up_mid p1 q (by omega)]
        by_cases hq : q = q2
        · subst hq
          rw [eqTSpan_iff.2 rfl, if_neg (by simp), ih s2 (p1 ++ [q]) (p2 ++ [q]) n (by rw [h1]; simp) (by rw [h2]; simp) (by simp; omega) (by simpa using h4) (by simp at h5; omega)]
          simp
        · have : eqTSpan (toSp q) (toSp q2) = false := by
            rw [Bool.eq_false_iff]
            intro h
            have := eqTSpan_iff.1 h
            unfold toSp at this
            injection this with a b
            exact hq (by obtain ⟨x, y⟩ := q; obtain ⟨z, w⟩ := q2; simp only at a b; rw [a, b])
          rw [this, if_pos (by simp)]
          simp [hq]
  unfold F_etchhouseref1_sameSpans
  by_cases h : l.length = m.length
  · rw [if_neg (by simp; omega)]
    exact key l m [] [] N rfl rfl rfl h (by omega)
  · rw [if_pos (by simp; omega)]
    have : l ≠ m := fun e => h (by rw [e])
    simp [this]
theorem stacked_ok {N : Nat} {l : List Bd} {b : Bd} (hN : 10000000000 ≤ N) (hl : l.length ≤ 1000000000) (hs : ∀ c ∈ l, c.2.2.length ≤ 1000000000) : F_etchhouseref1_stacked N (l.map toRB) (toRB b) = some ((pushB l b).map toRB) := by
  unfold F_etchhouseref1_stacked
  by_cases he : b.2.2 = []
  · rw [if_pos (by show (((b.2.2.map toSp).length : Int) == 0) = true; rw [he]; rfl), pushB_empty he]
  · have hpos : 0 < b.2.2.length := List.length_pos_iff.2 he
    rw [if_neg (by show ¬ (((b.2.2.map toSp).length : Int) == 0) = true; simp; exact he)]
    rcases List.eq_nil_or_concat l with rfl | ⟨j, c, h⟩
    · rw [pushB_nil he, if_neg (by simp), Option.bind_some, if_neg (by simp), Option.bind_some, if_neg (by simp)]
      rfl
    · rw [List.concat_eq_append] at h
      subst h
      simp only [List.length_append, List.length_singleton] at hl
      have hm : (j ++ [c]).map toRB = j.map toRB ++ toRB c :: [] := by simp
      have hw : w64 ((((j ++ [c]).map toRB).length : Int) - 1) = ((j.map toRB).length : Int) := by
        rw [w64_id (by first | (simp; done) | (simp; omega)) (by first | (simp; done) | (simp; omega))]; simp
      have hid : idx ((j ++ [c]).map toRB) ((j.map toRB).length : Int) = some (toRB c) := by rw [hm]; exact idx_mid _ [] _
      have hss := sameSpans_ok (N := N) (l := c.2.2) (m := b.2.2) hN (hs c (by simp))
      rw [pushB_snoc he, hw, if_pos (by first | (simp; done) | (simp; omega)), hid, Option.bind_some, Option.bind_some, Option.bind_some]
      by_cases h1 : c.2.1 = b.1
      · have e1 : ((toRB c).to_ == (toRB b).from_) = true := by simpa [toRB] using h1
        rw [e1, if_pos rfl]
        show (((F_etchhouseref1_sameSpans N (c.2.2.map toSp) (b.2.2.map toSp)).bind fun y110 => some y110).bind _) = _
        rw [hss, Option.bind_some, Option.bind_some]
        by_cases h2 : c.2.2 = b.2.2
        · rw [decide_eq_true h2, if_pos rfl, if_pos ⟨h1, h2⟩]
          have hset : sets ((j ++ [c]).map toRB) ((j.map toRB).length : Int) (Tetchhouseref1Band.mk (toRB c).from_ (toRB b).to_ (toRB c).spans) = some ((j ++ [(c.1, b.2.1, c.2.2)]).map toRB) := by
            unfold sets
            rw [if_pos ⟨by omega, by simp⟩, hm]
            simp [toRB]
          rw [Option.bind_some, hset]; rfl
        · rw [decide_eq_false h2, if_neg (by simp), if_neg (fun h => h2 h.2), apd_ok (by simp; omega), Option.bind_some]
          simp
      · have e1 : ((toRB c).to_ == (toRB b).from_) = false := by simpa [toRB] using h1
        rw [e1, if_neg (by simp), Option.bind_some, if_neg (by simp), if_neg (fun h => h1 h.1), apd_ok (by simp; omega), Option.bind_some]
        simp
end Go.Proofs.Ytnlhigfglfahiaa
namespace Go.Proofs.Ytnlhigfglfahiaa
section
variable {N : Nat} (hN : 10000000000 ≤ N)
include hN
omit hN in
theorem told_in {l : List Bd} {b : Bd} {K : List TRect → Int → Option (List TRect)} {i : Int} (hi0 : 0 ≤ i ∧ i ≤ 1000000000) (hi : idx (l.map toRB) i = some (toRB b)) (hb : b.2.2.length ≤ 100000000) : ∀ (suf pre : List (Int × Int)) (m : Nat) (out : List TRect), b.2.2 = pre ++ suf → suf.length < m → out.length + suf.length ≤ 4294967296 →
    F_etchhouseref1_told_L4 (l.map toRB) i K m out pre.length = K (out ++ suf.map fun s => ⟨s.1, b.1, s.2, b.2.1⟩) (i + 1)
  | [], pre, m + 1, out, h1, _, _ => by
    rw [F_etchhouseref1_told_L4.eq_2, hi, Option.bind_some, if_neg (by show ¬ decide ((pre.length : Int) < ((b.2.2.map toSp).length : Int)) = true; rw [h1]; simp), w64_id (by omega) (by omega)]
    simp
  | s :: suf, pre, m + 1, out, h1, h2, h3 => by
    have hpl : pre.length ≤ 100000000 := by rw [h1] at hb; simp at hb; omega
    have hid : idx (toRB b).spans (pre.length : Int) = some (toSp s) := by
      show idx (b.2.2.map toSp) _ = _
      rw [h1, List.map_append, List.map_cons, show pre.length = (pre.map toSp).length by simp]; exact idx_mid _ _ _
    simp only [List.length_cons] at h2 h3
    rw [F_etchhouseref1_told_L4.eq_2, hi, Option.bind_some, if_pos (by show decide ((pre.length : Int) < ((b.2.2.map toSp).length : Int)) = true; rw [h1]; simp; omega)]
    simp only [Option.bind_some, hid]
    rw [apd_ok (by simp; omega), Option.bind_some, up_mid pre s (by omega), told_in hi0 hi hb suf (pre ++ [s]) m _ (by rw [h1]; simp) (by omega) (by simp; omega)]
    simp [toSp, toRB]
theorem told_ok {l : List Bd} (h : Small l) : F_etchhouseref1_told N (l.map toRB) = some (rectsB l) := by
  have key : ∀ (suf pre : List Bd) (m : Nat), l = pre ++ suf → suf.length < m → F_etchhouseref1_told_L3 N (l.map toRB) m (rectsB pre) pre.length = some (rectsB l) := by
    intro suf
    induction suf with
    | nil =>
      intro pre m h1 h2
      obtain ⟨m, rfl⟩ : ∃ k, m = k + 1 := ⟨m - 1, by omega⟩
      rw [F_etchhouseref1_told_L3.eq_2, if_neg (by rw [h1]; simp), h1, List.append_nil]
    | cons b suf ih =>
      intro pre m h1 h2
      obtain ⟨m, rfl⟩ : ∃ k, m = k + 1 := ⟨m - 1, by omega⟩
      have hlen := h.len
      have hpl : pre.length + 1 ≤ 200000000 := by rw [h1] at hlen; simp at hlen; omega
      have hid : idx (l.map toRB) (pre.length : Int) = some (toRB b) := by
        rw [h1, List.map_append, List.map_cons, show pre.length = (pre.map toRB).length by simp]; exact idx_mid _ _ _
      have hr := h.tot
      rw [h1, rectsB_append, rectsB_cons, List.length_append, List.length_append, rectsOf_len] at hr
      have hb := h.row b (by rw [h1]; simp)
      rw [F_etchhouseref1_told_L3.eq_2, if_pos (by rw [h1]; simp; omega)]
      have := told_in (K := F_etchhouseref1_told_L3 N (l.map toRB) m) (i := (pre.length : Int)) ⟨by omega, by omega⟩ hid hb b.2.2 [] N (rectsB pre) rfl (by omega) (by omega)
      rw [show ((([] : List (Int × Int)).length : Nat) : Int) = 0 from rfl] at this
      rw [this, show rectsB pre ++ (b.2.2.map fun s => (⟨s.1, b.1, s.2, b.2.1⟩ : TRect)) = rectsB (pre ++ [b]) by unfold rectsB; simp [rectsOf], show ((pre.length : Int) + 1) = ((pre ++ [b]).length : Int) by simp]
      exact ih (pre ++ [b]) m (by rw [h1]; simp) (by simp at h2; omega)
  exact key l [] N rfl (by have := h.len; omega)
theorem Canonical_ok {l : List TRect} (hl : l.length ≤ 100000000) (ht : (rectsB (setB l)).length ≤ 4000000000) : F_etchhouseref1_Canonical N l = some (rectsB (setB l)) := by
  have hyl : (srtd (ysOfR l)).length ≤ 200000000 := Nat.le_trans (srtd_len _) (by rw [ysOfR_len]; omega)
  have hsm := setB_small' hl ht
  have key : ∀ (hsuf hpre : List Int) (a : Int) (m : Nat) (bands : List Bd), srtd (ysOfR l) = hpre ++ a :: hsuf → hsuf.length < m → bands.length ≤ hpre.length → (∀ c ∈ bands, c.2.2.length ≤ 100000000) → bandsGo l (a :: hsuf) bands = setB l →
      F_etchhouseref1_Canonical_L1 N l (srtd (ysOfR l)) m (bands.map toRB) ((hpre.length : Int) + 1) = some (rectsB (setB l)) := by
    intro hsuf
    induction hsuf with
    | nil =>
      intro hpre a m bands h1 h2 h3 h4 h5
      obtain ⟨m, rfl⟩ : ∃ k, m = k + 1 := ⟨m - 1, by omega⟩
      rw [F_etchhouseref1_Canonical_L1.eq_2, if_neg (by rw [h1]; simp)]
      have e : bands = setB l := h5
      rw [e, told_ok hN hsm]; rfl
    | cons b hsuf ih =>
      intro hpre a m bands h1 h2 h3 h4 h5
      obtain ⟨m, rfl⟩ : ∃ k, m = k + 1 := ⟨m - 1, by omega⟩
      have hpl : hpre.length + 2 ≤ 200000000 := by rw [h1] at hyl; simp at hyl; omega
      have ha : idx (srtd (ysOfR l)) (hpre.length : Int) = some a := by rw [h1]; exact idx_mid hpre _ a
      have hb : idx (srtd (ysOfR l)) ((hpre.length : Int) + 1) = some b := by
        rw [h1, show hpre ++ a :: b :: hsuf = (hpre ++ [a]) ++ b :: hsuf by simp, show ((hpre.length : Int) + 1) = ((hpre ++ [a]).length : Int) by simp]
        exact idx_mid (hpre ++ [a]) _ b
      have hst := stacked_ok (N := N) (l := bands) (b := (a, b, rowS l a)) hN (by omega) (fun c hc => by have := h4 c hc; omega)
      have hr := rowS_len l a
      have hpb := pushB_len bands (a, b, rowS l a)
      rw [F_etchhouseref1_Canonical_L1.eq_2, if_pos (by rw [h1]; simp; omega), w64_id (x := (hpre.length : Int) + 1 - 1) (by omega) (by omega), show ((hpre.length : Int) + 1 - 1) = (hpre.length : Int) by omega, ha, Option.bind_some, hb, Option.bind_some, Option.bind_some, row_ok hN hl, Option.bind_some]
      show (F_etchhouseref1_stacked N (bands.map toRB) (toRB (a, b, rowS l a))).bind _ = _
      rw [hst, Option.bind_some, w64_id (by omega) (by omega)]
      have := ih (hpre ++ [a]) b m (pushB bands (a, b, rowS l a)) (by rw [h1]; simp) (by simp at h2; omega) (by simp; omega) (pushB_row h4 (by show (rowS l a).length ≤ 100000000; omega)) h5
      rw [show ((hpre ++ [a]).length : Int) = (hpre.length : Int) + 1 by simp] at this
      exact this
  unfold F_etchhouseref1_Canonical
  rw [heights_ok hN hl, Option.bind_some]
  cases hy : srtd (ysOfR l) with
  | nil =>
    obtain ⟨m, hm⟩ : ∃ k, N = k + 1 := ⟨N - 1, by omega⟩
    have e : setB l = [] := by unfold setB; rw [hy]; rfl
    have hf : F_etchhouseref1_Canonical_L1 N l [] N [] 1 = F_etchhouseref1_Canonical_L1 N l [] (m + 1) [] 1 := congrArg (fun z => F_etchhouseref1_Canonical_L1 N l [] z [] 1) hm
    rw [hf, F_etchhouseref1_Canonical_L1.eq_2, if_neg (by simp)]
    have := told_ok hN hsm
    rw [e] at this ⊢
    rw [List.map_nil] at this
    rw [this]; rfl
  | cons a hsuf =>
    have := key hsuf [] a N [] hy (by rw [hy] at hyl; simp at hyl; omega) (by simp) (by simp) (by unfold setB; rw [hy])
    rw [hy] at this
    exact this
end
end Go.Proofs.Ytnlhigfglfahiaa
namespace Go.Proofs.Ytnlhigfglfahiaa
theorem CheckRectsR_ok {N : Nat} (hN : 10000000000 ≤ N) (l : List TRect) : F_etchhouseref1_CheckRects N l = some (rectsErr l) := by
  unfold F_etchhouseref1_CheckRects rectsErr
  by_cases h : 2000 < l.length
  · rw [if_pos (by simp; omega), if_pos h]
  · rw [if_neg (by simp; omega), if_neg h]
    have key : ∀ (suf pre : List TRect) (m : Nat), l = pre ++ suf → suf.length < m → F_etchhouseref1_CheckRects_L1 l m pre.length = some (rsErr suf) := by
      intro suf
      induction suf with
      | nil =>
        intro pre m h1 h2
        obtain ⟨m, rfl⟩ : ∃ k, m = k + 1 := ⟨m - 1, by omega⟩
        rw [F_etchhouseref1_CheckRects_L1.eq_2, if_neg (by rw [h1]; simp)]; rfl
      | cons r suf ih =>
        intro pre m h1 h2
        obtain ⟨m, rfl⟩ : ∃ k, m = k + 1 := ⟨m - 1, by omega⟩
        have hpl : pre.length ≤ 2000 := by rw [h1] at h; simp at h; omega
        have hid : idx l (pre.length : Int) = some r := by rw [h1]; exact idx_mid pre suf r
        have hat : ∀ x, F_etchhouseref1_At x = some (within x (-1000000) 1000000) := fun x => rfl
        rw [F_etchhouseref1_CheckRects_L1.eq_2, if_pos (by rw [h1]; exact lt_mid pre suf r), hid, Option.bind_some, hat, hat, hat, hat, up_mid pre r (by omega), ih (pre ++ [r]) m (by rw [h1]; simp) (by simp at h2; omega)]
        show _ = some (if rErr r = 0 then rsErr suf else rErr r)
        generalize rsErr suf = z
        unfold rErr
        cases within r.X0 (-1000000) 1000000 <;> cases within r.Y0 (-1000000) 1000000 <;> cases within r.X1 (-1000000) 1000000 <;> cases within r.Y1 (-1000000) 1000000 <;> cases (decide (r.X1 ≤ r.X0) || decide (r.Y1 ≤ r.Y0)) <;> simp
    exact key l [] N rfl (by omega)
theorem SameRects_ok {N : Nat} {l m : List TRect} (hN : 10000000000 ≤ N) (hl : l.length ≤ 1000000000) : ∃ b : Bool, F_etchhouseref1_SameRects N l m = some b ∧ (b = true ↔ l = m) := by
  have key : ∀ (s1 s2 p1 p2 : List TRect) (n : Nat), l = p1 ++ s1 → m = p2 ++ s2 → p1.length = p2.length → s1.length = s2.length → s1.length < n → ∃ b : Bool, F_etchhouseref1_SameRects_L1 l m n p1.length = some b ∧ (b = true ↔ s1 = s2) := by
    intro s1
    induction s1 with
    | nil =>
      intro s2 p1 p2 n h1 h2 h3 h4 h5
      obtain ⟨n, rfl⟩ : ∃ k, n = k + 1 := ⟨n - 1, by omega⟩
      have : s2 = [] := List.eq_nil_of_length_eq_zero h4.symm
      subst this
      rw [F_etchhouseref1_SameRects_L1.eq_2, if_neg (by rw [h1]; simp)]; exact ⟨true, rfl, by simp⟩
    | cons q s1 ih =>
      intro s2 p1 p2 n h1 h2 h3 h4 h5
      obtain ⟨n, rfl⟩ : ∃ k, n = k + 1 := ⟨n - 1, by omega⟩
      cases s2 with
      | nil => simp at h4
      | cons q2 s2 =>
        have hp : p1.length ≤ 1000000000 := by rw [h1] at hl; simp at hl; omega
        have e1 : idx l (p1.length : Int) = some q := by rw [h1]; exact idx_mid _ _ _
        have e2 : idx m (p1.length : Int) = some q2 := by rw [h2, h3]; exact idx_mid _ _ _
        rw [F_etchhouseref1_SameRects_L1.eq_2, if_pos (by rw [h1]; simp; omega), e1, Option.bind_some, e2, Option.bind_some, up_mid p1 q (by omega)]
        by_cases hq : q = q2
        · subst hq
          obtain ⟨b, b1, b2⟩ := ih s2 (p1 ++ [q]) (p2 ++ [q]) n (by rw [h1]; simp) (by rw [h2]; simp) (by simp; omega) (by simpa using h4) (by simp at h5; omega)
          rw [eqTRect_iff.2 rfl, if_neg (by simp), b1]
          exact ⟨b, rfl, by simp [b2]⟩
        · have : eqTRect q q2 = false := by rw [Bool.eq_false_iff]; exact fun h => hq (eqTRect_iff.1 h)
          rw [this, if_pos (by simp)]
          exact ⟨false, rfl, by simp [hq]⟩
  unfold F_etchhouseref1_SameRects
  by_cases h : l.length = m.length
  · rw [if_neg (by simp; omega)]
    exact key l m [] [] N rfl rfl rfl h (by omega)
  · rw [if_pos (by simp; omega)]
    exact ⟨false, rfl, by simp; exact fun e => h (by rw [e])⟩
theorem CheckRegionR_ok {N : Nat} (hN : 10000000000 ≤ N) (l : List TRect) : F_etchhouseref1_CheckRegion N l = some (regionErr l) := by
  unfold F_etchhouseref1_CheckRegion regionErr
  rw [CheckRectsR_ok hN, Option.bind_some]
  by_cases he : rectsErr l = 0
  · obtain ⟨hl, hok⟩ := rectsErr_ok he
    rw [if_neg (by simpa using he), if_pos he]
    have hend : (F_etchhouseref1_Canonical N l).bind (fun y114 => (F_etchhouseref1_SameRects N l y114).bind fun y116 => if (!y116) then some 3 else some 0) = some (if rectsB (setB l) = l then (0 : Int) else 3) := by
      rw [Canonical_ok hN (by omega) (setB_small (by omega)).tot, Option.bind_some]
      obtain ⟨b, h1, h2⟩ := SameRects_ok (N := N) (l := l) (m := rectsB (setB l)) hN (by omega)
      rw [h1, Option.bind_some]
      cases b
      · rw [if_pos (by simp), if_neg (fun h => by have := h2.2 h.symm; cases this)]
      · rw [if_neg (by simp), if_pos (h2.1 rfl).symm]
    have key : ∀ (suf pre : List TRect) (a : TRect) (m : Nat), l = pre ++ a :: suf → suf.length < m → F_etchhouseref1_CheckRegion_L1 N l m ((pre.length : Int) + 1) = some (if ordR (a :: suf) = true then if rectsB (setB l) = l then 0 else 3 else 8) := by
      intro suf
      induction suf with
      | nil =>
        intro pre a m h1 h2
        obtain ⟨m, rfl⟩ : ∃ k, m = k + 1 := ⟨m - 1, by omega⟩
        rw [F_etchhouseref1_CheckRegion_L1.eq_2, if_neg (by rw [h1]; simp), hend]
        rfl
      | cons b suf ih =>
        intro pre a m h1 h2
        obtain ⟨m, rfl⟩ : ∃ k, m = k + 1 := ⟨m - 1, by omega⟩
        have hpl : pre.length ≤ 2000 := by rw [h1] at hl; simp at hl; omega
        have ha : idx l (pre.length : Int) = some a := by rw [h1]; exact idx_mid pre _ a
        have hb : idx l ((pre.length : Int) + 1) = some b := by
          rw [h1, show pre ++ a :: b :: suf = (pre ++ [a]) ++ b :: suf by simp, show ((pre.length : Int) + 1) = ((pre ++ [a]).length : Int) by simp]
          exact idx_mid (pre ++ [a]) _ b
        have hbf : F_etchhouseref1_before a b = some (ltR a b) := by
          unfold F_etchhouseref1_before ltR
          congr 1
        rw [F_etchhouseref1_CheckRegion_L1.eq_2, if_pos (by rw [h1]; simp; omega), w64_id (x := (pre.length : Int) + 1 - 1) (by omega) (by omega), show ((pre.length : Int) + 1 - 1) = (pre.length : Int) by omega, ha, Option.bind_some, hb, Option.bind_some, hbf, Option.bind_some, w64_id (by omega) (by omega)]
        have hor : ordR (a :: b :: suf) = (ltR a b && ordR (b :: suf)) := rfl
        rw [hor]
        cases ltR a b
        · simp
        · have := ih (pre ++ [a]) b m (by rw [h1]; simp) (by simp at h2; omega)
          rw [show (((pre ++ [a]).length : Int) + 1) = (pre.length : Int) + 1 + 1 by simp] at this
          rw [this]
          simp
    cases l with
    | nil =>
      obtain ⟨m, hm⟩ : ∃ k, N = k + 1 := ⟨N - 1, by omega⟩
      have hf : F_etchhouseref1_CheckRegion_L1 N ([] : List TRect) N 1 = F_etchhouseref1_CheckRegion_L1 N ([] : List TRect) (m + 1) 1 := congrArg (fun z => F_etchhouseref1_CheckRegion_L1 N ([] : List TRect) z 1) hm
      rw [hf, F_etchhouseref1_CheckRegion_L1.eq_2, if_neg (by simp), hend]
      rfl
    | cons a suf =>
      exact key suf [] a N rfl (by simp at hl; omega)
  · rw [if_pos (by simpa using he), if_neg he]
end Go.Proofs.Ytnlhigfglfahiaa
namespace Go.Proofs.Ytnlhigfglfahiaa
theorem touch_ok {a b : TRect} (ha : R9 a) (hb : R9 b) : ∃ c : Bool, F_etchhouseref1_touch a b = some c ∧ (c = true ↔ tch a b) := by
  obtain ⟨a1, a2, a3, a4, _, _⟩ := ha
  obtain ⟨b1, b2, b3, b4, _, _⟩ := hb
  refine ⟨_, rfl, ?_⟩
  rw [w64_eq (by omega) (by omega), w64_eq (by omega) (by omega)]
  unfold tch
  simp only [Bool.or_eq_true, Bool.and_eq_true, decide_eq_true_eq]
  omega
/-- What one search has found so far. -/
structure Srch (r : List TRect) (D : Nat → Prop) (a0 : TRect) (d : List Bool) (w : List TRect) : Prop where
  len : d.length = r.length
  fl : ∀ (k : Nat) x, r[k]? = some x → (d[k]? = some true ↔ D k ∨ x ∈ w)
  sub : ∀ x ∈ w, ∃ k : Nat, r[k]? = some x ∧ ¬ D k
  con : ∀ x ∈ w, RConn r a0 x
  nd : w.Nodup
section
variable {N : Nat} {r : List TRect} {D : Nat → Prop} {a0 : TRect}
theorem Srch.wl {d : List Bool} {w : List TRect} (h : Srch r D a0 d w) : w.length ≤ r.length := nodup_sub_len h.nd fun x hx => (h.con x hx).right
/-- All that touch one rectangle. -/
theorem srch_row (hN : 10000000000 ≤ N) (hn : r.length ≤ 20000000) (h9 : ∀ q ∈ r, R9 q) (hinj : r.Nodup) {p : Nat} {a : TRect} {K : List Bool → List TRect → Int → Option (List (List TRect))} : ∀ (m k : Nat) (d : List Bool) (w : List TRect), Srch r D a0 d w → w[p]? = some a → r.length - k < m →
    ∃ d' s, F_etchhouseref1_PiecesOf_L13 r (p : Int) K m d w (k : Int) = K d' (w ++ s) (w64 ((p : Int) + 1)) ∧ Srch r D a0 d' (w ++ s) ∧ ∀ (j : Nat) x, k ≤ j → r[j]? = some x → tch a x → d'[j]? = some true := by
  intro m
  induction m with
  | zero => intro k d w _ _ h; omega
  | succ m ih =>
    intro k d w hS hp hm
    unfold F_etchhouseref1_PiecesOf_L13
    by_cases hk : k < r.length
    · obtain ⟨x, hx⟩ : ∃ x, r[k]? = some x := ⟨_, List.getElem?_eq_getElem hk⟩
      obtain ⟨b, hb⟩ : ∃ b, d[k]? = some b := ⟨_, List.getElem?_eq_getElem (by rw [hS.len]; exact hk)⟩
      have haw := List.mem_of_getElem? hp
      have har := (hS.con a haw).right
      have hxr := List.mem_of_getElem? hx
      rw [if_pos (by simpa using hk), idxN, hb, Option.bind_some]
      have hw : w64 ((k : Int) + 1) = ((k + 1 : Nat) : Int) := by rw [w64_eq (by omega) (by omega)]; omega
      -- on, with nothing new
      have skip : (tch a x → d[k]? = some true) → ∃ d' s, F_etchhouseref1_PiecesOf_L13 r (p : Int) K m d w (w64 ((k : Int) + 1)) = K d' (w ++ s) (w64 ((p : Int) + 1)) ∧ Srch r D a0 d' (w ++ s) ∧ ∀ (j : Nat) x, k ≤ j → r[j]? = some x → tch a x → d'[j]? = some true := fun ht => by
        rw [hw]
        obtain ⟨d', s, h1, h2, h3⟩ := ih (k + 1) d w hS hp (by omega)
        refine ⟨d', s, h1, h2, fun j y hj hy hty => ?_⟩
        by_cases e : j = k
        · subst e
          rw [hx] at hy
          cases hy
          rcases (hS.fl j x hx).1 (ht hty) with h4 | h4
          · exact (h2.fl j x hx).2 (.inl h4)
          · exact (h2.fl j x hx).2 (.inr (List.mem_append_left _ h4))
        · exact h3 j y (by omega) hy hty
      cases b with
      | true =>
        rw [if_neg (by simp), Option.bind_some, if_neg (by simp)]
        exact skip fun _ => hb
      | false =>
        obtain ⟨c, c1, c2⟩ := touch_ok (h9 a har) (h9 x hxr)
        rw [if_pos (by simp), idxN, hp, Option.bind_some, idxN, hx, Option.bind_some, c1, Option.bind_some, Option.bind_some]
        cases c with
        | false =>
          rw [if_neg (by simp)]
          exact skip fun ht => by have := c2.2 ht; cases this
        | true =>
          have ht := c2.1 rfl
          have hnot : ¬ (D k ∨ x ∈ w) := fun h => by have := (hS.fl k x hx).2 h; rw [hb] at this; cases this
          rw [if_pos rfl, Option.bind_some, setsN _ (by rw [hS.len]; exact hk), Option.bind_some, Option.bind_some, apd_ok (by have := hS.wl; simp; omega), Option.bind_some, hw]
          have hS' : Srch r D a0 (d.set k true) (w ++ [x]) := by
            refine ⟨by rw [List.length_set]; exact hS.len, fun j y hy => ?_, fun y hy => ?_, fun y hy => ?_, ?_⟩
            · by_cases e : k = j
              · subst e
                rw [hx] at hy
                cases hy
                rw [List.getElem?_set_self (by rw [hS.len]; exact hk)]
                exact ⟨fun _ => .inr (by simp), fun _ => rfl⟩
              · rw [List.getElem?_set_ne e, hS.fl j y hy]
                constructor
                · rintro (h | h)
                  · exact .inl h
                  · exact .inr (List.mem_append_left _ h)
                · rintro (h | h)
                  · exact .inl h
                  · rcases List.mem_append.1 h with h | h
                    · exact .inr h
                    · rw [List.mem_singleton] at h
                      subst h
                      exact absurd ((List.getElem?_inj hk hinj).1 (by rw [hx, hy])) e
            · rcases List.mem_append.1 hy with h | h
              · exact hS.sub y h
              · rw [List.mem_singleton] at h
                subst h
                exact ⟨k, hx, fun h => hnot (.inl h)⟩
            · rcases List.mem_append.1 hy with h | h
              · exact hS.con y h
              · rw [List.mem_singleton] at h
                subst h
                exact .step (hS.con a haw) ht hxr
            · rw [List.nodup_append]
              refine ⟨hS.nd, by simp, fun y hy z hz e => ?_⟩
              rw [List.mem_singleton] at hz
              subst hz
              subst e
              exact hnot (.inr hy)
          have hp' : (w ++ [x])[p]? = some a := by rw [List.getElem?_append_left (List.getElem?_eq_some_iff.1 hp).1]; exact hp
          obtain ⟨d', s, h1, h2, h3⟩ := ih (k + 1) (d.set k true) (w ++ [x]) hS' hp' (by omega)
          refine ⟨d', [x] ++ s, by rw [← List.append_assoc]; exact h1, by rw [← List.append_assoc]; exact h2, fun j y hj hy hty => ?_⟩
          by_cases e : j = k
          · subst e
            rw [hx] at hy
            cases hy
            exact (h2.fl j x hx).2 (.inr (by simp))
          · exact h3 j y (by omega) hy hty
    · rw [if_neg (by simpa using hk)]
      exact ⟨d, [], by rw [List.append_nil], by rw [List.append_nil]; exact hS, fun j y hj hy => by
        have := (List.getElem?_eq_some_iff.1 hy).1
        omega⟩
/-- All that hang together with one rectangle. -/
theorem srch_all (hN : 10000000000 ≤ N) (hn : r.length ≤ 20000000) (h9 : ∀ q ∈ r, R9 q) (hinj : r.Nodup) {o : List (List TRect)} {i : Int} {K : List Bool → List (List TRect) → Int → Option (List (List TRect))} : ∀ (m p : Nat) (d : List Bool) (w : List TRect), Srch r D a0 d w → (∀ q a, q < p → w[q]? = some a → ∀ (j : Nat) x, r[j]? = some x → tch a x → d[j]? = some true) → p ≤ w.length → r.length - p < m →
    ∃ d' s, F_etchhouseref1_PiecesOf_L12 N r o i K m d w (p : Int) = ((F_etchhouseref1_Canonical N (w ++ s)).bind fun y640 => (F_etchhouseref1_insert N o y640).bind fun y646 => K d' y646 (w64 (i + 1))) ∧ Srch r D a0 d' (w ++ s) ∧ ∀ a ∈ w ++ s, ∀ (j : Nat) x, r[j]? = some x → tch a x → d'[j]? = some true := by
  intro m
  induction m with
  | zero => intro p d w _ _ _ h; omega
  | succ m ih =>
    intro p d w hS hpr hpl hm
    have hwl := hS.wl
    unfold F_etchhouseref1_PiecesOf_L12
    by_cases hp : p < w.length
    · rw [if_pos (by simpa using hp)]
      obtain ⟨a, ha⟩ : ∃ a, w[p]? = some a := ⟨_, List.getElem?_eq_getElem hp⟩
      obtain ⟨d1, s1, h1, h2, h3⟩ := srch_row hN hn h9 hinj (p := p) (a := a) (K := F_etchhouseref1_PiecesOf_L12 N r o i K m) N 0 d w hS ha (by omega)
      have hw : w64 ((p : Int) + 1) = ((p + 1 : Nat) : Int) := by rw [w64_eq (by omega) (by omega)]; omega
      have h1' : F_etchhouseref1_PiecesOf_L13 r (p : Int) (F_etchhouseref1_PiecesOf_L12 N r o i K m) N d w 0 = _ := h1
      rw [h1', hw]
      obtain ⟨d', s, k1, k2, k3⟩ := ih (p + 1) d1 (w ++ s1) h2 (fun q b hq hb j x hx ht => by
        by_cases e : q = p
        · subst e
          rw [List.getElem?_append_left hp, ha] at hb
          cases hb
          exact h3 j x (Nat.zero_le _) hx ht
        · rw [List.getElem?_append_left (by omega)] at hb
          rcases (hS.fl j x hx).1 (hpr q b (by omega) hb j x hx ht) with h4 | h4
          · exact (h2.fl j x hx).2 (.inl h4)
          · exact (h2.fl j x hx).2 (.inr (List.mem_append_left _ h4))) (by simp; omega) (by omega)
      exact ⟨d', s1 ++ s, by rw [← List.append_assoc]; exact k1, by rw [← List.append_assoc]; exact k2, by rw [← List.append_assoc]; exact k3⟩
    · rw [if_neg (by simpa using hp)]
      refine ⟨d, [], by rw [List.append_nil], by rw [List.append_nil]; exact hS, fun a ha j x hx ht => ?_⟩
      rw [List.append_nil] at ha
      obtain ⟨q, hq⟩ := List.getElem?_of_mem ha
      have := (List.getElem?_eq_some_iff.1 hq).1
      exact hpr q a (by omega) hq j x hx ht
end
/-- The first rectangle of bands begins at their first square. -/
theorem rectsB_head {B : List Bd} (h : BOk B) (hne : B ≠ []) : ∃ q l, rectsB B = q :: l ∧ (q.X0, q.Y0) = fst B := by
  obtain ⟨lo, hc⟩ := h.can
  match B, hne, hc with
  | b :: l, _, hc =>
    obtain ⟨_, _, c3, _, _⟩ := hc
    obtain ⟨b0, b1, b2⟩ := b
    match b2, c3 with
    | s :: t, _ => exact ⟨_, _, rfl, rfl⟩
/-- A part that comes behind all others. -/
theorem insert_ok {N : Nat} (hN : 10000000000 ≤ N) {L : List (List Bd)} {P : List Bd} (hL : L.length ≤ 20000000) (hok : ∀ Q ∈ L, BOk Q ∧ Q ≠ []) (hP : BOk P ∧ P ≠ []) (ho : ∀ Q ∈ L, ltP (fst Q) (fst P)) : F_etchhouseref1_insert N (L.map rectsB) (rectsB P) = some (L.map rectsB ++ [rectsB P]) := by
  obtain ⟨N, rfl⟩ : ∃ k, N = k + 1 := ⟨N - 1, by omega⟩
  unfold F_etchhouseref1_insert F_etchhouseref1_insert_L1
  have hpre : pre (L.map rectsB) ((L.map rectsB).length : Int) = some (L.map rectsB) := by
    unfold pre
    rw [if_pos ⟨by omega, by simp⟩, Int.toNat_natCast, List.take_of_length_le (Nat.le_refl _)]
  have hcut : cut (L.map rectsB) ((L.map rectsB).length : Int) ((L.map rectsB).length : Int) = some [] := by
    unfold cut
    rw [if_pos (by omega)]; simp
  have hend : ∀ g : Bool, g = false → (if g = true then F_etchhouseref1_insert_L1 (L.map rectsB) (rectsB P) N (w64 (((L.map rectsB).length : Int) - 1)) else (pre (L.map rectsB) ((L.map rectsB).length : Int)).bind fun l137 => (apd ([] : List (List TRect)) l137).bind fun l138 => (apd l138 [rectsB P]).bind fun l140 => (cut (L.map rectsB) ((L.map rectsB).length : Int) ((L.map rectsB).length : Int)).bind fun l141 => (apd l140 l141).bind fun l142 => some l142) = some (L.map rectsB ++ [rectsB P]) := by
    intro g hg
    rw [if_neg (by rw [hg]; simp), hpre, Option.bind_some, apd_ok (by simp; omega), Option.bind_some, apd_ok (by simp; omega), Option.bind_some, hcut, Option.bind_some, apd_ok (by simp; omega), Option.bind_some]
    simp
  rcases List.eq_nil_or_concat L with rfl | ⟨L', Q, hcn⟩
  · rw [if_neg (by simp), Option.bind_some]
    exact hend false rfl
  · rw [List.concat_eq_append] at hcn
    have hQ : Q ∈ L := by rw [hcn]; simp
    obtain ⟨p, l, p1, p2⟩ := rectsB_head hP.1 hP.2
    obtain ⟨q, l', q1, q2⟩ := rectsB_head (hok Q hQ).1 (hok Q hQ).2
    have hlen : (L.map rectsB).length = L'.length + 1 := by rw [hcn]; simp
    have hw : w64 (((L.map rectsB).length : Int) - 1) = ((L'.length : Nat) : Int) := by
      rw [hlen, w64_eq (by simp at hlen; omega) (by simp at hlen; omega)]; omega
    have hget : (L.map rectsB)[L'.length]? = some (rectsB Q) := by rw [hcn]; simp
    have hb : F_etchhouseref1_before p q = some false := by
      have h1 := ho Q hQ
      rw [← p2, ← q2] at h1
      unfold F_etchhouseref1_before
      unfold ltP at h1
      simp only at h1
      congr 1
      simp
      omega
    have hg : (if decide (0 < ((L.map rectsB).length : Int)) = true then (idx (rectsB P) 0).bind fun x132 => (idx (L.map rectsB) (w64 (((L.map rectsB).length : Int) - 1))).bind fun x133 => (idx x133 0).bind fun x135 => (F_etchhouseref1_before x132 x135).bind fun y136 => some y136 else some false) = some false := by
      rw [if_pos (decide_eq_true (by rw [hlen]; omega)), hw, idxN, hget, p1]
      show (idx (rectsB Q) 0).bind _ = _
      rw [q1]
      show (F_etchhouseref1_before p q).bind _ = _
      rw [hb]; rfl
    rw [hg, Option.bind_some]
    exact hend false rfl
section
variable {N : Nat} {B : List Bd}
/-- What all searches have found so far. -/
structure Fnd (r : List TRect) (d : List Bool) (Ls : List (List TRect)) (i : Nat) : Prop where
  len : d.length = r.length
  low : ∀ k : Nat, k < i → d[k]? = some true
  fl : ∀ (k : Nat) x, r[k]? = some x → (d[k]? = some true ↔ ∃ l ∈ Ls, x ∈ l)
  ne : ∀ l ∈ Ls, l ≠ []
  sub : ∀ l ∈ Ls, ∀ x ∈ l, x ∈ r
  con : ∀ l ∈ Ls, ∀ a ∈ l, ∀ b ∈ l, RConn r a b
  cl : ∀ l ∈ Ls, ∀ a ∈ l, ∀ b ∈ r, tch a b → b ∈ l
  at_ : ∀ l ∈ Ls, ∃ (j : Nat) (x : TRect), j < i ∧ r[j]? = some x ∧ fst (setB l) = (x.X0, x.Y0)
  ord : Ls.Pairwise fun l m => ltP (fst (setB l)) (fst (setB m))
  many : Ls.length ≤ i
theorem pieces_loop (hN : 10000000000 ≤ N) (hB : BOk B) (hn : (rectsB B).length ≤ 20000000) (h9 : ∀ q ∈ rectsB B, R9 q) : ∀ (m i : Nat) (d : List Bool) (Ls : List (List TRect)), Fnd (rectsB B) d Ls i → i ≤ (rectsB B).length → (rectsB B).length - i < m →
    ∃ Ls', F_etchhouseref1_PiecesOf_L9 N (rectsB B) m d (Ls.map fun l => rectsB (setB l)) (i : Int) = some (Ls'.map fun l => rectsB (setB l)) ∧ RS (rectsB B) Ls' := by
  obtain ⟨lo, hc⟩ := hB.can
  have hord := ordR_pair (ordR_rectsB hc hB.row)
  have hne := rectsB_ne hB
  have hnd : (rectsB B).Nodup := by
    have := corner_nodup hB
    exact (List.pairwise_map.1 this).imp fun h e => h (by rw [e])
  intro m
  induction m with
  | zero => intro i d Ls _ _ h; omega
  | succ m ih =>
    intro i d Ls hF hi hm
    unfold F_etchhouseref1_PiecesOf_L9
    by_cases hlt : i < (rectsB B).length
    · obtain ⟨x, hx⟩ : ∃ x, (rectsB B)[i]? = some x := ⟨_, List.getElem?_eq_getElem hlt⟩
      obtain ⟨b, hb⟩ : ∃ b, d[i]? = some b := ⟨_, List.getElem?_eq_getElem (by rw [hF.len]; exact hlt)⟩
      have hw : w64 ((i : Int) + 1) = ((i + 1 : Nat) : Int) := by rw [w64_eq (by omega) (by omega)]; omega
      rw [if_pos (by simpa using hlt), idxN, hb, Option.bind_some]
      cases b with
      | true =>
        rw [if_pos rfl, hw]
        refine ih (i + 1) d Ls ⟨hF.len, fun k hk => ?_, hF.fl, hF.ne, hF.sub, hF.con, hF.cl, fun l hl => ?_, hF.ord, by have := hF.many; omega⟩ (by omega) (by omega)
        · by_cases e : k = i
          · subst e; exact hb
          · exact hF.low k (by omega)
        · obtain ⟨j, y, h1, h2⟩ := hF.at_ l hl
          exact ⟨j, y, by omega, h2⟩
      | false =>
        rw [if_neg (by simp), Option.bind_some, setsN _ (by rw [hF.len]; exact hlt), Option.bind_some, idxN, hx, Option.bind_some]
        have hxr := List.mem_of_getElem? hx
        have hnot : ¬ ∃ l ∈ Ls, x ∈ l := fun h => by have := (hF.fl i x hx).2 h; rw [hb] at this; cases this
        have hS0 : Srch (rectsB B) (fun k => d[k]? = some true) x (d.set i true) [x] := by
          refine ⟨by rw [List.length_set]; exact hF.len, fun k y hy => ?_, fun y hy => ?_, fun y hy => ?_, by simp⟩
          · by_cases e : i = k
            · subst e
              rw [hx] at hy
              cases hy
              rw [List.getElem?_set_self (by rw [hF.len]; exact hlt)]
              simp
            · rw [List.getElem?_set_ne e]
              constructor
              · exact fun h => .inl h
              · rintro (h | h)
                · exact h
                · rw [List.mem_singleton] at h
                  subst h
                  exact absurd ((List.getElem?_inj hlt hnd).1 (by rw [hx, hy])) e
          · rw [List.mem_singleton] at hy
            subst hy
            exact ⟨i, hx, by rw [hb]; simp⟩
          · rw [List.mem_singleton] at hy
            subst hy
            exact .refl hxr
        obtain ⟨d', s, q1, q2, q3⟩ := srch_all hN hn h9 hnd (o := Ls.map fun l => rectsB (setB l)) (i := (i : Int)) (K := F_etchhouseref1_PiecesOf_L9 N (rectsB B) m) N 0 (d.set i true) [x] hS0 (fun q a h => by omega) (by simp) (by omega)
        have q1' : F_etchhouseref1_PiecesOf_L12 N (rectsB B) (Ls.map fun l => rectsB (setB l)) (i : Int) (F_etchhouseref1_PiecesOf_L9 N (rectsB B) m) N (d.set i true) [x] 0 = _ := q1
        rw [q1']
        have hown : ∀ y ∈ [x] ++ s, y ∈ rectsB B := fun y hy => (q2.con y hy).right
        -- closed
        have hcl : ∀ a ∈ [x] ++ s, ∀ b ∈ rectsB B, tch a b → b ∈ [x] ++ s := fun a ha b hb ht => by
          obtain ⟨j, hj⟩ := List.getElem?_of_mem hb
          rcases (q2.fl j b hj).1 (q3 a ha j b hj ht) with h | h
          · exfalso
            obtain ⟨l, hl, hbl⟩ := (hF.fl j b hj).1 h
            have hal := hF.cl l hl b hbl a (hown a ha) ht.symm
            obtain ⟨k, hk, hkD⟩ := q2.sub a ha
            exact hkD ((hF.fl k a hk).2 ⟨l, hl, hal⟩)
          · exact h
        have hneO : ∀ y ∈ [x] ++ s, y.X0 < y.X1 ∧ y.Y0 < y.Y1 := fun y hy => hne y (hown y hy)
        obtain ⟨o1, o2⟩ := setB_ok hneO
        have hlen : (rectsB (setB ([x] ++ s))).length ≤ (rectsB B).length := part_len hB o1 (fun u v hu => by
          obtain ⟨y, hy, h⟩ := (o2 u v).1 hu
          exact (InR_rectsB hB u v).1 ⟨y, hown y hy, h⟩) (fun p q hp ha hq => by
          obtain ⟨y, hy, h1⟩ := (o2 _ _).1 hp
          obtain ⟨z, hz, h2⟩ := (InR_rectsB hB _ _).2 hq
          exact (o2 _ _).2 ⟨z, hcl y hy z hz (tch_of (p := p) (q := q) h1 h2 (.inr ha)), h2⟩)
        have hol := q2.wl
        rw [Canonical_ok hN (by omega) (by omega), Option.bind_some]
        -- the first square
        have hafter : ∀ y ∈ s, ltP (x.X0, x.Y0) (y.X0, y.Y0) := fun y hy => by
          obtain ⟨k, hk, hkD⟩ := q2.sub y (List.mem_append_right _ hy)
          have hkl := (List.getElem?_eq_some_iff.1 hk).1
          have hki : i < k := by
            rcases Nat.lt_trichotomy k i with h | h | h
            · exact absurd (hF.low k h) hkD
            · subst h
              rw [hx] at hk
              cases hk
              have := q2.nd
              rw [List.singleton_append, List.nodup_cons] at this
              exact absurd hy this.1
            · exact h
          obtain ⟨e1, e2⟩ := List.getElem?_eq_some_iff.1 hx
          obtain ⟨e3, e4⟩ := List.getElem?_eq_some_iff.1 hk
          have := (List.pairwise_iff_getElem.1 hord) i k e1 e3 hki
          rw [e2, e4] at this; exact this
        have hfst : fst (setB ([x] ++ s)) = (x.X0, x.Y0) := fst_head (a := x) (l := s) hneO hafter
        have hbefore : ∀ l ∈ Ls, ltP (fst (setB l)) (x.X0, x.Y0) := fun l hl => by
          obtain ⟨j, y, h1, h2, h3⟩ := hF.at_ l hl
          rw [h3]
          obtain ⟨e1, e2⟩ := List.getElem?_eq_some_iff.1 h2
          obtain ⟨e3, e4⟩ := List.getElem?_eq_some_iff.1 hx
          have := (List.pairwise_iff_getElem.1 hord) j i e1 e3 h1
          rw [e2, e4] at this; exact this
        have hokL : ∀ Q ∈ Ls.map setB, BOk Q ∧ Q ≠ [] := fun Q hQ => by
          obtain ⟨l, hl, rfl⟩ := List.mem_map.1 hQ
          have hnl : ∀ y ∈ l, y.X0 < y.X1 ∧ y.Y0 < y.Y1 := fun y hy => hne y (hF.sub l hl y hy)
          exact ⟨(setB_ok hnl).1, setB_nil hnl (hF.ne l hl)⟩
        have hins := insert_ok hN (L := Ls.map setB) (P := setB ([x] ++ s)) (by have := hF.many; simp; omega) hokL ⟨o1, setB_nil hneO (by simp)⟩ (fun Q hQ => by
          obtain ⟨l, hl, rfl⟩ := List.mem_map.1 hQ
          rw [hfst]; exact hbefore l hl)
        rw [List.map_map] at hins
        have hins' : F_etchhouseref1_insert N (Ls.map fun l => rectsB (setB l)) (rectsB (setB ([x] ++ s))) = some ((Ls ++ [[x] ++ s]).map fun l => rectsB (setB l)) := by
          rw [List.map_append]; exact hins
        rw [hins', Option.bind_some, hw]
        refine ih (i + 1) d' (Ls ++ [[x] ++ s]) ⟨q2.len, fun k hk => ?_, fun k y hy => ?_, fun l hl => ?_, fun l hl y hy => ?_, fun l hl a ha c hc => ?_, fun l hl a ha c hc ht => ?_, fun l hl => ?_, ?_, by have := hF.many; simp; omega⟩ (by omega) (by omega)
        · obtain ⟨y, hy⟩ : ∃ y, (rectsB B)[k]? = some y := ⟨_, List.getElem?_eq_getElem (by omega)⟩
          by_cases e : k = i
          · subst e
            rw [hx] at hy
            cases hy
            exact (q2.fl k x hx).2 (.inr (by simp))
          · exact (q2.fl k y hy).2 (.inl (hF.low k (by omega)))
        · rw [q2.fl k y hy, hF.fl k y hy]
          constructor
          · rintro (⟨l, hl, h⟩ | h)
            · exact ⟨l, List.mem_append_left _ hl, h⟩
            · exact ⟨_, List.mem_append_right _ (List.mem_singleton.2 rfl), h⟩
          · rintro ⟨l, hl, h⟩
            rcases List.mem_append.1 hl with hl | hl
            · exact .inl ⟨l, hl, h⟩
            · rw [List.mem_singleton] at hl
              subst hl
              exact .inr h
        · rcases List.mem_append.1 hl with hl | hl
          · exact hF.ne l hl
          · rw [List.mem_singleton] at hl; subst hl; simp
        · rcases List.mem_append.1 hl with hl | hl
          · exact hF.sub l hl y hy
          · rw [List.mem_singleton] at hl; subst hl; exact hown y hy
        · rcases List.mem_append.1 hl with hl | hl
          · exact hF.con l hl a ha c hc
          · rw [List.mem_singleton] at hl; subst hl
            exact (q2.con a ha).symm.trans (q2.con c hc)
        · rcases List.mem_append.1 hl with hl | hl
          · exact hF.cl l hl a ha c hc ht
          · rw [List.mem_singleton] at hl; subst hl
            exact hcl a ha c hc ht
        · rcases List.mem_append.1 hl with hl | hl
          · obtain ⟨j, y, h1, h2⟩ := hF.at_ l hl
            exact ⟨j, y, by omega, h2⟩
          · rw [List.mem_singleton] at hl; subst hl
            exact ⟨i, x, by omega, hx, hfst⟩
        · rw [List.pairwise_append]
          refine ⟨hF.ord, by simp, fun l hl l' hl' => ?_⟩
          rw [List.mem_singleton] at hl'
          subst hl'
          rw [hfst]; exact hbefore l hl
    · rw [if_neg (by simpa using hlt)]
      have e : i = (rectsB B).length := by omega
      refine ⟨Ls, rfl, hF.ne, fun a => ⟨fun ha => ?_, fun ⟨l, hl, ha⟩ => hF.sub l hl a ha⟩, hF.con, hF.cl, hF.ord⟩
      obtain ⟨k, hk⟩ := List.getElem?_of_mem ha
      have hkl := (List.getElem?_eq_some_iff.1 hk).1
      exact (hF.fl k a hk).1 (hF.low k (by omega))
/-- THE PARTS OF A SET, the reference's. -/
theorem PiecesOf_ok (hN : 10000000000 ≤ N) (hB : BOk B) (hn : (rectsB B).length ≤ 20000000) (h9 : ∀ q ∈ rectsB B, R9 q) : ∃ P, F_etchhouseref1_PiecesOf N (rectsB B) = some (P.map rectsB) ∧ PS (fun x y => InB x y B) P ∧ P.length ≤ (rectsB B).length := by
  unfold F_etchhouseref1_PiecesOf
  have hmk : mkl false ((rectsB B).length : Int) = some (List.replicate (rectsB B).length false) := by
    unfold mkl
    rw [if_pos (by omega), Int.toNat_natCast]
  rw [hmk, Option.bind_some]
  obtain ⟨Ls, h1, h2⟩ := pieces_loop hN hB hn h9 N 0 (List.replicate (rectsB B).length false) [] ⟨by simp, fun k h => by omega, fun k x hx => by
    have := (List.getElem?_eq_some_iff.1 hx).1
    simp [this], by simp, by simp, by simp, by simp, by simp, .nil, by simp⟩ (Nat.zero_le _) (by omega)
  have hps := (h2.ps (rectsB_ne hB)).congr (T := fun x y => InB x y B) fun x y => InR_rectsB hB x y
  have h1' : F_etchhouseref1_PiecesOf_L9 N (rectsB B) N (List.replicate (rectsB B).length false) [] 0 = _ := h1
  refine ⟨Ls.map setB, by rw [h1', List.map_map]; rfl, hps, ?_⟩
  have ht := hps.total hB
  have hl : ∀ L : List (List Bd), (∀ P ∈ L, BOk P ∧ P ≠ []) → L.length ≤ (L.flatMap rectsB).length := by
    intro L
    induction L with
    | nil => simp
    | cons P L ih =>
      intro h
      have h1 := ih fun Q hQ => h Q (by simp [hQ])
      have h2 := (h P (by simp)).1.le
      have h3 := List.length_pos_iff.2 (h P (by simp)).2
      rw [List.flatMap_cons, List.length_append, List.length_cons]
      omega
  have := hl (Ls.map setB) hps.ok
  omega
end
end Go.Proofs.Ytnlhigfglfahiaa
namespace Go.Proofs.Ytnlhigfglfahiaa
theorem inside_ok {N : Nat} {l : List (Int × Int)} {x : Int} (hN : 10000000000 ≤ N) (hl : l.length ≤ 1000000000) : ∃ b : Bool, F_etchhouseref1_inside N (l.map toSp) x = some b ∧ (b = true ↔ InS x l) := by
  have key : ∀ (suf pre : List (Int × Int)) (m : Nat), l = pre ++ suf → suf.length < m → ∃ b : Bool, F_etchhouseref1_inside_L1 (l.map toSp) x m pre.length = some b ∧ (b = true ↔ InS x suf) := by
    intro suf
    induction suf with
    | nil =>
      intro pre m h1 h2
      obtain ⟨m, rfl⟩ : ∃ k, m = k + 1 := ⟨m - 1, by omega⟩
      rw [F_etchhouseref1_inside_L1.eq_2, if_neg (by rw [h1]; simp)]
      exact ⟨false, rfl, by simp [InS_nil]⟩
    | cons p suf ih =>
      intro pre m h1 h2
      obtain ⟨m, rfl⟩ : ∃ k, m = k + 1 := ⟨m - 1, by omega⟩
      have hpl : pre.length ≤ 1000000000 := by rw [h1] at hl; simp at hl; omega
      have hid : idx (l.map toSp) (pre.length : Int) = some (toSp p) := by
        rw [h1, List.map_append, List.map_cons, show pre.length = (pre.map toSp).length by simp]; exact idx_mid _ _ _
      obtain ⟨b, b1, b2⟩ := ih (pre ++ [p]) m (by rw [h1]; simp) (by simp at h2; omega)
      rw [F_etchhouseref1_inside_L1.eq_2, if_pos (by rw [h1]; simp; omega), hid, Option.bind_some, Option.bind_some, up_mid pre p (by omega), b1]
      by_cases c1 : p.1 ≤ x
      · rw [if_pos (decide_eq_true (show (toSp p).from_ ≤ x from c1)), Option.bind_some]
        by_cases c2 : x < p.2
        · rw [if_pos (decide_eq_true (show x < (toSp p).to_ from c2))]
          exact ⟨true, rfl, by simp [InS_cons, c1, c2]⟩
        · rw [if_neg (show ¬ decide (x < (toSp p).to_) = true from by rw [decide_eq_true_eq]; exact c2)]
          exact ⟨b, rfl, by rw [InS_cons, b2]; simp [c2]⟩
      · rw [if_neg (show ¬ decide ((toSp p).from_ ≤ x) = true from by rw [decide_eq_true_eq]; exact c1), Option.bind_some, if_neg (by simp)]
        exact ⟨b, rfl, by rw [InS_cons, b2]; simp [c1]⟩
  exact key l [] N rfl (by omega)
/-- The ways of combining. -/
def wayK (w : Int) (p q : Bool) : Bool := (((w == 1) && (p || q)) || (((w == 2) && p) && q)) || (((w == 3) && p) && !q)
theorem wayK_ff (w : Int) : wayK w false false = false := by unfold wayK; simp
/-- Between ends nothing changes. -/
theorem InS_between {l : List (Int × Int)} {a x : Int} (hax : a ≤ x) (h : ∀ p ∈ l, (p.1 ≤ a ∨ x < p.1) ∧ (p.2 ≤ a ∨ x < p.2)) : InS x l ↔ InS a l := by
  unfold InS
  constructor
  · rintro ⟨p, hp, h1, h2⟩; have := h p hp; exact ⟨p, hp, by omega, by omega⟩
  · rintro ⟨p, hp, h1, h2⟩; have := h p hp; exact ⟨p, hp, by omega, by omega⟩
/-- A number is kept, by whether it is in the one and in the other one. -/
def KeptS (k : Bool → Bool → Bool) (l m : List (Int × Int)) (x : Int) : Prop := ∃ p q, (p = true ↔ InS x l) ∧ (q = true ↔ InS x m) ∧ k p q = true
theorem KeptS_iff {k : Bool → Bool → Bool} {l m : List (Int × Int)} {x : Int} {p q : Bool} (hp : p = true ↔ InS x l) (hq : q = true ↔ InS x m) : KeptS k l m x ↔ k p q = true := by
  constructor
  · rintro ⟨p', q', h1, h2, h⟩
    have e1 : p' = p := by rw [Bool.eq_iff_iff, h1, hp]
    have e2 : q' = q := by rw [Bool.eq_iff_iff, h2, hq]
    rw [← e1, ← e2]; exact h
  · exact fun h => ⟨p, q, hp, hq, h⟩
theorem mem_flatS {l : List (Int × Int)} {z : Int} : z ∈ flatS l ↔ ∃ p ∈ l, z = p.1 ∨ z = p.2 := by unfold flatS; simp [List.mem_flatMap]
theorem mixed_ok {N : Nat} {l m : List (Int × Int)} {w : Int} (hN : 10000000000 ≤ N) (hl : l.length ≤ 100000000) (hm : m.length ≤ 100000000) (hlm : ∀ p ∈ l ++ m, p.1 < p.2) : ∃ C, F_etchhouseref1_mixed N (l.map toSp) (m.map toSp) w = some (C.map toSp) ∧ (∃ lo, Can lo C) ∧ C.length ≤ 2 * l.length + 2 * m.length ∧ ∀ x, InS x C ↔ KeptS (wayK w) l m x := by
  -- the last loop
  have L3 : ∀ (xs : List Int), xs.Pairwise (fun a b => a < b) → (∀ z, z ∈ xs ↔ z ∈ flatS (l ++ m)) → xs.length ≤ 2 * l.length + 2 * m.length → ∃ C, F_etchhouseref1_mixed_L3 N (l.map toSp) (m.map toSp) w xs N [] 1 = some (C.map toSp) ∧ (∃ lo, Can lo C) ∧ C.length ≤ 2 * l.length + 2 * m.length ∧ ∀ x, InS x C ↔ KeptS (wayK w) l m x := by
    intro xs hs hmem hxl
    have hends : ∀ p ∈ l ++ m, p.1 ∈ xs ∧ p.2 ∈ xs := fun p hp => ⟨(hmem _).2 (mem_flatS.2 ⟨p, hp, .inl rfl⟩), (hmem _).2 (mem_flatS.2 ⟨p, hp, .inr rfl⟩)⟩
    have hout : ∀ x, (∀ z ∈ xs, x < z) ∨ (∀ z ∈ xs, z ≤ x) → ¬ KeptS (wayK w) l m x := fun x hx => by
      have no : ∀ {l' : List (Int × Int)}, (∀ p ∈ l', p ∈ l ++ m) → ¬ InS x l' := fun h ⟨p, hp, h1, h2⟩ => by
        have e := hends p (h p hp)
        rcases hx with hx | hx
        · have := hx _ e.1; omega
        · have := hx _ e.2; omega
      rw [KeptS_iff (p := false) (q := false) (by simp [no (l' := l) (fun p hp => List.mem_append_left _ hp)]) (by simp [no (l' := m) (fun p hp => List.mem_append_right _ hp)]), wayK_ff]
      simp
    obtain ⟨lo, hlo⟩ := lo_ex xs
    have key : ∀ (suf pre : List Int) (a : Int) (k : Nat) (out : List (Int × Int)), xs = pre ++ a :: suf → suf.length < k → out.length ≤ pre.length → Can lo out → (∀ x, InS x out ↔ x < a ∧ KeptS (wayK w) l m x) →
        ∃ C, F_etchhouseref1_mixed_L3 N (l.map toSp) (m.map toSp) w xs k (out.map toSp) ((pre.length : Int) + 1) = some (C.map toSp) ∧ (∃ lo, Can lo C) ∧ C.length ≤ xs.length ∧ ∀ x, InS x C ↔ KeptS (wayK w) l m x := by
      intro suf
      induction suf with
      | nil =>
        intro pre a k out h1 h2 h3 h4 h5
        obtain ⟨k, rfl⟩ : ∃ j, k = j + 1 := ⟨k - 1, by omega⟩
        rw [F_etchhouseref1_mixed_L3.eq_2, if_neg (by rw [h1]; simp)]
        refine ⟨out, rfl, ⟨lo, h4⟩, by rw [h1]; simp; omega, fun x => (h5 x).trans ⟨fun h => h.2, fun h => ⟨?_, h⟩⟩⟩
        rcases Int.lt_or_le x a with hx | hx
        · exact hx
        · refine absurd h (hout x (.inr fun z hz => ?_))
          rw [h1] at hz hs
          rcases List.mem_append.1 hz with hz | hz
          · have := (List.pairwise_append.1 hs).2.2 z hz a (by simp); omega
          · simp at hz; omega
      | cons b suf ih =>
        intro pre a k out h1 h2 h3 h4 h5
        obtain ⟨k, rfl⟩ : ∃ j, k = j + 1 := ⟨k - 1, by omega⟩
        have hpl : pre.length + 2 ≤ 400000000 := by rw [h1] at hxl; simp at hxl; omega
        have hw : w64 ((pre.length : Int) + 1 - 1) = (pre.length : Int) := by rw [w64_id (by omega) (by omega)]; omega
        have ha : idx xs (pre.length : Int) = some a := by rw [h1]; exact idx_mid pre _ a
        have hb : idx xs ((pre.length : Int) + 1) = some b := by
          rw [h1, show pre ++ a :: b :: suf = (pre ++ [a]) ++ b :: suf by simp, show ((pre.length : Int) + 1) = ((pre ++ [a]).length : Int) by simp]
          exact idx_mid (pre ++ [a]) _ b
        obtain ⟨p, p1, p2⟩ := inside_ok (x := a) hN (show l.length ≤ 1000000000 by omega)
        obtain ⟨q, q1, q2⟩ := inside_ok (x := a) hN (show m.length ≤ 1000000000 by omega)
        have hs1 : (a :: b :: suf).Pairwise (fun a b => a < b) := by rw [h1] at hs; exact (List.pairwise_append.1 hs).2.1
        have hab : a < b := (List.pairwise_cons.1 hs1).1 b (by simp)
        have hgap : ∀ x, a ≤ x → x < b → ∀ z ∈ xs, z ≤ a ∨ x < z := fun x x1 x2 z hz => by
          rw [h1] at hz hs
          rcases List.mem_append.1 hz with hz | hz
          · have := (List.pairwise_append.1 hs).2.2 z hz a (by simp); exact .inl (by omega)
          · rcases List.mem_cons.1 hz with rfl | hz
            · exact .inl (Int.le_refl _)
            · rcases List.mem_cons.1 hz with rfl | hz
              · exact .inr x2
              · have := (List.pairwise_cons.1 (List.pairwise_cons.1 hs1).2).1 z hz; exact .inr (by omega)
        have hkept : ∀ x, a ≤ x → x < b → (KeptS (wayK w) l m x ↔ wayK w p q = true) := fun x x1 x2 => by
          have g := hgap x x1 x2
          refine KeptS_iff (p2.trans (InS_between x1 fun r hr => ?_).symm) (q2.trans (InS_between x1 fun r hr => ?_).symm)
          · have := hends r (List.mem_append_left _ hr); exact ⟨g _ this.1, g _ this.2⟩
          · have := hends r (List.mem_append_right _ hr); exact ⟨g _ this.1, g _ this.2⟩
        rw [F_etchhouseref1_mixed_L3.eq_2, if_pos (by rw [h1]; simp; omega), hw, ha, Option.bind_some, p1, Option.bind_some, Option.bind_some, q1, Option.bind_some, Option.bind_some, hb, Option.bind_some, w64_id (x := (pre.length : Int) + 1 + 1) (by omega) (by omega)]
        have hup : (pre.length : Int) + 1 + 1 = ((pre ++ [a]).length : Int) + 1 := by simp
        have hwk : ((((w == 1) && (p || q)) || (((w == 2) && p) && q)) || (((w == 3) && p) && !q)) = wayK w p q := rfl
        rw [hwk]
        by_cases hkpq : wayK w p q = true
        · rw [if_pos hkpq]
          have hj := joined_ok (N := N) (l := out) (p := (a, b)) hN (by omega)
          have hj' : F_etchhouseref1_joined N (out.map toSp) (TSpan.mk a b) = some ((join1 out (a, b)).map toSp) := hj
          rw [hj', Option.bind_some, hup]
          obtain ⟨j1, j2⟩ := join1_ok h4 (show lo < (a, b).1 from hlo a (by rw [h1]; simp)) hab
          have hjl := join1_len out (a, b)
          refine ih (pre ++ [a]) b k (join1 out (a, b)) (by rw [h1]; simp) (by simp at h2; omega) (by simp; omega) j1 fun x => ?_
          rw [j2, InS_append, h5]
          have e1 : InS x [(a, b)] ↔ (a ≤ x ∧ x < b) := by unfold InS; simp
          rw [e1]
          constructor
          · rintro (h | h)
            · exact ⟨by omega, h.2⟩
            · exact ⟨h.2, (hkept x h.1 h.2).2 hkpq⟩
          · rintro ⟨h, h'⟩
            rcases Int.lt_or_le x a with hx | hx
            · exact .inl ⟨hx, h'⟩
            · exact .inr ⟨hx, h⟩
        · rw [if_neg hkpq, hup]
          refine ih (pre ++ [a]) b k out (by rw [h1]; simp) (by simp at h2; omega) (by simp; omega) h4 fun x => ?_
          rw [h5]
          constructor
          · rintro ⟨h, h'⟩; exact ⟨by omega, h'⟩
          · rintro ⟨h, h'⟩
            rcases Int.lt_or_le x a with hx | hx
            · exact ⟨hx, h'⟩
            · exact absurd ((hkept x hx h).1 h') hkpq
    cases xs with
    | nil =>
      obtain ⟨k, hk⟩ : ∃ k, N = k + 1 := ⟨N - 1, by omega⟩
      have hf : F_etchhouseref1_mixed_L3 N (l.map toSp) (m.map toSp) w [] N [] 1 = F_etchhouseref1_mixed_L3 N (l.map toSp) (m.map toSp) w [] (k + 1) [] 1 := congrArg (fun z => F_etchhouseref1_mixed_L3 N (l.map toSp) (m.map toSp) w [] z [] 1) hk
      rw [hf, F_etchhouseref1_mixed_L3.eq_2, if_neg (by simp)]
      exact ⟨[], rfl, ⟨0, trivial⟩, by simp, fun x => ⟨fun h => absurd h InS_nil, fun h => absurd h (hout x (.inl (by simp)))⟩⟩
    | cons a suf =>
      obtain ⟨C, c1, c2, c3, c4⟩ := key suf [] a N [] rfl (by simp at hxl; omega) (by simp) trivial (fun x => by
        constructor
        · intro h; exact absurd h InS_nil
        · rintro ⟨hx, h⟩
          refine absurd h (hout x (.inl fun z hz => ?_))
          rcases List.mem_cons.1 hz with rfl | hz
          · exact hx
          · have := (List.pairwise_cons.1 hs).1 z hz; omega)
      exact ⟨C, c1, c2, by omega, c4⟩
  -- the ends of both
  have L2 : ∀ (suf pre : List (Int × Int)) (k : Nat) (out : List Int), m = pre ++ suf → suf.length < k → out.Pairwise (fun a b => a < b) → (∀ z, z ∈ out ↔ z ∈ flatS (l ++ pre)) → out.length ≤ 2 * l.length + 2 * pre.length →
      ∃ C, F_etchhouseref1_mixed_L2 N (l.map toSp) (m.map toSp) w k out pre.length = some (C.map toSp) ∧ (∃ lo, Can lo C) ∧ C.length ≤ 2 * l.length + 2 * m.length ∧ ∀ x, InS x C ↔ KeptS (wayK w) l m x := by
    intro suf
    induction suf with
    | nil =>
      intro pre k out h1 h2 h3 h4 h5
      obtain ⟨k, rfl⟩ : ∃ j, k = j + 1 := ⟨k - 1, by omega⟩
      rw [List.append_nil] at h1
      rw [F_etchhouseref1_mixed_L2.eq_2, if_neg (by rw [h1]; simp)]
      exact L3 out h3 (by rw [h1]; exact h4) (by rw [h1]; exact h5)
    | cons p suf ih =>
      intro pre k out h1 h2 h3 h4 h5
      obtain ⟨k, rfl⟩ : ∃ j, k = j + 1 := ⟨k - 1, by omega⟩
      have hpl : pre.length + 1 ≤ 100000000 := by rw [h1] at hm; simp at hm; omega
      have hid : idx (m.map toSp) (pre.length : Int) = some (toSp p) := by
        rw [h1, List.map_append, List.map_cons, show pre.length = (pre.map toSp).length by simp]; exact idx_mid _ _ _
      obtain ⟨o1, p1, p2, p3, p4⟩ := put_ok (x := p.1) hN h3 (by omega)
      obtain ⟨o2, q1, q2, q3, q4⟩ := put_ok (x := p.2) hN p2 (by omega)
      rw [F_etchhouseref1_mixed_L2.eq_2, if_pos (by rw [h1]; simp; omega), hid, Option.bind_some, Option.bind_some]
      have e1 : F_etchhouseref1_put N out (toSp p).from_ = some o1 := p1
      have e2 : F_etchhouseref1_put N o1 (toSp p).to_ = some o2 := q1
      rw [e1, Option.bind_some, e2, Option.bind_some, up_mid pre p (by omega)]
      refine ih (pre ++ [p]) k o2 (by rw [h1]; simp) (by simp at h2; omega) q2 (fun z => ?_) (by simp; omega)
      rw [q3, p3, h4, ← List.append_assoc, flatS_append (l ++ pre)]
      simp [flatS]
      constructor
      · rintro (h | h | h)
        · exact .inr (.inr (.inr h))
        · exact .inr (.inr (.inl h))
        · rcases h with h | h
          · exact .inl h
          · exact .inr (.inl h)
      · rintro (h | h | h | h)
        · exact .inr (.inr (.inl h))
        · exact .inr (.inr (.inr h))
        · exact .inr (.inl h)
        · exact .inl h
  have L1 : ∀ (suf pre : List (Int × Int)) (k : Nat) (out : List Int), l = pre ++ suf → suf.length < k → out.Pairwise (fun a b => a < b) → (∀ z, z ∈ out ↔ z ∈ flatS pre) → out.length ≤ 2 * pre.length →
      ∃ C, F_etchhouseref1_mixed_L1 N (l.map toSp) (m.map toSp) w k out pre.length = some (C.map toSp) ∧ (∃ lo, Can lo C) ∧ C.length ≤ 2 * l.length + 2 * m.length ∧ ∀ x, InS x C ↔ KeptS (wayK w) l m x := by
    intro suf
    induction suf with
    | nil =>
      intro pre k out h1 h2 h3 h4 h5
      obtain ⟨k, rfl⟩ : ∃ j, k = j + 1 := ⟨k - 1, by omega⟩
      rw [List.append_nil] at h1
      rw [F_etchhouseref1_mixed_L1.eq_2, if_neg (by rw [h1]; simp)]
      exact L2 m [] N out rfl (by omega) h3 (by rw [List.append_nil, h1]; exact h4) (by rw [h1]; simpa using h5)
    | cons p suf ih =>
      intro pre k out h1 h2 h3 h4 h5
      obtain ⟨k, rfl⟩ : ∃ j, k = j + 1 := ⟨k - 1, by omega⟩
      have hpl : pre.length + 1 ≤ 100000000 := by rw [h1] at hl; simp at hl; omega
      have hid : idx (l.map toSp) (pre.length : Int) = some (toSp p) := by
        rw [h1, List.map_append, List.map_cons, show pre.length = (pre.map toSp).length by simp]; exact idx_mid _ _ _
      obtain ⟨o1, p1, p2, p3, p4⟩ := put_ok (x := p.1) hN h3 (by omega)
      obtain ⟨o2, q1, q2, q3, q4⟩ := put_ok (x := p.2) hN p2 (by omega)
      rw [F_etchhouseref1_mixed_L1.eq_2, if_pos (by rw [h1]; simp; omega), hid, Option.bind_some, Option.bind_some]
      have e1 : F_etchhouseref1_put N out (toSp p).from_ = some o1 := p1
      have e2 : F_etchhouseref1_put N o1 (toSp p).to_ = some o2 := q1
      rw [e1, Option.bind_some, e2, Option.bind_some, up_mid pre p (by omega)]
      refine ih (pre ++ [p]) k o2 (by rw [h1]; simp) (by simp at h2; omega) q2 (fun z => ?_) (by simp; omega)
      rw [q3, p3, h4, flatS_append pre]
      simp [flatS]
      constructor
      · rintro (h | h | h)
        · exact .inr (.inr h)
        · exact .inr (.inl h)
        · exact .inl h
      · rintro (h | h | h)
        · exact .inr (.inr h)
        · exact .inr (.inl h)
        · exact .inl h
  exact L1 l [] N [] rfl (by omega) .nil (fun z => by simp [flatS]) (by simp)
end Go.Proofs.Ytnlhigfglfahiaa
namespace Go.Proofs.Ytnlhigfglfahiaa
def ofSp (s : TSpan) : Int × Int := (s.from_, s.to_)
theorem of_to (l : List (Int × Int)) : (l.map toSp).map ofSp = l := by
  rw [List.map_map]
  have : (ofSp ∘ toSp) = id := by funext p; rfl
  rw [this, List.map_id]
/-- What the reference has at a height. -/
def mixF (N : Nat) (a b : List TRect) (w : Int) (y : Int) : List (Int × Int) := ((F_etchhouseref1_mixed N ((rowS a y).map toSp) ((rowS b y).map toSp) w).getD []).map ofSp
theorem mixF_ok {N : Nat} {a b : List TRect} {w : Int} (hN : 10000000000 ≤ N) (ha : ∀ r ∈ a, r.X0 < r.X1 ∧ r.Y0 < r.Y1) (hb : ∀ r ∈ b, r.X0 < r.X1 ∧ r.Y0 < r.Y1) (hl : a.length + b.length ≤ 100000000) (y : Int) :
    F_etchhouseref1_mixed N ((rowS a y).map toSp) ((rowS b y).map toSp) w = some ((mixF N a b w y).map toSp) ∧ (∃ lo, Can lo (mixF N a b w y)) ∧ (mixF N a b w y).length ≤ 2 * a.length + 2 * b.length ∧ ∀ x, InS x (mixF N a b w y) ↔ KeptS (wayK w) (rowS a y) (rowS b y) x := by
  have l1 := rowS_len a y
  have l2 := rowS_len b y
  obtain ⟨⟨lo1, c1⟩, _⟩ := rowS_ok (fun r hr => (ha r hr).1) y
  obtain ⟨⟨lo2, c2⟩, _⟩ := rowS_ok (fun r hr => (hb r hr).1) y
  obtain ⟨C, k1, k2, k3, k4⟩ := mixed_ok (w := w) hN (show (rowS a y).length ≤ 100000000 by omega) (show (rowS b y).length ≤ 100000000 by omega) (fun p hp => by
    rcases List.mem_append.1 hp with hp | hp
    · exact (c1.mem p hp).2
    · exact (c2.mem p hp).2)
  have e : mixF N a b w y = C := by
    unfold mixF
    rw [k1, Option.getD_some, of_to]
  rw [e]
  exact ⟨k1, k2, by omega, k4⟩
/-- A square is kept, by whether it is in the one and in the other one. -/
def KeptR (k : Bool → Bool → Bool) (a b : List TRect) (x y : Int) : Prop := ∃ p q, (p = true ↔ InR x y a) ∧ (q = true ↔ InR x y b) ∧ k p q = true
theorem bandsF_small {f : Int → List (Int × Int)} {R : Nat} (hf : ∀ y, (f y).length ≤ R) : ∀ (ys : List Int) (out : List Bd), (∀ c ∈ out, c.2.2.length ≤ R) → (bandsF f ys out).length ≤ out.length + ys.length ∧ ∀ c ∈ bandsF f ys out, c.2.2.length ≤ R
  | [], out, h => ⟨by simp [bandsF], h⟩
  | [a], out, h => ⟨by simp [bandsF], h⟩
  | a :: b :: ys, out, h => by
    have hp := pushB_len out (a, b, f a)
    obtain ⟨i1, i2⟩ := bandsF_small hf (b :: ys) (pushB out (a, b, f a)) (pushB_row h (hf a))
    simp only [List.length_cons] at i1 ⊢
    exact ⟨by show (bandsF f (b :: ys) (pushB out (a, b, f a))).length ≤ _; omega, i2⟩
theorem combined_ok {N : Nat} {a b : List TRect} {w : Int} (hN : 10000000000 ≤ N) (ha : ∀ r ∈ a, r.X0 < r.X1 ∧ r.Y0 < r.Y1) (hb : ∀ r ∈ b, r.X0 < r.X1 ∧ r.Y0 < r.Y1) (hl : a.length + b.length ≤ 50000000) :
    ∃ C, BOk C ∧ (∀ x y, InB x y C ↔ KeptR (wayK w) a b x y) ∧ C.length ≤ 2 * a.length + 2 * b.length ∧ (∀ c ∈ C, c.2.2.length ≤ 2 * a.length + 2 * b.length) ∧ ((rectsB C).length ≤ 4000000000 → F_etchhouseref1_combined N a b w = some (rectsB C)) := by
  have hab : ∀ r ∈ a ++ b, r.X0 < r.X1 ∧ r.Y0 < r.Y1 := fun r hr => by
    rcases List.mem_append.1 hr with hr | hr
    · exact ha r hr
    · exact hb r hr
  have hmix := mixF_ok (w := w) hN ha hb (by omega)
  have hmem : ∀ r ∈ a ++ b, r.Y0 ∈ srtd (ysOfR (a ++ b)) ∧ r.Y1 ∈ srtd (ysOfR (a ++ b)) := fun r hr => ⟨(srtd_mem _ _).2 (mem_ysOfR.2 ⟨r, hr, .inl rfl⟩), (srtd_mem _ _).2 (mem_ysOfR.2 ⟨r, hr, .inr rfl⟩)⟩
  obtain ⟨a1, a2, a3⟩ := rowS_change ha fun r hr => hmem r (List.mem_append_left _ hr)
  obtain ⟨b1, b2, b3⟩ := rowS_change hb fun r hr => hmem r (List.mem_append_right _ hr)
  have mnil : ∀ y, rowS a y = [] → rowS b y = [] → mixF N a b w y = [] := fun y h1 h2 => by
    obtain ⟨_, k2, _, k4⟩ := hmix y
    refine can_nil k2 fun x hx => ?_
    rw [k4 x, h1, h2, KeptS_iff (p := false) (q := false) (by simp [InS_nil]) (by simp [InS_nil]), wayK_ff] at hx
    cases hx
  obtain ⟨hC, hrow⟩ := bandsF_row (f := mixF N a b w) (srtd_strict (ysOfR (a ++ b))) (fun y => (hmix y).2.1) (fun u y h1 h2 => by unfold mixF; rw [a1 u y h1 h2, b1 u y h1 h2]) (fun y h => mnil y (a2 y h) (b2 y h)) (fun y h => mnil y (a3 y h) (b3 y h))
  have hyl : (srtd (ysOfR (a ++ b))).length ≤ 2 * a.length + 2 * b.length := Nat.le_trans (srtd_len _) (by rw [ysOfR_len, List.length_append]; omega)
  obtain ⟨sm1, sm2⟩ := bandsF_small (f := mixF N a b w) (fun y => (hmix y).2.2.1) (srtd (ysOfR (a ++ b))) [] (by simp)
  rw [List.length_nil, Nat.zero_add] at sm1
  refine ⟨bandsF (mixF N a b w) (srtd (ysOfR (a ++ b))) [], hC, fun x y => ?_, by omega, sm2, fun htot => ?_⟩
  · unfold InB
    rw [hrow y, (hmix y).2.2.2 x]
    have e1 := (rowS_ok (fun r hr => (ha r hr).1) y).2 x
    have e2 := (rowS_ok (fun r hr => (hb r hr).1) y).2 x
    unfold KeptS KeptR
    rw [e1, e2]
  have hsm : Small (bandsF (mixF N a b w) (srtd (ysOfR (a ++ b))) []) := ⟨by omega, fun c hc => by have := sm2 c hc; omega, htot⟩
  have key : ∀ (hsuf hpre : List Int) (u : Int) (m : Nat) (bands : List Bd), srtd (ysOfR (a ++ b)) = hpre ++ u :: hsuf → hsuf.length < m → bands.length ≤ hpre.length → (∀ c ∈ bands, c.2.2.length ≤ 2 * a.length + 2 * b.length) → bandsF (mixF N a b w) (u :: hsuf) bands = bandsF (mixF N a b w) (srtd (ysOfR (a ++ b))) [] →
      F_etchhouseref1_combined_L1 N a b w (srtd (ysOfR (a ++ b))) m (bands.map toRB) ((hpre.length : Int) + 1) = some (rectsB (bandsF (mixF N a b w) (srtd (ysOfR (a ++ b))) [])) := by
    intro hsuf
    induction hsuf with
    | nil =>
      intro hpre u m bands h1 h2 h3 h4 h5
      obtain ⟨m, rfl⟩ : ∃ k, m = k + 1 := ⟨m - 1, by omega⟩
      rw [F_etchhouseref1_combined_L1.eq_2, if_neg (by rw [h1]; simp)]
      have e : bands = bandsF (mixF N a b w) (srtd (ysOfR (a ++ b))) [] := h5
      rw [e, told_ok hN hsm]; rfl
    | cons v hsuf ih =>
      intro hpre u m bands h1 h2 h3 h4 h5
      obtain ⟨m, rfl⟩ : ∃ k, m = k + 1 := ⟨m - 1, by omega⟩
      have hpl : hpre.length + 2 ≤ 200000000 := by rw [h1] at hyl; simp at hyl; omega
      have hu : idx (srtd (ysOfR (a ++ b))) (hpre.length : Int) = some u := by rw [h1]; exact idx_mid hpre _ u
      have hv : idx (srtd (ysOfR (a ++ b))) ((hpre.length : Int) + 1) = some v := by
        rw [h1, show hpre ++ u :: v :: hsuf = (hpre ++ [u]) ++ v :: hsuf by simp, show ((hpre.length : Int) + 1) = ((hpre ++ [u]).length : Int) by simp]
        exact idx_mid (hpre ++ [u]) _ v
      have hst := stacked_ok (N := N) (l := bands) (b := (u, v, mixF N a b w u)) hN (by omega) (fun c hc => by have := h4 c hc; omega)
      have hpb := pushB_len bands (u, v, mixF N a b w u)
      obtain ⟨m1, _, m3, _⟩ := hmix u
      rw [F_etchhouseref1_combined_L1.eq_2, if_pos (by rw [h1]; simp; omega), w64_id (x := (hpre.length : Int) + 1 - 1) (by omega) (by omega), show ((hpre.length : Int) + 1 - 1) = (hpre.length : Int) by omega, hu, Option.bind_some, hv, Option.bind_some, Option.bind_some, Option.bind_some, row_ok hN (by omega), Option.bind_some, row_ok hN (by omega), Option.bind_some, m1, Option.bind_some]
      show (F_etchhouseref1_stacked N (bands.map toRB) (toRB (u, v, mixF N a b w u))).bind _ = _
      rw [hst, Option.bind_some, w64_id (by omega) (by omega)]
      have := ih (hpre ++ [u]) v m (pushB bands (u, v, mixF N a b w u)) (by rw [h1]; simp) (by simp at h2; omega) (by simp; omega) (pushB_row h4 m3) h5
      rw [show ((hpre ++ [u]).length : Int) = (hpre.length : Int) + 1 by simp] at this
      exact this
  unfold F_etchhouseref1_combined
  rw [apd_ok (by simp; omega), Option.bind_some, List.nil_append, apd_ok (by omega), Option.bind_some, heights_ok hN (by simp; omega), Option.bind_some]
  cases hy : srtd (ysOfR (a ++ b)) with
  | nil =>
    obtain ⟨m, hm⟩ : ∃ k, N = k + 1 := ⟨N - 1, by omega⟩
    have hf : F_etchhouseref1_combined_L1 N a b w [] N [] 1 = F_etchhouseref1_combined_L1 N a b w [] (m + 1) [] 1 := congrArg (fun z => F_etchhouseref1_combined_L1 N a b w [] z [] 1) hm
    rw [hf, F_etchhouseref1_combined_L1.eq_2, if_neg (by simp)]
    rw [hy] at hsm
    have := told_ok hN hsm
    show (F_etchhouseref1_told N []).bind _ = _
    rw [show bandsF (mixF N a b w) [] [] = [] from rfl] at this ⊢
    rw [List.map_nil] at this
    rw [this]; rfl
  | cons u hsuf =>
    have := key hsuf [] u N [] hy (by rw [hy] at hyl; simp at hyl; omega) (by simp) (by simp) (by rw [hy])
    rw [hy] at this
    exact this
end Go.Proofs.Ytnlhigfglfahiaa
namespace Go.Proofs.Ytnlhigfglfahiaa
theorem BoundsOf_ok {N : Nat} (hN : 10000000000 ≤ N) {l : List TRect} (hne : l ≠ []) (hl : l.length ≤ 100000000) (hok : ∀ r ∈ l, r.X0 < r.X1 ∧ r.Y0 < r.Y1) : ∃ r, F_etchhouseref1_BoundsOf N l = some r ∧ IsBnd (fun x y => InR x y l) r := by
  obtain ⟨a, t, hat⟩ : ∃ a t, l = a :: t := by cases l with | nil => exact absurd rfl hne | cons b t => exact ⟨b, t, rfl⟩
  have ha : a ∈ l := by rw [hat]; simp
  have loop : ∀ (suf pre : List TRect) (m : Nat) (x0 y0 x1 y1 : Int), l = pre ++ suf → suf.length < m → (∀ r ∈ pre, x0 ≤ r.X0 ∧ y0 ≤ r.Y0 ∧ r.X1 ≤ x1 ∧ r.Y1 ≤ y1) → (∃ r ∈ l, x0 = r.X0) → (∃ r ∈ l, y0 = r.Y0) → (∃ r ∈ l, x1 = r.X1) → (∃ r ∈ l, y1 = r.Y1) →
      ∃ q : TRect, F_etchhouseref1_BoundsOf_L1 l m x0 y0 x1 y1 pre.length = some q ∧ (∀ r ∈ l, q.X0 ≤ r.X0 ∧ q.Y0 ≤ r.Y0 ∧ r.X1 ≤ q.X1 ∧ r.Y1 ≤ q.Y1) ∧ (∃ r ∈ l, q.X0 = r.X0) ∧ (∃ r ∈ l, q.Y0 = r.Y0) ∧ (∃ r ∈ l, q.X1 = r.X1) ∧ (∃ r ∈ l, q.Y1 = r.Y1) := by
    intro suf
    induction suf with
    | nil =>
      intro pre m x0 y0 x1 y1 h1 h2 h3 h4 h5 h6 h7
      obtain ⟨m, rfl⟩ : ∃ k, m = k + 1 := ⟨m - 1, by omega⟩
      rw [F_etchhouseref1_BoundsOf_L1.eq_2, if_neg (by rw [h1]; simp)]
      exact ⟨⟨x0, y0, x1, y1⟩, rfl, fun r hr => h3 r (by rw [h1] at hr; simpa using hr), h4, h5, h6, h7⟩
    | cons r suf ih =>
      intro pre m x0 y0 x1 y1 h1 h2 h3 h4 h5 h6 h7
      obtain ⟨m, rfl⟩ : ∃ k, m = k + 1 := ⟨m - 1, by omega⟩
      have hpl : pre.length ≤ 100000000 := by rw [h1] at hl; simp at hl; omega
      have hid : idx l (pre.length : Int) = some r := by rw [h1]; exact idx_mid pre suf r
      have hr : r ∈ l := by rw [h1]; simp
      rw [F_etchhouseref1_BoundsOf_L1.eq_2, if_pos (by rw [h1]; exact lt_mid pre suf r), hid, Option.bind_some, Option.bind_some, Option.bind_some, Option.bind_some, up_mid pre r (by omega)]
      have mn : ∀ {x y : Int} {g : TRect → Int}, y = g r → (∃ r ∈ l, x = g r) → ∃ r ∈ l, min x y = g r := fun {x y g} e h => by
        by_cases k : x ≤ y
        · rw [Int.min_eq_left k]; exact h
        · rw [Int.min_eq_right (by omega)]; exact ⟨r, hr, e⟩
      have mx : ∀ {x y : Int} {g : TRect → Int}, y = g r → (∃ r ∈ l, x = g r) → ∃ r ∈ l, max x y = g r := fun {x y g} e h => by
        by_cases k : y ≤ x
        · rw [Int.max_eq_left k]; exact h
        · rw [Int.max_eq_right (by omega)]; exact ⟨r, hr, e⟩
      refine ih (pre ++ [r]) m _ _ _ _ (by rw [h1]; simp) (by simp at h2; omega) (fun s hs => ?_) (mn rfl h4) (mn rfl h5) (mx rfl h6) (mx rfl h7)
      rcases List.mem_append.1 hs with hs | hs
      · have := h3 s hs; omega
      · simp at hs; subst hs; omega
  obtain ⟨q, q1, q2, ⟨r1, hr1, q3⟩, ⟨r2, hr2, q4⟩, ⟨r3, hr3, q5⟩, ⟨r4, hr4, q6⟩⟩ := loop l [] N a.X0 a.Y0 a.X1 a.Y1 rfl (by omega) (by simp) ⟨a, ha, rfl⟩ ⟨a, ha, rfl⟩ ⟨a, ha, rfl⟩ ⟨a, ha, rfl⟩
  refine ⟨q, ?_, fun x y hxy => ?_, ?_, ?_, ?_, ?_⟩
  · unfold F_etchhouseref1_BoundsOf
    rw [show idx l 0 = some a by rw [hat]; rfl, Option.bind_some]
    exact q1
  · obtain ⟨r, hr, h1, h2⟩ := hxy
    have := q2 r hr; omega
  · have := hok r1 hr1; exact ⟨r1.Y0, r1, hr1, ⟨by omega, by omega⟩, by omega, by omega⟩
  · have := hok r3 hr3; exact ⟨r3.Y0, r3, hr3, ⟨by omega, by omega⟩, by omega, by omega⟩
  · have := hok r2 hr2; exact ⟨r2.X0, r2, hr2, ⟨by omega, by omega⟩, by omega, by omega⟩
  · have := hok r4 hr4; exact ⟨r4.X0, r4, hr4, ⟨by omega, by omega⟩, by omega, by omega⟩
end Go.Proofs.Ytnlhigfglfahiaa
namespace Go.Proofs.Ytnlhigfglfahiaa
theorem srtF_one {α : Type} {a : α} {c : α → α → Option Int} {k : Int} (h : c a a = some k) (hk : ¬ k < 0) : srtF [a] c = some [a] := by
  have hs : SortOk c [a] := ⟨by simp, fun x hx y hy => by simp at hx hy; subst hx hy; exact ⟨k, h⟩, fun x hx => by simp at hx; subst hx; simp [ltC, h]; omega, fun x hx y hy z hz h1 => by
    simp at hx hy; subst hx hy; simp [ltC, h] at h1; omega, fun x hx y hy z hz _ _ => by simp at hx hz; subst hx hz; simp [ltC, h]; omega⟩
  obtain ⟨m, hm⟩ := srtF_ok hs
  obtain ⟨_, hp, _⟩ := srtF_some hm
  rw [hm, List.perm_singleton.1 hp]
def r23 : TRect := ⟨0, 0, 2, 3⟩
theorem set23 (m : Nat) : F_shape_SetOf (m + 10) [r23] = some [⟨0, 3, [0, 2]⟩] := by
  have h1 : srtF [r23] (fun z0 z1 => F_shape_SetOf_1 z0 z1) = some [r23] := srtF_one (k := 0) rfl (by decide)
  have h2 : srtF [r23] (fun z0 z1 => F_shape_stretches_1 z0 z1) = some [r23] := srtF_one (k := 0) rfl (by decide)
  have h3 : srtI [0, 3] = some [0, 3] := by
    unfold srtI
    rw [if_pos (by simp), List.mergeSort_of_pairwise (by simp)]
  have h4 : F_shape_stretches [r23] = some ([0, 2], [r23]) := by
    unfold F_shape_stretches
    rw [h2]; rfl
  have h5 : cpI [0, 3] = some [0, 3] := rfl
  unfold F_shape_SetOf F_slices_Clone_Rect
  rw [show apd ([] : List TRect) [r23] = some [r23] from rfl, Option.bind_some, Option.bind_some, h1, Option.bind_some, F_shape_SetOf_L1.eq_2, show apd ([] : List Int) [r23.Y0, r23.Y1] = some [0, 3] from rfl, Option.bind_some, F_shape_SetOf_L1.eq_1, h3, Option.bind_some, h5, Option.bind_some,
    F_shape_SetOf_L4.eq_2, if_pos (by decide), show F_slices_DeleteFunc_Rect (m + 10) ([] : List TRect) (fun z0 => F_shape_SetOf_2 z0 [0, 3] 0) = some [] from rfl, Option.bind_some, F_shape_SetOf_L5.eq_2]
  show ((some (decide (r23.Y0 ≤ 0))).bind fun g261 => if g261 then _ else _) = _
  rw [Option.bind_some, if_pos (by decide)]
  show F_shape_SetOf_L5 [r23] [0, 3] 0 [] (F_shape_SetOf_L4 (m + 10) [r23] [0, 3] (m + 9)) (m + 9) [r23] 1 = _
  rw [F_shape_SetOf_L5.eq_2]
  show (((F_shape_stretches [r23]).bind fun y270 => (F_shape_Set__push [] (TBand.mk 0 3 y270.1)).bind fun y274 => F_shape_SetOf_L4 (m + 10) [r23] [0, 3] (m + 9) 1 y274 y270.2 1)) = _
  rw [h4]
  show F_shape_SetOf_L4 (m + 10) [r23] [0, 3] (m + 9) 1 [⟨0, 3, [0, 2]⟩] [r23] 1 = _
  rw [F_shape_SetOf_L4.eq_2, if_neg (by decide)]
theorem awake1_ok {N : Nat} (hN : 10 ≤ N) : F_etchhouselaw1_awake N = some true := by
  obtain ⟨m, rfl⟩ : ∃ m, N = m + 10 := ⟨N - 10, by omega⟩
  unfold F_etchhouselaw1_awake F_shape_Area F_shape_CheckRegion
  rw [show F_shape_CheckRects [TRect.mk 0 0 2 3] = some 0 from rfl, Option.bind_some, if_neg (by decide), F_shape_CheckRegion_L1.eq_2, if_neg (by decide)]
  have := set23 m
  unfold r23 at this
  rw [this]
  rfl
end Go.Proofs.Ytnlhigfglfahiaa
namespace Go.Proofs.Ytnlhigfglfahiaa
section
variable {N : Nat} (hN : 10000000000 ≤ N)
include hN
theorem PiecesR_ok (r : List TRect) : ∃ v, F_etchhouseref1_Pieces N r = some v ∧ PiecesOk r v := by
  unfold F_etchhouseref1_Pieces
  rw [CheckRegionR_ok hN, Option.bind_some]
  by_cases hr : regionErr r = 0
  · obtain ⟨_, hl, hok, hrr⟩ := regionErr_ok hr
    obtain ⟨b1, b2⟩ := setB_ok (ROk.ne hok)
    obtain ⟨P, p1, p2, p3⟩ := PiecesOf_ok hN b1 (by rw [hrr]; omega) (fun q hq => (hok q (by rw [hrr] at hq; exact hq)).r9)
    rw [hrr] at p1 p3
    rw [if_neg (by simpa using hr), p1, Option.bind_some]
    exact ⟨_, rfl, fun h => absurd hr h, fun _ => ⟨P, p2.congr b2, rfl, by omega⟩⟩
  · rw [if_pos (by simpa using hr)]
    exact ⟨_, rfl, fun _ => rfl, fun h => absurd h hr⟩
omit hN in
theorem HolesR_loop {a : TRect} : ∀ (suf pre : List (List Bd)) (m : Nat) (out : List (List TRect)) (g : List Bd → Bool), (∀ P ∈ suf, ∃ q, F_etchhouseref1_BoundsOf N (rectsB P) = some q ∧ (eqTRect q a = true ↔ g P = false)) → (pre ++ suf).length ≤ 20000000 → out.length + suf.length ≤ 4294967296 → suf.length < m →
    F_etchhouseref1_HolesOf_L1 N a ((pre ++ suf).map rectsB) m out (pre.length : Int) = some (out ++ (suf.filter g).map rectsB) := by
  intro suf
  induction suf with
  | nil =>
    intro pre m out g _ _ _ hm
    obtain ⟨m, rfl⟩ : ∃ k, m = k + 1 := ⟨m - 1, by omega⟩
    rw [F_etchhouseref1_HolesOf_L1.eq_2, if_neg (by simp)]
    simp
  | cons P suf ih =>
    intro pre m out g hb hl ho hm
    obtain ⟨m, rfl⟩ : ∃ k, m = k + 1 := ⟨m - 1, by omega⟩
    simp only [List.length_cons, List.length_append] at hl ho hm
    obtain ⟨q, q1, q2⟩ := hb P (by simp)
    have hge : idx ((pre ++ P :: suf).map rectsB) (pre.length : Int) = some (rectsB P) := by
      unfold idx
      rw [if_pos (Int.natCast_nonneg _), Int.toNat_natCast]
      simp
    have hw : w64 ((pre.length : Int) + 1) = ((pre ++ [P]).length : Int) := by rw [w64_eq (by omega) (by omega)]; simp
    rw [F_etchhouseref1_HolesOf_L1.eq_2, if_pos (by simp; omega), hge, Option.bind_some, q1, Option.bind_some]
    have hs : pre ++ P :: suf = (pre ++ [P]) ++ suf := by simp
    cases hg : g P with
    | false =>
      rw [if_neg (by rw [q2.2 hg]; simp), hw, hs, ih (pre ++ [P]) m out g (fun Q hQ => hb Q (by simp [hQ])) (by simp; omega) (by omega) (by omega), List.filter_cons_of_neg (by simp [hg])]
    | true =>
      have : eqTRect q a = false := by
        rw [Bool.eq_false_iff]
        intro h
        have := q2.1 h
        rw [hg] at this; cases this
      rw [if_pos (by rw [this]; rfl), Option.bind_some, apd_ok (by simp; omega), Option.bind_some, hw, hs, ih (pre ++ [P]) m _ g (fun Q hQ => hb Q (by simp [hQ])) (by simp; omega) (by simp; omega) (by omega), List.filter_cons_of_pos hg]
      simp
theorem HolesR_ok (r : List TRect) : ∃ v, F_etchhouseref1_Holes N r = some v ∧ HolesOk r v := by
  unfold F_etchhouseref1_Holes
  rw [CheckRegionR_ok hN, Option.bind_some]
  by_cases hr : regionErr r = 0
  · rw [if_neg (by simpa using hr)]
    unfold F_etchhouseref1_HolesOf
    by_cases hnil : r = []
    · subst hnil
      rw [if_pos (by simp), Option.bind_some]
      exact ⟨_, rfl, fun h => absurd hr h, fun _ => rfl, fun _ h => absurd rfl h⟩
    · obtain ⟨_, hl, hok, hrr⟩ := regionErr_ok hr
      obtain ⟨b1, b2⟩ := setB_ok (ROk.ne hok)
      have hlen : r.length ≠ 0 := fun e => hnil (List.eq_nil_of_length_eq_zero e)
      obtain ⟨a, a1, a2⟩ := BoundsOf_ok hN hnil (by omega) (ROk.ne hok)
      have a2' : IsBnd (fun x y => InB x y (setB r)) a := ⟨fun x y hx => a2.all x y ((b2 x y).1 hx), a2.x0.imp fun y hy => (b2 _ _).2 hy, a2.x1.imp fun y hy => (b2 _ _).2 hy, a2.y0.imp fun y hy => (b2 _ _).2 hy, a2.y1.imp fun y hy => (b2 _ _).2 hy⟩
      have hT := tight_of a2'
      have hab : ((-1000000 ≤ a.X0 ∧ a.X0 < a.X1) ∧ (-1000000 ≤ a.Y0 ∧ a.Y0 < a.Y1)) ∧ a.X1 ≤ 1000000 ∧ a.Y1 ≤ 1000000 := by
        obtain ⟨y0, k0⟩ := a2.x0
        obtain ⟨y1, k1⟩ := a2.x1
        obtain ⟨x0, k2⟩ := a2.y0
        obtain ⟨x1, k3⟩ := a2.y1
        have q0 := InR_lim hok k0
        have q1 := InR_lim hok k1
        have q2 := InR_lim hok k2
        have q3 := InR_lim hok k3
        have w0 := a2.all _ _ k0
        have w2 := a2.all _ _ k2
        omega
      have hwd : F_etchhouseref1_wider a 1 = some (widen 1 a) := by
        unfold F_etchhouseref1_wider widen
        rw [w64_eq (by omega) (by omega), w64_eq (by omega) (by omega), w64_eq (by omega) (by omega), w64_eq (by omega) (by omega)]
      rw [if_neg (by simp; omega), a1, Option.bind_some, hwd, Option.bind_some]
      have hwn : ∀ q ∈ [widen 1 a], q.X0 < q.X1 ∧ q.Y0 < q.Y1 := fun q hq => by
        rw [List.mem_singleton] at hq
        subst hq
        simp only [widen]; omega
      obtain ⟨C, c1, c2, c3, c4, c5⟩ := combined_ok (w := 3) hN hwn (ROk.ne hok) (by simp; omega)
      have hCt : (rectsB C).length ≤ 20000000 := by
        have h1 := rectsB_len (R := 4002) (l := C) fun c hc => by have := c4 c hc; simp at this; omega
        have h2 : C.length ≤ 4002 := by simp at c3; omega
        have := Nat.mul_le_mul_left 4002 h2
        omega
      have hCo : ∀ x y, InB x y C ↔ Out (setB r) (a.X0 - 1) (a.Y0 - 1) (a.X1 + 1) (a.Y1 + 1) x y := fun x y => by
        rw [c2]
        unfold KeptR Out
        have hin : InR x y [widen 1 a] ↔ (a.X0 - 1 ≤ x ∧ x < a.X1 + 1) ∧ (a.Y0 - 1 ≤ y ∧ y < a.Y1 + 1) := by unfold InR; simp [widen]
        rw [b2, ← hin]
        constructor
        · rintro ⟨p, q, h1, h2, h3⟩
          cases p <;> cases q <;> simp [wayK] at h3
          exact ⟨h1.1 rfl, fun hx => by have := h2.2 hx; cases this⟩
        · rintro ⟨h1, h2⟩
          exact ⟨true, false, ⟨fun _ => h1, fun _ => rfl⟩, ⟨fun h => (by cases h), fun h => absurd h h2⟩, rfl⟩
      have hC9 : ∀ q ∈ rectsB C, R9 q := r9_of_lim fun q hq => by
        have := rectsB_lim c1 (m := 1000001) (fun x y hx => by have := ((hCo x y).1 hx).1; omega) q hq
        omega
      obtain ⟨P, p1, p2, p3⟩ := PiecesOf_ok hN c1 hCt hC9
      have p2' := p2.congr hCo
      rw [c5 (by omega), Option.bind_some, p1, Option.bind_some]
      have hloop := HolesR_loop (a := widen 1 a) P [] N [] (fun b => decide (fst b ≠ (a.X0 - 1, a.Y0 - 1))) (fun Q hQ => by
        obtain ⟨o1, o2⟩ := p2.ok Q hQ
        have hQn : rectsB Q ≠ [] := by
          obtain ⟨q, l, h, _⟩ := rectsB_head o1 o2
          rw [h]; simp
        have hQl := p2.len c1 hQ
        obtain ⟨q, q1, q2⟩ := BoundsOf_ok hN hQn (by omega) (rectsB_ne o1)
        refine ⟨q, q1, ?_⟩
        have hin : ∀ x y, InR x y (rectsB Q) ↔ InB x y Q := InR_rectsB o1
        rw [eqTRect_iff, decide_eq_false_iff_not, Classical.not_not, p2'.outer hT.box hQ]
        constructor
        · intro e
          obtain ⟨y, hy⟩ := q2.x0
          have h1 := (hin _ _).1 hy
          have h2 := (p2'.sub hQ h1).1
          rw [e] at h1 h2
          simp only [widen] at h1 h2
          exact ⟨_, y, ⟨h2, .inl rfl⟩, h1⟩
        · rintro ⟨x, y, hring, hx⟩
          have hne := hT.box.ne
          have all : ∀ u v, Ring (a.X0 - 1) (a.Y0 - 1) (a.X1 + 1) (a.Y1 + 1) u v → InR u v (rectsB Q) := fun u v huv => (hin u v).2 ((p2'.reach hQ (p := (x, y)) hx (u, v)).2 ((hT.box.hangs (p := (x, y)) hring).symm.trans (hT.box.hangs (p := (u, v)) huv)))
          have k1 := q2.all _ _ (all (a.X0 - 1) (a.Y0 - 1) (by unfold Ring; omega))
          have k2 := q2.all _ _ (all a.X1 a.Y1 (by unfold Ring; omega))
          obtain ⟨y0, m0⟩ := q2.x0
          obtain ⟨y1, m1⟩ := q2.x1
          obtain ⟨x0, m2⟩ := q2.y0
          obtain ⟨x1, m3⟩ := q2.y1
          have n0 := (p2'.sub hQ ((hin _ _).1 m0)).1
          have n1 := (p2'.sub hQ ((hin _ _).1 m1)).1
          have n2 := (p2'.sub hQ ((hin _ _).1 m2)).1
          have n3 := (p2'.sub hQ ((hin _ _).1 m3)).1
          obtain ⟨z0, z1, z2, z3⟩ := q
          simp only [widen, TRect.mk.injEq] at *
          omega) (by simp; omega) (by simp; omega) (by omega)
      have hloop' : F_etchhouseref1_HolesOf_L1 N (widen 1 a) (P.map rectsB) N [] 0 = _ := hloop
      rw [hloop', Option.bind_some, List.nil_append]
      refine ⟨_, rfl, fun h => absurd hr h, fun h => absurd h hnil, fun _ _ => ⟨_, ⟨_, _, _, _, P, hT, p2', rfl⟩, rfl, ?_⟩⟩
      have := List.length_filter_le (fun b => decide (fst b ≠ (a.X0 - 1, a.Y0 - 1))) P
      omega
  · rw [if_pos (by simpa using hr)]
    refine ⟨_, rfl, fun _ => rfl, fun h => ?_, fun h => absurd h hr⟩
    subst h
    exact absurd regionErr_nil hr
omit hN in
theorem EqF_ok (l : List (List TRect)) : F_slices_EqualFunc_Rect__Rect l l = some true := by
  unfold F_slices_EqualFunc_Rect__Rect
  rw [if_neg (by simp)]
  have key : ∀ (suf pre : List (List TRect)), l = pre ++ suf → F_slices_EqualFunc_Rect__Rect_L1 l suf pre.length = some true := by
    intro suf
    induction suf with
    | nil => intro pre _; rw [F_slices_EqualFunc_Rect__Rect_L1.eq_1]
    | cons a suf ih =>
      intro pre h
      obtain ⟨e, e1, e2⟩ := EqualR_ok a a
      have := ih (pre ++ [a]) (by rw [h]; simp)
      rw [F_slices_EqualFunc_Rect__Rect_L1.eq_2, h, idx_mid, Option.bind_some, e1, Option.bind_some, if_neg (by rw [e2.2 rfl]; simp), ← h]
      simpa using this
  exact key l [] rfl
/-- PiecesMatchSpec. -/
theorem piecesMatch_ok (r : List TRect) : F_etchhouselaw1_PiecesMatchSpec N r = some true := by
  obtain ⟨v1, p1, p2⟩ := Pieces_ok hN r
  obtain ⟨v2, q1, q2⟩ := PiecesR_ok hN r
  obtain ⟨v3, g1, g2⟩ := Holes_ok hN r
  obtain ⟨v4, k1, k2⟩ := HolesR_ok hN r
  have e1 := q2.uniq p2
  have e2 := k2.uniq g2
  subst e1 e2
  unfold F_etchhouselaw1_PiecesMatchSpec
  rw [p1, Option.bind_some, q1, Option.bind_some, g1, Option.bind_some, k1, Option.bind_some, EqF_ok, Option.bind_some, if_pos (by simp), EqF_ok, Option.bind_some, Option.bind_some, if_pos (by simp), awake1_ok (by omega)]; rfl
end
theorem PiecesMatch_plain (r : List TRect) {X : Prop} (_ : X) : ∃ N, F_etchhouselaw1_PiecesMatchSpec N r = some true := ⟨10000000000, piecesMatch_ok (Nat.le_refl _) r⟩
end Go.Proofs.Ytnlhigfglfahiaa
