/- Two sets of bands, merged: the program's Merge. Plain Lean about the plain functions. -/
import Derived.Test.YtfdglihcpfpefaaGreatU0
namespace Go.Proofs.YtfdglihcpfpefaaGreat
/-- Bands that end behind a height. -/
def dropB (y : Int) : List Bd → List Bd
  | [] => []
  | b :: l => if b.2.1 ≤ y then dropB y l else b :: l
theorem dropB_sub (y : Int) : ∀ l : List Bd, ∀ b ∈ dropB y l, b ∈ l
  | [], b, h => h
  | c :: l, b, h => by
    unfold dropB at h
    split at h
    · exact List.mem_cons_of_mem _ (dropB_sub y l b h)
    · exact h
theorem dropB_len (y : Int) : ∀ l : List Bd, (dropB y l).length ≤ l.length
  | [] => by simp [dropB]
  | c :: l => by
    unfold dropB
    split
    · have := dropB_len y l; simp; omega
    · simp
theorem dropB_can (y : Int) : ∀ {l : List Bd} {lo : Int}, CanB lo l → ∃ lo, CanB lo (dropB y l)
  | [], lo, h => ⟨lo, h⟩
  | c :: l, lo, h => by
    unfold dropB
    split
    · exact dropB_can y h.2.2.2.2
    · exact ⟨lo, h⟩
theorem dropB_row {y z : Int} (hz : y ≤ z) : ∀ l : List Bd, rowAt (dropB y l) z = rowAt l z
  | [] => rfl
  | c :: l => by
    unfold dropB
    split
    · rw [dropB_row hz l]
      show _ = if c.1 ≤ z ∧ z < c.2.1 then c.2.2 else rowAt l z
      rw [if_neg (by omega)]
    · rfl
theorem dropB_head {y : Int} : ∀ {l : List Bd} {b : Bd}, (dropB y l).head? = some b → y < b.2.1
  | [], b, h => by simp [dropB] at h
  | c :: l, b, h => by
    unfold dropB at h
    split at h
    · exact dropB_head h
    · simp at h; subst h; omega
/-- What bands have at a height before which none of them ends; and where this changes next. -/
def rowH : List Bd → Int → List (Int × Int)
  | [], _ => []
  | b :: _, y => if y < b.1 then [] else b.2.2
def nextH (e : Int) : List Bd → Int → Int
  | [], _ => e
  | b :: _, y => if y < b.1 then min e b.1 else min e b.2.1
theorem at_ok (l : List Bd) (y e : Int) : F_shape_Set__at (l.map toP) y e = some (flatS (rowH l y), nextH e l y) := by
  unfold F_shape_Set__at
  cases l with
  | nil => rfl
  | cons b l =>
    rw [if_neg (by simp; omega), List.map_cons, show idx (toP b :: l.map toP) 0 = some (toP b) from rfl, Option.bind_some]
    simp only [rowH, nextH]
    by_cases h : y < b.1
    · rw [if_pos (decide_eq_true (show y < (toP b).Y0 from h)), if_pos h, if_pos h, Option.bind_some]; rfl
    · rw [if_neg (show ¬ decide (y < (toP b).Y0) = true from by rw [decide_eq_true_eq]; exact h), if_neg h, if_neg h, Option.bind_some, Option.bind_some]; rfl
theorem rowH_ok {l : List Bd} {lo y e : Int} (h : CanB lo l) (hh : ∀ b, l.head? = some b → y < b.2.1) (hy : y < e) : y < nextH e l y ∧ nextH e l y ≤ e ∧ (∀ z, y ≤ z → z < nextH e l y → rowAt l z = rowH l y) ∧ (nextH e l y = e ∨ ∃ b ∈ l, nextH e l y = b.1 ∨ nextH e l y = b.2.1) := by
  cases l with
  | nil => exact ⟨hy, Int.le_refl _, fun _ _ _ => rfl, .inl rfl⟩
  | cons b l =>
    have hb := hh b rfl
    simp only [rowH, nextH]
    by_cases h1 : y < b.1
    · rw [if_pos h1, if_pos h1]
      refine ⟨by omega, by omega, fun z k1 k2 => ?_, ?_⟩
      · show (if b.1 ≤ z ∧ z < b.2.1 then b.2.2 else rowAt l z) = []
        rw [if_neg (by omega)]
        exact rowAt_lo h.2.2.2.2 (by have := h.2.1; omega)
      · by_cases k : e ≤ b.1
        · exact .inl (by omega)
        · exact .inr ⟨b, by simp, .inl (by omega)⟩
    · rw [if_neg h1, if_neg h1]
      refine ⟨by omega, by omega, fun z k1 k2 => ?_, ?_⟩
      · show (if b.1 ≤ z ∧ z < b.2.1 then b.2.2 else rowAt l z) = b.2.2
        rw [if_pos (by omega)]
      · by_cases k : e ≤ b.2.1
        · exact .inl (by omega)
        · exact .inr ⟨b, by simp, .inr (by omega)⟩
section
variable {N : Nat} {f : Bool → Bool → Option Bool} {e : Int} {out : List TBand} {y : Int} {K : List TBand → List TBand → List TBand → Int → Option (List TBand)}
/-- What the merge does at a height. -/
def bodyM (N : Nat) (f : Bool → Bool → Option Bool) (e : Int) (out : List TBand) (y : Int) (K : List TBand → List TBand → List TBand → Int → Option (List TBand)) (a b : List Bd) : Option (List TBand) :=
  (F_shape_line N (flatS (rowH a y)) (flatS (rowH b y)) f).bind fun y344 =>
  (F_shape_Set__push out (TBand.mk y (min (nextH e a y) (nextH e b y)) y344)).bind fun y348 =>
  K (a.map toP) (b.map toP) y348 (min (nextH e a y) (nextH e b y))
theorem L11_ok (a : List Bd) : ∀ (b : List Bd) (m : Nat), b.length < m → F_shape_Merge_L11 N f e out y K (a.map toP) m (b.map toP) = bodyM N f e out y K a (dropB y b)
  | b, 0, h => absurd h (Nat.not_lt_zero _)
  | [], m + 1, h => by
    rw [F_shape_Merge_L11.eq_2, if_neg (by simp), Option.bind_some, if_neg (by simp), at_ok, Option.bind_some, at_ok, Option.bind_some]; rfl
  | c :: b, m + 1, h => by
    simp only [List.length_cons] at h
    rw [F_shape_Merge_L11.eq_2, if_pos (by simp), List.map_cons, show idx (toP c :: b.map toP) 0 = some (toP c) from rfl, Option.bind_some, Option.bind_some]
    unfold dropB
    by_cases hc : c.2.1 ≤ y
    · rw [if_pos (decide_eq_true (show (toP c).Y1 ≤ y from hc)), if_pos hc, cut_tail, Option.bind_some]
      exact L11_ok a b m (by omega)
    · rw [if_neg (show ¬ decide ((toP c).Y1 ≤ y) = true from by rw [decide_eq_true_eq]; exact hc), if_neg hc, ← List.map_cons, at_ok, Option.bind_some, at_ok, Option.bind_some]; rfl
theorem L10_ok {b : List Bd} (hb : b.length < N) : ∀ (a : List Bd) (m : Nat), a.length < m → F_shape_Merge_L10 N f e (b.map toP) out y K m (a.map toP) = bodyM N f e out y K (dropB y a) (dropB y b)
  | a, 0, h => absurd h (Nat.not_lt_zero _)
  | [], m + 1, h => by
    rw [F_shape_Merge_L10.eq_2, if_neg (by simp), Option.bind_some, if_neg (by simp)]
    exact L11_ok [] b N hb
  | c :: a, m + 1, h => by
    simp only [List.length_cons] at h
    rw [F_shape_Merge_L10.eq_2, if_pos (by simp), List.map_cons, show idx (toP c :: a.map toP) 0 = some (toP c) from rfl, Option.bind_some, Option.bind_some]
    have hd : dropB y (c :: a) = if c.2.1 ≤ y then dropB y a else c :: a := rfl
    rw [hd]
    by_cases hc : c.2.1 ≤ y
    · rw [if_pos (decide_eq_true (show (toP c).Y1 ≤ y from hc)), if_pos hc, cut_tail, Option.bind_some]
      exact L10_ok hb a m (by omega)
    · rw [if_neg (show ¬ decide ((toP c).Y1 ≤ y) = true from by rw [decide_eq_true_eq]; exact hc), if_neg hc, ← List.map_cons]
      exact L11_ok (c :: a) b N hb
end
/-- Heights behind one. -/
def aft (ev : List Int) (y : Int) : Nat := (ev.filter fun z => decide (y < z)).length
theorem aft_lt {y z : Int} (hyz : y < z) : ∀ {ev : List Int}, z ∈ ev → aft ev z < aft ev y := by
  have mono : ∀ ev : List Int, aft ev z ≤ aft ev y := by
    intro ev
    induction ev with
    | nil => simp [aft]
    | cons a ev ih =>
      unfold aft at *
      rw [List.filter_cons, List.filter_cons]
      by_cases h1 : z < a
      · rw [if_pos (by simpa using h1), if_pos (by simp; omega)]; simp; exact ih
      · rw [if_neg (by simpa using h1)]
        split
        · simp; omega
        · exact ih
  intro ev
  induction ev with
  | nil => intro h; simp at h
  | cons a ev ih =>
    intro h
    have hm := mono ev
    unfold aft at *
    rw [List.filter_cons, List.filter_cons]
    rcases List.mem_cons.1 h with rfl | h
    · rw [if_neg (by simp), if_pos (by simpa using hyz)]
      simp; omega
    · have := ih h
      by_cases h1 : z < a
      · rw [if_pos (by simpa using h1), if_pos (by simp; omega)]; simp; exact this
      · rw [if_neg (by simpa using h1)]
        split
        · simp; omega
        · exact this
theorem aft_len (ev : List Int) (y : Int) : aft ev y ≤ ev.length := List.length_filter_le _ _
/-- A square is kept, by whether it is in the one and in the other one. -/
def Kept (k : Bool → Bool → Bool) (A B : List Bd) (x y : Int) : Prop := ∃ p q, (p = true ↔ InB x y A) ∧ (q = true ↔ InB x y B) ∧ k p q = true
theorem merge_go {k : Bool → Bool → Bool} {f : Bool → Bool → Option Bool} (hf : ∀ a b, f a b = some (k a b)) (hk : k false false = false) {N : Nat} (hN : 10000000000 ≤ N) {A B : List Bd} {R1 R2 : Nat} (hrA : ∀ b ∈ A, (∃ lo, Can lo b.2.2) ∧ b.2.2.length ≤ R1) (hrB : ∀ b ∈ B, (∃ lo, Can lo b.2.2) ∧ b.2.2.length ≤ R2) (hR : R1 + R2 ≤ 500000000) (hAl : A.length ≤ 500000000) (hBl : B.length ≤ 500000000) {ev : List Int} {e lo : Int} (hev : e ∈ ev) (hevA : ∀ b ∈ A, b.1 ∈ ev ∧ b.2.1 ∈ ev) (hevB : ∀ b ∈ B, b.1 ∈ ev ∧ b.2.1 ∈ ev) :
    ∀ (m : Nat) (a b out : List Bd) (y : Int), (∃ lo, CanB lo a) → (∃ lo, CanB lo b) → (∀ c ∈ a, c ∈ A) → (∀ c ∈ b, c ∈ B) → a.length ≤ A.length → b.length ≤ B.length → (∀ z, y ≤ z → rowAt a z = rowAt A z) → (∀ z, y ≤ z → rowAt b z = rowAt B z) → CanB lo out → lo ≤ y → (∀ c ∈ out, c.2.1 ≤ y ∧ (∃ lo, Can lo c.2.2) ∧ c.2.2.length ≤ R1 + R2) → (∀ x z, InB x z out ↔ z < y ∧ Kept k A B x z) → aft ev y < m → out.length + aft ev y ≤ 900000000 → (∀ x z, e ≤ z → ¬ Kept k A B x z) →
    ∃ C, F_shape_Merge_L9 N f e m (a.map toP) (b.map toP) (out.map toP) y = some (C.map toP) ∧ BOk C ∧ (∀ x z, InB x z C ↔ Kept k A B x z) ∧ C.length ≤ out.length + aft ev y ∧ ∀ c ∈ C, c.2.2.length ≤ R1 + R2
  | 0, _, _, _, _, _, _, _, _, _, _, _, _, _, _, _, _, h, _, _ => absurd h (Nat.not_lt_zero _)
  | m + 1, a, b, out, y, ⟨la, ca⟩, ⟨lb, cb⟩, sa, sb, hal, hbl, ra, rb, co, hlo, ho, hin, hm, hl, hend => by
    by_cases hye : y < e
    · rw [F_shape_Merge_L9.eq_2, if_pos (by simpa using hye), L10_ok (by omega) a N (by omega)]
      obtain ⟨la', ca'⟩ := dropB_can y ca
      obtain ⟨lb', cb'⟩ := dropB_can y cb
      have sa' : ∀ c ∈ dropB y a, c ∈ A := fun c hc => sa c (dropB_sub y a c hc)
      have sb' : ∀ c ∈ dropB y b, c ∈ B := fun c hc => sb c (dropB_sub y b c hc)
      obtain ⟨na, na2, wa, va⟩ := rowH_ok (e := e) ca' (fun c hc => dropB_head hc) hye
      obtain ⟨nb, nb2, wb, vb⟩ := rowH_ok (e := e) cb' (fun c hc => dropB_head hc) hye
      have rowcan : ∀ {l : List Bd} {L : List Bd} {R : Nat}, (∀ b ∈ L, (∃ lo, Can lo b.2.2) ∧ b.2.2.length ≤ R) → (∀ c ∈ l, c ∈ L) → (∃ lo, Can lo (rowH l y)) ∧ (rowH l y).length ≤ R := fun {l L R} h1 h2 => by
        cases l with
        | nil => exact ⟨⟨0, trivial⟩, Nat.zero_le _⟩
        | cons c l =>
          simp only [rowH]
          split
          · exact ⟨⟨0, trivial⟩, Nat.zero_le _⟩
          · exact h1 c (h2 c (by simp))
      obtain ⟨ra1, ra2⟩ := rowcan hrA sa'
      obtain ⟨rb1, rb2⟩ := rowcan hrB sb'
      obtain ⟨C0, k1, k2, k3, k4⟩ := line_ok hf hk (N := N) ra1 rb1 (by omega) (by omega)
      unfold bodyM
      rw [k1, Option.bind_some]
      generalize hn : min (nextH e (dropB y a) y) (nextH e (dropB y b) y) = n
      have hyn : y < n := by omega
      have hne : n ≤ e := by omega
      have hnev : n ∈ ev := by
        have key : ∀ {l L : List Bd}, (∀ c ∈ l, c ∈ L) → (∀ b ∈ L, b.1 ∈ ev ∧ b.2.1 ∈ ev) → (nextH e l y = e ∨ ∃ b ∈ l, nextH e l y = b.1 ∨ nextH e l y = b.2.1) → nextH e l y ∈ ev := fun h1 h2 h3 => by
          rcases h3 with h | ⟨c, hc, h | h⟩
          · rw [h]; exact hev
          · rw [h]; exact (h2 c (h1 c hc)).1
          · rw [h]; exact (h2 c (h1 c hc)).2
        have e1 := key sa' hevA va
        have e2 := key sb' hevB vb
        rcases Int.le_total (nextH e (dropB y a) y) (nextH e (dropB y b) y) with h | h
        · rw [← hn, Int.min_eq_left h]; exact e1
        · rw [← hn, Int.min_eq_right h]; exact e2
      have haft := aft_lt hyn hnev
      have hp : F_shape_Set__push (out.map toP) (TBand.mk y n (flatS C0)) = some ((pushB out (y, n, C0)).map toP) := push_ok (l := out) (b := (y, n, C0)) (by omega) hyn
      rw [hp, Option.bind_some]
      obtain ⟨p1, p2, p3⟩ := co.push (b := (y, n, C0)) (fun c hc => (ho c hc).1) hlo hyn
      have hpl := pushB_len out (y, n, C0)
      have hkept : ∀ x z, y ≤ z → z < n → (InS x C0 ↔ Kept k A B x z) := fun x z z1 z2 => by
        rw [k4 x, ← wa z z1 (by omega), ← wb z z1 (by omega), dropB_row z1, dropB_row z1, ra z z1, rb z z1]
        exact Iff.rfl
      obtain ⟨C, i1, i2, i3, i4, i5⟩ := merge_go hf hk hN hrA hrB hR hAl hBl hev hevA hevB m (dropB y a) (dropB y b) (pushB out (y, n, C0)) n ⟨la', ca'⟩ ⟨lb', cb'⟩ sa' sb' (Nat.le_trans (dropB_len y a) hal) (Nat.le_trans (dropB_len y b) hbl) (fun z hz => by rw [dropB_row (by omega), ra z (by omega)]) (fun z hz => by rw [dropB_row (by omega), rb z (by omega)]) p1 (by omega) (fun c hc => by
        obtain ⟨q1, q2 | ⟨d, q2, q3⟩⟩ := p2 c hc
        · exact ⟨q1, by rw [q2]; exact k2, by rw [q2]; show C0.length ≤ _; omega⟩
        · exact ⟨q1, by rw [q3]; exact (ho d q2).2.1, by rw [q3]; exact (ho d q2).2.2⟩) (fun x z => by
        have h1 : InB x z (pushB out (y, n, C0)) ↔ InS x (if y ≤ z ∧ z < n then C0 else rowAt out z) := by
          unfold InB
          rw [p3 z]
        rw [h1]
        by_cases hz : y ≤ z ∧ z < n
        · rw [if_pos hz, hkept x z hz.1 hz.2]
          exact ⟨fun h => ⟨hz.2, h⟩, fun h => h.2⟩
        · rw [if_neg hz]
          refine (hin x z).trans ⟨fun h => ⟨by omega, h.2⟩, fun h => ⟨by omega, h.2⟩⟩) (by omega) (by omega) hend
      exact ⟨C, i1, i2, i3, by omega, i5⟩
    · rw [F_shape_Merge_L9.eq_2, if_neg (by simpa using hye)]
      refine ⟨out, rfl, ⟨⟨lo, co⟩, fun c hc => (ho c hc).2.1⟩, fun x z => ?_, by omega, fun c hc => (ho c hc).2.2⟩
      rw [hin]
      exact ⟨fun h => h.2, fun h => ⟨by
        rcases Int.lt_or_le z y with hz | hz
        · exact hz
        · exact absurd h (hend x z (by omega)), h⟩⟩
/-- The merge of two sets. -/
theorem Merge_ok {k : Bool → Bool → Bool} {f : Bool → Bool → Option Bool} (hf : ∀ a b, f a b = some (k a b)) (hk : k false false = false) {N : Nat} (hN : 10000000000 ≤ N) {A B : List Bd} {R1 R2 : Nat} (hA : BOk A) (hB : BOk B) (hrA : ∀ b ∈ A, b.2.2.length ≤ R1) (hrB : ∀ b ∈ B, b.2.2.length ≤ R2) (hR : R1 + R2 ≤ 500000000) (hl : A.length + B.length ≤ 200000000) :
    ∃ C, F_shape_Merge N (A.map toP) (B.map toP) f = some (C.map toP) ∧ BOk C ∧ (∀ x z, InB x z C ↔ Kept k A B x z) ∧ C.length ≤ 2 * A.length + 2 * B.length + 1 ∧ ∀ c ∈ C, c.2.2.length ≤ R1 + R2 := by
  have hnot : ∀ {A B : List Bd} {x z : Int}, ¬ InB x z A → ¬ InB x z B → ¬ Kept k A B x z := fun h1 h2 ⟨p, q, hp, hq, h⟩ => by
    have e1 : p = false := by rw [Bool.eq_false_iff]; exact fun h => h1 (hp.1 h)
    have e2 : q = false := by rw [Bool.eq_false_iff]; exact fun h => h2 (hq.1 h)
    rw [e1, e2, hk] at h; cases h
  have inlo : ∀ {l : List Bd} {lo x z : Int}, CanB lo l → InB x z l → lo ≤ z := fun {l lo x z} h hx => by
    rcases Int.lt_or_le z lo with hz | hz
    · unfold InB at hx
      rw [rowAt_lo h hz] at hx
      exact absurd hx InS_nil
    · exact hz
  have inhi : ∀ {l : List Bd} {b : Bd} {lo x z : Int}, CanB lo (l ++ [b]) → InB x z (l ++ [b]) → z < b.2.1 := by
    intro l
    induction l with
    | nil =>
      intro b lo x z h hx
      unfold InB at hx
      by_cases hz : b.1 ≤ z ∧ z < b.2.1
      · exact hz.2
      · have : rowAt ([] ++ [b]) z = [] := by show (if b.1 ≤ z ∧ z < b.2.1 then b.2.2 else []) = []; rw [if_neg hz]
        rw [this] at hx; exact absurd hx InS_nil
    | cons c l ih =>
      intro b lo x z h hx
      have hcan : CanB c.2.1 (l ++ [b]) := h.2.2.2.2
      by_cases hz : c.1 ≤ z ∧ z < c.2.1
      · have := hcan.mem b (by simp)
        omega
      · refine ih hcan (x := x) ?_
        unfold InB at hx ⊢
        have : rowAt (c :: l ++ [b]) z = rowAt (l ++ [b]) z := by show (if c.1 ≤ z ∧ z < c.2.1 then c.2.2 else rowAt (l ++ [b]) z) = _; rw [if_neg hz]
        rw [← this]; exact hx
  obtain ⟨la, ca⟩ := hA.can
  obtain ⟨lb, cb⟩ := hB.can
  have go : ∀ (y e : Int), (∀ x z, InB x z A → y ≤ z ∧ z < e) → (∀ x z, InB x z B → y ≤ z ∧ z < e) → ∃ C, F_shape_Merge_L9 N f e N (A.map toP) (B.map toP) ([] : List TBand) y = some (C.map toP) ∧ BOk C ∧ (∀ x z, InB x z C ↔ Kept k A B x z) ∧ C.length ≤ 2 * A.length + 2 * B.length + 1 ∧ ∀ c ∈ C, c.2.2.length ≤ R1 + R2 := fun y e h1 h2 => by
    have hlen : (e :: (A.flatMap (fun b => [b.1, b.2.1]) ++ B.flatMap fun b => [b.1, b.2.1])).length = 2 * A.length + 2 * B.length + 1 := by
      have : ∀ l : List Bd, (l.flatMap fun b => [b.1, b.2.1]).length = 2 * l.length := by
        intro l
        induction l with
        | nil => rfl
        | cons b l ih => rw [List.flatMap_cons, List.length_append, ih]; simp; omega
      rw [List.length_cons, List.length_append, this, this]
    have haf := aft_len (e :: (A.flatMap (fun b => [b.1, b.2.1]) ++ B.flatMap fun b => [b.1, b.2.1])) y
    rw [hlen] at haf
    have hmem : ∀ l : List Bd, ∀ b ∈ l, b.1 ∈ l.flatMap (fun b => [b.1, b.2.1]) ∧ b.2.1 ∈ l.flatMap (fun b => [b.1, b.2.1]) := fun l b hb => ⟨List.mem_flatMap.2 ⟨b, hb, by simp⟩, List.mem_flatMap.2 ⟨b, hb, by simp⟩⟩
    obtain ⟨C, c1, c2, c3, c4, c5⟩ := merge_go hf hk hN (A := A) (B := B) (R1 := R1) (R2 := R2) (fun b hb => ⟨hA.row b hb, hrA b hb⟩) (fun b hb => ⟨hB.row b hb, hrB b hb⟩) hR (by omega) (by omega) (ev := e :: (A.flatMap (fun b => [b.1, b.2.1]) ++ B.flatMap fun b => [b.1, b.2.1])) (e := e) (lo := y) (by simp) (fun b hb => ⟨List.mem_cons_of_mem _ (List.mem_append_left _ (hmem A b hb).1), List.mem_cons_of_mem _ (List.mem_append_left _ (hmem A b hb).2)⟩) (fun b hb => ⟨List.mem_cons_of_mem _ (List.mem_append_right _ (hmem B b hb).1), List.mem_cons_of_mem _ (List.mem_append_right _ (hmem B b hb).2)⟩)
      N A B [] y hA.can hB.can (fun _ h => h) (fun _ h => h) (Nat.le_refl _) (Nat.le_refl _) (fun _ _ => rfl) (fun _ _ => rfl) trivial (Int.le_refl _) (by simp) (fun x z => by
        constructor
        · intro h; unfold InB at h; exact absurd h InS_nil
        · rintro ⟨hz, h⟩
          exact absurd h (hnot (fun h => by have := h1 x z h; omega) (fun h => by have := h2 x z h; omega))) (by omega) (by simp; omega) (fun x z hz => hnot (fun h => by have := h1 x z h; omega) (fun h => by have := h2 x z h; omega))
    exact ⟨C, c1, c2, c3, by simp at c4; omega, c5⟩
  have two : ∀ {l : List Bd}, l ≠ [] → BOk l → l.length ≤ 200000000 → ∃ b c, idx (l.map toP) 0 = some (toP b) ∧ idx (l.map toP) (w64 (((l.map toP).length : Int) - 1)) = some (toP c) ∧ ∀ x z, InB x z l → b.1 ≤ z ∧ z < c.2.1 := fun {l} hne hok hlen => by
    obtain ⟨lo, hc⟩ := hok.can
    have h1 : ∃ b, idx (l.map toP) 0 = some (toP b) ∧ ∀ x z, InB x z l → b.1 ≤ z := by
      cases l with
      | nil => exact absurd rfl hne
      | cons b l => exact ⟨b, rfl, fun x z h => inlo (l := b :: l) (lo := b.1) (show CanB b.1 (b :: l) from ⟨Int.le_refl _, hc.2⟩) h⟩
    have h2 : ∃ c, idx (l.map toP) (w64 (((l.map toP).length : Int) - 1)) = some (toP c) ∧ ∀ x z, InB x z l → z < c.2.1 := by
      rcases List.eq_nil_or_concat l with h | ⟨j, c, h⟩
      · exact absurd h hne
      · rw [List.concat_eq_append] at h
        subst h
        refine ⟨c, ?_, fun x z h => inhi hc h⟩
        have e1 : w64 ((((j ++ [c]).map toP).length : Int) - 1) = ((j.map toP).length : Int) := by
          rw [w64_id (by first | (simp; done) | (simp; omega)) (by simp at hlen ⊢; omega)]; simp
        rw [e1, List.map_append]
        exact idx_mid _ [] _
    obtain ⟨b, b1, b2⟩ := h1
    obtain ⟨c, c1, c2⟩ := h2
    exact ⟨b, c, b1, c1, fun x z h => ⟨b2 x z h, c2 x z h⟩⟩
  unfold F_shape_Merge
  have hz : w64 (((A.map toP).length : Int) + ((B.map toP).length : Int)) = (A.length : Int) + (B.length : Int) := by rw [w64_id (by simp; omega) (by simp; omega)]; simp
  rw [hz]
  by_cases h0 : A.length + B.length = 0
  · have eA : A = [] := List.eq_nil_of_length_eq_zero (by omega)
    have eB : B = [] := List.eq_nil_of_length_eq_zero (by omega)
    subst eA eB
    rw [if_pos (by simp)]
    exact ⟨[], rfl, ⟨⟨0, trivial⟩, by simp⟩, fun x z => ⟨fun h => absurd h InS_nil, fun h => absurd h (hnot InS_nil InS_nil)⟩, by simp, by simp⟩
  · rw [if_neg (by simp; omega)]
    obtain ⟨m, hm⟩ : ∃ k, N = k + 3 := ⟨N - 3, by omega⟩
    have hfu : F_shape_Merge_L3 N (A.map toP) (B.map toP) f N 0 0 [A.map toP, B.map toP] 0 = F_shape_Merge_L3 N (A.map toP) (B.map toP) f (m + 3) 0 0 [A.map toP, B.map toP] 0 := congrArg (fun z => F_shape_Merge_L3 N (A.map toP) (B.map toP) f z 0 0 [A.map toP, B.map toP] 0) hm
    rw [hfu, F_shape_Merge_L3.eq_2, if_pos (by decide), show idx [A.map toP, B.map toP] 0 = some (A.map toP) from rfl, Option.bind_some, show w64 (0 + 1) = 1 from rfl]
    by_cases hA0 : A = []
    · have hB0 : B ≠ [] := fun h => h0 (by rw [hA0, h]; rfl)
      obtain ⟨b, c, b1, b2, b3⟩ := two hB0 hB (by omega)
      rw [if_neg (by rw [hA0]; simp), F_shape_Merge_L3.eq_2, if_pos (by decide), show idx [A.map toP, B.map toP] 1 = some (B.map toP) from rfl, Option.bind_some, if_pos (by have := List.length_pos_iff.2 hB0; simp; omega), if_pos (by rw [hA0]; rfl), b1, Option.bind_some, b2, Option.bind_some]
      unfold F_shape_Merge_J4
      rw [b1, Option.bind_some, b2, Option.bind_some, show w64 (1 + 1) = 2 from rfl, F_shape_Merge_L3.eq_2, if_neg (by decide)]
      exact go _ _ (fun x z h => by rw [hA0] at h; exact absurd h InS_nil) (fun x z h => by have := b3 x z h; show min b.1 b.1 ≤ z ∧ z < max c.2.1 c.2.1; omega)
    · obtain ⟨b, c, b1, b2, b3⟩ := two hA0 hA (by omega)
      rw [if_pos (by have := List.length_pos_iff.2 hA0; simp; omega), if_pos (by rfl), b1, Option.bind_some, b2, Option.bind_some]
      unfold F_shape_Merge_J4
      rw [b1, Option.bind_some, b2, Option.bind_some, show w64 (0 + 1) = 1 from rfl, F_shape_Merge_L3.eq_2, if_pos (by decide), show idx [A.map toP, B.map toP] 1 = some (B.map toP) from rfl, Option.bind_some]
      by_cases hB0 : B = []
      · rw [if_neg (by rw [hB0]; simp), show w64 (1 + 1) = 2 from rfl, F_shape_Merge_L3.eq_2, if_neg (by decide)]
        exact go _ _ (fun x z h => by have := b3 x z h; show min b.1 b.1 ≤ z ∧ z < max c.2.1 c.2.1; omega) (fun x z h => by rw [hB0] at h; exact absurd h InS_nil)
      · obtain ⟨d, g, d1, d2, d3⟩ := two hB0 hB (by omega)
        have hAl := List.length_pos_iff.2 hA0
        rw [if_pos (by have := List.length_pos_iff.2 hB0; simp; omega), if_neg (by simp; exact hA0)]
        unfold F_shape_Merge_J4
        rw [d1, Option.bind_some, d2, Option.bind_some, show w64 (1 + 1) = 2 from rfl, F_shape_Merge_L3.eq_2, if_neg (by decide)]
        exact go _ _ (fun x z h => by have := b3 x z h; show min (min b.1 b.1) d.1 ≤ z ∧ z < max (max c.2.1 c.2.1) g.2.1; omega) (fun x z h => by have := d3 x z h; show min (min b.1 b.1) d.1 ≤ z ∧ z < max (max c.2.1 c.2.1) g.2.1; omega)
end Go.Proofs.YtfdglihcpfpefaaGreat
