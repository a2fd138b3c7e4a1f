/- Plain words: counting loops over lists, numbers in range. No program. Conditions: none beyond each theorem's own. Integers sorted, each once. Plain Lean. Sets of numbers by stretches: their one form. Plain Lean. Sets of rectangles: the bands that cover the same. Plain Lean; the program's helpers compute it. Sets of rectangles: the program's bands are the ones. Plain Lean about the plain functions. Regions: what the program tells of sets. Plain Lean about the plain functions. Regions: what is checked; program and reference agree. Plain Lean about the plain functions. Sets of rectangles by bands: their one form, by points. Plain Lean. Sets of squares: bands in their one form, told by their points. Plain Lean. Sets of squares that hang together, and their parts: the parts are one list alone. Plain Lean. Forests of numbers: roots, shortened ways, joined trees. Plain Lean. How many rectangles parts and holes have: no more than the set. Plain Lean. The parts of a set, as the program finds them. Plain Lean about the plain functions. The parts of a set, as the program finds them: all bands; the lists. Plain Lean about the plain functions. Holes of a set: what they are, that they are filled, that they are turned. Plain Lean. Regions: the least rectangle around squares. Plain Lean about the plain functions. Two lists of stretches, merged: the program's line. Plain Lean about the plain functions. -/
import Derived.Test.YtnlhigfglfahiaaJ2
import Derived.Test.YtnlhigfglfahiaaXF
namespace Go.Proofs.Ytnlhigfglfahiaa
theorem w64_id {x : Int} (h1 : -4611686018427387904 ≤ x) (h2 : x ≤ 4611686018427387904) : w64 x = x := w64_eq (by omega) (by omega)
theorem idx_mid {α : Type} (pre suf : List α) (x : α) : idx (pre ++ x :: suf) (pre.length : Int) = some x := by
  unfold idx
  rw [if_pos (by omega)]
  simp
theorem idx_nat {α : Type} {l : List α} {i : Nat} (h : i < l.length) : idx l (i : Int) = some l[i] := by
  unfold idx
  rw [if_pos (by omega)]
  simp [h]
theorem idx_lt {α : Type} {l : List α} {i : Int} (h0 : 0 ≤ i) (h : i < l.length) : ∃ x, idx l i = some x ∧ l[i.toNat]? = some x := by
  unfold idx
  rw [if_pos h0]
  exact ⟨l[i.toNat]'(by omega), by simp, by simp⟩
theorem lt_mid {α : Type} (pre suf : List α) (x : α) : decide ((pre.length : Int) < ((pre ++ x :: suf).length : Int)) = true := decide_eq_true (by simp; omega)
theorem lt_end {α : Type} (pre : List α) : decide ((pre.length : Int) < ((pre ++ []).length : Int)) = false := decide_eq_false (by simp)
theorem up_mid {α : Type} (pre : List α) (x : α) (h : pre.length ≤ 4611686018427387903) : w64 ((pre.length : Int) + 1) = ((pre ++ [x]).length : Int) := by
  rw [w64_id (by omega) (by omega)]; simp
theorem snoc_mid {α : Type} (pre suf : List α) (x : α) : pre ++ x :: suf = (pre ++ [x]) ++ suf := by simp
theorem apd_ok {α : Type} {l m : List α} (h : l.length + m.length ≤ 4294967296) : apd l m = some (l ++ m) := if_pos h
theorem cut_ok {α : Type} {l : List α} {n : Nat} (h : n ≤ l.length) : cut l 0 (n : Int) = some (l.take n) := by
  unfold cut
  rw [if_pos (by omega)]
  simp
theorem sEq_comm (s t : ByteArray) : sEq s t = sEq t s := by rw [sEq_dec, sEq_dec]; exact decide_eq_decide.2 eq_comm
def within (n lo hi : Int) : Bool := decide (lo ≤ n) && decide (n ≤ hi)
theorem within_iff {n lo hi : Int} : within n lo hi = true ↔ lo ≤ n ∧ n ≤ hi := by simp [within]
/-- The first place at which g holds, counted from i on; -1: none. -/
def ixOf {α : Type} (g : α → Bool) : List α → Int → Int
  | [], _ => -1
  | x :: l, i => if g x then i else ixOf g l (i + 1)
theorem ixOf_any {α : Type} (g : α → Bool) : ∀ (l : List α) (i : Int), 0 ≤ i → decide (0 ≤ ixOf g l i) = l.any g
  | [], _, _ => by simp [ixOf]
  | x :: l, i, hi => by
    unfold ixOf
    rw [List.any_cons]
    cases g x
    · simp [ixOf_any g l (i + 1) (by omega)]
    · simp [hi]
theorem ixOf_lo {α : Type} (g : α → Bool) : ∀ (l : List α) (i : Int), 0 ≤ i → (ixOf g l i = -1 ∧ l.any g = false) ∨ (i ≤ ixOf g l i ∧ ixOf g l i < i + l.length ∧ ∃ x, l[(ixOf g l i - i).toNat]? = some x ∧ g x = true)
  | [], _, _ => by simp [ixOf]
  | x :: l, i, hi => by
    have ih := ixOf_lo g l (i + 1) (by omega)
    unfold ixOf
    rw [List.any_cons]
    cases hg : g x
    · simp only [Bool.false_eq_true, if_false, Bool.false_or, List.length_cons]
      rcases ih with ih | ⟨h1, h2, y, h3, h4⟩
      · exact .inl ih
      · refine .inr ⟨by omega, by omega, y, ?_, h4⟩
        rw [show (ixOf g l (i + 1) - i).toNat = (ixOf g l (i + 1) - (i + 1)).toNat + 1 by omega]
        simpa using h3
    · right
      simp only [if_true, List.length_cons]
      exact ⟨by omega, by omega, x, by simp, hg⟩
end Go.Proofs.Ytnlhigfglfahiaa
namespace Go.Proofs.Ytnlhigfglfahiaa
theorem compact_mem (zs : List Int) (x : Int) : x ∈ Lib.compact zs ↔ x ∈ zs := by
  unfold Lib.compact Lib.compactUpTo
  constructor
  · intro h
    obtain ⟨j, hj, rfl⟩ := List.mem_map.1 h
    have hj := List.mem_range.1 (List.mem_filter.1 hj).1
    show zs.toArray[j]! ∈ zs
    rw [getElem!_pos zs.toArray j (by simpa using hj)]
    simp
  · intro h
    have key : ∀ (j : Nat), (hj : j < zs.length) → ∃ i, i < zs.length ∧ Lib.keeps zs.toArray i = true ∧ zs.toArray[i]! = zs[j] := by
      intro j
      induction j with
      | zero => intro hj; exact ⟨0, hj, Lib.keeps_lt_one _ 0 (by omega), by rw [getElem!_pos zs.toArray 0 (by simpa using hj)]; simp⟩
      | succ j ih =>
        intro hj
        by_cases hk : Lib.keeps zs.toArray (j + 1) = true
        · exact ⟨j + 1, hj, hk, by rw [getElem!_pos zs.toArray (j + 1) (by simpa using hj)]; simp⟩
        · have he : zs.toArray[j + 1]! = zs.toArray[j]! := by
            unfold Lib.keeps at hk
            simp at hk
            simpa using hk
          rw [getElem!_pos zs.toArray (j + 1) (by simpa using hj), getElem!_pos zs.toArray j (by simp; omega)] at he
          simp at he
          obtain ⟨i, h1, h2, h3⟩ := ih (by omega)
          exact ⟨i, h1, h2, by rw [h3, he]⟩
    obtain ⟨j, hj, rfl⟩ := List.mem_iff_getElem.1 h
    obtain ⟨i, h1, h2, h3⟩ := key j hj
    exact List.mem_map.2 ⟨i, List.mem_filter.2 ⟨List.mem_range.2 h1, h2⟩, h3⟩
theorem compact_strict {zs : List Int} (h : zs.Pairwise fun x y => x ≤ y) : (Lib.compact zs).Pairwise fun x y => x < y := by
  unfold Lib.compact Lib.compactUpTo
  rw [List.pairwise_map]
  have hr : ((List.range zs.length).filter (Lib.keeps zs.toArray)).Pairwise (fun i j => i < j) := (List.pairwise_lt_range).filter _
  refine List.Pairwise.imp_of_mem (fun {i j} hi hj hij => ?_) hr
  have hj1 := List.mem_range.1 (List.mem_filter.1 hj).1
  have hj2 := (List.mem_filter.1 hj).2
  show zs.toArray[i]! < zs.toArray[j]!
  unfold Lib.keeps at hj2
  simp at hj2
  have hne : zs.toArray[j]! ≠ zs.toArray[j - 1]! := by
    rcases hj2 with h0 | h0
    · omega
    · simpa using h0
  rw [getElem!_pos zs.toArray j (by simpa using hj1), getElem!_pos zs.toArray (j - 1) (by simp; omega)] at hne
  rw [getElem!_pos zs.toArray j (by simpa using hj1), getElem!_pos zs.toArray i (by simp; omega)]
  simp at hne ⊢
  rw [List.pairwise_iff_getElem] at h
  have a1 : zs[j - 1] ≤ zs[j] := h (j - 1) j (by omega) hj1 (by omega)
  have a2 : zs[i] ≤ zs[j - 1] := by
    rcases Nat.lt_or_eq_of_le (show i ≤ j - 1 by omega) with hlt | heq
    · exact h i (j - 1) (by omega) (by omega) hlt
    · subst heq; exact Int.le_refl _
  omega
/-- Sorted, each once. -/
def srtd (l : List Int) : List Int := Lib.compact (l.mergeSort fun x y => decide (x ≤ y))
theorem srtd_mem (l : List Int) (x : Int) : x ∈ srtd l ↔ x ∈ l := by
  unfold srtd
  rw [compact_mem]
  exact (List.mergeSort_perm l _).mem_iff
theorem srtd_strict (l : List Int) : (srtd l).Pairwise fun x y => x < y := by
  unfold srtd
  refine compact_strict ?_
  have := List.pairwise_mergeSort (le := fun x y : Int => decide (x ≤ y)) (fun a b c h1 h2 => by simp at *; omega) (fun a b => by simp; omega) l
  exact this.imp (by simp)
theorem srtd_ok {l : List Int} (h : l.length < 4611686018427387904) : ((srtI l).bind fun y => cpI y) = some (srtd l) := by
  unfold srtI cpI srtd
  rw [if_pos h]; rfl
theorem srtI_ok {l : List Int} (h : l.length < 4611686018427387904) : srtI l = some (l.mergeSort fun x y => decide (x ≤ y)) := if_pos h
end Go.Proofs.Ytnlhigfglfahiaa
namespace Go.Proofs.Ytnlhigfglfahiaa
/-- Stretches behind a number, in order, none touching another one. -/
def Can : Int → List (Int × Int) → Prop
  | _, [] => True
  | lo, p :: l => lo < p.1 ∧ p.1 < p.2 ∧ Can p.2 l
def InS (x : Int) (l : List (Int × Int)) : Prop := ∃ p ∈ l, p.1 ≤ x ∧ x < p.2
theorem InS_cons {x : Int} {p : Int × Int} {l : List (Int × Int)} : InS x (p :: l) ↔ (p.1 ≤ x ∧ x < p.2) ∨ InS x l := by unfold InS; simp
theorem InS_nil {x : Int} : ¬ InS x [] := by unfold InS; simp
theorem InS_append {x : Int} {l m : List (Int × Int)} : InS x (l ++ m) ↔ InS x l ∨ InS x m := by
  unfold InS
  constructor
  · rintro ⟨p, hp, h⟩
    rcases List.mem_append.1 hp with hp | hp
    · exact .inl ⟨p, hp, h⟩
    · exact .inr ⟨p, hp, h⟩
  · rintro (⟨p, hp, h⟩ | ⟨p, hp, h⟩)
    · exact ⟨p, List.mem_append_left _ hp, h⟩
    · exact ⟨p, List.mem_append_right _ hp, h⟩
theorem Can.lt : ∀ {l : List (Int × Int)} {lo x : Int}, Can lo l → InS x l → lo < x
  | [], _, _, _, h => absurd h InS_nil
  | p :: l, lo, x, h, hx => by
    obtain ⟨h1, h2, h3⟩ := h
    rcases InS_cons.1 hx with hx | hx
    · omega
    · have := h3.lt hx; omega
theorem Can.mono {l : List (Int × Int)} {lo lo' : Int} (h : Can lo l) (hl : lo' ≤ lo) : Can lo' l := by
  cases l with
  | nil => trivial
  | cons p l => exact ⟨by have := h.1; omega, h.2⟩
/-- The form is one. -/
theorem Can.uniq : ∀ {l m : List (Int × Int)} {lo lo' : Int}, Can lo l → Can lo' m → (∀ x, InS x l ↔ InS x m) → l = m
  | [], [], _, _, _, _, _ => rfl
  | [], p :: m, _, _, _, h2, h => absurd ((h p.1).2 (InS_cons.2 (.inl ⟨Int.le_refl _, h2.2.1⟩))) InS_nil
  | p :: l, [], _, _, h1, _, h => absurd ((h p.1).1 (InS_cons.2 (.inl ⟨Int.le_refl _, h1.2.1⟩))) InS_nil
  | p :: l, q :: m, lo, lo', h1, h2, h => by
    obtain ⟨a1, a2, a3⟩ := h1
    obtain ⟨b1, b2, b3⟩ := h2
    have c1 : q.1 ≤ p.1 := by
      rcases InS_cons.1 ((h p.1).1 (InS_cons.2 (.inl ⟨Int.le_refl _, a2⟩))) with hx | hx
      · exact hx.1
      · have := b3.lt hx; omega
    have c2 : p.1 ≤ q.1 := by
      rcases InS_cons.1 ((h q.1).2 (InS_cons.2 (.inl ⟨Int.le_refl _, b2⟩))) with hx | hx
      · exact hx.1
      · have := a3.lt hx; omega
    have c3 : ¬ p.2 < q.2 := fun hlt => by
      rcases InS_cons.1 ((h p.2).2 (InS_cons.2 (.inl ⟨by omega, hlt⟩))) with hx | hx
      · omega
      · have := a3.lt hx; omega
    have c4 : ¬ q.2 < p.2 := fun hlt => by
      rcases InS_cons.1 ((h q.2).1 (InS_cons.2 (.inl ⟨by omega, hlt⟩))) with hx | hx
      · omega
      · have := b3.lt hx; omega
    have hpq : p = q := by obtain ⟨a, b⟩ := p; obtain ⟨c, d⟩ := q; simp only at *; congr 1 <;> omega
    subst hpq
    have hlm : l = m := a3.uniq b3 fun x => by
      constructor
      · intro hx
        have hlt := a3.lt hx
        rcases InS_cons.1 ((h x).1 (InS_cons.2 (.inr hx))) with h' | h'
        · omega
        · exact h'
      · intro hx
        have hlt := b3.lt hx
        rcases InS_cons.1 ((h x).2 (InS_cons.2 (.inr hx))) with h' | h'
        · omega
        · exact h'
    rw [hlm]
/-- Stretches that begin with init and end with one more. -/
theorem Can.snoc : ∀ {l : List (Int × Int)} {lo : Int} {p : Int × Int}, Can lo l → (∀ q ∈ l, q.2 < p.1) → lo < p.1 → p.1 < p.2 → Can lo (l ++ [p])
  | [], _, _, _, _, h1, h2 => ⟨h1, h2, trivial⟩
  | q :: l, lo, p, h, hq, h1, h2 => ⟨h.1, h.2.1, h.2.2.snoc (fun r hr => hq r (by simp [hr])) (hq q (by simp)) h2⟩
theorem Can.init : ∀ {l : List (Int × Int)} {lo : Int} {p : Int × Int}, Can lo (l ++ [p]) → Can lo l ∧ (∀ q ∈ l, q.2 < p.1) ∧ lo < p.1 ∧ p.1 < p.2
  | [], _, _, h => ⟨trivial, by simp, h.1, h.2.1⟩
  | q :: l, lo, p, h => by
    obtain ⟨i1, i2, i3, i4⟩ := Can.init (l := l) h.2.2
    have := h.1; have := h.2.1
    refine ⟨⟨h.1, h.2.1, i1⟩, fun r hr => ?_, by omega, i4⟩
    rcases List.mem_cons.1 hr with rfl | hr
    · exact i3
    · exact i2 r hr
/-- All numbers of stretches, one behind the other. -/
def flatS (l : List (Int × Int)) : List Int := l.flatMap fun p => [p.1, p.2]
theorem flatS_nil : flatS [] = [] := rfl
theorem flatS_cons (p : Int × Int) (l : List (Int × Int)) : flatS (p :: l) = p.1 :: p.2 :: flatS l := rfl
theorem flatS_append (l m : List (Int × Int)) : flatS (l ++ m) = flatS l ++ flatS m := by unfold flatS; rw [List.flatMap_append]
theorem flatS_len : ∀ l : List (Int × Int), (flatS l).length = 2 * l.length
  | [] => rfl
  | p :: l => by rw [flatS_cons, List.length_cons, List.length_cons, flatS_len l, List.length_cons]; omega
theorem flatS_inj : ∀ {l m : List (Int × Int)}, flatS l = flatS m → l = m
  | [], [], _ => rfl
  | [], q :: m, h => by rw [flatS_nil, flatS_cons] at h; cases h
  | p :: l, [], h => by rw [flatS_nil, flatS_cons] at h; cases h
  | p :: l, q :: m, h => by
    rw [flatS_cons, flatS_cons] at h
    injection h with h1 h
    injection h with h2 h
    rw [flatS_inj h]
    congr 1
    obtain ⟨a, b⟩ := p; obtain ⟨c, d⟩ := q
    simp only at h1 h2
    rw [h1, h2]
/-- One stretch more, that begins no sooner than the last one. -/
def ext1 (l : List (Int × Int)) (p : Int × Int) : List (Int × Int) :=
  match l.getLast? with
  | none => [p]
  | some q => if p.1 ≤ q.2 then l.dropLast ++ [(q.1, max q.2 p.2)] else l ++ [p]
theorem ext1_nil (p : Int × Int) : ext1 [] p = [p] := rfl
theorem ext1_snoc (l : List (Int × Int)) (q p : Int × Int) : ext1 (l ++ [q]) p = if p.1 ≤ q.2 then l ++ [(q.1, max q.2 p.2)] else l ++ [q] ++ [p] := by
  unfold ext1
  simp
theorem ext1_ok {lo : Int} {l done : List (Int × Int)} {p : Int × Int} (hc : Can lo l) (hm : ∀ x, InS x l ↔ InS x done) (hlast : ∀ q ∈ l, q.1 ≤ p.1) (hlo : lo < p.1) (hp : p.1 < p.2) :
    Can lo (ext1 l p) ∧ (∀ x, InS x (ext1 l p) ↔ InS x (done ++ [p])) ∧ ∀ q ∈ ext1 l p, q.1 ≤ p.1 := by
  have hsplit : l = [] ∨ ∃ i q, l = i ++ [q] := by
    rcases List.eq_nil_or_concat l with h | ⟨i, q, h⟩
    · exact .inl h
    · exact .inr ⟨i, q, by simpa using h⟩
  rcases hsplit with rfl | ⟨i, q, rfl⟩
  · rw [ext1_nil]
    refine ⟨⟨hlo, hp, trivial⟩, fun x => ?_, by simp⟩
    rw [InS_append, ← hm x]
    exact ⟨fun h => .inr h, fun h => h.resolve_left InS_nil⟩
  · obtain ⟨c1, c2, c3, c4⟩ := hc.init
    have hq := hlast q (by simp)
    rw [ext1_snoc]
    by_cases hle : p.1 ≤ q.2
    · rw [if_pos hle]
      refine ⟨c1.snoc (p := (q.1, max q.2 p.2)) c2 c3 (by show q.1 < max q.2 p.2; omega), fun x => ?_, fun r hr => ?_⟩
      · rw [InS_append, InS_append (l := done), ← hm x, InS_append]
        have e1 : InS x [(q.1, max q.2 p.2)] ↔ (q.1 ≤ x ∧ x < max q.2 p.2) := by unfold InS; simp
        have e2 : InS x [q] ↔ (q.1 ≤ x ∧ x < q.2) := by unfold InS; simp
        have e3 : InS x [p] ↔ (p.1 ≤ x ∧ x < p.2) := by unfold InS; simp
        rw [e1, e2, e3]
        constructor
        · rintro (h | h)
          · exact .inl (.inl h)
          · by_cases hx : x < q.2
            · exact .inl (.inr ⟨h.1, hx⟩)
            · exact .inr ⟨by omega, by omega⟩
        · rintro ((h | h) | h)
          · exact .inl h
          · exact .inr ⟨h.1, by omega⟩
          · exact .inr ⟨by omega, by omega⟩
      · rcases List.mem_append.1 hr with hr | hr
        · have := c2 r hr; exact hlast r (by simp [hr])
        · simp at hr; subst hr; exact hq
    · rw [if_neg hle]
      refine ⟨hc.snoc (fun r hr => ?_) hlo hp, fun x => ?_, fun r hr => ?_⟩
      · rcases List.mem_append.1 hr with hr | hr
        · have := c2 r hr; omega
        · simp at hr; subst hr; omega
      · rw [InS_append, InS_append (l := done), hm x]
      · rcases List.mem_append.1 hr with hr | hr
        · exact hlast r hr
        · simp at hr; subst hr; exact Int.le_refl _
/-- The stretches of many, sorted by where they begin. -/
theorem ext_all {lo : Int} : ∀ (suf : List (Int × Int)) (l done : List (Int × Int)), Can lo l → (∀ x, InS x l ↔ InS x done) → (∀ p ∈ suf, ∀ q ∈ l, q.1 ≤ p.1) → suf.Pairwise (fun p q => p.1 ≤ q.1) → (∀ p ∈ suf, lo < p.1 ∧ p.1 < p.2) →
    Can lo (suf.foldl ext1 l) ∧ ∀ x, InS x (suf.foldl ext1 l) ↔ InS x (done ++ suf)
  | [], l, done, h1, h2, _, _, _ => ⟨h1, by simpa using h2⟩
  | p :: suf, l, done, h1, h2, h3, h4, h5 => by
    obtain ⟨s1, s2, s3⟩ := ext1_ok h1 h2 (h3 p (by simp)) (h5 p (by simp)).1 (h5 p (by simp)).2
    rw [List.pairwise_cons] at h4
    have := ext_all suf (ext1 l p) (done ++ [p]) s1 s2 (fun r hr q hq => Int.le_trans (s3 q hq) (h4.1 r hr)) h4.2 (fun r hr => h5 r (by simp [hr]))
    simpa using this
/-- One stretch more, wherever it lies: those before it, what it joins, those behind it. -/
def joinGo : Int → Int → List (Int × Int) → List (Int × Int)
  | a, b, [] => [(a, b)]
  | a, b, q :: l => if q.1 ≤ b then joinGo (min a q.1) (max b q.2) l else (a, b) :: q :: l
def join1 : List (Int × Int) → Int × Int → List (Int × Int)
  | [], p => [p]
  | q :: l, p => if q.2 < p.1 then q :: join1 l p else joinGo p.1 p.2 (q :: l)
theorem joinGo_ok : ∀ {l : List (Int × Int)} {lo a b : Int}, lo < a → a < b → (∀ q ∈ l, lo < q.1) → (∀ q ∈ l, a ≤ q.2) → (∃ lo', Can lo' l) → Can lo (joinGo a b l) ∧ ∀ x, InS x (joinGo a b l) ↔ (a ≤ x ∧ x < b) ∨ InS x l
  | [], lo, a, b, h1, h2, _, _, _ => ⟨⟨h1, h2, trivial⟩, fun x => by unfold joinGo; rw [InS_cons]⟩
  | q :: l, lo, a, b, h1, h2, h3, h5, ⟨lo', h4⟩ => by
    have hq := h3 q (by simp)
    have hov := h5 q (by simp)
    have hq2 := h4.2.1
    unfold joinGo
    by_cases hle : q.1 ≤ b
    · rw [if_pos hle]
      obtain ⟨i1, i2⟩ := joinGo_ok (l := l) (lo := lo) (a := min a q.1) (b := max b q.2) (by omega) (by omega) (fun r hr => h3 r (by simp [hr])) (fun r hr => by have := h5 r (by simp [hr]); omega) ⟨q.2, h4.2.2⟩
      refine ⟨i1, fun x => ?_⟩
      rw [i2, InS_cons]
      constructor
      · rintro (h | h)
        · by_cases h' : a ≤ x ∧ x < b
          · exact .inl h'
          · exact .inr (.inl ⟨by omega, by omega⟩)
        · exact .inr (.inr h)
      · rintro (h | h | h)
        · exact .inl ⟨by omega, by omega⟩
        · exact .inl ⟨by omega, by omega⟩
        · exact .inr h
    · rw [if_neg hle]
      refine ⟨⟨h1, h2, by omega, hq2, h4.2.2⟩, fun x => ?_⟩
      rw [InS_cons]
theorem Can.mem : ∀ {l : List (Int × Int)} {lo : Int}, Can lo l → ∀ q ∈ l, lo < q.1 ∧ q.1 < q.2
  | [], _, _, q, h => by simp at h
  | p :: l, lo, h, q, hq => by
    rcases List.mem_cons.1 hq with rfl | hq
    · exact ⟨h.1, h.2.1⟩
    · have := h.2.2.mem q hq
      have := h.1; have := h.2.1
      omega
theorem join1_ok : ∀ {l : List (Int × Int)} {lo : Int} {p : Int × Int}, Can lo l → lo < p.1 → p.1 < p.2 → Can lo (join1 l p) ∧ ∀ x, InS x (join1 l p) ↔ InS x (l ++ [p])
  | [], lo, p, _, h1, h2 => ⟨⟨h1, h2, trivial⟩, fun x => Iff.rfl⟩
  | q :: l, lo, p, h, h1, h2 => by
    unfold join1
    by_cases hlt : q.2 < p.1
    · rw [if_pos hlt]
      obtain ⟨i1, i2⟩ := join1_ok (l := l) (lo := q.2) (p := p) h.2.2 hlt h2
      refine ⟨⟨h.1, h.2.1, i1⟩, fun x => ?_⟩
      rw [InS_cons, i2, List.cons_append, InS_cons]
    · rw [if_neg hlt]
      obtain ⟨i1, i2⟩ := joinGo_ok (l := q :: l) (lo := lo) (a := p.1) (b := p.2) h1 h2 (fun r hr => (h.mem r hr).1) (fun r hr => by
        rcases List.mem_cons.1 hr with rfl | hr
        · omega
        · have := h.2.2.mem r hr; omega) ⟨lo, h⟩
      refine ⟨i1, fun x => ?_⟩
      rw [i2, InS_append]
      have e : InS x [p] ↔ (p.1 ≤ x ∧ x < p.2) := by unfold InS; simp
      rw [e]
      exact or_comm
theorem join_all {lo : Int} : ∀ (suf : List (Int × Int)) (l done : List (Int × Int)), Can lo l → (∀ x, InS x l ↔ InS x done) → (∀ p ∈ suf, lo < p.1 ∧ p.1 < p.2) →
    Can lo (suf.foldl join1 l) ∧ ∀ x, InS x (suf.foldl join1 l) ↔ InS x (done ++ suf)
  | [], l, done, h1, h2, _ => ⟨h1, by simpa using h2⟩
  | p :: suf, l, done, h1, h2, h5 => by
    obtain ⟨s1, s2⟩ := join1_ok h1 (h5 p (by simp)).1 (h5 p (by simp)).2
    have := join_all suf (join1 l p) (done ++ [p]) s1 (fun x => by rw [s2, InS_append, InS_append, h2]) (fun r hr => h5 r (by simp [hr]))
    simpa using this
/-- The one form of what stretches cover together. -/
def covS (l : List (Int × Int)) : List (Int × Int) := l.foldl join1 []
theorem covS_ok {lo : Int} {l : List (Int × Int)} (h : ∀ p ∈ l, lo < p.1 ∧ p.1 < p.2) : Can lo (covS l) ∧ ∀ x, InS x (covS l) ↔ InS x l := by
  have := join_all l [] [] (lo := lo) trivial (fun x => Iff.rfl) h
  rw [List.nil_append] at this
  exact this
/-- Built up in order, in whatever order they lay. -/
theorem ext_cov {lo : Int} {l m : List (Int × Int)} (hp : m.Perm l) (hs : m.Pairwise (fun p q => p.1 ≤ q.1)) (h : ∀ p ∈ l, lo < p.1 ∧ p.1 < p.2) : m.foldl ext1 [] = covS l := by
  obtain ⟨a1, a2⟩ := ext_all m [] [] (lo := lo) trivial (fun x => Iff.rfl) (by simp) hs (fun p hq => h p (hp.subset hq))
  obtain ⟨b1, b2⟩ := covS_ok h
  refine a1.uniq b1 fun x => ?_
  rw [a2, b2, List.nil_append]
  unfold InS
  constructor
  · rintro ⟨p, hq, h⟩; exact ⟨p, hp.subset hq, h⟩
  · rintro ⟨p, hq, h⟩; exact ⟨p, hp.symm.subset hq, h⟩
theorem covS_congr {lo : Int} {l m : List (Int × Int)} (hl : ∀ p ∈ l, lo < p.1 ∧ p.1 < p.2) (hm : ∀ p ∈ m, lo < p.1 ∧ p.1 < p.2) (h : ∀ x, InS x l ↔ InS x m) : covS l = covS m := by
  obtain ⟨a1, a2⟩ := covS_ok hl
  obtain ⟨b1, b2⟩ := covS_ok hm
  exact a1.uniq b1 fun x => by rw [a2, b2, h]
theorem joinGo_len : ∀ (l : List (Int × Int)) (a b : Int), (joinGo a b l).length ≤ l.length + 1
  | [], _, _ => by simp [joinGo]
  | q :: l, a, b => by
    unfold joinGo
    split
    · have := joinGo_len l (min a q.1) (max b q.2); simp; omega
    · simp
theorem join1_len : ∀ (l : List (Int × Int)) (p : Int × Int), (join1 l p).length ≤ l.length + 1
  | [], _ => by simp [join1]
  | q :: l, p => by
    unfold join1
    split
    · have := join1_len l p; simp; omega
    · exact joinGo_len _ _ _
theorem covS_len : ∀ (l m : List (Int × Int)), (l.foldl join1 m).length ≤ m.length + l.length
  | [], m => by simp
  | p :: l, m => by
    have := covS_len l (join1 m p); have := join1_len m p
    rw [List.foldl_cons, List.length_cons]; omega
end Go.Proofs.Ytnlhigfglfahiaa
namespace Go.Proofs.Ytnlhigfglfahiaa
/-- A band: from, to, stretches. -/
abbrev Bd := Int × Int × List (Int × Int)
def xsR (r : TRect) : Int × Int := (r.X0, r.X1)
/-- The stretches of rectangles at a height. -/
def rowS (l : List TRect) (y : Int) : List (Int × Int) := covS ((l.filter fun r => decide (r.Y0 ≤ y) && decide (y < r.Y1)).map xsR)
/-- One band more behind all others. -/
def pushB (l : List Bd) (b : Bd) : List Bd :=
  if b.2.2 = [] then l else
  match l.getLast? with
  | none => l ++ [b]
  | some c => if c.2.1 = b.1 ∧ c.2.2 = b.2.2 then l.dropLast ++ [(c.1, b.2.1, c.2.2)] else l ++ [b]
theorem pushB_empty {l : List Bd} {b : Bd} (h : b.2.2 = []) : pushB l b = l := if_pos h
theorem pushB_nil {b : Bd} (h : b.2.2 ≠ []) : pushB [] b = [b] := by unfold pushB; rw [if_neg h]; rfl
theorem pushB_snoc {l : List Bd} {c b : Bd} (h : b.2.2 ≠ []) : pushB (l ++ [c]) b = if c.2.1 = b.1 ∧ c.2.2 = b.2.2 then l ++ [(c.1, b.2.1, c.2.2)] else l ++ [c] ++ [b] := by
  unfold pushB
  rw [if_neg h]
  simp
/-- The bands of rectangles over consecutive heights. -/
def bandsGo (l : List TRect) : List Int → List Bd → List Bd
  | a :: b :: ys, out => bandsGo l (b :: ys) (pushB out (a, b, rowS l a))
  | _, out => out
def ysOfR (l : List TRect) : List Int := l.flatMap fun r => [r.Y0, r.Y1]
def setB (l : List TRect) : List Bd := bandsGo l (srtd (ysOfR l)) []
def rectsOf (b : Bd) : List TRect := b.2.2.map fun s => ⟨s.1, b.1, s.2, b.2.1⟩
def rectsB (l : List Bd) : List TRect := l.flatMap rectsOf
def toP (b : Bd) : TBand := ⟨b.1, b.2.1, flatS b.2.2⟩
/-- A rectangle with something in it, within the limits. -/
structure ROk (r : TRect) : Prop where
  x0 : -1000000 ≤ r.X0 ∧ r.X0 ≤ 1000000
  y0 : -1000000 ≤ r.Y0 ∧ r.Y0 ≤ 1000000
  x1 : -1000000 ≤ r.X1 ∧ r.X1 ≤ 1000000
  y1 : -1000000 ≤ r.Y1 ∧ r.Y1 ≤ 1000000
  x : r.X0 < r.X1
  y : r.Y0 < r.Y1
/-- A rectangle with something in it, within wide limits. -/
structure R9 (r : TRect) : Prop where
  x0 : -2000000000 ≤ r.X0 ∧ r.X0 ≤ 2000000000
  y0 : -2000000000 ≤ r.Y0 ∧ r.Y0 ≤ 2000000000
  x1 : -2000000000 ≤ r.X1 ∧ r.X1 ≤ 2000000000
  y1 : -2000000000 ≤ r.Y1 ∧ r.Y1 ≤ 2000000000
  x : r.X0 < r.X1
  y : r.Y0 < r.Y1
theorem ROk.r9 {r : TRect} (h : ROk r) : R9 r := by
  have := h.x0; have := h.x1; have := h.y0; have := h.y1
  exact ⟨by omega, by omega, by omega, by omega, h.x, h.y⟩
theorem EqualI_ok (l m : List Int) : F_slices_Equal_int l m = some (decide (l = m)) := by
  have key : ∀ (suf pre rest : List Int), suf.length = rest.length → F_slices_Equal_int_L1 (pre ++ rest) suf pre.length = some (decide (suf = rest)) := by
    intro suf
    induction suf with
    | nil =>
      intro pre rest h
      have : rest = [] := List.eq_nil_of_length_eq_zero h.symm
      subst this
      rw [F_slices_Equal_int_L1.eq_1]; rfl
    | cons x suf ih =>
      intro pre rest h
      cases rest with
      | nil => simp at h
      | cons y rest =>
        rw [F_slices_Equal_int_L1.eq_2, idx_mid pre rest y, Option.bind_some]
        have := ih (pre ++ [y]) rest (by simpa using h)
        by_cases hxy : x = y
        · subst hxy
          rw [if_neg (by simp)]
          simpa using this
        · rw [if_pos (by simpa using hxy)]
          simp [hxy]
  unfold F_slices_Equal_int
  by_cases h : l.length = m.length
  · rw [if_neg (by simp; omega)]
    exact key l [] m h
  · rw [if_pos (by simp; omega)]
    have : l ≠ m := fun e => h (by rw [e])
    simp [this]
theorem eqR_dec {a b : TRect} : eqTRect a b = true ↔ a = b := eqTRect_iff
theorem EqualR_ok (l m : List TRect) : ∃ b : Bool, F_slices_Equal_Rect l m = some b ∧ (b = true ↔ l = m) := by
  have key : ∀ (suf pre rest : List TRect), suf.length = rest.length → ∃ b : Bool, F_slices_Equal_Rect_L1 (pre ++ rest) suf pre.length = some b ∧ (b = true ↔ suf = rest) := by
    intro suf
    induction suf with
    | nil =>
      intro pre rest h
      have : rest = [] := List.eq_nil_of_length_eq_zero h.symm
      subst this
      rw [F_slices_Equal_Rect_L1.eq_1]; exact ⟨true, rfl, by simp⟩
    | cons x suf ih =>
      intro pre rest h
      cases rest with
      | nil => simp at h
      | cons y rest =>
        rw [F_slices_Equal_Rect_L1.eq_2, idx_mid pre rest y, Option.bind_some]
        obtain ⟨b, h1, h2⟩ := ih (pre ++ [y]) rest (by simpa using h)
        by_cases hxy : x = y
        · subst hxy
          rw [eqTRect_iff.2 rfl, if_neg (by simp)]
          exact ⟨b, by simpa using h1, by simp [h2]⟩
        · have : eqTRect x y = false := by rw [Bool.eq_false_iff]; exact fun h => hxy (eqTRect_iff.1 h)
          rw [this, if_pos (by simp)]
          exact ⟨false, rfl, by simp [hxy]⟩
  unfold F_slices_Equal_Rect
  by_cases h : l.length = m.length
  · rw [if_neg (by simp; omega)]
    exact key l [] m h
  · rw [if_pos (by simp; omega)]
    exact ⟨false, rfl, by simp; exact fun e => h (by rw [e])⟩
/-- slices.SortFunc by a number of each element. -/
theorem sort_key {c : TRect → TRect → Option Int} {k : TRect → Int} {l : List TRect} (hl : l.length ≤ 1000000000) (hc : ∀ x ∈ l, ∀ y ∈ l, c x y = some (k x - k y)) : ∃ m, srtF l c = some m ∧ m.Perm l ∧ m.Pairwise fun x y => k x ≤ k y := by
  have hlt : ∀ x ∈ l, ∀ y ∈ l, ltC c x y = decide (k x < k y) := fun x hx y hy => by
    unfold ltC
    rw [hc x hx y hy, Option.getD_some]
    exact decide_eq_decide.2 (by omega)
  have hs : SortOk c l := ⟨by omega, fun x hx y hy => ⟨_, hc x hx y hy⟩, fun x hx => by rw [hlt x hx x hx]; simp, fun x hx y hy z hz h1 h2 => by
    rw [hlt x hx y hy] at h1; rw [hlt y hy z hz] at h2; rw [hlt x hx z hz]; simp at *; omega, fun x hx y hy z hz h1 h2 => by
    rw [hlt x hx y hy] at h1; rw [hlt y hy z hz] at h2; rw [hlt x hx z hz]; simp at *; omega⟩
  obtain ⟨m, hm⟩ := srtF_ok hs
  obtain ⟨_, hp, hw⟩ := srtF_some hm
  refine ⟨m, hm, hp, hw.imp_of_mem fun {x y} hx hy h => ?_⟩
  rw [hlt y (hp.subset hy) x (hp.subset hx)] at h
  simp at h
  exact h
theorem stretches_loop (y : List TRect) : ∀ (suf : List TRect) (i : Nat) (l : List (Int × Int)), l.length + suf.length ≤ 1000000000 → F_shape_stretches_L1 y suf i (flatS l) = some (flatS ((suf.map xsR).foldl ext1 l), y)
  | [], i, l, _ => by rw [F_shape_stretches_L1.eq_1]; rfl
  | r :: suf, i, l, h => by
    simp only [List.length_cons] at h
    have hsplit : l = [] ∨ ∃ j q, l = j ++ [q] := by
      rcases List.eq_nil_or_concat l with h | ⟨j, q, h⟩
      · exact .inl h
      · exact .inr ⟨j, q, by simpa using h⟩
    rw [F_shape_stretches_L1.eq_2, List.map_cons, List.foldl_cons]
    rcases hsplit with rfl | ⟨j, q, rfl⟩
    · rw [if_neg (by simp [flatS_nil, w64_id]), Option.bind_some, if_neg (by simp), show apd (flatS []) [r.X0, r.X1] = some (flatS [xsR r]) from rfl, Option.bind_some, ext1_nil]
      exact stretches_loop y suf (i + 1) [xsR r] (by simp; omega)
    · have hfl : flatS (j ++ [q]) = (flatS j ++ [q.1]) ++ q.2 :: [] := by rw [flatS_append]; simp [flatS]
      have hlen : (flatS (j ++ [q])).length = 2 * j.length + 2 := by rw [flatS_len]; simp; omega
      simp only [List.length_append, List.length_singleton] at h
      have hw : w64 (((flatS (j ++ [q])).length : Int) - 1) = ((flatS j ++ [q.1]).length : Int) := by
        rw [w64_id (by omega) (by omega), hlen]; simp [flatS_len]; omega
      have hid : idx (flatS (j ++ [q])) ((flatS j ++ [q.1]).length : Int) = some q.2 := by rw [hfl]; exact idx_mid _ [] q.2
      rw [hw, if_pos (decide_eq_true (by omega)), hid, Option.bind_some, Option.bind_some, ext1_snoc]
      by_cases hle : r.X0 ≤ q.2
      · rw [if_pos (by simpa using hle), if_pos (show (xsR r).1 ≤ q.2 from hle), Option.bind_some]
        have hset : sets (flatS (j ++ [q])) ((flatS j ++ [q.1]).length : Int) (max q.2 r.X1) = some (flatS (j ++ [(q.1, max q.2 (xsR r).2)])) := by
          unfold sets
          rw [if_pos ⟨by omega, by rw [hlen]; simp [flatS_len]⟩, hfl, flatS_append]
          simp [flatS, xsR]
        rw [Option.bind_some, hset, Option.bind_some]
        exact stretches_loop y suf (i + 1) _ (by simp; omega)
      · rw [if_neg (by simpa using hle), if_neg (show ¬ (xsR r).1 ≤ q.2 from hle), apd_ok (by rw [hlen]; simp; omega), Option.bind_some]
        have : flatS (j ++ [q]) ++ [r.X0, r.X1] = flatS (j ++ [q] ++ [xsR r]) := by rw [flatS_append (j ++ [q])]; rfl
        rw [this]
        exact stretches_loop y suf (i + 1) _ (by simp; omega)
theorem stretches_ok {l : List TRect} (hl : l.length ≤ 400000000) (h : ∀ r ∈ l, R9 r) : ∃ m, m.Perm l ∧ F_shape_stretches l = some (flatS (covS (l.map xsR)), m) := by
  obtain ⟨m, h1, h2, h3⟩ := sort_key (c := fun z0 z1 => F_shape_stretches_1 z0 z1) (k := fun r => r.X0) (l := l) (by omega) (fun x hx y hy => by
    have a := (h x hx).x0; have b := (h y hy).x0
    unfold F_shape_stretches_1
    rw [w64_id (by omega) (by omega)])
  refine ⟨m, h2, ?_⟩
  unfold F_shape_stretches
  rw [h1, Option.bind_some]
  have := stretches_loop m m 0 [] (by have := h2.length_eq; simp; omega)
  rw [flatS_nil] at this
  rw [this, ext_cov (lo := -2000000001) (h2.map xsR) (by rw [List.pairwise_map]; exact h3) (fun p hp => by
    obtain ⟨r, hr, rfl⟩ := List.mem_map.1 hp
    have a := h r hr
    exact ⟨by have := a.x0; show -2000000001 < r.X0; omega, a.x⟩)]
theorem IndexR_ok {g : TRect → Bool} {f : TRect → Option Bool} : ∀ (l : List TRect) (i : Nat), (∀ x ∈ l, f x = some (g x)) → F_slices_IndexFunc_Rect_L1 f l i = some (ixOf g l i)
  | [], i, _ => rfl
  | x :: l, i, h => by
    rw [F_slices_IndexFunc_Rect_L1.eq_2, h x (by simp), Option.bind_some, IndexR_ok l (i + 1) (fun y hy => h y (by simp [hy])), ixOf, show ((i + 1 : Nat) : Int) = (i : Int) + 1 by omega]
    cases g x <;> rfl
theorem delete_loop {g : TRect → Bool} {f : TRect → Option Bool} : ∀ (rest k u : List TRect) (n : Nat), (∀ x ∈ rest, f x = some (g x)) → u ≠ [] → rest.length < n → (k ++ u ++ rest).length ≤ 1000000000 →
    F_slices_DeleteFunc_Rect_L1 f n (k ++ u ++ rest) k.length (k ++ u).length = some (k ++ rest.filter fun x => !g x)
  | [], k, u, n + 1, _, hu, _, hl => by
    have hc : cut (k ++ u ++ []) (k.length : Int) ((k ++ u ++ []).length : Int) = some u := by
      unfold cut
      rw [if_pos ⟨by omega, by simp; omega, by omega⟩, List.append_nil, Int.toNat_natCast, Int.toNat_natCast, List.take_length, List.drop_left]
    rw [F_slices_DeleteFunc_Rect_L1.eq_2, if_neg (by simp), hc, Option.bind_some]
    unfold clr pre
    rw [if_pos ⟨by omega, by simp; omega⟩]
    simp
  | x :: rest, k, u, n + 1, h, hu, hn, hl => by
    obtain ⟨u0, u', rfl⟩ : ∃ u0 u', u = u0 :: u' := by cases u with | nil => exact absurd rfl hu | cons a b => exact ⟨a, b, rfl⟩
    have hid : idx (k ++ (u0 :: u') ++ x :: rest) ((k ++ (u0 :: u')).length : Int) = some x := idx_mid _ rest x
    simp only [List.length_append, List.length_cons] at hl hn
    rw [F_slices_DeleteFunc_Rect_L1.eq_2, if_pos (by simp; omega), hid, Option.bind_some, h x (by simp), Option.bind_some, up_mid (k ++ (u0 :: u')) x (by simp; omega)]
    cases hg : g x
    · have hid2 : idx (k ++ (u0 :: u') ++ x :: rest) (k.length : Int) = some u0 := by
        rw [List.append_assoc]; exact idx_mid k (u' ++ x :: rest) u0
      have hset : sets (k ++ (u0 :: u') ++ x :: rest) (k.length : Int) x = some ((k ++ [x]) ++ (u' ++ [x]) ++ rest) := by
        unfold sets
        rw [if_pos ⟨by omega, by simp⟩]
        simp
      rw [if_pos (by simp), hid2, Option.bind_some, hset, Option.bind_some, up_mid k x (by omega)]
      have := delete_loop rest (k ++ [x]) (u' ++ [x]) n (fun y hy => h y (by simp [hy])) (by simp) (by omega) (by simp; omega)
      have e : ((k ++ (u0 :: u') ++ [x]).length : Int) = ((k ++ [x] ++ (u' ++ [x])).length : Int) := by rw [List.length_append, List.length_append, List.length_append, List.length_append, List.length_append]; simp; omega
      rw [e, this, List.filter_cons, hg]
      simp
    · rw [if_neg (by simp)]
      have := delete_loop rest k (u0 :: u' ++ [x]) n (fun y hy => h y (by simp [hy])) (by simp) (by omega) (by simp; omega)
      have e : k ++ (u0 :: u') ++ x :: rest = k ++ (u0 :: u' ++ [x]) ++ rest := by simp
      have e2 : ((k ++ (u0 :: u') ++ [x]).length : Int) = ((k ++ (u0 :: u' ++ [x])).length : Int) := by simp
      rw [e, e2, this, List.filter_cons, hg]
      simp
theorem ixOf_split {α : Type} (g : α → Bool) : ∀ (l : List α) (i : Int), 0 ≤ i → (ixOf g l i = -1 ∧ ∀ x ∈ l, g x = false) ∨ ∃ a x b, l = a ++ x :: b ∧ (∀ y ∈ a, g y = false) ∧ g x = true ∧ ixOf g l i = i + a.length
  | [], i, _ => .inl ⟨rfl, by simp⟩
  | x :: l, i, hi => by
    unfold ixOf
    cases hg : g x
    · simp only [Bool.false_eq_true, if_false]
      rcases ixOf_split g l (i + 1) (by omega) with ⟨h1, h2⟩ | ⟨a, z, b, h1, h2, h3, h4⟩
      · exact .inl ⟨h1, fun y hy => by rcases List.mem_cons.1 hy with rfl | hy; exact hg; exact h2 y hy⟩
      · refine .inr ⟨x :: a, z, b, by rw [h1]; rfl, fun y hy => ?_, h3, by rw [h4]; simp; omega⟩
        rcases List.mem_cons.1 hy with rfl | hy
        · exact hg
        · exact h2 y hy
    · rw [if_pos rfl]
      exact .inr ⟨[], x, l, rfl, by simp, hg, by simp⟩
theorem Delete_ok {N : Nat} {g : TRect → Bool} {f : TRect → Option Bool} {l : List TRect} (hN : 1000000000 < N) (hl : l.length ≤ 1000000000) (h : ∀ x ∈ l, f x = some (g x)) : F_slices_DeleteFunc_Rect N l f = some (l.filter fun x => !g x) := by
  unfold F_slices_DeleteFunc_Rect F_slices_IndexFunc_Rect
  rw [IndexR_ok l 0 h, Option.bind_some, show ((0 : Nat) : Int) = 0 from rfl]
  rcases ixOf_split g l 0 (by omega) with ⟨h1, h2⟩ | ⟨a, x, b, h1, h2, h3, h4⟩
  · rw [h1, if_pos (by simp)]
    congr 1
    exact (List.filter_eq_self.2 fun y hy => by simp [h2 y hy]).symm
  · rw [h4, if_neg (by first | (simp; done) | (simp; omega))]
    subst h1
    simp only [List.length_append, List.length_cons] at hl
    have := delete_loop b a [x] N (fun y hy => h y (by simp [hy])) (by simp) (by omega) (by simp; omega)
    have e : a ++ [x] ++ b = a ++ x :: b := by simp
    rw [e] at this
    rw [Int.zero_add, w64_id (by omega) (by omega), show ((a.length : Int) + 1) = ((a ++ [x]).length : Int) by simp, this, List.filter_append, List.filter_cons, h3]
    have ha : a.filter (fun x => !g x) = a := List.filter_eq_self.2 fun y hy => by simp [h2 y hy]
    simp [ha]
theorem push_ok {l : List Bd} {b : Bd} (hl : l.length ≤ 1000000000) (hb : b.1 < b.2.1) : F_shape_Set__push (l.map toP) (toP b) = some ((pushB l b).map toP) := by
  unfold F_shape_Set__push
  have hfl : ((toP b).Xs.length : Int) = 2 * (b.2.2.length : Int) := by show ((flatS b.2.2).length : Int) = _; rw [flatS_len]; omega
  by_cases he : b.2.2 = []
  · rw [if_pos (by rw [hfl, he]; simp), pushB_empty he]
  · have hpos : 0 < b.2.2.length := List.length_pos_iff.2 he
    rw [if_neg (by
      rw [hfl]
      show ¬ ((2 * (b.2.2.length : Int) == 0) || decide (b.2.1 ≤ b.1)) = true
      rw [Bool.or_eq_true, not_or]
      exact ⟨by simp; exact he, by simp; exact hb⟩)]
    have hsplit : l = [] ∨ ∃ j q, l = j ++ [q] := by
      rcases List.eq_nil_or_concat l with h | ⟨j, q, h⟩
      · exact .inl h
      · exact .inr ⟨j, q, by simpa using h⟩
    rcases hsplit with rfl | ⟨j, c, rfl⟩
    · rw [pushB_nil he, if_neg (by simp [w64_id]), Option.bind_some, if_neg (by simp), Option.bind_some, if_neg (by simp)]
      rfl
    · simp only [List.length_append, List.length_singleton] at hl
      have hm : (j ++ [c]).map toP = j.map toP ++ toP c :: [] := by simp
      have hw : w64 ((((j ++ [c]).map toP).length : Int) - 1) = ((j.map toP).length : Int) := by
        rw [w64_id (by first | (simp; done) | (simp; omega)) (by first | (simp; done) | (simp; omega))]; simp
      have hid : idx ((j ++ [c]).map toP) ((j.map toP).length : Int) = some (toP c) := by rw [hm]; exact idx_mid _ [] _
      rw [pushB_snoc he, hw, if_pos (by simp), hid, Option.bind_some, Option.bind_some, Option.bind_some, EqualI_ok]
      have hxs : ((toP c).Xs = (toP b).Xs) ↔ c.2.2 = b.2.2 := ⟨fun h => flatS_inj h, fun h => by show flatS c.2.2 = flatS b.2.2; rw [h]⟩
      by_cases h1 : c.2.1 = b.1
      · have e1 : ((toP c).Y1 == (toP b).Y0) = true := by simpa [toP] using h1
        rw [e1, if_pos rfl, Option.bind_some, Option.bind_some]
        by_cases h2 : c.2.2 = b.2.2
        · rw [decide_eq_true (hxs.2 h2), if_pos rfl, if_pos ⟨h1, h2⟩]
          have hset : sets ((j ++ [c]).map toP) ((j.map toP).length : Int) (TBand.mk (toP c).Y0 (toP b).Y1 (toP c).Xs) = some ((j ++ [(c.1, b.2.1, c.2.2)]).map toP) := by
            unfold sets
            rw [if_pos ⟨by omega, by simp⟩, hm]
            simp [toP]
          rw [Option.bind_some, hset]; rfl
        · rw [decide_eq_false (fun h => h2 (hxs.1 h)), if_neg (by simp), if_neg (fun h => h2 h.2), apd_ok (by simp; omega), Option.bind_some]
          simp
      · have e1 : ((toP c).Y1 == (toP b).Y0) = false := by simpa [toP] using h1
        rw [e1, if_neg (by simp), Option.bind_some, if_neg (by simp), if_neg (fun h => h1 h.1), apd_ok (by simp; omega), Option.bind_some]
        simp
end Go.Proofs.Ytnlhigfglfahiaa
namespace Go.Proofs.Ytnlhigfglfahiaa
/-- Strictly ascending lists with the same members are one list. -/
theorem strict_uniq : ∀ {l m : List Int}, l.Pairwise (fun x y => x < y) → m.Pairwise (fun x y => x < y) → (∀ x, x ∈ l ↔ x ∈ m) → l = m
  | [], [], _, _, _ => rfl
  | [], y :: m, _, _, h => by have := (h y).2 (by simp); simp at this
  | x :: l, [], _, _, h => by have := (h x).1 (by simp); simp at this
  | x :: l, y :: m, h1, h2, h => by
    rw [List.pairwise_cons] at h1 h2
    have hxy : x = y := by
      have a := (h x).1 (by simp)
      have b := (h y).2 (by simp)
      rcases List.mem_cons.1 a with a | a
      · exact a
      · rcases List.mem_cons.1 b with b | b
        · exact b.symm
        · have := h1.1 y b; have := h2.1 x a; omega
    subst hxy
    rw [strict_uniq h1.2 h2.2 fun z => by
      have hz := h z
      simp only [List.mem_cons] at hz
      constructor
      · intro hm
        have hne : z ≠ x := by have := h1.1 z hm; omega
        rcases hz.1 (.inr hm) with e | e
        · exact absurd e hne
        · exact e
      · intro hm
        have hne : z ≠ x := by have := h2.1 z hm; omega
        rcases hz.2 (.inr hm) with e | e
        · exact absurd e hne
        · exact e]
theorem srtd_perm {l m : List Int} (h : ∀ x, x ∈ l ↔ x ∈ m) : srtd l = srtd m := strict_uniq (srtd_strict l) (srtd_strict m) fun x => by rw [srtd_mem, srtd_mem, h]
theorem mem_ysOfR {l : List TRect} {y : Int} : y ∈ ysOfR l ↔ ∃ r ∈ l, y = r.Y0 ∨ y = r.Y1 := by
  unfold ysOfR
  simp [List.mem_flatMap]
theorem ysOfR_len : ∀ l : List TRect, (ysOfR l).length = 2 * l.length
  | [] => rfl
  | r :: l => by
    show ([r.Y0, r.Y1] ++ ysOfR l).length = _
    rw [List.length_append, ysOfR_len l]; simp; omega
theorem srtd_len (l : List Int) : (srtd l).length ≤ l.length := by
  unfold srtd
  exact Nat.le_trans (cpI_len _) (by rw [List.length_mergeSort]; exact Nat.le_refl _)
theorem pushB_len (l : List Bd) (b : Bd) : (pushB l b).length ≤ l.length + 1 := by
  by_cases he : b.2.2 = []
  · rw [pushB_empty he]; omega
  · rcases List.eq_nil_or_concat l with rfl | ⟨j, c, h⟩
    · rw [pushB_nil he]; simp
    · rw [List.concat_eq_append] at h
      subst h
      rw [pushB_snoc he]
      split <;> simp
section
variable {N : Nat} {l M : List TRect} {ys : List Int} (hN : 10000000000 ≤ N) (hMl : M.length ≤ 100000000) (hok : ∀ r ∈ M, R9 r) (hyl : ys.length ≤ 200000000)
include hN hMl hok hyl
omit hN hyl in
theorem set_in {k a b : Int} {bands : List Bd} (hbl : bands.length ≤ 250000000) (hk0 : 0 ≤ k ∧ k ≤ 250000000) (ha : idx ys k = some a) (hb : idx ys (k + 1) = some b) (hab : a < b) {K : Int → List TBand → List TRect → Int → Option (List TBand)} : ∀ (suf pre now : List TRect) (m : Nat), M = pre ++ suf → suf.length < m → (∀ r ∈ now, R9 r) → now.length + suf.length ≤ 150000000 →
    ∃ t suf' now', suf = t ++ suf' ∧ (∀ r ∈ t, r.Y0 ≤ a) ∧ (∀ r, suf'.head? = some r → a < r.Y0) ∧ now'.Perm (now ++ t) ∧
      F_shape_SetOf_L5 M ys k (bands.map toP) K m now pre.length = K (k + 1) ((pushB bands (a, b, covS ((now ++ t).map xsR))).map toP) now' (pre ++ t).length
  | suf, pre, now, 0, _, h, _, _ => absurd h (Nat.not_lt_zero _)
  | [], pre, now, m + 1, h1, _, h3, h4 => by
    obtain ⟨now', p1, p2⟩ := stretches_ok (l := now) (by simp at h4; omega) h3
    refine ⟨[], [], now', rfl, by simp, by simp, by simpa using p1, ?_⟩
    have hpush := push_ok (l := bands) (b := (a, b, covS (now.map xsR))) (by omega) hab
    rw [F_shape_SetOf_L5.eq_2, if_neg (by rw [h1]; simp), Option.bind_some, if_neg (by simp), ha, Option.bind_some, w64_id (by omega) (by omega), hb, Option.bind_some, p2, Option.bind_some]
    show (F_shape_Set__push (bands.map toP) (toP (a, b, covS (now.map xsR)))).bind _ = _
    rw [hpush, Option.bind_some]
    simp
  | r :: suf, pre, now, m + 1, h1, h2, h3, h4 => by
    have hrM : r ∈ M := by rw [h1]; simp
    have hpl : pre.length ≤ 100000000 := by rw [h1] at hMl; simp at hMl; omega
    have hid : idx M (pre.length : Int) = some r := by rw [h1]; exact idx_mid pre suf r
    simp only [List.length_cons] at h2 h4
    by_cases hle : r.Y0 ≤ a
    · obtain ⟨t, suf', now', e1, e2, e3, e4, e5⟩ := set_in hbl hk0 ha hb hab (K := K) suf (pre ++ [r]) (now ++ [r]) m (by rw [h1]; simp) (by omega) (fun x hx => by
        rcases List.mem_append.1 hx with hx | hx
        · exact h3 x hx
        · simp at hx; subst hx; exact hok _ hrM) (by simp; omega)
      refine ⟨r :: t, suf', now', by rw [e1]; rfl, fun x hx => ?_, e3, by simpa using e4, ?_⟩
      · rcases List.mem_cons.1 hx with rfl | hx
        · exact hle
        · exact e2 x hx
      · rw [F_shape_SetOf_L5.eq_2, if_pos (by rw [h1]; exact lt_mid pre suf r), hid, Option.bind_some, ha, Option.bind_some, Option.bind_some, if_pos (by simpa using hle), Option.bind_some, apd_ok (by simp; omega), Option.bind_some, up_mid pre r (by omega), e5]
        simp
    · obtain ⟨now', p1, p2⟩ := stretches_ok (l := now) (by omega) h3
      refine ⟨[], r :: suf, now', rfl, by simp, fun x hx => by simp at hx; subst hx; omega, by simpa using p1, ?_⟩
      have hpush := push_ok (l := bands) (b := (a, b, covS (now.map xsR))) (by omega) hab
      rw [F_shape_SetOf_L5.eq_2, if_pos (by rw [h1]; exact lt_mid pre suf r), hid, Option.bind_some, ha, Option.bind_some, Option.bind_some, if_neg (by simpa using hle), Option.bind_some, w64_id (by omega) (by omega), hb, Option.bind_some, p2, Option.bind_some]
      show (F_shape_Set__push (bands.map toP) (toP (a, b, covS (now.map xsR)))).bind _ = _
      rw [hpush, Option.bind_some]
      simp
theorem set_out (hMs : M.Pairwise fun x y => x.Y0 ≤ y.Y0) (hys : ys.Pairwise fun x y => x < y) (hmem : ∀ r ∈ M, r.Y0 ∈ ys) (hl : ∀ r, r ∈ l ↔ r ∈ M) : ∀ (hsuf hpre : List Int) (m : Nat) (bands : List Bd) (pre suf now : List TRect) (v : Int), ys = hpre ++ hsuf → M = pre ++ suf → hsuf.length < m → bands.length ≤ hpre.length →
    (∀ r ∈ pre, r.Y0 ≤ v) → (∀ r ∈ suf, v < r.Y0) → now.Perm (pre.filter fun r => decide (v < r.Y1)) → (∀ h ∈ hsuf, v < h) → (∀ h ∈ hpre, h ≤ v) →
    F_shape_SetOf_L4 N M ys m hpre.length (bands.map toP) now pre.length = some ((bandsGo l hsuf bands).map toP)
  | [], hpre, m + 1, bands, pre, suf, now, v, e1, e2, _, _, _, _, _, _, _ => by
    have hpl : hpre.length ≤ 200000000 := by rw [e1] at hyl; simpa using hyl
    rw [F_shape_SetOf_L4.eq_2, if_neg (by rw [w64_id (by omega) (by omega), e1]; simp; omega)]
    rfl
  | [a], hpre, m + 1, bands, pre, suf, now, v, e1, e2, _, _, _, _, _, _, _ => by
    have hpl : hpre.length ≤ 200000000 := by rw [e1] at hyl; simp at hyl; omega
    rw [F_shape_SetOf_L4.eq_2, if_neg (by rw [w64_id (by omega) (by omega), e1]; simp)]
    rfl
  | a :: b :: hsuf, hpre, m + 1, bands, pre, suf, now, v, e1, e2, hm, hbl, i1, i2, i3, i4, i5 => by
    have hpl : hpre.length + 2 ≤ 200000000 := by rw [e1] at hyl; simp at hyl; omega
    have hva : v < a := i4 a (by simp)
    have hs2 : (a :: b :: hsuf).Pairwise fun x y => x < y := by rw [e1] at hys; exact (List.pairwise_append.1 hys).2.1
    have hab : a < b := (List.pairwise_cons.1 hs2).1 b (by simp)
    have ha : idx ys (hpre.length : Int) = some a := by rw [e1]; exact idx_mid hpre _ a
    have hb : idx ys ((hpre.length : Int) + 1) = some b := by
      rw [e1, show hpre ++ a :: b :: hsuf = (hpre ++ [a]) ++ b :: hsuf by simp, show ((hpre.length : Int) + 1) = ((hpre ++ [a]).length : Int) by simp]
      exact idx_mid (hpre ++ [a]) _ b
    have hnl : now.length ≤ pre.length := by rw [i3.length_eq]; exact List.length_filter_le _ _
    have hMl2 : pre.length + suf.length ≤ 100000000 := by rw [e2] at hMl; simpa using hMl
    have hnok : ∀ r ∈ now, R9 r := fun r hr => hok r (by rw [e2]; exact List.mem_append_left _ (List.mem_filter.1 (i3.subset hr)).1)
    have hdel := Delete_ok (N := N) (g := fun r => decide (r.Y1 ≤ a)) (f := fun z0 => F_shape_SetOf_2 z0 ys hpre.length) (l := now) (by omega) (by omega) (fun r _ => by unfold F_shape_SetOf_2; rw [ha]; rfl)
    obtain ⟨t, suf', now', s1, s2, s3, s4, s5⟩ := set_in hMl hok (bands := bands) (by omega) (k := (hpre.length : Int)) ⟨by omega, by omega⟩ ha hb hab (K := F_shape_SetOf_L4 N M ys m) suf pre (now.filter fun x => !decide (x.Y1 ≤ a)) N e2 (by omega) (fun r hr => hnok r (List.mem_filter.1 hr).1) (by
      have := List.length_filter_le (fun x : TRect => !decide (x.Y1 ≤ a)) now
      omega)
    have hsM : suf.Pairwise fun x y => x.Y0 ≤ y.Y0 := by rw [e2] at hMs; exact (List.pairwise_append.1 hMs).2.1
    have hsuf' : ∀ r ∈ suf', a < r.Y0 := fun r hr => by
      cases suf' with
      | nil => simp at hr
      | cons c cs =>
        have hc := s3 c rfl
        rcases List.mem_cons.1 hr with rfl | hr
        · exact hc
        · rw [s1] at hsM
          have := (List.pairwise_cons.1 (List.pairwise_append.1 hsM).2.1).1 r hr
          omega
    have ht : ∀ r ∈ t, r.Y0 = a ∧ a < r.Y1 := fun r hr => by
      have hrs : r ∈ suf := by rw [s1]; exact List.mem_append_left _ hr
      have hrM : r ∈ M := by rw [e2]; exact List.mem_append_right _ hrs
      have h1 := s2 r hr
      have h2 := i2 r hrs
      have h3 := hmem r hrM
      have hin : r.Y0 ∈ a :: b :: hsuf := by
        rw [e1] at h3
        rcases List.mem_append.1 h3 with h | h
        · have := i5 _ h; omega
        · exact h
      have hle : a ≤ r.Y0 := by
        rcases List.mem_cons.1 hin with h | h
        · omega
        · have := (List.pairwise_cons.1 hs2).1 _ h; omega
      have := (hok r hrM).y
      omega
    have hperm : (now.filter (fun x => !decide (x.Y1 ≤ a)) ++ t).Perm ((pre ++ t).filter fun r => decide (a < r.Y1)) := by
      rw [List.filter_append]
      have p1 : (now.filter fun x => !decide (x.Y1 ≤ a)).Perm (pre.filter fun r => decide (a < r.Y1)) := by
        refine (i3.filter _).trans ?_
        rw [List.filter_filter]
        refine List.Perm.of_eq (List.filter_congr fun r _ => ?_)
        rw [Bool.eq_iff_iff]
        simp
        omega
      have p2 : t.filter (fun r => decide (a < r.Y1)) = t := List.filter_eq_self.2 fun r hr => by simpa using (ht r hr).2
      rw [p2]
      exact p1.append_right t
    have hcov : covS ((now.filter (fun x => !decide (x.Y1 ≤ a)) ++ t).map xsR) = rowS l a := by
      have hin : ∀ r, r ∈ (now.filter (fun x => !decide (x.Y1 ≤ a)) ++ t) ↔ r ∈ l.filter fun r => decide (r.Y0 ≤ a) && decide (a < r.Y1) := fun r => by
        rw [hperm.mem_iff, List.mem_filter, List.mem_filter, hl, e2, s1]
        simp only [List.mem_append, Bool.and_eq_true, decide_eq_true_eq]
        constructor
        · rintro ⟨h | h, h2⟩
          · exact ⟨.inl h, by have := i1 r h; omega, h2⟩
          · exact ⟨.inr (.inl h), by have := (ht r h).1; omega, h2⟩
        · rintro ⟨h | h | h, h1, h2⟩
          · exact ⟨.inl h, h2⟩
          · exact ⟨.inr h, h2⟩
          · have := hsuf' r h; omega
      have hlim : ∀ r, r ∈ M → -2000000001 < (xsR r).1 ∧ (xsR r).1 < (xsR r).2 := fun r hr => by
        have := hok r hr
        exact ⟨by have := this.x0; show -2000000001 < r.X0; omega, this.x⟩
      have hMr : ∀ r, r ∈ (now.filter (fun x => !decide (x.Y1 ≤ a)) ++ t) → r ∈ M := fun r hr => (hl r).1 (List.mem_filter.1 ((hin r).1 hr)).1
      unfold rowS
      refine covS_congr (lo := -2000000001) (fun p hp => ?_) (fun p hp => ?_) fun x => ?_
      · obtain ⟨r, hr, rfl⟩ := List.mem_map.1 hp; exact hlim r (hMr r hr)
      · obtain ⟨r, hr, rfl⟩ := List.mem_map.1 hp; exact hlim r ((hl r).1 (List.mem_filter.1 hr).1)
      · unfold InS
        constructor
        · rintro ⟨p, hp, h⟩
          obtain ⟨r, hr, rfl⟩ := List.mem_map.1 hp
          exact ⟨_, List.mem_map.2 ⟨r, (hin r).1 hr, rfl⟩, h⟩
        · rintro ⟨p, hp, h⟩
          obtain ⟨r, hr, rfl⟩ := List.mem_map.1 hp
          exact ⟨_, List.mem_map.2 ⟨r, (hin r).2 hr, rfl⟩, h⟩
    rw [F_shape_SetOf_L4.eq_2, if_pos (by rw [w64_id (by omega) (by omega), e1]; simp; omega), hdel, Option.bind_some, s5, hcov]
    have hpb := pushB_len bands (a, b, rowS l a)
    have ih := set_out hMs hys hmem hl (b :: hsuf) (hpre ++ [a]) m (pushB bands (a, b, rowS l a)) (pre ++ t) suf' now' a (by rw [e1]; simp) (by rw [e2, s1]; simp) (by simp at hm ⊢; omega) (by simp; omega) (fun r hr => by
      rcases List.mem_append.1 hr with hr | hr
      · have := i1 r hr; omega
      · have := (ht r hr).1; omega) hsuf' (s4.trans hperm) (fun h hh => (List.pairwise_cons.1 hs2).1 h hh) (fun h hh => by
      rcases List.mem_append.1 hh with hh | hh
      · have := i5 h hh; omega
      · simp at hh; omega)
    rw [show ((hpre.length : Int) + 1) = ((hpre ++ [a]).length : Int) by simp, ih]
    rfl
end
theorem ysOfR_cons (r : TRect) (l : List TRect) : ysOfR (r :: l) = [r.Y0, r.Y1] ++ ysOfR l := rfl
theorem SetOf_ok {N : Nat} {l : List TRect} (hN : 10000000000 ≤ N) (hl : l.length ≤ 100000000) (hok : ∀ r ∈ l, R9 r) : F_shape_SetOf N l = some ((setB l).map toP) := by
  obtain ⟨M, m1, m2, m3⟩ := sort_key (c := fun z0 z1 => F_shape_SetOf_1 z0 z1) (k := fun r => r.Y0) (l := l) (by omega) (fun x hx y hy => by
    have a := (hok x hx).y0; have b := (hok y hy).y0
    unfold F_shape_SetOf_1
    rw [w64_id (by omega) (by omega)])
  have hMl : M.length ≤ 100000000 := by rw [m2.length_eq]; exact hl
  have hMok : ∀ r ∈ M, R9 r := fun r hr => hok r (m2.subset hr)
  have hy : srtd (ysOfR M) = srtd (ysOfR l) := srtd_perm fun y => by
    rw [mem_ysOfR, mem_ysOfR]
    exact ⟨fun ⟨r, hr, h⟩ => ⟨r, m2.subset hr, h⟩, fun ⟨r, hr, h⟩ => ⟨r, m2.symm.subset hr, h⟩⟩
  have hyl : (srtd (ysOfR l)).length ≤ 200000000 := Nat.le_trans (srtd_len _) (by rw [ysOfR_len]; omega)
  have L1 : ∀ (suf : List TRect) (i : Nat) (out : List Int), out.length + 2 * suf.length ≤ 250000000 → F_shape_SetOf_L1 N M suf i out = (F_shape_SetOf_L4 N M (srtd (out ++ ysOfR suf)) N 0 [] [] 0) := by
    intro suf
    induction suf with
    | nil =>
      intro i out ho
      rw [F_shape_SetOf_L1.eq_1]
      have := srtd_ok (l := out) (by simp at ho; omega)
      rw [srtI_ok (by simp at ho; omega), Option.bind_some]
      rw [srtI_ok (by simp at ho; omega), Option.bind_some] at this
      rw [this, Option.bind_some]
      show _ = F_shape_SetOf_L4 N M (srtd (out ++ [])) N 0 [] [] 0
      rw [List.append_nil]
    | cons r suf ih =>
      intro i out ho
      simp only [List.length_cons] at ho
      rw [F_shape_SetOf_L1.eq_2, apd_ok (by simp; omega), Option.bind_some, ih (i + 1) _ (by simp; omega), ysOfR_cons, List.append_assoc]
  unfold F_shape_SetOf F_slices_Clone_Rect
  rw [apd_ok (by simp; omega), Option.bind_some, Option.bind_some, List.nil_append, m1, Option.bind_some, L1 M 0 [] (by simp; omega), List.nil_append, hy]
  have := set_out (l := l) hN hMl hMok hyl m3 (srtd_strict _) (fun r hr => (srtd_mem _ _).2 (mem_ysOfR.2 ⟨r, m2.subset hr, .inl rfl⟩)) (fun r => ⟨fun h => m2.symm.subset h, fun h => m2.subset h⟩) (srtd (ysOfR l)) [] N [] [] M [] (-3000000000) rfl rfl (by omega) (by simp) (by simp) (fun r hr => by have := (hMok r hr).y0; omega) (by simp) (fun h hh => by
    obtain ⟨r, hr, e⟩ := mem_ysOfR.1 ((srtd_mem _ _).1 hh)
    have a := hok r hr
    have := a.y0; have := a.y1
    rcases e with rfl | rfl <;> omega) (by simp)
  exact this
theorem rowS_len (l : List TRect) (y : Int) : (rowS l y).length ≤ l.length := by
  unfold rowS covS
  have := covS_len ((l.filter fun r => decide (r.Y0 ≤ y) && decide (y < r.Y1)).map xsR) []
  have h2 := List.length_filter_le (fun r : TRect => decide (r.Y0 ≤ y) && decide (y < r.Y1)) l
  simp at this
  omega
end Go.Proofs.Ytnlhigfglfahiaa
namespace Go.Proofs.Ytnlhigfglfahiaa
/-- Bands that are not too many. -/
structure Small (l : List Bd) : Prop where
  len : l.length ≤ 200000000
  row : ∀ b ∈ l, b.2.2.length ≤ 100000000
  tot : (rectsB l).length ≤ 4000000000
theorem rectsB_cons (b : Bd) (l : List Bd) : rectsB (b :: l) = rectsOf b ++ rectsB l := rfl
theorem rectsOf_len (b : Bd) : (rectsOf b).length = b.2.2.length := by unfold rectsOf; simp
theorem rectsB_len {l : List Bd} {R : Nat} (h : ∀ b ∈ l, b.2.2.length ≤ R) : (rectsB l).length ≤ R * l.length := by
  induction l with
  | nil => simp [rectsB]
  | cons b l ih =>
    rw [rectsB_cons, List.length_append, rectsOf_len]
    have := ih (fun c hc => h c (by simp [hc])); have := h b (by simp)
    rw [List.length_cons, Nat.mul_succ]
    omega
theorem rectsB_append (l m : List Bd) : rectsB (l ++ m) = rectsB l ++ rectsB m := by unfold rectsB; rw [List.flatMap_append]
theorem rectsB_row {l : List Bd} {b : Bd} (h : b ∈ l) : b.2.2.length ≤ (rectsB l).length := by
  obtain ⟨s, t, rfl⟩ := List.append_of_mem h
  rw [rectsB_append, rectsB_cons, List.length_append, List.length_append, rectsOf_len]
  omega
theorem pushB_row {l : List Bd} {b : Bd} {R : Nat} (h : ∀ c ∈ l, c.2.2.length ≤ R) (hb : b.2.2.length ≤ R) : ∀ c ∈ pushB l b, c.2.2.length ≤ R := by
  by_cases he : b.2.2 = []
  · rw [pushB_empty he]; exact h
  · rcases List.eq_nil_or_concat l with rfl | ⟨j, c, hc⟩
    · rw [pushB_nil he]
      intro c hc
      simp at hc
      subst hc
      exact hb
    · rw [List.concat_eq_append] at hc
      subst hc
      rw [pushB_snoc he]
      intro d hd
      split at hd
      · rcases List.mem_append.1 hd with hd | hd
        · exact h d (by simp [hd])
        · simp at hd; subst hd; exact h c (by simp)
      · rcases List.mem_append.1 hd with hd | hd
        · exact h d hd
        · simp at hd; subst hd; exact hb
theorem bandsGo_small {l : List TRect} {R : Nat} (hl : l.length ≤ R) : ∀ (ys : List Int) (out : List Bd), (∀ c ∈ out, c.2.2.length ≤ R) → (bandsGo l ys out).length ≤ out.length + ys.length ∧ ∀ c ∈ bandsGo l ys out, c.2.2.length ≤ R
  | [], out, h => ⟨by simp [bandsGo], h⟩
  | [a], out, h => ⟨by simp [bandsGo], h⟩
  | a :: b :: ys, out, h => by
    have hr := rowS_len l a
    have hp := pushB_len out (a, b, rowS l a)
    obtain ⟨i1, i2⟩ := bandsGo_small hl (b :: ys) (pushB out (a, b, rowS l a)) (pushB_row h (by show (rowS l a).length ≤ R; omega))
    simp only [List.length_cons] at i1 ⊢
    exact ⟨by show (bandsGo l (b :: ys) (pushB out (a, b, rowS l a))).length ≤ _; omega, i2⟩
theorem setB_len (l : List TRect) : (setB l).length ≤ 2 * l.length ∧ ∀ b ∈ setB l, b.2.2.length ≤ l.length := by
  obtain ⟨h1, h2⟩ := bandsGo_small (Nat.le_refl l.length) (srtd (ysOfR l)) [] (by simp)
  have := srtd_len (ysOfR l)
  rw [ysOfR_len] at this
  exact ⟨by show (bandsGo l (srtd (ysOfR l)) []).length ≤ _; simp at h1; omega, h2⟩
theorem setB_small' {l : List TRect} (hl : l.length ≤ 100000000) (ht : (rectsB (setB l)).length ≤ 4000000000) : Small (setB l) := by
  obtain ⟨h1, h2⟩ := setB_len l
  exact ⟨by omega, fun b hb => by have := h2 b hb; omega, ht⟩
theorem setB_small {l : List TRect} (hl : l.length ≤ 20000) : Small (setB l) := by
  obtain ⟨h1, h2⟩ := setB_len l
  refine setB_small' (by omega) ?_
  have := rectsB_len (R := 20000) (l := setB l) fun b hb => by have := h2 b hb; omega
  omega
section
variable {N : Nat} (hN : 10000000000 ≤ N)
include hN
omit hN in
theorem Rects_in {b : Bd} {K : List TRect → Option (List TRect)} (hb : b.2.2.length ≤ 100000000) : ∀ (suf pre : List (Int × Int)) (m : Nat) (out : List TRect), b.2.2 = pre ++ suf → suf.length < m → out.length + suf.length ≤ 4294967296 →
    F_shape_Set__Rects_L4 K (toP b) m out ((2 * pre.length : Nat) : Int) = K (out ++ suf.map fun s => ⟨s.1, b.1, s.2, b.2.1⟩)
  | [], pre, m + 1, out, h1, _, _ => by
    rw [F_shape_Set__Rects_L4.eq_2, if_neg (by show ¬ decide (((2 * pre.length : Nat) : Int) < ((flatS b.2.2).length : Int)) = true; rw [h1, flatS_len]; simp)]
    simp
  | s :: suf, pre, m + 1, out, h1, h2, h3 => by
    have hpl : pre.length ≤ 100000000 := by rw [h1] at hb; simp at hb; omega
    have hfl : flatS b.2.2 = flatS pre ++ s.1 :: s.2 :: flatS suf := by rw [h1, flatS_append]; rfl
    have hid : idx (flatS b.2.2) ((2 * pre.length : Nat) : Int) = some s.1 := by rw [hfl, ← flatS_len]; exact idx_mid _ _ _
    have hid2 : idx (flatS b.2.2) (((2 * pre.length : Nat) : Int) + 1) = some s.2 := by
      rw [hfl, show flatS pre ++ s.1 :: s.2 :: flatS suf = (flatS pre ++ [s.1]) ++ s.2 :: flatS suf by simp, show (((2 * pre.length : Nat) : Int) + 1) = ((flatS pre ++ [s.1]).length : Int) by simp [flatS_len]]
      exact idx_mid _ _ _
    simp only [List.length_cons] at h2 h3
    rw [F_shape_Set__Rects_L4.eq_2, if_pos (by show decide (((2 * pre.length : Nat) : Int) < ((flatS b.2.2).length : Int)) = true; rw [hfl]; simp [flatS_len]; omega), w64_id (x := ((2 * pre.length : Nat) : Int) + 1) (by omega) (by omega), w64_id (x := ((2 * pre.length : Nat) : Int) + 2) (by omega) (by omega)]
    show ((idx (flatS b.2.2) _).bind fun x172 => (idx (flatS b.2.2) _).bind fun x173 => _) = _
    rw [hid, Option.bind_some, hid2, Option.bind_some, apd_ok (by simp; omega), Option.bind_some]
    have := Rects_in (K := K) hb suf (pre ++ [s]) m (out ++ [⟨s.1, b.1, s.2, b.2.1⟩]) (by rw [h1]; simp) (by omega) (by simp; omega)
    rw [show ((2 * (pre ++ [s]).length : Nat) : Int) = ((2 * pre.length : Nat) : Int) + 2 by simp; omega] at this
    show F_shape_Set__Rects_L4 K (toP b) m (out ++ [⟨s.1, b.1, s.2, b.2.1⟩]) _ = _
    rw [this]
    simp
theorem Rects_ok {l : List Bd} (h : Small l) : F_shape_Set__Rects N (l.map toP) = some (rectsB l) := by
  have key : ∀ (suf : List Bd) (i : Nat) (out : List TRect), (∀ b ∈ suf, b.2.2.length ≤ 100000000) → out.length + (rectsB suf).length ≤ 4294967296 → F_shape_Set__Rects_L3 N (suf.map toP) i out = some (out ++ rectsB suf) := by
    intro suf
    induction suf with
    | nil => intro i out _ _; rw [List.map_nil, F_shape_Set__Rects_L3.eq_1]; simp [rectsB]
    | cons b suf ih =>
      intro i out hb ho
      have hb0 := hb b (by simp)
      rw [rectsB_cons, List.length_append, rectsOf_len] at ho
      rw [List.map_cons, F_shape_Set__Rects_L3.eq_2]
      have := Rects_in (K := F_shape_Set__Rects_L3 N (suf.map toP) (i + 1)) hb0 b.2.2 [] N out rfl (by omega) (by omega)
      rw [show ((2 * ([] : List (Int × Int)).length : Nat) : Int) = 0 from rfl] at this
      rw [this, ih (i + 1) _ (fun c hc => hb c (by simp [hc])) (by simp; omega), rectsB_cons, List.append_assoc]
      rfl
  have := key l 0 [] h.row (by have := h.tot; simp; omega)
  rw [List.nil_append] at this
  exact this
omit hN in
theorem Many_ok {l : List Bd} (h : (rectsB l).length ≤ 1000000000000000000) : F_shape_Set__Many (l.map toP) = some ((rectsB l).length : Int) := by
  have key : ∀ (suf : List Bd) (i : Nat) (c : Int), 0 ≤ c → c + (rectsB suf).length ≤ 1000000000000000000 → F_shape_Set__Many_L1 (suf.map toP) i c = some (c + ((rectsB suf).length : Int)) := by
    intro suf
    induction suf with
    | nil => intro i c _ _; rw [List.map_nil, F_shape_Set__Many_L1.eq_1]; simp [rectsB]
    | cons b suf ih =>
      intro i c h0 ho
      rw [rectsB_cons, List.length_append, rectsOf_len] at ho
      have e : Int.tdiv ((toP b).Xs.length : Int) 2 = (b.2.2.length : Int) := by
        show Int.tdiv ((flatS b.2.2).length : Int) 2 = _
        rw [flatS_len, Int.tdiv_eq_ediv_of_nonneg (by omega)]; omega
      rw [List.map_cons, F_shape_Set__Many_L1.eq_2, e, w64_id (x := (b.2.2.length : Int)) (by omega) (by omega), w64_id (by omega) (by omega), ih (i + 1) _ (by omega) (by omega), rectsB_cons, List.length_append, rectsOf_len]
      congr 1
      omega
  have := key l 0 0 (by omega) (by omega)
  rw [Int.zero_add] at this
  exact this
/-- What is told of bands: their rectangles, if they are not too many. -/
def toldV (l : List Bd) : List TRect × Int := if 2000 < (rectsB l).length then ([], 2) else (rectsB l, 0)
end
end Go.Proofs.Ytnlhigfglfahiaa
namespace Go.Proofs.Ytnlhigfglfahiaa
instance : DecidableEq TRect := fun _ _ => decidable_of_iff _ eqTRect_iff
/-- The error of a rectangle. -/
def rErr (r : TRect) : Int :=
  if (((within r.X0 (-1000000) 1000000 && within r.Y0 (-1000000) 1000000) && within r.X1 (-1000000) 1000000) && within r.Y1 (-1000000) 1000000) = false then 1
  else if (decide (r.X1 ≤ r.X0) || decide (r.Y1 ≤ r.Y0)) = true then 13 else 0
def rsErr : List TRect → Int
  | [] => 0
  | r :: l => if rErr r = 0 then rsErr l else rErr r
def rectsErr (l : List TRect) : Int := if 2000 < l.length then 2 else rsErr l
theorem rErr_ok {r : TRect} (h : rErr r = 0) : ROk r := by
  unfold rErr at h
  split at h
  · omega
  · rename_i h1
    split at h
    · omega
    · rename_i h2
      rw [Bool.not_eq_false, Bool.and_eq_true, Bool.and_eq_true, Bool.and_eq_true, within_iff, within_iff, within_iff, within_iff] at h1
      rw [Bool.or_eq_true, not_or, decide_eq_true_eq, decide_eq_true_eq] at h2
      exact ⟨h1.1.1.1, h1.1.1.2, h1.1.2, h1.2, by omega, by omega⟩
theorem rErr_of {r : TRect} (h : ROk r) : rErr r = 0 := by
  unfold rErr
  have a := h.x0; have b := h.y0; have c := h.x1; have d := h.y1; have e := h.x; have f := h.y
  rw [if_neg (by rw [Bool.not_eq_false, Bool.and_eq_true, Bool.and_eq_true, Bool.and_eq_true, within_iff, within_iff, within_iff, within_iff]; exact ⟨⟨⟨a, b⟩, c⟩, d⟩), if_neg (by rw [Bool.or_eq_true, not_or, decide_eq_true_eq, decide_eq_true_eq]; omega)]
theorem rsErr_ok : ∀ {l : List TRect}, rsErr l = 0 → ∀ r ∈ l, ROk r
  | [], _, r, hr => by simp at hr
  | a :: l, h, r, hr => by
    unfold rsErr at h
    split at h
    · rename_i h1
      rcases List.mem_cons.1 hr with rfl | hr
      · exact rErr_ok h1
      · exact rsErr_ok h r hr
    · rename_i h1; exact absurd h h1
theorem rsErr_of : ∀ {l : List TRect}, (∀ r ∈ l, ROk r) → rsErr l = 0
  | [], _ => rfl
  | a :: l, h => by
    unfold rsErr
    rw [if_pos (rErr_of (h a (by simp)))]
    exact rsErr_of fun r hr => h r (by simp [hr])
theorem rectsErr_ok {l : List TRect} (h : rectsErr l = 0) : l.length ≤ 2000 ∧ ∀ r ∈ l, ROk r := by
  unfold rectsErr at h
  split at h
  · omega
  · exact ⟨by omega, rsErr_ok h⟩
theorem isRect_ok (r : TRect) : F_shape_isRect r = some (((within r.X0 (-1000000) 1000000 && within r.Y0 (-1000000) 1000000) && within r.X1 (-1000000) 1000000) && within r.Y1 (-1000000) 1000000) := by
  unfold F_shape_isRect F_shape_IsAt F_shape_within within
  simp only [Option.bind_some]
  cases decide (-1000000 ≤ r.X0) && decide (r.X0 ≤ 1000000) <;> cases decide (-1000000 ≤ r.Y0) && decide (r.Y0 ≤ 1000000) <;> cases decide (-1000000 ≤ r.X1) && decide (r.X1 ≤ 1000000) <;> rfl
theorem CheckRects_ok (l : List TRect) : F_shape_CheckRects l = some (rectsErr l) := by
  have key : ∀ (l : List TRect) (i : Nat), F_shape_CheckRects_L1 l i = some (rsErr l) := by
    intro l
    induction l with
    | nil => intro i; rw [F_shape_CheckRects_L1.eq_1]; rfl
    | cons r l ih =>
      intro i
      rw [F_shape_CheckRects_L1.eq_2, isRect_ok, Option.bind_some, ih]
      show _ = some (if rErr r = 0 then rsErr l else rErr r)
      generalize rsErr l = z
      unfold rErr
      cases (((within r.X0 (-1000000) 1000000 && within r.Y0 (-1000000) 1000000) && within r.X1 (-1000000) 1000000) && within r.Y1 (-1000000) 1000000)
      · simp
      · cases (decide (r.X1 ≤ r.X0) || decide (r.Y1 ≤ r.Y0)) <;> simp
  unfold F_shape_CheckRects rectsErr
  by_cases h : 2000 < l.length
  · rw [if_pos (by simp; omega), if_pos h]
  · rw [if_neg (by simp; omega), if_neg h, key]
/-- Two rectangles in order. -/
def ltR (a b : TRect) : Bool := decide (a.Y0 < b.Y0) || (decide (a.Y0 = b.Y0) && decide (a.X0 < b.X0))
def ordR : List TRect → Bool
  | a :: b :: l => ltR a b && ordR (b :: l)
  | _ => true
def regionErr (l : List TRect) : Int := if rectsErr l = 0 then if ordR l = true then if rectsB (setB l) = l then 0 else 3 else 8 else rectsErr l
theorem CheckRegion_ok {N : Nat} (hN : 10000000000 ≤ N) (l : List TRect) : F_shape_CheckRegion N l = some (regionErr l) := by
  unfold F_shape_CheckRegion regionErr
  rw [CheckRects_ok, Option.bind_some]
  by_cases he : rectsErr l = 0
  · obtain ⟨hl, hok⟩ := rectsErr_ok he
    rw [if_neg (by simpa using he), if_pos he]
    have hend : (F_shape_SetOf N l).bind (fun y123 => (F_shape_Set__Rects N y123).bind fun y125 => (F_slices_Equal_Rect y125 l).bind fun y127 => if (!y127) then some 3 else some 0) = some (if rectsB (setB l) = l then (0 : Int) else 3) := by
      rw [SetOf_ok hN (by omega) (fun r hr => (hok r hr).r9), Option.bind_some, Rects_ok hN (setB_small (by omega)), Option.bind_some]
      obtain ⟨b, h1, h2⟩ := EqualR_ok (rectsB (setB l)) l
      rw [h1, Option.bind_some]
      cases b
      · rw [if_pos (by simp), if_neg (fun h => by have := h2.2 h; cases this)]
      · rw [if_neg (by simp), if_pos (h2.1 rfl)]
    have key : ∀ (suf pre : List TRect) (a : TRect) (m : Nat), l = pre ++ a :: suf → suf.length < m → F_shape_CheckRegion_L1 N l m ((pre.length : Int) + 1) = some (if ordR (a :: suf) = true then if rectsB (setB l) = l then 0 else 3 else 8) := by
      intro suf
      induction suf with
      | nil =>
        intro pre a m h1 h2
        obtain ⟨m, rfl⟩ : ∃ k, m = k + 1 := ⟨m - 1, by omega⟩
        rw [F_shape_CheckRegion_L1.eq_2, if_neg (by rw [h1]; simp), hend]
        rfl
      | cons b suf ih =>
        intro pre a m h1 h2
        obtain ⟨m, rfl⟩ : ∃ k, m = k + 1 := ⟨m - 1, by omega⟩
        have hpl : pre.length ≤ 2000 := by rw [h1] at hl; simp at hl; omega
        have ha : idx l (pre.length : Int) = some a := by rw [h1]; exact idx_mid pre _ a
        have hb : idx l ((pre.length : Int) + 1) = some b := by
          rw [h1, show pre ++ a :: b :: suf = (pre ++ [a]) ++ b :: suf by simp, show ((pre.length : Int) + 1) = ((pre ++ [a]).length : Int) by simp]
          exact idx_mid (pre ++ [a]) _ b
        rw [F_shape_CheckRegion_L1.eq_2, if_pos (by rw [h1]; simp; omega), w64_id (x := (pre.length : Int) + 1 - 1) (by omega) (by omega), show ((pre.length : Int) + 1 - 1) = (pre.length : Int) by omega, ha, Option.bind_some, hb, Option.bind_some, w64_id (by omega) (by omega)]
        have hlt : ((decide (b.Y0 < a.Y0)) || ((b.Y0 == a.Y0) && (decide (b.X0 ≤ a.X0)))) = !ltR a b := by
          unfold ltR
          rw [Bool.eq_iff_iff]
          simp
          omega
        rw [hlt]
        have hor : ordR (a :: b :: suf) = (ltR a b && ordR (b :: suf)) := rfl
        rw [hor]
        cases ltR a b
        · simp
        · have := ih (pre ++ [a]) b m (by rw [h1]; simp) (by simp at h2; omega)
          rw [show (((pre ++ [a]).length : Int) + 1) = (pre.length : Int) + 1 + 1 by simp] at this
          rw [this]
          simp
    cases l with
    | nil =>
      obtain ⟨m, hm⟩ : ∃ k, N = k + 1 := ⟨N - 1, by omega⟩
      have hf : F_shape_CheckRegion_L1 N ([] : List TRect) N 1 = F_shape_CheckRegion_L1 N ([] : List TRect) (m + 1) 1 := congrArg (fun z => F_shape_CheckRegion_L1 N ([] : List TRect) z 1) hm
      rw [hf, F_shape_CheckRegion_L1.eq_2, if_neg (by simp), hend]
      rfl
    | cons a suf =>
      exact key suf [] a N rfl (by simp at hl; omega)
  · rw [if_pos (by simpa using he), if_neg he]
/-- The region of rectangles. -/
def regionV (l : List TRect) : List TRect × Int := if rectsErr l = 0 then toldV (setB l) else ([], rectsErr l)
end Go.Proofs.Ytnlhigfglfahiaa
namespace Go.Proofs.Ytnlhigfglfahiaa
/-- The stretches of bands at a height. -/
def rowAt : List Bd → Int → List (Int × Int)
  | [], _ => []
  | b :: l, y => if b.1 ≤ y ∧ y < b.2.1 then b.2.2 else rowAt l y
/-- Bands in order, none empty, neighbours that touch differ. -/
def CanB : Int → List Bd → Prop
  | _, [] => True
  | lo, b :: l => lo ≤ b.1 ∧ b.1 < b.2.1 ∧ b.2.2 ≠ [] ∧ (∀ d, l.head? = some d → d.1 = b.2.1 → d.2.2 ≠ b.2.2) ∧ CanB b.2.1 l
theorem rowAt_lo : ∀ {l : List Bd} {lo y : Int}, CanB lo l → y < lo → rowAt l y = []
  | [], _, _, _, _ => rfl
  | b :: l, lo, y, h, hy => by
    unfold rowAt
    rw [if_neg (by have := h.1; omega)]
    exact rowAt_lo h.2.2.2.2 (by have := h.1; have := h.2.1; omega)
theorem CanB.uniq : ∀ {l m : List Bd} {lo lo' : Int}, CanB lo l → CanB lo' m → (∀ y, rowAt l y = rowAt m y) → l = m
  | [], [], _, _, _, _, _ => rfl
  | [], b :: m, _, _, _, h2, h => by
    have := h b.1
    unfold rowAt at this
    rw [if_pos ⟨Int.le_refl _, h2.2.1⟩] at this
    exact absurd this.symm h2.2.2.1
  | b :: l, [], _, _, h1, _, h => by
    have := h b.1
    unfold rowAt at this
    rw [if_pos ⟨Int.le_refl _, h1.2.1⟩] at this
    exact absurd this h1.2.2.1
  | b :: l, d :: m, lo, lo', h1, h2, h => by
    obtain ⟨a1, a2, a3, a4, a5⟩ := h1
    obtain ⟨b1, b2, b3, b4, b5⟩ := h2
    have fst : ∀ {l : List Bd} {b : Bd} {y : Int}, b.1 ≤ y → y < b.2.1 → rowAt (b :: l) y = b.2.2 := fun h1 h2 => by unfold rowAt; rw [if_pos ⟨h1, h2⟩]
    have low : ∀ {l : List Bd} {b : Bd} {y : Int}, CanB b.2.1 l → b.1 < b.2.1 → y < b.1 → rowAt (b :: l) y = [] := fun h1 h2 h3 => by
      unfold rowAt
      rw [if_neg (by omega)]
      exact rowAt_lo h1 (by omega)
    have e1 : b.1 = d.1 := by
      have hb := h b.1
      have hd := h d.1
      rw [fst (Int.le_refl _) a2] at hb
      rw [fst (l := m) (b := d) (Int.le_refl _) b2] at hd
      rcases Int.lt_trichotomy b.1 d.1 with hlt | heq | hgt
      · rw [low b5 b2 hlt] at hb; exact absurd hb a3
      · exact heq
      · rw [low a5 a2 hgt] at hd; exact absurd hd.symm b3
    have e2 : b.2.2 = d.2.2 := by
      have hb := h b.1
      rw [fst (Int.le_refl _) a2, e1, fst (Int.le_refl _) b2] at hb
      exact hb
    have past : ∀ {l : List Bd} {b : Bd}, CanB b.2.1 l → (∀ d, l.head? = some d → d.1 = b.2.1 → d.2.2 ≠ b.2.2) → b.2.2 ≠ [] → rowAt (b :: l) b.2.1 ≠ b.2.2 := fun {l b} h1 h2 h3 => by
      unfold rowAt
      rw [if_neg (by omega)]
      cases l with
      | nil => exact fun h => h3 h.symm
      | cons e l =>
        unfold rowAt
        by_cases he : e.1 = b.2.1
        · rw [if_pos ⟨by omega, by have := h1.2.1; omega⟩]
          exact h2 e rfl he
        · have hlt : b.2.1 < e.1 := by have := h1.1; omega
          rw [if_neg (by omega), rowAt_lo h1.2.2.2.2 (by have := h1.2.1; omega)]
          exact fun h => h3 h.symm
    have e3 : b.2.1 = d.2.1 := by
      rcases Int.lt_trichotomy b.2.1 d.2.1 with hlt | heq | hgt
      · have := h b.2.1
        rw [fst (l := m) (b := d) (by omega) hlt, ← e2] at this
        exact absurd this (past a5 a4 a3)
      · exact heq
      · have := h d.2.1
        rw [fst (l := l) (b := b) (by omega) hgt, e2] at this
        exact absurd this.symm (past b5 b4 b3)
    have hbd : b = d := by
      obtain ⟨x, y, z⟩ := b
      obtain ⟨x', y', z'⟩ := d
      simp only at e1 e2 e3
      rw [e1, e2, e3]
    subst hbd
    rw [CanB.uniq a5 b5 fun y => by
      by_cases hy : y < b.2.1
      · rw [rowAt_lo a5 hy, rowAt_lo b5 hy]
      · have := h y
        unfold rowAt at this
        rw [if_neg (by omega), if_neg (by omega)] at this
        exact this]
end Go.Proofs.Ytnlhigfglfahiaa
namespace Go.Proofs.Ytnlhigfglfahiaa
/-- A square lies in bands. -/
def InB (x y : Int) (l : List Bd) : Prop := InS x (rowAt l y)
/-- A square lies in a rectangle of many. -/
def InR (x y : Int) (l : List TRect) : Prop := ∃ r ∈ l, (r.X0 ≤ x ∧ x < r.X1) ∧ (r.Y0 ≤ y ∧ y < r.Y1)
/-- Bands in their one form. -/
structure BOk (l : List Bd) : Prop where
  can : ∃ lo, CanB lo l
  row : ∀ b ∈ l, ∃ lo, Can lo b.2.2
theorem rowAt_mem : ∀ {l : List Bd} {y : Int}, rowAt l y = [] ∨ ∃ b ∈ l, b.1 ≤ y ∧ y < b.2.1 ∧ rowAt l y = b.2.2
  | [], _ => .inl rfl
  | b :: l, y => by
    unfold rowAt
    by_cases h : b.1 ≤ y ∧ y < b.2.1
    · rw [if_pos h]; exact .inr ⟨b, by simp, h.1, h.2, rfl⟩
    · rw [if_neg h]
      rcases rowAt_mem (l := l) (y := y) with h1 | ⟨c, h1, h2⟩
      · exact .inl h1
      · exact .inr ⟨c, by simp [h1], h2⟩
theorem BOk.at {l : List Bd} (h : BOk l) (y : Int) : ∃ lo, Can lo (rowAt l y) := by
  rcases rowAt_mem (l := l) (y := y) with h1 | ⟨b, h1, _, _, h2⟩
  · rw [h1]; exact ⟨0, trivial⟩
  · rw [h2]; exact h.row b h1
theorem CanB.mem : ∀ {l : List Bd} {lo : Int}, CanB lo l → ∀ b ∈ l, lo ≤ b.1 ∧ b.1 < b.2.1 ∧ b.2.2 ≠ []
  | [], _, _, b, hb => by simp at hb
  | c :: l, lo, h, b, hb => by
    rcases List.mem_cons.1 hb with rfl | hb
    · exact ⟨h.1, h.2.1, h.2.2.1⟩
    · have hm := h.2.2.2.2.mem b hb
      have := h.1; have := h.2.1
      exact ⟨by omega, hm.2.1, hm.2.2⟩
theorem rowAt_of : ∀ {l : List Bd} {lo y : Int} {b : Bd}, CanB lo l → b ∈ l → b.1 ≤ y → y < b.2.1 → rowAt l y = b.2.2
  | [], _, _, _, _, hb, _, _ => by simp at hb
  | c :: l, lo, y, b, h, hb, h1, h2 => by
    unfold rowAt
    rcases List.mem_cons.1 hb with rfl | hb
    · rw [if_pos ⟨h1, h2⟩]
    · have := h.2.2.2.2.mem b hb
      rw [if_neg (by omega)]
      exact rowAt_of h.2.2.2.2 hb h1 h2
/-- The form is one: bands with the same squares are the same. -/
theorem BOk.uniq {l m : List Bd} (h1 : BOk l) (h2 : BOk m) (h : ∀ x y, InB x y l ↔ InB x y m) : l = m := by
  obtain ⟨lo, c1⟩ := h1.can
  obtain ⟨lo', c2⟩ := h2.can
  refine c1.uniq c2 fun y => ?_
  obtain ⟨a, ha⟩ := h1.at y
  obtain ⟨b, hb⟩ := h2.at y
  exact ha.uniq hb fun x => h x y
theorem low_ex : ∀ (l : List (Int × Int)), ∃ lo, ∀ p ∈ l, lo < p.1
  | [] => ⟨0, by simp⟩
  | q :: l => by
    obtain ⟨lo, h⟩ := low_ex l
    refine ⟨min lo (q.1 - 1), fun p hp => ?_⟩
    rcases List.mem_cons.1 hp with rfl | hp
    · omega
    · have := h p hp; omega
theorem cov_ok {l : List (Int × Int)} (h : ∀ p ∈ l, p.1 < p.2) : (∃ lo, Can lo (covS l)) ∧ ∀ x, InS x (covS l) ↔ InS x l := by
  obtain ⟨lo, hlo⟩ := low_ex l
  obtain ⟨h1, h2⟩ := covS_ok (lo := lo) (l := l) fun p hp => ⟨hlo p hp, h p hp⟩
  exact ⟨⟨lo, h1⟩, h2⟩
theorem rowS_ok {l : List TRect} (h : ∀ r ∈ l, r.X0 < r.X1) (y : Int) : (∃ lo, Can lo (rowS l y)) ∧ ∀ x, InS x (rowS l y) ↔ InR x y l := by
  obtain ⟨h1, h2⟩ := cov_ok (l := (l.filter fun r => decide (r.Y0 ≤ y) && decide (y < r.Y1)).map xsR) fun p hp => by
    obtain ⟨r, hr, rfl⟩ := List.mem_map.1 hp
    exact h r (List.mem_filter.1 hr).1
  refine ⟨h1, fun x => (h2 x).trans ?_⟩
  unfold InS InR
  constructor
  · rintro ⟨p, hp, hx⟩
    obtain ⟨r, hr, rfl⟩ := List.mem_map.1 hp
    obtain ⟨hr, hy⟩ := List.mem_filter.1 hr
    simp at hy
    exact ⟨r, hr, hx, hy⟩
  · rintro ⟨r, hr, hx, hy⟩
    exact ⟨xsR r, List.mem_map.2 ⟨r, List.mem_filter.2 ⟨hr, by simp [hy]⟩, rfl⟩, hx⟩
theorem can_eq {l m : List (Int × Int)} (h1 : ∃ lo, Can lo l) (h2 : ∃ lo, Can lo m) (h : ∀ x, InS x l ↔ InS x m) : l = m := by
  obtain ⟨_, h1⟩ := h1
  obtain ⟨_, h2⟩ := h2
  exact h1.uniq h2 h
theorem can_nil {l : List (Int × Int)} (h1 : ∃ lo, Can lo l) (h : ∀ x, ¬ InS x l) : l = [] := can_eq h1 ⟨0, trivial⟩ fun x => ⟨fun hx => absurd hx (h x), fun hx => absurd hx InS_nil⟩
theorem pushB_cons {c : Bd} {l : List Bd} {b : Bd} (h : l ≠ []) : pushB (c :: l) b = c :: pushB l b := by
  by_cases he : b.2.2 = []
  · rw [pushB_empty he, pushB_empty he]
  · rcases List.eq_nil_or_concat l with rfl | ⟨j, d, hc⟩
    · exact absurd rfl h
    · rw [List.concat_eq_append] at hc
      subst hc
      rw [← List.cons_append, pushB_snoc he, pushB_snoc he]
      split <;> rfl
theorem pushB_head {c : Bd} {l : List Bd} {b : Bd} : ∃ e m, pushB (c :: l) b = e :: m ∧ e.1 = c.1 ∧ e.2.2 = c.2.2 := by
  by_cases hl : l = []
  · subst hl
    by_cases he : b.2.2 = []
    · rw [pushB_empty he]; exact ⟨c, [], rfl, rfl, rfl⟩
    · have := pushB_snoc (l := []) (c := c) he
      rw [List.nil_append] at this
      rw [this]
      split
      · exact ⟨_, _, rfl, rfl, rfl⟩
      · exact ⟨_, _, rfl, rfl, rfl⟩
  · rw [pushB_cons hl]; exact ⟨_, _, rfl, rfl, rfl⟩
/-- One band more behind all others. -/
theorem CanB.push : ∀ {l : List Bd} {lo : Int} {b : Bd}, CanB lo l → (∀ c ∈ l, c.2.1 ≤ b.1) → lo ≤ b.1 → b.1 < b.2.1 →
    CanB lo (pushB l b) ∧ (∀ c ∈ pushB l b, c.2.1 ≤ b.2.1 ∧ (c.2.2 = b.2.2 ∨ ∃ d ∈ l, c.2.2 = d.2.2)) ∧ ∀ y, rowAt (pushB l b) y = if b.1 ≤ y ∧ y < b.2.1 then b.2.2 else rowAt l y
  | [], lo, b, h, h1, h2, h3 => by
    by_cases he : b.2.2 = []
    · rw [pushB_empty he]
      exact ⟨h, by simp, fun y => by unfold rowAt; split <;> simp [he]⟩
    · rw [pushB_nil he]
      exact ⟨⟨h2, h3, he, by simp, trivial⟩, by simp, fun y => by unfold rowAt; rfl⟩
  | [c], lo, b, h, h1, h2, h3 => by
    have hc := h1 c (by simp)
    have h4 := h.2.1
    by_cases he : b.2.2 = []
    · rw [pushB_empty he]
      refine ⟨h, fun d hd => ⟨by have := h1 d hd; omega, .inr ⟨d, hd, rfl⟩⟩, fun y => ?_⟩
      by_cases hy : b.1 ≤ y ∧ y < b.2.1
      · rw [if_pos hy, he]; unfold rowAt; rw [if_neg (by omega)]; rfl
      · rw [if_neg hy]
    · have hp := pushB_snoc (l := []) (c := c) he
      rw [List.nil_append] at hp
      rw [hp]
      by_cases hj : c.2.1 = b.1 ∧ c.2.2 = b.2.2
      · rw [if_pos hj]
        refine ⟨⟨h.1, by show c.1 < b.2.1; omega, h.2.2.1, by simp, trivial⟩, fun d hd => ?_, fun y => ?_⟩
        · simp at hd; subst hd; exact ⟨Int.le_refl _, .inr ⟨c, by simp, rfl⟩⟩
        · show (if c.1 ≤ y ∧ y < b.2.1 then c.2.2 else []) = if b.1 ≤ y ∧ y < b.2.1 then b.2.2 else if c.1 ≤ y ∧ y < c.2.1 then c.2.2 else []
          rw [hj.2]
          by_cases ha : b.1 ≤ y ∧ y < b.2.1
          · rw [if_pos ha, if_pos (by omega)]
          · rw [if_neg ha]
            by_cases hb : c.1 ≤ y ∧ y < c.2.1
            · rw [if_pos hb, if_pos (by omega)]
            · rw [if_neg hb, if_neg (by omega)]
      · rw [if_neg hj]
        refine ⟨⟨h.1, h.2.1, h.2.2.1, fun d hd e => ?_, ⟨hc, h3, he, by simp, trivial⟩⟩, fun d hd => ?_, fun y => ?_⟩
        · simp at hd; subst hd
          exact fun h' => hj ⟨e.symm, h'.symm⟩
        · simp at hd
          rcases hd with rfl | rfl
          · exact ⟨by omega, .inr ⟨d, by simp, rfl⟩⟩
          · exact ⟨Int.le_refl _, .inl rfl⟩
        · show (if c.1 ≤ y ∧ y < c.2.1 then c.2.2 else if b.1 ≤ y ∧ y < b.2.1 then b.2.2 else []) = if b.1 ≤ y ∧ y < b.2.1 then b.2.2 else if c.1 ≤ y ∧ y < c.2.1 then c.2.2 else []
          by_cases ha : b.1 ≤ y ∧ y < b.2.1
          · rw [if_pos ha, if_neg (by omega), if_pos ha]
          · rw [if_neg ha, if_neg ha]
  | c :: d :: l, lo, b, h, h1, h2, h3 => by
    obtain ⟨i1, i2, i3⟩ := CanB.push (l := d :: l) (lo := c.2.1) (b := b) h.2.2.2.2 (fun e he => h1 e (by simp [List.mem_cons.1 he])) (h1 c (by simp)) h3
    rw [pushB_cons (by simp)]
    have hc := h1 c (by simp)
    have h4 := h.2.1
    refine ⟨⟨h.1, h.2.1, h.2.2.1, fun e he e1 => ?_, i1⟩, fun e he => ?_, fun y => ?_⟩
    · obtain ⟨f, m, p1, p2, p3⟩ := pushB_head (c := d) (l := l) (b := b)
      rw [p1] at he
      simp at he
      subst he
      rw [p3]
      exact h.2.2.2.1 d rfl (by omega)
    · rcases List.mem_cons.1 he with rfl | he
      · exact ⟨by omega, .inr ⟨e, by simp, rfl⟩⟩
      · obtain ⟨j1, j2 | ⟨f, j2, j3⟩⟩ := i2 e he
        · exact ⟨j1, .inl j2⟩
        · exact ⟨j1, .inr ⟨f, by simp [List.mem_cons.1 j2], j3⟩⟩
    · show (if c.1 ≤ y ∧ y < c.2.1 then c.2.2 else rowAt (pushB (d :: l) b) y) = if b.1 ≤ y ∧ y < b.2.1 then b.2.2 else if c.1 ≤ y ∧ y < c.2.1 then c.2.2 else rowAt (d :: l) y
      rw [i3 y]
      by_cases ha : b.1 ≤ y ∧ y < b.2.1
      · rw [if_pos ha, if_pos ha, if_neg (by omega)]
      · rw [if_neg ha, if_neg ha]
/-- Bands over heights, one behind the other. -/
def bandsF (f : Int → List (Int × Int)) : List Int → List Bd → List Bd
  | a :: b :: ys, out => bandsF f (b :: ys) (pushB out (a, b, f a))
  | _, out => out
theorem bandsGo_F (l : List TRect) : ∀ (ys : List Int) (out : List Bd), bandsGo l ys out = bandsF (rowS l) ys out
  | [], _ => rfl
  | [_], _ => rfl
  | a :: b :: ys, out => bandsGo_F l (b :: ys) (pushB out (a, b, rowS l a))
/-- The same all over, between one height and the next one. -/
def ConstOn (f : Int → List (Int × Int)) : List Int → Prop
  | a :: b :: ys => (∀ y, a ≤ y → y < b → f y = f a) ∧ ConstOn f (b :: ys)
  | _ => True
theorem constOn {f : Int → List (Int × Int)} {zs : List Int} (hc : ∀ a y, a ≤ y → (∀ z ∈ zs, z ≤ a ∨ y < z) → f y = f a) : ∀ {ys pre : List Int}, zs = pre ++ ys → zs.Pairwise (fun x y => x < y) → ConstOn f ys
  | [], _, _, _ => trivial
  | [_], _, _, _ => trivial
  | a :: b :: ys, pre, e, h => by
    refine ⟨fun y h1 h2 => hc a y h1 fun z hz => ?_, constOn hc (ys := b :: ys) (pre := pre ++ [a]) (by rw [e]; simp) h⟩
    rw [e] at hz h
    obtain ⟨_, k1, k2⟩ := List.pairwise_append.1 h
    rcases List.mem_append.1 hz with hz | hz
    · have := k2 z hz a (by simp); exact .inl (by omega)
    · rcases List.mem_cons.1 hz with rfl | hz
      · exact .inl (Int.le_refl _)
      · rcases List.mem_cons.1 hz with rfl | hz
        · exact .inr h2
        · have := (List.pairwise_cons.1 (List.pairwise_cons.1 k1).2).1 z hz; exact .inr (by omega)
theorem bands_ok {f : Int → List (Int × Int)} {lo : Int} (hf : ∀ y, ∃ lo, Can lo (f y)) : ∀ (ys : List Int) (out : List Bd), ys.Pairwise (fun x y => x < y) → ConstOn f ys → CanB lo out → (∀ b ∈ out, ∃ lo, Can lo b.2.2) → (∀ a, ys.head? = some a → lo ≤ a ∧ (∀ c ∈ out, c.2.1 ≤ a)) →
    CanB lo (bandsF f ys out) ∧ (∀ b ∈ bandsF f ys out, ∃ lo, Can lo b.2.2) ∧ ∀ y, rowAt (bandsF f ys out) y = if (∃ a ∈ ys, a ≤ y) ∧ (∃ z ∈ ys, y < z) then f y else rowAt out y
  | [], out, _, _, h1, h2, _ => ⟨h1, h2, fun y => by rw [if_neg (by simp)]; rfl⟩
  | [a], out, _, _, h1, h2, _ => ⟨h1, h2, fun y => by rw [if_neg (by rintro ⟨⟨c, hc, h1⟩, z, hz, h2⟩; simp at hc hz; omega)]; rfl⟩
  | a :: b :: ys, out, hs, hc, h1, h2, h3 => by
    have hab : a < b := (List.pairwise_cons.1 hs).1 b (by simp)
    have hs2 := (List.pairwise_cons.1 hs).2
    obtain ⟨h5, h6⟩ := h3 a rfl
    obtain ⟨p1, p2, p3⟩ := h1.push (b := (a, b, f a)) h6 h5 hab
    obtain ⟨i1, i2, i3⟩ := bands_ok hf (b :: ys) (pushB out (a, b, f a)) hs2 hc.2 p1 (fun c hc => by
      rcases (p2 c hc).2 with e | ⟨d, hd, e⟩
      · rw [e]; exact hf a
      · rw [e]; exact h2 d hd) (fun z hz => by
      simp at hz; subst hz
      exact ⟨by omega, fun c hc => (p2 c hc).1⟩)
    refine ⟨i1, i2, fun y => ?_⟩
    show rowAt (bandsF f (b :: ys) (pushB out (a, b, f a))) y = _
    rw [i3 y, p3 y]
    show (if (∃ c ∈ b :: ys, c ≤ y) ∧ (∃ z ∈ b :: ys, y < z) then f y else if a ≤ y ∧ y < b then f a else rowAt out y) = _
    by_cases ya : y < a
    · rw [if_neg (fun h => by
        obtain ⟨⟨c, hc, hcy⟩, _⟩ := h
        rcases List.mem_cons.1 hc with rfl | hc
        · omega
        · have := (List.pairwise_cons.1 hs2).1 c hc; omega), if_neg (by omega), if_neg (fun h => by
        obtain ⟨⟨c, hc, hcy⟩, _⟩ := h
        rcases List.mem_cons.1 hc with rfl | hc
        · omega
        · have := (List.pairwise_cons.1 hs).1 c hc; omega)]
    · by_cases yb : y < b
      · rw [if_neg (fun h => by
          obtain ⟨⟨c, hc, hcy⟩, _⟩ := h
          rcases List.mem_cons.1 hc with rfl | hc
          · omega
          · have := (List.pairwise_cons.1 hs2).1 c hc; omega), if_pos (by omega), if_pos ⟨⟨a, by simp, by omega⟩, ⟨b, by simp, yb⟩⟩]
        exact (hc.1 y (by omega) yb).symm
      · by_cases hz : ∃ z ∈ b :: ys, y < z
        · obtain ⟨z, hz, hyz⟩ := hz
          rw [if_pos ⟨⟨b, by simp, by omega⟩, z, hz, hyz⟩, if_pos ⟨⟨a, by simp, by omega⟩, z, List.mem_cons_of_mem _ hz, hyz⟩]
        · rw [if_neg (fun h => hz h.2), if_neg (by omega), if_neg (fun h => by
            obtain ⟨_, z, hm, hyz⟩ := h
            rcases List.mem_cons.1 hm with rfl | hm
            · omega
            · exact hz ⟨z, hm, hyz⟩)]
/-- Bands over all heights at which something changes. -/
theorem bandsF_row {f : Int → List (Int × Int)} {ys : List Int} (hs : ys.Pairwise fun x y => x < y) (hf : ∀ y, ∃ lo, Can lo (f y)) (hc : ∀ a y, a ≤ y → (∀ z ∈ ys, z ≤ a ∨ y < z) → f y = f a) (h0 : ∀ y, (∀ a ∈ ys, y < a) → f y = []) (h1 : ∀ y, (∀ a ∈ ys, a ≤ y) → f y = []) : BOk (bandsF f ys []) ∧ ∀ y, rowAt (bandsF f ys []) y = f y := by
  obtain ⟨lo, hlo⟩ : ∃ lo : Int, ∀ z ∈ ys, lo ≤ z := by
    have : ∀ m : List Int, ∃ lo : Int, ∀ z ∈ m, lo ≤ z := by
      intro m
      induction m with
      | nil => exact ⟨0, by simp⟩
      | cons a m ih =>
        obtain ⟨lo, h⟩ := ih
        refine ⟨min lo a, fun z hz => ?_⟩
        rcases List.mem_cons.1 hz with rfl | hz
        · omega
        · have := h z hz; omega
    exact this _
  obtain ⟨i1, i2, i3⟩ := bands_ok (lo := lo) hf ys [] hs (constOn hc (ys := ys) (pre := []) rfl hs) trivial (by simp) (fun a ha => ⟨hlo a (List.mem_of_mem_head? (by rw [ha]; rfl)), by simp⟩)
  refine ⟨⟨⟨lo, i1⟩, i2⟩, fun y => ?_⟩
  rw [i3 y]
  by_cases ha : ∃ a ∈ ys, a ≤ y
  · by_cases hz : ∃ z ∈ ys, y < z
    · rw [if_pos ⟨ha, hz⟩]
    · rw [if_neg (fun h => hz h.2), h1 y (fun a ham => by
        rcases Int.lt_or_le y a with h | h
        · exact absurd ⟨a, ham, h⟩ hz
        · exact h)]; rfl
  · rw [if_neg (fun h => ha h.1), h0 y (fun a ham => by
      rcases Int.lt_or_le y a with h | h
      · exact h
      · exact absurd ⟨a, ham, h⟩ ha)]; rfl
theorem rowS_nil {l : List TRect} (hl : ∀ r ∈ l, r.X0 < r.X1) {y : Int} (h : ∀ r ∈ l, ¬ (r.Y0 ≤ y ∧ y < r.Y1)) : rowS l y = [] := by
  obtain ⟨c1, c2⟩ := rowS_ok hl y
  exact can_nil c1 fun x hx => by
    obtain ⟨r, hr, _, hy⟩ := (c2 x).1 hx
    exact h r hr hy
theorem rowS_const {l : List TRect} (hl : ∀ r ∈ l, r.X0 < r.X1) {a y : Int} (h : ∀ r ∈ l, (r.Y0 ≤ y ∧ y < r.Y1) ↔ (r.Y0 ≤ a ∧ a < r.Y1)) : rowS l y = rowS l a := by
  obtain ⟨c1, c2⟩ := rowS_ok hl y
  obtain ⟨c3, c4⟩ := rowS_ok hl a
  refine can_eq c1 c3 fun x => (c2 x).trans (Iff.trans ?_ (c4 x).symm)
  unfold InR
  constructor
  · rintro ⟨r, hr, hx, hy⟩; exact ⟨r, hr, hx, (h r hr).1 hy⟩
  · rintro ⟨r, hr, hx, hy⟩; exact ⟨r, hr, hx, (h r hr).2 hy⟩
/-- Heights of rectangles: what lies at a height changes there alone. -/
theorem rowS_change {l : List TRect} {ys : List Int} (hl : ∀ r ∈ l, r.X0 < r.X1 ∧ r.Y0 < r.Y1) (hy : ∀ r ∈ l, r.Y0 ∈ ys ∧ r.Y1 ∈ ys) : (∀ a y, a ≤ y → (∀ z ∈ ys, z ≤ a ∨ y < z) → rowS l y = rowS l a) ∧ (∀ y, (∀ a ∈ ys, y < a) → rowS l y = []) ∧ (∀ y, (∀ a ∈ ys, a ≤ y) → rowS l y = []) := by
  have hx : ∀ r ∈ l, r.X0 < r.X1 := fun r hr => (hl r hr).1
  refine ⟨fun a y hay h => rowS_const hx fun r hr => ?_, fun y h => rowS_nil hx fun r hr hh => ?_, fun y h => rowS_nil hx fun r hr hh => ?_⟩
  · have := h _ (hy r hr).1; have := h _ (hy r hr).2; omega
  · have := h _ (hy r hr).1; omega
  · have := h _ (hy r hr).2; omega
/-- The bands of rectangles have the one form; what lies at each height. -/
theorem setB_row {l : List TRect} (hl : ∀ r ∈ l, r.X0 < r.X1 ∧ r.Y0 < r.Y1) : BOk (setB l) ∧ ∀ y, rowAt (setB l) y = rowS l y := by
  obtain ⟨h1, h2, h3⟩ := rowS_change (ys := srtd (ysOfR l)) hl fun r hr => ⟨(srtd_mem _ _).2 (mem_ysOfR.2 ⟨r, hr, .inl rfl⟩), (srtd_mem _ _).2 (mem_ysOfR.2 ⟨r, hr, .inr rfl⟩)⟩
  have := bandsF_row (srtd_strict (ysOfR l)) (fun y => (rowS_ok (fun r hr => (hl r hr).1) y).1) h1 h2 h3
  unfold setB
  rw [bandsGo_F]
  exact this
theorem setB_ok {l : List TRect} (hl : ∀ r ∈ l, r.X0 < r.X1 ∧ r.Y0 < r.Y1) : BOk (setB l) ∧ ∀ x y, InB x y (setB l) ↔ InR x y l := by
  obtain ⟨h1, h2⟩ := setB_row hl
  refine ⟨h1, fun x y => ?_⟩
  unfold InB
  rw [h2]
  exact (rowS_ok (fun r hr => (hl r hr).1) y).2 x
theorem setB_congr {l m : List TRect} (hl : ∀ r ∈ l, r.X0 < r.X1 ∧ r.Y0 < r.Y1) (hm : ∀ r ∈ m, r.X0 < r.X1 ∧ r.Y0 < r.Y1) (h : ∀ x y, InR x y l ↔ InR x y m) : setB l = setB m := by
  obtain ⟨a1, a2⟩ := setB_ok hl
  obtain ⟨b1, b2⟩ := setB_ok hm
  exact a1.uniq b1 fun x y => by rw [a2, b2, h]
theorem mem_rectsB {l : List Bd} {r : TRect} : r ∈ rectsB l ↔ ∃ b ∈ l, ∃ s ∈ b.2.2, r = ⟨s.1, b.1, s.2, b.2.1⟩ := by
  unfold rectsB rectsOf
  simp only [List.mem_flatMap, List.mem_map]
  constructor
  · rintro ⟨b, hb, s, hs, rfl⟩; exact ⟨b, hb, s, hs, rfl⟩
  · rintro ⟨b, hb, s, hs, rfl⟩; exact ⟨b, hb, s, hs, rfl⟩
theorem InR_rectsB {l : List Bd} (h : BOk l) (x y : Int) : InR x y (rectsB l) ↔ InB x y l := by
  obtain ⟨lo, hc⟩ := h.can
  unfold InR InB
  constructor
  · rintro ⟨r, hr, hx, hy⟩
    obtain ⟨b, hb, s, hs, rfl⟩ := mem_rectsB.1 hr
    rw [rowAt_of hc hb hy.1 hy.2]
    exact ⟨s, hs, hx⟩
  · intro hx
    rcases rowAt_mem (l := l) (y := y) with h1 | ⟨b, hb, h1, h2, h3⟩
    · rw [h1] at hx; exact absurd hx InS_nil
    · rw [h3] at hx
      obtain ⟨s, hs, hx⟩ := hx
      exact ⟨_, mem_rectsB.2 ⟨b, hb, s, hs, rfl⟩, hx, h1, h2⟩
theorem rectsB_ne {l : List Bd} (h : BOk l) : ∀ r ∈ rectsB l, r.X0 < r.X1 ∧ r.Y0 < r.Y1 := fun r hr => by
  obtain ⟨lo, hc⟩ := h.can
  obtain ⟨b, hb, s, hs, rfl⟩ := mem_rectsB.1 hr
  obtain ⟨lo', hr⟩ := h.row b hb
  exact ⟨(hr.mem s hs).2, (hc.mem b hb).2.1⟩
/-- The bands of the rectangles of bands are the bands. -/
theorem setB_rectsB {l : List Bd} (h : BOk l) : setB (rectsB l) = l := by
  obtain ⟨a1, a2⟩ := setB_ok (rectsB_ne h)
  exact a1.uniq h fun x y => by rw [a2, InR_rectsB h]
theorem rectsB_inj {l m : List Bd} (h1 : BOk l) (h2 : BOk m) (h : rectsB l = rectsB m) : l = m := by rw [← setB_rectsB h1, ← setB_rectsB h2, h]
/-- Squares within limits: rectangles within limits. -/
theorem rectsB_rok {l : List Bd} (h : BOk l) (hx : ∀ x y, InB x y l → (-1000000 ≤ x ∧ x < 1000000) ∧ (-1000000 ≤ y ∧ y < 1000000)) : ∀ r ∈ rectsB l, ROk r := fun r hr => by
  have hne := rectsB_ne h r hr
  have h1 := hx r.X0 r.Y0 ((InR_rectsB h _ _).1 ⟨r, hr, ⟨Int.le_refl _, hne.1⟩, ⟨Int.le_refl _, hne.2⟩⟩)
  have h2 := hx (r.X1 - 1) (r.Y1 - 1) ((InR_rectsB h _ _).1 ⟨r, hr, ⟨by omega, by omega⟩, ⟨by omega, by omega⟩⟩)
  exact ⟨by omega, by omega, by omega, by omega, hne.1, hne.2⟩
theorem ordR_append : ∀ {l m : List TRect}, ordR l = true → ordR m = true → (∀ a ∈ l, ∀ b ∈ m, ltR a b = true) → ordR (l ++ m) = true
  | [], _, _, h, _ => h
  | [a], [], _, _, _ => rfl
  | [a], b :: m, _, h2, h3 => by
    show (ltR a b && ordR (b :: m)) = true
    rw [h3 a (by simp) b (by simp), h2]; rfl
  | a :: c :: l, m, h1, h2, h3 => by
    have h1 : (ltR a c && ordR (c :: l)) = true := h1
    rw [Bool.and_eq_true] at h1
    show (ltR a c && ordR (c :: l ++ m)) = true
    rw [h1.1, ordR_append h1.2 h2 fun x hx y hy => h3 x (by simp [List.mem_cons.1 hx]) y hy]; rfl
theorem ordR_rectsOf {b : Bd} : ∀ {l : List (Int × Int)} {lo : Int}, Can lo l → ordR (l.map fun s => (⟨s.1, b.1, s.2, b.2.1⟩ : TRect)) = true
  | [], _, _ => rfl
  | [p], _, _ => rfl
  | p :: q :: l, lo, h => by
    show (ltR _ _ && ordR (List.map (fun s => (⟨s.1, b.1, s.2, b.2.1⟩ : TRect)) (q :: l))) = true
    rw [ordR_rectsOf h.2.2, Bool.and_true]
    unfold ltR
    have := h.2.1; have := h.2.2.1
    simp
    omega
theorem ordR_rectsB : ∀ {l : List Bd} {lo : Int}, CanB lo l → (∀ b ∈ l, ∃ lo, Can lo b.2.2) → ordR (rectsB l) = true
  | [], _, _, _ => rfl
  | b :: l, lo, h, hr => by
    rw [rectsB_cons]
    obtain ⟨lo', h1⟩ := hr b (by simp)
    refine ordR_append (ordR_rectsOf h1) (ordR_rectsB h.2.2.2.2 fun c hc => hr c (by simp [hc])) fun x hx y hy => ?_
    obtain ⟨s, hs, rfl⟩ := List.mem_map.1 hx
    obtain ⟨c, hc, t, ht, rfl⟩ := mem_rectsB.1 hy
    have := h.2.2.2.2.mem c hc
    have := h.2.1
    unfold ltR
    simp
    omega
theorem CanB.mono {l : List Bd} {lo lo' : Int} (h : CanB lo l) (hl : lo' ≤ lo) : CanB lo' l := by
  cases l with
  | nil => trivial
  | cons b l => exact ⟨by have := h.1; omega, h.2⟩
/-- What is right with a region: the bands that it comes from. -/
theorem region_of {l : List Bd} (h : BOk l) (hx : ∀ x y, InB x y l → (-1000000 ≤ x ∧ x < 1000000) ∧ (-1000000 ≤ y ∧ y < 1000000)) (hn : (rectsB l).length ≤ 2000) : regionErr (rectsB l) = 0 := by
  unfold regionErr
  have h1 : rectsErr (rectsB l) = 0 := by
    unfold rectsErr
    rw [if_neg (by omega)]
    exact rsErr_of (rectsB_rok h hx)
  obtain ⟨lo, hc⟩ := h.can
  rw [if_pos h1, if_pos (ordR_rectsB hc h.row), if_pos (by rw [setB_rectsB h])]
theorem regionErr_ok {l : List TRect} (h : regionErr l = 0) : rectsErr l = 0 ∧ l.length ≤ 2000 ∧ (∀ r ∈ l, ROk r) ∧ rectsB (setB l) = l := by
  unfold regionErr at h
  by_cases h1 : rectsErr l = 0
  · obtain ⟨h2, h3⟩ := rectsErr_ok h1
    rw [if_pos h1] at h
    split at h
    · split at h
      · rename_i h4; exact ⟨h1, h2, h3, h4⟩
      · omega
    · omega
  · rw [if_neg h1] at h; exact absurd h h1
theorem ROk.ne {l : List TRect} (h : ∀ r ∈ l, ROk r) : ∀ r ∈ l, r.X0 < r.X1 ∧ r.Y0 < r.Y1 := fun r hr => ⟨(h r hr).x, (h r hr).y⟩
theorem InR_lim {l : List TRect} (h : ∀ r ∈ l, ROk r) {x y : Int} (hx : InR x y l) : (-1000000 ≤ x ∧ x < 1000000) ∧ (-1000000 ≤ y ∧ y < 1000000) := by
  obtain ⟨r, hr, h1, h2⟩ := hx
  have a := h r hr
  have := a.x0; have := a.x1; have := a.y0; have := a.y1
  omega
end Go.Proofs.Ytnlhigfglfahiaa
namespace Go.Proofs.Ytnlhigfglfahiaa
/-- Two squares with a side in common. -/
def Adj (p q : Int × Int) : Prop := (p.1 = q.1 ∧ (q.2 = p.2 + 1 ∨ p.2 = q.2 + 1)) ∨ (p.2 = q.2 ∧ (q.1 = p.1 + 1 ∨ p.1 = q.1 + 1))
theorem Adj.symm {p q : Int × Int} (h : Adj p q) : Adj q p := by
  unfold Adj at *; omega
/-- One square is reached from another one within a set. -/
inductive Conn (S : Int → Int → Prop) : Int × Int → Int × Int → Prop
  | refl {p : Int × Int} : S p.1 p.2 → Conn S p p
  | step {p q r : Int × Int} : Conn S p q → Adj q r → S r.1 r.2 → Conn S p r
section
variable {S T : Int → Int → Prop} {p q r : Int × Int}
theorem Conn.left (h : Conn S p q) : S p.1 p.2 := by
  induction h with
  | refl h => exact h
  | step _ _ _ ih => exact ih
theorem Conn.right (h : Conn S p q) : S q.1 q.2 := by
  cases h with
  | refl h => exact h
  | step _ _ h => exact h
theorem Conn.trans (h : Conn S p q) (k : Conn S q r) : Conn S p r := by
  induction k with
  | refl _ => exact h
  | step _ a s ih => exact .step ih a s
theorem Conn.symm (h : Conn S p q) : Conn S q p := by
  induction h with
  | refl h => exact .refl h
  | step c a s ih => exact (Conn.step (.refl s) a.symm c.right).trans ih
theorem Conn.mono (h : Conn S p q) (hm : ∀ x y, S x y → T x y) : Conn T p q := by
  induction h with
  | refl h => exact .refl (hm _ _ h)
  | step _ a s ih => exact .step ih a (hm _ _ s)
/-- What is closed keeps what is reached. -/
theorem Conn.closed {Q : Int → Int → Prop} (h : Conn S p q) (hq : Q p.1 p.2) (hc : ∀ a b : Int × Int, Q a.1 a.2 → Adj a b → S b.1 b.2 → Q b.1 b.2) : Q q.1 q.2 ∧ Conn (fun x y => S x y ∧ Q x y) p q := by
  induction h with
  | refl h => exact ⟨hq, .refl ⟨h, hq⟩⟩
  | step _ a s ih => exact ⟨hc _ _ ih.1 a s, .step ih.2 a ⟨s, hc _ _ ih.1 a s⟩⟩
end
/-- One square is before another one. -/
def ltP (p q : Int × Int) : Prop := p.2 < q.2 ∨ (p.2 = q.2 ∧ p.1 < q.1)
theorem ltP.trans {p q r : Int × Int} (h : ltP p q) (k : ltP q r) : ltP p r := by unfold ltP at *; omega
theorem ltP.irrefl {p : Int × Int} : ¬ ltP p p := by unfold ltP; omega
theorem ltP.total {p q : Int × Int} : p = q ∨ ltP p q ∨ ltP q p := by
  obtain ⟨a, b⟩ := p
  obtain ⟨c, d⟩ := q
  unfold ltP
  simp only [Prod.mk.injEq]
  omega
/-- The first square of bands. -/
def fst : List Bd → Int × Int
  | b :: _ => match b.2.2 with
    | s :: _ => (s.1, b.1)
    | [] => (0, 0)
  | [] => (0, 0)
theorem CanB.low {l : List Bd} {lo : Int} (h : CanB lo l) {x y : Int} (hx : InB x y l) : lo ≤ y := by
  by_cases hy : y < lo
  · unfold InB at hx; rw [rowAt_lo h hy] at hx; exact absurd hx InS_nil
  · omega
theorem fst_ok {l : List Bd} (h : BOk l) (hne : l ≠ []) : InB (fst l).1 (fst l).2 l ∧ ∀ x y, InB x y l → fst l = (x, y) ∨ ltP (fst l) (x, y) := by
  obtain ⟨lo, hc⟩ := h.can
  match l, hne, h, hc with
  | b :: l, _, h, hc =>
    obtain ⟨lo', hb⟩ := h.row b (by simp)
    obtain ⟨c1, c2, c3, _, c5⟩ := hc
    obtain ⟨b0, b1, b2⟩ := b
    match b2, hb, c3, c2, c5, c1 with
    | s :: t, hb, _, c2, c5, c1 =>
      obtain ⟨k1, k2, k3⟩ := hb
      have e : fst ((b0, b1, s :: t) :: l) = (s.1, b0) := rfl
      rw [e]
      have c2 : b0 < b1 := c2
      have c5 : CanB b1 l := c5
      refine ⟨?_, fun x y hx => ?_⟩
      · unfold InB rowAt
        rw [if_pos ⟨Int.le_refl _, c2⟩]
        exact ⟨s, by simp, Int.le_refl _, k2⟩
      · unfold InB rowAt at hx
        by_cases hy : b0 ≤ y ∧ y < b1
        · rw [if_pos hy] at hx
          obtain ⟨u, hu, hx⟩ := hx
          have hs : s.1 ≤ u.1 := by
            rcases List.mem_cons.1 hu with rfl | hu
            · exact Int.le_refl _
            · have := (k3.mem u hu).1; omega
          unfold ltP
          simp only [Prod.mk.injEq]
          omega
        · rw [if_neg hy] at hx
          have := c5.low hx
          right; left
          show b0 < y
          omega
/-- Lists in order with the same members are the same. -/
theorem list_uniq {α : Type} {R : α → α → Prop} (hi : ∀ a, ¬ R a a) (ht : ∀ a b c, R a b → R b c → R a c) : ∀ {l m : List α}, l.Pairwise R → m.Pairwise R → (∀ x, x ∈ l ↔ x ∈ m) → l = m
  | [], [], _, _, _ => rfl
  | [], b :: m, _, _, h => by have := (h b).2 (by simp); simp at this
  | a :: l, [], _, _, h => by have := (h a).1 (by simp); simp at this
  | a :: l, b :: m, h1, h2, h => by
    obtain ⟨p1, p2⟩ := List.pairwise_cons.1 h1
    obtain ⟨q1, q2⟩ := List.pairwise_cons.1 h2
    have hab : a = b := by
      rcases List.mem_cons.1 ((h a).1 (by simp)) with e | ha
      · exact e
      · rcases List.mem_cons.1 ((h b).2 (by simp)) with e | hb
        · exact e.symm
        · exact absurd (ht _ _ _ (p1 b hb) (q1 a ha)) (hi _)
    subst hab
    rw [list_uniq hi ht p2 q2 fun x => by
      constructor
      · intro hx
        rcases List.mem_cons.1 ((h x).1 (by simp [hx])) with e | hx'
        · subst e; exact absurd (p1 _ hx) (hi _)
        · exact hx'
      · intro hx
        rcases List.mem_cons.1 ((h x).2 (by simp [hx])) with e | hx'
        · subst e; exact absurd (q1 _ hx) (hi _)
        · exact hx']
/-- The parts of a set, in order. -/
structure PS (S : Int → Int → Prop) (L : List (List Bd)) : Prop where
  ok : ∀ P ∈ L, BOk P ∧ P ≠ []
  cov : ∀ x y, S x y ↔ ∃ P ∈ L, InB x y P
  con : ∀ P ∈ L, ∀ p q : Int × Int, InB p.1 p.2 P → InB q.1 q.2 P → Conn S p q
  cl : ∀ P ∈ L, ∀ p q : Int × Int, InB p.1 p.2 P → Adj p q → S q.1 q.2 → InB q.1 q.2 P
  ord : L.Pairwise fun P Q => ltP (fst P) (fst Q)
section
variable {S T : Int → Int → Prop} {L M : List (List Bd)}
theorem PS.sub (h : PS S L) {P : List Bd} (hP : P ∈ L) {x y : Int} (hx : InB x y P) : S x y := (h.cov x y).2 ⟨P, hP, hx⟩
/-- A part is what is reached from one of its squares. -/
theorem PS.reach (h : PS S L) {P : List Bd} (hP : P ∈ L) {p : Int × Int} (hp : InB p.1 p.2 P) (q : Int × Int) : InB q.1 q.2 P ↔ Conn S p q :=
  ⟨fun hq => h.con P hP p q hp hq, fun hc => (hc.closed (Q := fun x y => InB x y P) hp fun a b ha hab hb => h.cl P hP a b ha hab hb).1⟩
theorem PS.mem (h : PS S L) (k : PS S M) {P : List Bd} (hP : P ∈ L) : P ∈ M := by
  obtain ⟨o1, o2⟩ := h.ok P hP
  have hf := (fst_ok o1 o2).1
  obtain ⟨Q, hQ, hq⟩ := (k.cov _ _).1 (h.sub hP hf)
  have : P = Q := o1.uniq (k.ok Q hQ).1 fun x y => (h.reach hP hf (x, y)).trans (k.reach hQ hq (x, y)).symm
  rw [this]; exact hQ
/-- THE PARTS ARE ONE LIST. -/
theorem PS.uniq (h : PS S L) (k : PS S M) : L = M :=
  list_uniq (R := fun P Q => ltP (fst P) (fst Q)) (fun _ => ltP.irrefl) (fun _ _ _ => ltP.trans) h.ord k.ord fun _ => ⟨fun hp => h.mem k hp, fun hp => k.mem h hp⟩
theorem PS.congr (h : PS S L) (he : ∀ x y, S x y ↔ T x y) : PS T L where
  ok := h.ok
  cov x y := (he x y).symm.trans (h.cov x y)
  con P hP p q hp hq := (h.con P hP p q hp hq).mono fun x y => (he x y).1
  cl P hP p q hp ha hs := h.cl P hP p q hp ha ((he _ _).2 hs)
  ord := h.ord
/-- A part by itself is one part. -/
theorem PS.one (h : PS S L) {P : List Bd} (hP : P ∈ L) : PS (fun x y => InB x y P) [P] where
  ok Q hQ := by rw [List.mem_singleton] at hQ; subst hQ; exact h.ok _ hP
  cov x y := by simp
  con Q hQ p q hp hq := by
    rw [List.mem_singleton] at hQ; subst hQ
    exact ((h.con _ hP p q hp hq).closed (Q := fun x y => InB x y Q) hp fun a b ha hab hb => h.cl _ hP a b ha hab hb).2.mono fun x y hx => hx.2
  cl Q hQ p q _ _ hs := by rw [List.mem_singleton] at hQ; subst hQ; exact hs
  ord := by simp
/-- Different parts have no square in common. -/
theorem PS.disj (h : PS S L) {P Q : List Bd} (hP : P ∈ L) (hQ : Q ∈ L) {x y : Int} (hp : InB x y P) (hq : InB x y Q) : P = Q :=
  (h.ok P hP).1.uniq (h.ok Q hQ).1 fun a b => (h.reach hP (p := (x, y)) hp (a, b)).trans (h.reach hQ (p := (x, y)) hq (a, b)).symm
theorem PS.nil (h : ∀ x y, ¬ S x y) : PS S [] := ⟨by simp, fun x y => by simp [h x y], by simp, by simp, by simp⟩
end
/-- Two rectangles that have a side in common, or more. -/
def tch (a b : TRect) : Prop := (max a.X0 b.X0 < min a.X1 b.X1 ∧ max a.Y0 b.Y0 ≤ min a.Y1 b.Y1) ∨ (max a.X0 b.X0 ≤ min a.X1 b.X1 ∧ max a.Y0 b.Y0 < min a.Y1 b.Y1)
theorem tch.symm {a b : TRect} (h : tch a b) : tch b a := by unfold tch at *; omega
def InT (p : Int × Int) (r : TRect) : Prop := (r.X0 ≤ p.1 ∧ p.1 < r.X1) ∧ (r.Y0 ≤ p.2 ∧ p.2 < r.Y1)
theorem tch_of {a b : TRect} {p q : Int × Int} (ha : InT p a) (hb : InT q b) (h : p = q ∨ Adj p q) : tch a b := by
  obtain ⟨x, y⟩ := p
  obtain ⟨u, v⟩ := q
  unfold tch InT Adj at *
  simp only [Prod.mk.injEq] at *
  omega
theorem tch_to {a b : TRect} (ha : a.X0 < a.X1 ∧ a.Y0 < a.Y1) (hb : b.X0 < b.X1 ∧ b.Y0 < b.Y1) (h : tch a b) : ∃ p q : Int × Int, InT p a ∧ InT q b ∧ (p = q ∨ Adj p q) := by
  have key : ∀ c d e f : Int, c < d → e < f → max c e ≤ min d f → ∃ u v : Int, (c ≤ u ∧ u < d) ∧ (e ≤ v ∧ v < f) ∧ (u = v ∨ v = u + 1 ∨ u = v + 1) := by
    intro c d e f h1 h2 h3
    by_cases h : max c e < min d f
    · exact ⟨max c e, max c e, by omega, by omega, by omega⟩
    · by_cases h4 : d ≤ e
      · exact ⟨d - 1, e, by omega, by omega, by omega⟩
      · exact ⟨c, f - 1, by omega, by omega, by omega⟩
  have key2 : ∀ c d e f : Int, max c e < min d f → ∃ u : Int, (c ≤ u ∧ u < d) ∧ (e ≤ u ∧ u < f) := fun c d e f h => ⟨max c e, by omega, by omega⟩
  rcases h with ⟨h1, h2⟩ | ⟨h1, h2⟩
  · obtain ⟨u, k1, k2⟩ := key2 _ _ _ _ h1
    obtain ⟨y, v, k3, k4, k5⟩ := key _ _ _ _ ha.2 hb.2 h2
    refine ⟨(u, y), (u, v), ⟨k1, k3⟩, ⟨k2, k4⟩, ?_⟩
    rcases k5 with rfl | k5 | k5
    · exact .inl rfl
    · exact .inr (.inl ⟨rfl, .inl k5⟩)
    · exact .inr (.inl ⟨rfl, .inr k5⟩)
  · obtain ⟨u, k1, k2⟩ := key2 _ _ _ _ h2
    obtain ⟨y, v, k3, k4, k5⟩ := key _ _ _ _ ha.1 hb.1 h1
    refine ⟨(y, u), (v, u), ⟨k3, k1⟩, ⟨k4, k2⟩, ?_⟩
    rcases k5 with rfl | k5 | k5
    · exact .inl rfl
    · exact .inr (.inr ⟨rfl, .inl k5⟩)
    · exact .inr (.inr ⟨rfl, .inr k5⟩)
/-- Rectangles that hang together within a list. -/
inductive RConn (r : List TRect) : TRect → TRect → Prop
  | refl {a : TRect} : a ∈ r → RConn r a a
  | step {a b c : TRect} : RConn r a b → tch b c → c ∈ r → RConn r a c
theorem RConn.left {r : List TRect} {a b : TRect} (h : RConn r a b) : a ∈ r := by
  induction h with
  | refl h => exact h
  | step _ _ _ ih => exact ih
theorem RConn.right {r : List TRect} {a b : TRect} (h : RConn r a b) : b ∈ r := by
  cases h with
  | refl h => exact h
  | step _ _ h => exact h
theorem RConn.trans {r : List TRect} {a b c : TRect} (h : RConn r a b) (k : RConn r b c) : RConn r a c := by
  induction k with
  | refl _ => exact h
  | step _ t s ih => exact .step ih t s
theorem RConn.symm {r : List TRect} {a b : TRect} (h : RConn r a b) : RConn r b a := by
  induction h with
  | refl h => exact .refl h
  | step c t s ih => exact (RConn.step (.refl s) t.symm c.right).trans ih
/-- The squares of a rectangle hang together. -/
theorem rect_conn {S : Int → Int → Prop} {a : TRect} (hs : ∀ x y, InT (x, y) a → S x y) {p q : Int × Int} (hp : InT p a) (hq : InT q a) : Conn S p q := by
  have hor : ∀ (n : Nat) (x y : Int), InT (x, y) a → InT (x + n, y) a → Conn S (x, y) (x + n, y) := by
    intro n
    induction n with
    | zero => intro x y h _; simpa using Conn.refl (S := S) (p := (x, y)) (hs _ _ h)
    | succ n ih =>
      intro x y h h'
      have hm : InT (x + n, y) a := by unfold InT at *; simp only at *; omega
      refine .step (ih x y h hm) ?_ (hs _ _ h')
      unfold Adj; simp; omega
  have ver : ∀ (n : Nat) (x y : Int), InT (x, y) a → InT (x, y + n) a → Conn S (x, y) (x, y + n) := by
    intro n
    induction n with
    | zero => intro x y h _; simpa using Conn.refl (S := S) (p := (x, y)) (hs _ _ h)
    | succ n ih =>
      intro x y h h'
      have hm : InT (x, y + n) a := by unfold InT at *; simp only at *; omega
      refine .step (ih x y h hm) ?_ (hs _ _ h')
      unfold Adj; simp; omega
  have hor' : ∀ (x u y : Int), InT (x, y) a → InT (u, y) a → Conn S (x, y) (u, y) := by
    intro x u y h h'
    rcases Int.le_total x u with hle | hle
    · have e : u = x + ((u - x).toNat : Int) := by omega
      rw [e]; exact hor _ _ _ h (by rw [← e]; exact h')
    · have e : x = u + ((x - u).toNat : Int) := by omega
      rw [e]; exact (hor _ _ _ h' (by rw [← e]; exact h)).symm
  have ver' : ∀ (x y v : Int), InT (x, y) a → InT (x, v) a → Conn S (x, y) (x, v) := by
    intro x u y h h'
    rcases Int.le_total u y with hle | hle
    · have e : y = u + ((y - u).toNat : Int) := by omega
      rw [e]; exact ver _ _ _ h (by rw [← e]; exact h')
    · have e : u = y + ((u - y).toNat : Int) := by omega
      rw [e]; exact (ver _ _ _ h' (by rw [← e]; exact h)).symm
  obtain ⟨x, y⟩ := p
  obtain ⟨u, v⟩ := q
  have hm : InT (u, y) a := by unfold InT at *; simp only at *; omega
  exact (hor' x u y hp hm).trans (ver' u y v hm hq)
theorem rconn_conn {r : List TRect} (hr : ∀ a ∈ r, a.X0 < a.X1 ∧ a.Y0 < a.Y1) {a b : TRect} (h : RConn r a b) : ∀ {p q : Int × Int}, InT p a → InT q b → Conn (fun x y => InR x y r) p q := by
  induction h with
  | refl h => intro p q hp hq; exact rect_conn (fun x y hx => ⟨_, h, hx⟩) hp hq
  | @step b c hab ht hc ih =>
    intro p q hp hq
    obtain ⟨u, v, hu, hv, huv⟩ := tch_to (hr b hab.right) (hr c hc) ht
    have h1 := ih hp hu
    have h2 : Conn (fun x y => InR x y r) v q := rect_conn (fun x y hx => ⟨c, hc, hx⟩) hv hq
    rcases huv with rfl | huv
    · exact h1.trans h2
    · exact (Conn.step h1 huv h2.left).trans h2
/-- Lists of the rectangles that hang together, in order. -/
structure RS (r : List TRect) (L : List (List TRect)) : Prop where
  ne : ∀ l ∈ L, l ≠ []
  cov : ∀ a, a ∈ r ↔ ∃ l ∈ L, a ∈ l
  con : ∀ l ∈ L, ∀ a ∈ l, ∀ b ∈ l, RConn r a b
  cl : ∀ l ∈ L, ∀ a ∈ l, ∀ b ∈ r, tch a b → b ∈ l
  ord : L.Pairwise fun l m => ltP (fst (setB l)) (fst (setB m))
theorem setB_nil {l : List TRect} (hr : ∀ a ∈ l, a.X0 < a.X1 ∧ a.Y0 < a.Y1) (h : l ≠ []) : setB l ≠ [] := by
  match l, h with
  | a :: l, _ =>
    have := hr a (by simp)
    have hx := ((setB_ok hr).2 a.X0 a.Y0).2 ⟨a, by simp, by omega, by omega⟩
    intro e
    rw [e] at hx
    exact absurd hx InS_nil
/-- LISTS OF RECTANGLES THAT HANG TOGETHER ARE THE PARTS. -/
theorem RS.ps {r : List TRect} {L : List (List TRect)} (h : RS r L) (hr : ∀ a ∈ r, a.X0 < a.X1 ∧ a.Y0 < a.Y1) : PS (fun x y => InR x y r) (L.map setB) := by
  have hl : ∀ l ∈ L, ∀ a ∈ l, a.X0 < a.X1 ∧ a.Y0 < a.Y1 := fun l hl a ha => hr a ((h.cov a).2 ⟨l, hl, ha⟩)
  refine ⟨fun P hP => ?_, fun x y => ?_, fun P hP p q hp hq => ?_, fun P hP p q hp ha hs => ?_, ?_⟩
  · obtain ⟨l, hm, rfl⟩ := List.mem_map.1 hP
    exact ⟨(setB_ok (hl l hm)).1, setB_nil (hl l hm) (h.ne l hm)⟩
  · constructor
    · rintro ⟨a, ha, hx⟩
      obtain ⟨l, hm, hal⟩ := (h.cov a).1 ha
      exact ⟨setB l, List.mem_map.2 ⟨l, hm, rfl⟩, ((setB_ok (hl l hm)).2 x y).2 ⟨a, hal, hx⟩⟩
    · rintro ⟨P, hP, hx⟩
      obtain ⟨l, hm, rfl⟩ := List.mem_map.1 hP
      obtain ⟨a, ha, hx⟩ := ((setB_ok (hl l hm)).2 x y).1 hx
      exact ⟨a, (h.cov a).2 ⟨l, hm, ha⟩, hx⟩
  · obtain ⟨l, hm, rfl⟩ := List.mem_map.1 hP
    obtain ⟨a, ha, hx⟩ := ((setB_ok (hl l hm)).2 _ _).1 hp
    obtain ⟨b, hb, hy⟩ := ((setB_ok (hl l hm)).2 _ _).1 hq
    exact rconn_conn hr (h.con l hm a ha b hb) hx hy
  · obtain ⟨l, hm, rfl⟩ := List.mem_map.1 hP
    obtain ⟨a, hal, hx⟩ := ((setB_ok (hl l hm)).2 _ _).1 hp
    obtain ⟨b, hb, hy⟩ := hs
    exact ((setB_ok (hl l hm)).2 _ _).2 ⟨b, h.cl l hm a hal b hb (tch_of (p := p) (q := q) hx hy (.inr ha)), hy⟩
  · exact List.pairwise_map.2 h.ord
/-- The first square of a list whose head is before all others. -/
theorem fst_head {a : TRect} {l : List TRect} (hr : ∀ b ∈ a :: l, b.X0 < b.X1 ∧ b.Y0 < b.Y1) (h : ∀ b ∈ l, ltP (a.X0, a.Y0) (b.X0, b.Y0)) : fst (setB (a :: l)) = (a.X0, a.Y0) := by
  obtain ⟨h1, h2⟩ := fst_ok (setB_ok hr).1 (setB_nil hr (by simp))
  have ha := hr a (by simp)
  have h3 := h2 a.X0 a.Y0 (((setB_ok hr).2 _ _).2 ⟨a, by simp, by omega, by omega⟩)
  obtain ⟨b, hb, hx, hy⟩ := ((setB_ok hr).2 _ _).1 h1
  rcases h3 with h3 | h3
  · exact h3
  · exfalso
    rcases List.mem_cons.1 hb with rfl | hb
    · unfold ltP at h3; simp only at h3; omega
    · have := h b hb
      unfold ltP at h3 this; simp only at h3 this; omega
end Go.Proofs.Ytnlhigfglfahiaa
namespace Go.Proofs.Ytnlhigfglfahiaa
/-- ρ tells the roots of the forest u. -/
def Rep (u : List Int) (ρ : Nat → Nat) : Prop := ∀ i, i < u.length → ∃ v : Nat, u[i]? = some (v : Int) ∧ v ≤ i ∧ ρ i ≤ v ∧ ρ v = ρ i ∧ (v = i → ρ i = i)
section
variable {u : List Int} {ρ : Nat → Nat}
theorem Rep.le (h : Rep u ρ) {i : Nat} (hi : i < u.length) : ρ i ≤ i := by
  obtain ⟨v, _, h1, h2, _⟩ := h i hi
  omega
theorem Rep.idem (h : Rep u ρ) : ∀ {i : Nat}, i < u.length → ρ (ρ i) = ρ i := by
  intro i
  induction i using Nat.strongRecOn with
  | _ i ih =>
    intro hi
    obtain ⟨v, h0, h1, h2, h3, h4⟩ := h i hi
    by_cases e : v = i
    · rw [h4 e, h4 e]
    · rw [← h3]; exact ih v (by omega) (by omega)
theorem Rep.root (h : Rep u ρ) {i : Nat} (hi : i < u.length) (he : ρ i = i) : u[i]? = some (i : Int) := by
  obtain ⟨v, h0, h1, h2, h3, h4⟩ := h i hi
  have : v = i := by omega
  rw [h0, this]
/-- A way that is made shorter. -/
theorem Rep.short (h : Rep u ρ) {i v w : Nat} (hi : i < u.length) (h1 : u[i]? = some (v : Int)) (hv : v ≠ i) (h2 : u[v]? = some (w : Int)) : Rep (u.set i (w : Int)) ρ ∧ w < i ∧ ρ w = ρ i := by
  obtain ⟨v', a0, a1, a2, a3, a4⟩ := h i hi
  rw [a0] at h1
  have : v' = v := Int.ofNat.inj (Option.some.inj h1)
  subst this
  obtain ⟨w', b0, b1, b2, b3, b4⟩ := h v' (by omega)
  rw [b0] at h2
  have : w' = w := Int.ofNat.inj (Option.some.inj h2)
  subst this
  refine ⟨fun j hj => ?_, by omega, by rw [b3, a3]⟩
  rw [List.length_set] at hj
  by_cases e : i = j
  · subst e
    exact ⟨w', by rw [List.getElem?_set_self hi], by omega, by rw [← a3]; exact b2, by rw [b3, a3], fun e => by omega⟩
  · obtain ⟨z, c0, c1⟩ := h j hj
    exact ⟨z, by rw [List.getElem?_set_ne e]; exact c0, c1⟩
/-- Two trees joined. -/
theorem Rep.joinG (h : Rep u ρ) {hi lo : Nat} (hl : lo ≤ hi) (hh : hi < u.length) (e1 : ρ hi = hi) (e2 : ρ lo = lo) : Rep (u.set hi (lo : Int)) fun i => if ρ i = hi then lo else ρ i := by
  intro j hj
  rw [List.length_set] at hj
  obtain ⟨z, c0, c1, c2, c3, c4⟩ := h j hj
  by_cases e : hi = j
  · subst e
    refine ⟨lo, by rw [List.getElem?_set_self hj], hl, ?_, ?_, fun e => ?_⟩
    · show (if _ then _ else _) ≤ _
      rw [if_pos e1]; exact Nat.le_refl _
    · show (if ρ lo = hi then lo else ρ lo) = (if ρ hi = hi then lo else ρ hi)
      rw [if_pos e1, e2]; split <;> rfl
    · show (if _ then _ else _) = _
      rw [if_pos e1]; exact e
  · refine ⟨z, by rw [List.getElem?_set_ne e]; exact c0, c1, ?_, ?_, fun e => ?_⟩
    · show (if _ then _ else _) ≤ _
      split <;> omega
    · show (if ρ z = _ then _ else _) = (if _ then _ else _)
      rw [c3]
    · show (if _ then _ else _) = _
      have := c4 e
      rw [this, if_neg (by omega)]
theorem Rep.join (h : Rep u ρ) {x y : Nat} (hx : x < u.length) (hy : y < u.length) (ex : ρ x = x) (ey : ρ y = y) : Rep (u.set (max x y) ((min x y : Nat) : Int)) fun i => if ρ i = max x y then min x y else ρ i := by
  rcases Nat.le_total x y with hle | hle
  · rw [Nat.max_eq_right hle, Nat.min_eq_left hle]; exact h.joinG hle hy ey ex
  · rw [Nat.max_eq_left hle, Nat.min_eq_right hle]; exact h.joinG hle hx ex ey
end
theorem rep_id (n : Nat) : Rep ((List.range n).map (fun i : Nat => (i : Int))) id := fun i hi => by
  rw [List.length_map, List.length_range] at hi
  exact ⟨i, by simp [hi], Nat.le_refl _, Nat.le_refl _, rfl, fun _ => rfl⟩
/-- What is joined hangs together, and what was joined stays so. -/
theorem join_kernelG {ρ : Nat → Nat} {hi lo a b : Nat} (hab2 : (ρ a = hi ∧ ρ b = lo) ∨ (ρ a = lo ∧ ρ b = hi)) {R : Nat → Nat → Prop} (hs : ∀ i j, R i j → R j i) (ht : ∀ i j k, R i j → R j k → R i k) (hR : ∀ i j, ρ i = ρ j → R i j) (hab : R a b) :
    (∀ i j, (if ρ i = hi then lo else ρ i) = (if ρ j = hi then lo else ρ j) → R i j) ∧ (if ρ a = hi then lo else ρ a) = (if ρ b = hi then lo else ρ b) ∧ ∀ i j, ρ i = ρ j → (if ρ i = hi then lo else ρ i) = (if ρ j = hi then lo else ρ j) := by
  have cls : ∀ i, (ρ i = hi ∨ ρ i = lo) → R i a := by
    intro i h
    rcases hab2 with ⟨h1, h2⟩ | ⟨h1, h2⟩ <;> rcases h with h | h
    · exact hR i a (by rw [h, h1])
    · exact ht _ _ _ (hR i b (by rw [h, h2])) (hs _ _ hab)
    · exact ht _ _ _ (hR i b (by rw [h, h2])) (hs _ _ hab)
    · exact hR i a (by rw [h, h1])
  refine ⟨fun i j e => ?_, ?_, fun i j e => by rw [e]⟩
  · by_cases h1 : ρ i = hi <;> by_cases h2 : ρ j = hi
    · exact ht _ _ _ (cls i (.inl h1)) (hs _ _ (cls j (.inl h2)))
    · rw [if_pos h1, if_neg h2] at e
      exact ht _ _ _ (cls i (.inl h1)) (hs _ _ (cls j (.inr e.symm)))
    · rw [if_neg h1, if_pos h2] at e
      exact ht _ _ _ (cls i (.inr e)) (hs _ _ (cls j (.inl h2)))
    · rw [if_neg h1, if_neg h2] at e
      exact hR i j e
  · rcases hab2 with ⟨h1, h2⟩ | ⟨h1, h2⟩
    · rw [h1, h2, if_pos rfl]; split <;> rfl
    · rw [h1, h2, if_pos rfl]; split <;> rfl
theorem join_kernel {ρ : Nat → Nat} {x y a b : Nat} (ha : ρ a = x) (hb : ρ b = y) {R : Nat → Nat → Prop} (hs : ∀ i j, R i j → R j i) (ht : ∀ i j k, R i j → R j k → R i k) (hR : ∀ i j, ρ i = ρ j → R i j) (hab : R a b) :
    (∀ i j, (if ρ i = max x y then min x y else ρ i) = (if ρ j = max x y then min x y else ρ j) → R i j) ∧ (if ρ a = max x y then min x y else ρ a) = (if ρ b = max x y then min x y else ρ b) ∧ ∀ i j, ρ i = ρ j → (if ρ i = max x y then min x y else ρ i) = (if ρ j = max x y then min x y else ρ j) := by
  rcases Nat.le_total x y with hle | hle
  · rw [Nat.max_eq_right hle, Nat.min_eq_left hle]; exact join_kernelG (.inr ⟨ha, hb⟩) hs ht hR hab
  · rw [Nat.max_eq_left hle, Nat.min_eq_right hle]; exact join_kernelG (.inl ⟨ha, hb⟩) hs ht hR hab
end Go.Proofs.Ytnlhigfglfahiaa
namespace Go.Proofs.Ytnlhigfglfahiaa
theorem nodup_sub_len {α : Type} : ∀ {l m : List α}, l.Nodup → (∀ x ∈ l, x ∈ m) → l.length ≤ m.length
  | [], _, _, _ => Nat.zero_le _
  | a :: l, m, h, hs => by
    classical
    obtain ⟨h1, h2⟩ := List.nodup_cons.1 h
    have ha : a ∈ m := hs a (by simp)
    have := nodup_sub_len (l := l) (m := m.erase a) h2 fun x hx => (List.mem_erase_of_ne (fun e => by subst e; exact h1 hx)).2 (hs x (by simp [hx]))
    rw [List.length_erase_of_mem ha] at this
    have : 0 < m.length := List.length_pos_of_mem ha
    simp only [List.length_cons]
    omega
theorem ltR_iff {a b : TRect} : ltR a b = true ↔ ltP (a.X0, a.Y0) (b.X0, b.Y0) := by
  unfold ltR ltP
  simp
theorem ordR_pair : ∀ {l : List TRect}, ordR l = true → l.Pairwise fun a b => ltP (a.X0, a.Y0) (b.X0, b.Y0)
  | [], _ => .nil
  | [a], _ => by simp
  | a :: b :: l, h => by
    have h : (ltR a b && ordR (b :: l)) = true := h
    rw [Bool.and_eq_true] at h
    have ih := ordR_pair h.2
    refine List.pairwise_cons.2 ⟨fun x hx => ?_, ih⟩
    have hab := ltR_iff.1 h.1
    rcases List.mem_cons.1 hx with rfl | hx
    · exact hab
    · exact hab.trans ((List.pairwise_cons.1 ih).1 x hx)
theorem corner_nodup {C : List Bd} (h : BOk C) : ((rectsB C).map fun r => (r.X0, r.Y0)).Nodup := by
  obtain ⟨lo, hc⟩ := h.can
  refine List.pairwise_map.2 ((ordR_pair (ordR_rectsB hc h.row)).imp ?_)
  intro a b hab e
  rw [e] at hab
  exact ltP.irrefl hab
theorem Can.gap : ∀ {l : List (Int × Int)} {lo : Int}, Can lo l → ∀ s ∈ l, ¬ InS (s.1 - 1) l
  | [], _, _, s, hs => by simp at hs
  | p :: l, lo, h, s, hs => by
    obtain ⟨h1, h2, h3⟩ := h
    intro hx
    rcases List.mem_cons.1 hs with rfl | hs
    · rcases InS_cons.1 hx with hx | hx
      · omega
      · have := h3.lt hx; omega
    · have := (h3.mem s hs).1
      rcases InS_cons.1 hx with hx | hx
      · omega
      · exact h3.gap s hs hx
theorem Can.gapR : ∀ {l : List (Int × Int)} {lo : Int}, Can lo l → ∀ s ∈ l, ¬ InS s.2 l
  | [], _, _, s, hs => by simp at hs
  | p :: l, lo, h, s, hs => by
    obtain ⟨h1, h2, h3⟩ := h
    intro hx
    rcases List.mem_cons.1 hs with rfl | hs
    · rcases InS_cons.1 hx with hx | hx
      · omega
      · have := h3.lt hx; omega
    · have h4 := h3.mem s hs
      rcases InS_cons.1 hx with hx | hx
      · omega
      · exact h3.gapR s hs hx
theorem CanB.next : ∀ {l : List Bd} {lo : Int}, CanB lo l → ∀ d ∈ l, ∀ b ∈ l, d.2.1 = b.1 → b.2.2 ≠ d.2.2
  | [], _, _, d, hd, _, _, _ => by simp at hd
  | c :: l, lo, h, d, hd, b, hb, e => by
    obtain ⟨h1, h2, h3, h4, h5⟩ := h
    rcases List.mem_cons.1 hd with rfl | hd
    · rcases List.mem_cons.1 hb with rfl | hb
      · omega
      · match l, h4, h5, hb with
        | f :: l, h4, h5, hb =>
          rcases List.mem_cons.1 hb with rfl | hb
          · exact h4 _ rfl e.symm
          · have := h5.1; have := h5.2.1; have := (h5.2.2.2.2.mem b hb).1; omega
    · have hd' := h5.mem d hd
      rcases List.mem_cons.1 hb with rfl | hb
      · omega
      · exact h5.next d hd b hb e
theorem row_eq {C : List Bd} (h : BOk C) {y z : Int} (he : ∀ u, InB u y C ↔ InB u z C) : rowAt C y = rowAt C z := can_eq (h.at y) (h.at z) he
/-- The rows at a height and below it are not the same. -/
def Chg (S : Int → Int → Prop) (y : Int) : Prop := ¬ ∀ u, S u (y - 1) ↔ S u y
theorem corner_to {C : List Bd} (h : BOk C) {r : TRect} (hr : r ∈ rectsB C) : InB r.X0 r.Y0 C ∧ ¬ InB (r.X0 - 1) r.Y0 C ∧ InB (r.X1 - 1) r.Y0 C ∧ ¬ InB r.X1 r.Y0 C ∧ Chg (fun x y => InB x y C) r.Y0 := by
  obtain ⟨lo, hc⟩ := h.can
  obtain ⟨b, hb, s, hs, rfl⟩ := mem_rectsB.1 hr
  have hm := hc.mem b hb
  have e := rowAt_of hc hb (Int.le_refl _) hm.2.1
  obtain ⟨lo', hcr⟩ := h.row b hb
  have hs2 := hcr.mem s hs
  refine ⟨?_, ?_, ?_, ?_, fun hall => ?_⟩
  · show InS _ _; rw [e]; exact ⟨s, hs, Int.le_refl _, hs2.2⟩
  · show ¬ InS _ _; rw [e]; exact hcr.gap s hs
  · show InS _ _; rw [e]; exact ⟨s, hs, by show s.1 ≤ s.2 - 1; omega, by show s.2 - 1 < s.2; omega⟩
  · show ¬ InS _ _; rw [e]; exact hcr.gapR s hs
  · have e2 := row_eq h hall
    have e3 : rowAt C b.1 = b.2.2 := e
    rcases rowAt_mem (l := C) (y := b.1 - 1) with h1 | ⟨d, hd, h1, h2, h3⟩
    · have e2 : rowAt C (b.1 - 1) = rowAt C b.1 := e2
      rw [h1, e3] at e2; exact hm.2.2 e2.symm
    · have e2 : rowAt C (b.1 - 1) = rowAt C b.1 := e2
      rw [h3, e3] at e2
      have hd2 : d.2.1 = b.1 := by
        by_cases hlt : d.2.1 ≤ b.1
        · omega
        · have := rowAt_of hc hd (y := b.1) (by omega) (by omega)
          have hdb : ∀ {l : List Bd} {lo : Int}, CanB lo l → d ∈ l → b ∈ l → d.1 < b.1 → d.2.1 ≤ b.1 := by
            intro l
            induction l with
            | nil => intro lo _ hd; simp at hd
            | cons c l ih =>
              intro lo h hd hb hlt
              rcases List.mem_cons.1 hd with e1 | h1
              · rcases List.mem_cons.1 hb with e2 | h2
                · rw [e1, e2] at hlt; omega
                · rw [e1]; exact (h.2.2.2.2.mem b h2).1
              · rcases List.mem_cons.1 hb with e2 | h2
                · rw [e2] at hlt; have := (h.2.2.2.2.mem d h1).1; have := h.2.1; omega
                · exact ih h.2.2.2.2 h1 h2 hlt
          have := hdb hc hd hb (by omega)
          omega
      exact hc.next d hd b hb hd2 e2.symm
theorem corner_of {C : List Bd} (h : BOk C) {x y : Int} (h1 : InB x y C) (h2 : ¬ InB (x - 1) y C) (h3 : Chg (fun x y => InB x y C) y) : ∃ r ∈ rectsB C, r.X0 = x ∧ r.Y0 = y := by
  obtain ⟨lo, hc⟩ := h.can
  rcases rowAt_mem (l := C) (y := y) with e | ⟨b, hb, k1, k2, k3⟩
  · unfold InB at h1; rw [e] at h1; exact absurd h1 InS_nil
  · have hy : b.1 = y := by
      by_cases hlt : b.1 = y
      · exact hlt
      · exfalso
        refine h3 fun u => ?_
        have := rowAt_of hc hb (y := y - 1) (by omega) (by omega)
        show InS u _ ↔ InS u _
        rw [this, k3]
    unfold InB at h1 h2
    rw [k3] at h1 h2
    obtain ⟨s, hs, hx⟩ := h1
    refine ⟨_, mem_rectsB.2 ⟨b, hb, s, hs, rfl⟩, ?_, hy⟩
    show s.1 = x
    by_cases hlt : s.1 = x
    · exact hlt
    · exact absurd ⟨s, hs, by omega, by omega⟩ h2
theorem cornerR_of {C : List Bd} (h : BOk C) {x y : Int} (h1 : InB (x - 1) y C) (h2 : ¬ InB x y C) (h3 : Chg (fun x y => InB x y C) y) : ∃ r ∈ rectsB C, r.X1 = x ∧ r.Y0 = y := by
  obtain ⟨lo, hc⟩ := h.can
  rcases rowAt_mem (l := C) (y := y) with e | ⟨b, hb, k1, k2, k3⟩
  · unfold InB at h1; rw [e] at h1; exact absurd h1 InS_nil
  · have hy : b.1 = y := by
      by_cases hlt : b.1 = y
      · exact hlt
      · exfalso
        refine h3 fun u => ?_
        have := rowAt_of hc hb (y := y - 1) (by omega) (by omega)
        show InS u _ ↔ InS u _
        rw [this, k3]
    unfold InB at h1 h2
    rw [k3] at h1 h2
    obtain ⟨s, hs, hx⟩ := h1
    refine ⟨_, mem_rectsB.2 ⟨b, hb, s, hs, rfl⟩, ?_, hy⟩
    show s.2 = x
    by_cases hlt : s.2 = x
    · exact hlt
    · exact absurd ⟨s, hs, by omega, by omega⟩ h2
/-- The corner of a rectangle of what is closed within a set is one of the set. -/
theorem part_corner {B P : List Bd} (hB : BOk B) (hk : BOk P) (sub : ∀ x y, InB x y P → InB x y B) (cl : ∀ p q : Int × Int, InB p.1 p.2 P → Adj p q → InB q.1 q.2 B → InB q.1 q.2 P) {r : TRect} (hr : r ∈ rectsB P) : (r.X0, r.Y0) ∈ (rectsB B).map fun r => (r.X0, r.Y0) := by
  obtain ⟨a1, a2, _, _, a5⟩ := corner_to hk hr
  have b1 := sub _ _ a1
  have b2 : ¬ InB (r.X0 - 1) r.Y0 B := fun hx => a2 (cl (r.X0, r.Y0) (r.X0 - 1, r.Y0) a1 (by unfold Adj; simp <;> omega) hx)
  obtain ⟨q, hq, q1, q2⟩ := corner_of hB b1 b2 fun hall => a5 fun u => by
    constructor
    · intro hu; exact cl (u, r.Y0 - 1) (u, r.Y0) hu (by unfold Adj; simp) ((hall u).1 (sub _ _ hu))
    · intro hu; exact cl (u, r.Y0) (u, r.Y0 - 1) hu (by unfold Adj; simp) ((hall u).2 (sub _ _ hu))
  exact List.mem_map.2 ⟨q, hq, by rw [q1, q2]⟩
theorem part_len {B P : List Bd} (hB : BOk B) (hk : BOk P) (sub : ∀ x y, InB x y P → InB x y B) (cl : ∀ p q : Int × Int, InB p.1 p.2 P → Adj p q → InB q.1 q.2 B → InB q.1 q.2 P) : (rectsB P).length ≤ (rectsB B).length := by
  have := nodup_sub_len (corner_nodup hk) (m := (rectsB B).map fun r => (r.X0, r.Y0)) fun c hc => by
    obtain ⟨r, hr, rfl⟩ := List.mem_map.1 hc
    exact part_corner hB hk sub cl hr
  simpa using this
/-- The corner of a rectangle of a part is one of the set. -/
theorem PS.corner {B P : List Bd} {L : List (List Bd)} (hB : BOk B) (h : PS (fun x y => InB x y B) L) (hP : P ∈ L) {r : TRect} (hr : r ∈ rectsB P) : (r.X0, r.Y0) ∈ (rectsB B).map fun r => (r.X0, r.Y0) :=
  part_corner hB (h.ok P hP).1 (fun _ _ hx => h.sub hP hx) (h.cl P hP) hr
/-- A part has no more rectangles than the set. -/
theorem PS.len {B P : List Bd} {L : List (List Bd)} (hB : BOk B) (h : PS (fun x y => InB x y B) L) (hP : P ∈ L) : (rectsB P).length ≤ (rectsB B).length := by
  have := nodup_sub_len (corner_nodup (h.ok P hP).1) (m := (rectsB B).map fun r => (r.X0, r.Y0)) fun c hc => by
    obtain ⟨r, hr, rfl⟩ := List.mem_map.1 hc
    exact h.corner hB hP hr
  simpa using this
/-- Sets without a square in common: their corners are different. -/
theorem corners_nodup : ∀ {L : List (List Bd)}, L.Nodup → (∀ P ∈ L, BOk P) → (∀ P ∈ L, ∀ Q ∈ L, ∀ x y, InB x y P → InB x y Q → P = Q) → ((L.flatMap rectsB).map fun r => (r.X0, r.Y0)).Nodup
  | [], _, _, _ => .nil
  | P :: L, hn, ho, hd => by
    obtain ⟨n1, n2⟩ := List.nodup_cons.1 hn
    rw [List.flatMap_cons, List.map_append, List.nodup_append]
    refine ⟨corner_nodup (ho P (by simp)), corners_nodup n2 (fun Q hQ => ho Q (by simp [hQ])) (fun Q hQ R hR => hd Q (by simp [hQ]) R (by simp [hR])), fun c hc e he hce => ?_⟩
    subst hce
    obtain ⟨r, hr, rfl⟩ := List.mem_map.1 hc
    obtain ⟨q, hq, e⟩ := List.mem_map.1 he
    obtain ⟨Q, hQ, hq⟩ := List.mem_flatMap.1 hq
    have h1 := (corner_to (ho P (by simp)) hr).1
    have h2 := (corner_to (ho Q (by simp [hQ])) hq).1
    simp only [Prod.mk.injEq] at e
    rw [e.1, e.2] at h2
    have := hd P (by simp) Q (by simp [hQ]) _ _ h1 h2
    subst this
    exact n1 hQ
/-- All parts together have no more rectangles than the set. -/
theorem PS.total {B : List Bd} {L : List (List Bd)} (hB : BOk B) (h : PS (fun x y => InB x y B) L) : (L.flatMap rectsB).length ≤ (rectsB B).length := by
  have hnd : L.Nodup := by
    refine h.ord.imp ?_
    intro a b hab e
    subst e
    exact ltP.irrefl hab
  have := nodup_sub_len (corners_nodup hnd (fun P hP => (h.ok P hP).1) (fun P hP Q hQ x y => h.disj hP hQ)) (m := (rectsB B).map fun r => (r.X0, r.Y0)) fun c hc => by
    obtain ⟨r, hr, rfl⟩ := List.mem_map.1 hc
    obtain ⟨P, hP, hr⟩ := List.mem_flatMap.1 hr
    exact h.corner hB hP hr
  simpa using this
/-- A set with a box around it, its parts outside. -/
structure BoxOf (B : List Bd) (x0 y0 x1 y1 : Int) : Prop where
  lim : ∀ x y, InB x y B → (x0 < x ∧ x + 1 < x1) ∧ (y0 < y ∧ y + 1 < y1)
  ne : x0 + 1 < x1 ∧ y0 + 1 < y1
/-- What is in the box, but not in the set. -/
def Out (B : List Bd) (x0 y0 x1 y1 : Int) (x y : Int) : Prop := ((x0 ≤ x ∧ x < x1) ∧ (y0 ≤ y ∧ y < y1)) ∧ ¬ InB x y B
/-- The border of the box. -/
def Ring (x0 y0 x1 y1 : Int) (x y : Int) : Prop := ((x0 ≤ x ∧ x < x1) ∧ (y0 ≤ y ∧ y < y1)) ∧ (x = x0 ∨ x + 1 = x1 ∨ y = y0 ∨ y + 1 = y1)
section
variable {B : List Bd} {x0 y0 x1 y1 : Int} {L : List (List Bd)}
theorem BoxOf.ring (h : BoxOf B x0 y0 x1 y1) {x y : Int} (hr : Ring x0 y0 x1 y1 x y) : Out B x0 y0 x1 y1 x y := by
  refine ⟨hr.1, fun hx => ?_⟩
  have := h.lim x y hx
  have := hr.2
  omega
/-- The border hangs together. -/
theorem BoxOf.hangs (h : BoxOf B x0 y0 x1 y1) {p : Int × Int} (hr : Ring x0 y0 x1 y1 p.1 p.2) : Conn (Out B x0 y0 x1 y1) (x0, y0) p := by
  have hn := h.ne
  have low : ∀ {q : Int × Int}, (x0 ≤ q.1 ∧ q.1 < x1) → q.2 = y0 → Conn (Out B x0 y0 x1 y1) (x0, y0) q := fun {q} h1 h2 =>
    rect_conn (a := ⟨x0, y0, x1, y0 + 1⟩) (fun x y hx => h.ring (by unfold InT at hx; unfold Ring; simp only at hx; omega)) (by unfold InT; simp only; omega) (by unfold InT; simp only; omega)
  have left : ∀ {q : Int × Int}, (y0 ≤ q.2 ∧ q.2 < y1) → q.1 = x0 → Conn (Out B x0 y0 x1 y1) (x0, y0) q := fun {q} h1 h2 =>
    rect_conn (a := ⟨x0, y0, x0 + 1, y1⟩) (fun x y hx => h.ring (by unfold InT at hx; unfold Ring; simp only at hx; omega)) (by unfold InT; simp only; omega) (by unfold InT; simp only; omega)
  have right : ∀ {q : Int × Int}, (y0 ≤ q.2 ∧ q.2 < y1) → q.1 + 1 = x1 → Conn (Out B x0 y0 x1 y1) (x0, y0) q := fun {q} h1 h2 =>
    (low (q := (x1 - 1, y0)) (by simp only; omega) rfl).trans (rect_conn (a := ⟨x1 - 1, y0, x1, y1⟩) (fun x y hx => h.ring (by unfold InT at hx; unfold Ring; simp only at hx; omega)) (by unfold InT; simp only; omega) (by unfold InT; simp only; omega))
  have high : ∀ {q : Int × Int}, (x0 ≤ q.1 ∧ q.1 < x1) → q.2 + 1 = y1 → Conn (Out B x0 y0 x1 y1) (x0, y0) q := fun {q} h1 h2 =>
    (left (q := (x0, y1 - 1)) (by simp only; omega) rfl).trans (rect_conn (a := ⟨x0, y1 - 1, x1, y1⟩) (fun x y hx => h.ring (by unfold InT at hx; unfold Ring; simp only at hx; omega)) (by unfold InT; simp only; omega) (by unfold InT; simp only; omega))
  rcases hr with ⟨⟨k1, k2⟩, k3 | k3 | k3 | k3⟩
  · exact left k2 k3
  · exact right k2 k3
  · exact low k1 k3
  · exact high k1 k3
/-- The part with the border: its first square is the corner. -/
theorem PS.outer (h : BoxOf B x0 y0 x1 y1) (k : PS (Out B x0 y0 x1 y1) L) {P : List Bd} (hP : P ∈ L) : fst P = (x0, y0) ↔ ∃ x y, Ring x0 y0 x1 y1 x y ∧ InB x y P := by
  obtain ⟨o1, o2⟩ := k.ok P hP
  obtain ⟨f1, f2⟩ := fst_ok o1 o2
  have hn := h.ne
  have hc : Ring x0 y0 x1 y1 x0 y0 := by unfold Ring; omega
  constructor
  · intro e
    rw [e] at f1
    exact ⟨x0, y0, hc, f1⟩
  · rintro ⟨x, y, hr, hx⟩
    have h1 : InB x0 y0 P := (k.reach hP (p := (x, y)) hx (x0, y0)).2 (h.hangs (p := (x, y)) hr).symm
    rcases f2 x0 y0 h1 with e | e
    · exact e
    · exfalso
      have := (k.sub hP f1).1
      unfold ltP at e
      simp only at e
      omega
/-- The corner of a rectangle of a hole is one of the set, on its other side. -/
theorem PS.holeCorner (hB : BOk B) (h : BoxOf B x0 y0 x1 y1) (k : PS (Out B x0 y0 x1 y1) L) {P : List Bd} (hP : P ∈ L) (ho : fst P ≠ (x0, y0)) {r : TRect} (hr : r ∈ rectsB P) : (r.X0, r.Y0) ∈ (rectsB B).map fun r => (r.X1, r.Y0) := by
  have hk := (k.ok P hP).1
  have hno : ∀ {x y : Int}, InB x y P → ¬ Ring x0 y0 x1 y1 x y := fun hx hr => ho ((k.outer h hP).2 ⟨_, _, hr, hx⟩)
  obtain ⟨a1, a2, _, _, a5⟩ := corner_to hk hr
  have b0 := k.sub hP a1
  have b3 := hno a1
  unfold Out at b0
  unfold Ring at b3
  have b2 : InB (r.X0 - 1) r.Y0 B := by
    by_cases hx : InB (r.X0 - 1) r.Y0 B
    · exact hx
    · exact absurd (k.cl P hP (r.X0, r.Y0) (r.X0 - 1, r.Y0) a1 (by unfold Adj; simp <;> omega) ⟨by simp only; omega, hx⟩) a2
  obtain ⟨q, hq, q1, q2⟩ := cornerR_of hB (x := r.X0) b2 b0.2 fun hall => a5 fun u => by
    constructor
    · intro hu
      have c0 := k.sub hP hu
      have c1 := hno hu
      unfold Out at c0
      unfold Ring at c1
      exact k.cl P hP (u, r.Y0 - 1) (u, r.Y0) hu (by unfold Adj; simp) ⟨by simp only; omega, fun hx => c0.2 ((hall u).2 hx)⟩
    · intro hu
      have c0 := k.sub hP hu
      have c1 := hno hu
      unfold Out at c0
      unfold Ring at c1
      exact k.cl P hP (u, r.Y0) (u, r.Y0 - 1) hu (by unfold Adj; simp) ⟨by simp only; omega, fun hx => c0.2 ((hall u).1 hx)⟩
  exact List.mem_map.2 ⟨q, hq, by rw [q1, q2]⟩
/-- All holes together have no more rectangles than the set. -/
theorem PS.holesTotal (hB : BOk B) (h : BoxOf B x0 y0 x1 y1) (k : PS (Out B x0 y0 x1 y1) L) : ((L.filter fun P => decide (fst P ≠ (x0, y0))).flatMap rectsB).length ≤ (rectsB B).length := by
  have hnd : L.Nodup := by
    refine k.ord.imp ?_
    intro a b hab e
    subst e
    exact ltP.irrefl hab
  have hm : ∀ P ∈ L.filter (fun P => decide (fst P ≠ (x0, y0))), P ∈ L ∧ fst P ≠ (x0, y0) := fun P hP => ⟨(List.mem_filter.1 hP).1, of_decide_eq_true (List.mem_filter.1 hP).2⟩
  have := nodup_sub_len (corners_nodup (hnd.filter _) (fun P hP => (k.ok P (hm P hP).1).1) (fun P hP Q hQ x y => k.disj (hm P hP).1 (hm Q hQ).1)) (m := (rectsB B).map fun r => (r.X1, r.Y0)) fun c hc => by
    obtain ⟨r, hr, rfl⟩ := List.mem_map.1 hc
    obtain ⟨P, hP, hr⟩ := List.mem_flatMap.1 hr
    exact k.holeCorner hB h (hm P hP).1 (hm P hP).2 hr
  simpa using this
/-- A hole has no more rectangles than the set. -/
theorem PS.holeLen (hB : BOk B) (h : BoxOf B x0 y0 x1 y1) (k : PS (Out B x0 y0 x1 y1) L) {P : List Bd} (hP : P ∈ L) (ho : fst P ≠ (x0, y0)) : (rectsB P).length ≤ (rectsB B).length := by
  have := nodup_sub_len (corner_nodup (k.ok P hP).1) (m := (rectsB B).map fun r => (r.X1, r.Y0)) fun c hc => by
    obtain ⟨r, hr, rfl⟩ := List.mem_map.1 hc
    exact k.holeCorner hB h hP ho hr
  simpa using this
end
end Go.Proofs.Ytnlhigfglfahiaa
namespace Go.Proofs.Ytnlhigfglfahiaa
theorem idxN {α : Type} (l : List α) (i : Nat) : idx l (i : Int) = l[i]? := by
  unfold idx; rw [if_pos (Int.natCast_nonneg i), Int.toNat_natCast]
theorem setsN {α : Type} {l : List α} {i : Nat} (x : α) (h : i < l.length) : sets l (i : Int) x = some (l.set i x) := by
  unfold sets; rw [Int.toNat_natCast, if_pos ⟨Int.natCast_nonneg i, h⟩]
/-- The root of a number, the ways shortened. -/
theorem top_loop : ∀ (m : Nat) (u : List Int) (ρ : Nat → Nat) (i : Nat), Rep u ρ → i < u.length → i < m → ∃ u', F_shape_Set__Parts_1_L1 m u (i : Int) = some ((ρ i : Int), u') ∧ Rep u' ρ ∧ u'.length = u.length := by
  intro m
  induction m with
  | zero => intro u ρ i _ _ h; omega
  | succ m ih =>
    intro u ρ i hr hi him
    obtain ⟨v, h0, h1, h2, h3, h4⟩ := hr i hi
    unfold F_shape_Set__Parts_1_L1
    rw [idxN, h0, Option.bind_some]
    by_cases e : v = i
    · subst e
      rw [if_neg (by simp)]
      exact ⟨u, by rw [h4 rfl], hr, rfl⟩
    · rw [if_pos (by simp; omega), Option.bind_some, idxN]
      obtain ⟨z, k0, k1, k2, k3, k4⟩ := hr v (by omega)
      obtain ⟨r1, r2, r3⟩ := hr.short hi h0 e k0
      rw [k0, Option.bind_some, Option.bind_some, setsN _ hi, Option.bind_some, idxN, List.getElem?_set_self hi, Option.bind_some]
      obtain ⟨u', q1, q2, q3⟩ := ih (u.set i (z : Int)) ρ z r1 (by rw [List.length_set]; omega) (by omega)
      exact ⟨u', by rw [q1, r3], q2, by rw [q3, List.length_set]⟩
theorem top_ok {N : Nat} {u : List Int} {ρ : Nat → Nat} {i : Nat} (hN : u.length ≤ N) (h : Rep u ρ) (hi : i < u.length) : ∃ u', F_shape_Set__Parts_1 N (i : Int) u = some ((ρ i : Int), u') ∧ Rep u' ρ ∧ u'.length = u.length :=
  top_loop N u ρ i h hi (by omega)
/-- Two places of a list are one, or their rectangles hang together. -/
def RI (rs : List TRect) (i j : Nat) : Prop := i = j ∨ ∃ a b, rs[i]? = some a ∧ rs[j]? = some b ∧ RConn rs a b
theorem RI.symm {rs : List TRect} {i j : Nat} (h : RI rs i j) : RI rs j i := by
  rcases h with h | ⟨a, b, h1, h2, h3⟩
  · exact .inl h.symm
  · exact .inr ⟨b, a, h2, h1, h3.symm⟩
theorem RI.trans {rs : List TRect} {i j k : Nat} (h : RI rs i j) (h' : RI rs j k) : RI rs i k := by
  rcases h with rfl | ⟨a, b, h1, h2, h3⟩
  · exact h'
  · rcases h' with rfl | ⟨c, d, k1, k2, k3⟩
    · exact .inr ⟨a, b, h1, h2, h3⟩
    · rw [h2] at k1
      cases k1
      exact .inr ⟨a, d, h1, k2, h3.trans k3⟩
structure UInv (rs : List TRect) (u : List Int) (ρ : Nat → Nat) : Prop where
  rep : Rep u ρ
  len : u.length = rs.length
  snd : ∀ i j, ρ i = ρ j → RI rs i j
section
variable {N : Nat} {rs : List TRect}
theorem UInv.lt {u : List Int} {ρ : Nat → Nat} (h : UInv rs u ρ) {i : Nat} (hi : i < rs.length) : ρ i < u.length := by
  have := h.rep.le (i := i) (by rw [h.len]; exact hi)
  rw [h.len]; omega
/-- Two rectangles that touch are joined. -/
theorem join_ok {β : Type} (hN : rs.length ≤ N) {u : List Int} {ρ : Nat → Nat} {i j : Nat} {a b : TRect} (h : UInv rs u ρ) (ha : rs[i]? = some a) (hb : rs[j]? = some b) (ht : tch a b) :
    ∃ u' ρ', (∀ K : List Int → Option β, ((F_shape_Set__Parts_1 N (i : Int) u).bind fun y925 => (F_shape_Set__Parts_1 N (j : Int) y925.2).bind fun y927 => (idx y927.2 (max y925.1 y927.1)).bind fun _ => (sets y927.2 (max y925.1 y927.1) (min y925.1 y927.1)).bind fun l930 => K l930) = K u') ∧
      UInv rs u' ρ' ∧ (∀ x y, ρ x = ρ y → ρ' x = ρ' y) ∧ ρ' i = ρ' j := by
  have hi : i < rs.length := (List.getElem?_eq_some_iff.1 ha).1
  have hj : j < rs.length := (List.getElem?_eq_some_iff.1 hb).1
  obtain ⟨u1, p1, p2, p3⟩ := top_ok (N := N) (by rw [h.len]; exact hN) h.rep (i := i) (by rw [h.len]; exact hi)
  obtain ⟨u2, q1, q2, q3⟩ := top_ok (N := N) (by rw [p3, h.len]; exact hN) p2 (i := j) (by rw [p3, h.len]; exact hj)
  have hl2 : u2.length = rs.length := by rw [q3, p3, h.len]
  have hx := h.lt hi
  have hy := h.lt hj
  have hlu : u.length = rs.length := h.len
  have e1 : max (ρ i : Int) (ρ j : Int) = ((max (ρ i) (ρ j) : Nat) : Int) := by omega
  have e2 : min (ρ i : Int) (ρ j : Int) = ((min (ρ i) (ρ j) : Nat) : Int) := by omega
  have hm : max (ρ i) (ρ j) < u2.length := by omega
  obtain ⟨k1, k2, k3⟩ := join_kernel (a := i) (b := j) rfl rfl (R := RI rs) (fun _ _ => RI.symm) (fun _ _ _ => RI.trans) h.snd (.inr ⟨a, b, ha, hb, .step (.refl (List.mem_of_getElem? ha)) ht (List.mem_of_getElem? hb)⟩)
  refine ⟨u2.set (max (ρ i) (ρ j)) ((min (ρ i) (ρ j) : Nat) : Int), _, fun K => ?_, ⟨q2.join (by omega) (by omega) (h.rep.idem (by rw [h.len]; exact hi)) (h.rep.idem (by rw [h.len]; exact hj)), by rw [List.length_set, hl2], k1⟩, k3, k2⟩
  rw [p1, Option.bind_some]
  simp only
  rw [q1, Option.bind_some]
  simp only
  rw [e1, e2, idxN, List.getElem?_eq_getElem hm, Option.bind_some, setsN _ hm, Option.bind_some]
/-- Two rows of rectangles, one upon the other: those that touch are joined. -/
theorem pairs_ok (hN : rs.length ≤ N) (hn : rs.length ≤ 1000000000) {below fr nb : Nat} {kF : List Int → Int → Int → Option (List (List TBand))} {x : TBand} (hx : x.Xs.length = 2 * nb) (hfr : fr + nb ≤ rs.length)
    (hA : ∀ i1 i2 a1 a2, below ≤ i1 → i1 < i2 → i2 < fr → rs[i1]? = some a1 → rs[i2]? = some a2 → a1.X1 < a2.X0)
    (hB : ∀ i1 i2 a1 a2, fr ≤ i1 → i1 < i2 → i2 < fr + nb → rs[i1]? = some a1 → rs[i2]? = some a2 → a1.X1 < a2.X0)
    (hT : ∀ i j a b, below ≤ i → i < fr → fr ≤ j → j < fr + nb → rs[i]? = some a → rs[j]? = some b → a.X0 < b.X1 → b.X0 < a.X1 → tch a b) :
    ∀ (m : Nat) (u : List Int) (ρ : Nat → Nat) (i j : Nat), UInv rs u ρ → below ≤ i → i ≤ fr → fr ≤ j → j ≤ fr + nb → (fr - i) + (fr + nb - j) < m →
      ∃ u' ρ', F_shape_Set__Parts_L33 N rs (fr : Int) kF x m u (i : Int) (j : Int) = F_shape_Set__Parts_J30 (fr : Int) kF x u' ∧ UInv rs u' ρ' ∧ (∀ a b, ρ a = ρ b → ρ' a = ρ' b) ∧
        ∀ i' j' a b, i ≤ i' → i' < fr → j ≤ j' → j' < fr + nb → rs[i']? = some a → rs[j']? = some b → a.X0 < b.X1 → b.X0 < a.X1 → ρ' i' = ρ' j' := by
  intro m
  induction m with
  | zero => intro u ρ i j _ _ _ _ _ h; omega
  | succ m ih =>
    intro u ρ i j hI h1 h2 h3 h4 h5
    have ew : w64 ((fr : Int) + w64 (Int.tdiv (x.Xs.length : Int) 2)) = ((fr + nb : Nat) : Int) := by
      have e : Int.tdiv (x.Xs.length : Int) 2 = (nb : Int) := by rw [hx, Int.tdiv_eq_ediv_of_nonneg (by omega)]; omega
      rw [e, w64_eq (x := (nb : Int)) (by omega) (by omega), w64_eq (by omega) (by omega)]; omega
    unfold F_shape_Set__Parts_L33
    rw [ew]
    by_cases hc : i < fr ∧ j < fr + nb
    · obtain ⟨hc1, hc2⟩ := hc
      rw [if_pos (by simp; omega)]
      obtain ⟨a, ha⟩ : ∃ a, rs[i]? = some a := ⟨_, List.getElem?_eq_getElem (by omega)⟩
      obtain ⟨b, hb⟩ : ∃ b, rs[j]? = some b := ⟨_, List.getElem?_eq_getElem (by omega)⟩
      have hJ : ∀ u1 ρ1, UInv rs u1 ρ1 → (a.X0 < b.X1 → b.X0 < a.X1 → ρ1 i = ρ1 j) → ∃ u' ρ', F_shape_Set__Parts_J34 rs (i : Int) (j : Int) (F_shape_Set__Parts_L33 N rs (fr : Int) kF x m) u1 = F_shape_Set__Parts_J30 (fr : Int) kF x u' ∧ UInv rs u' ρ' ∧ (∀ a b, ρ1 a = ρ1 b → ρ' a = ρ' b) ∧
          ∀ i' j' a b, i ≤ i' → i' < fr → j ≤ j' → j' < fr + nb → rs[i']? = some a → rs[j']? = some b → a.X0 < b.X1 → b.X0 < a.X1 → ρ' i' = ρ' j' := by
        intro u1 ρ1 hI1 hl
        unfold F_shape_Set__Parts_J34
        rw [idxN, ha, Option.bind_some, idxN, hb, Option.bind_some]
        by_cases hlt : a.X1 < b.X1
        · rw [if_pos (by simpa using hlt), w64_eq (by omega) (by omega)]
          obtain ⟨u', ρ', r1, r2, r3, r4⟩ := ih u1 ρ1 (i + 1) j hI1 (by omega) (by omega) h3 h4 (by omega)
          refine ⟨u', ρ', r1, r2, r3, fun i' j' a' b' k1 k2 k3 k4 k5 k6 k7 k8 => ?_⟩
          by_cases hi' : i' = i
          · subst hi'
            rw [ha] at k5
            cases k5
            by_cases hj' : j' = j
            · subst hj'
              rw [hb] at k6
              cases k6
              exact r3 _ _ (hl k7 k8)
            · have := hB j j' b b' h3 (by omega) k4 hb k6
              omega
          · exact r4 i' j' a' b' (by omega) k2 k3 k4 k5 k6 k7 k8
        · rw [if_neg (by simpa using hlt), w64_eq (by omega) (by omega)]
          obtain ⟨u', ρ', r1, r2, r3, r4⟩ := ih u1 ρ1 i (j + 1) hI1 h1 h2 (by omega) (by omega) (by omega)
          refine ⟨u', ρ', r1, r2, r3, fun i' j' a' b' k1 k2 k3 k4 k5 k6 k7 k8 => ?_⟩
          by_cases hj' : j' = j
          · subst hj'
            rw [hb] at k6
            cases k6
            by_cases hi' : i' = i
            · subst hi'
              rw [ha] at k5
              cases k5
              exact r3 _ _ (hl k7 k8)
            · have := hA i i' a a' h1 (by omega) k2 ha k5
              omega
          · exact r4 i' j' a' b' k1 k2 (by omega) k4 k5 k6 k7 k8
      rw [idxN, ha, Option.bind_some, idxN, hb, Option.bind_some]
      by_cases o1 : a.X0 < b.X1
      · rw [if_pos (by simpa using o1), Option.bind_some, Option.bind_some]
        by_cases o2 : b.X0 < a.X1
        · rw [Option.bind_some, if_pos (by simpa using o2)]
          obtain ⟨u1, ρ1, q1, q2, q3, q4⟩ := join_ok (β := List (List TBand)) hN hI ha hb (hT i j a b h1 hc1 h3 hc2 ha hb o1 o2)
          obtain ⟨u', ρ', r1, r2, r3, r4⟩ := hJ u1 ρ1 q2 fun _ _ => q4
          exact ⟨u', ρ', by rw [q1]; exact r1, r2, fun x y e => r3 _ _ (q3 _ _ e), r4⟩
        · rw [Option.bind_some, if_neg (by simpa using o2)]
          exact hJ u ρ hI fun _ h => absurd h o2
      · rw [if_neg (by simpa using o1), Option.bind_some, if_neg (by simp)]
        exact hJ u ρ hI fun h _ => absurd h o1
    · rw [if_neg (by simp; omega)]
      exact ⟨u, ρ, rfl, hI, fun _ _ e => e, fun i' j' a b k1 k2 k3 k4 => by omega⟩
end
end Go.Proofs.Ytnlhigfglfahiaa
namespace Go.Proofs.Ytnlhigfglfahiaa
theorem mid_get {α : Type} {l1 l2 l3 : List α} {i : Nat} (h1 : l1.length ≤ i) (h2 : i < l1.length + l2.length) : (l1 ++ l2 ++ l3)[i]? = l2[i - l1.length]? := by
  rw [List.append_assoc, List.getElem?_append_right h1, List.getElem?_append_left (by omega)]
theorem Can.pair : ∀ {l : List (Int × Int)} {lo : Int}, Can lo l → l.Pairwise fun p q => p.2 < q.1
  | [], _, _ => .nil
  | p :: l, lo, h => List.pairwise_cons.2 ⟨fun q hq => (h.2.2.mem q hq).1, h.2.2.pair⟩
theorem rectsOf_pair {b : Bd} (h : ∃ lo, Can lo b.2.2) : (rectsOf b).Pairwise fun a c => a.X1 < c.X0 := by
  obtain ⟨lo, h⟩ := h
  exact List.pairwise_map.2 h.pair
theorem canB_split : ∀ {l : List Bd} {lo : Int} {d : Bd} {m : List Bd}, CanB lo (l ++ d :: m) → (∀ e ∈ l, e.2.1 ≤ d.1) ∧ d.1 < d.2.1 ∧ ∀ e ∈ m, d.2.1 ≤ e.1
  | [], lo, d, m, h => ⟨by simp, h.2.1, fun e he => (h.2.2.2.2.mem e he).1⟩
  | c :: l, lo, d, m, h => by
    obtain ⟨h1, h2, h3⟩ := canB_split (l := l) h.2.2.2.2
    refine ⟨fun e he => ?_, h2, h3⟩
    rcases List.mem_cons.1 he with rfl | he
    · exact (h.2.2.2.2.mem d (by simp)).1
    · exact h1 e he
theorem rectsB_one (b : Bd) : rectsB [b] = rectsOf b := by unfold rectsB; simp
theorem mem_rectsOf {b : Bd} {r : TRect} (h : r ∈ rectsOf b) : r.Y0 = b.1 ∧ r.Y1 = b.2.1 ∧ (r.X0, r.X1) ∈ b.2.2 := by
  obtain ⟨s, hs, rfl⟩ := List.mem_map.1 h
  exact ⟨rfl, rfl, hs⟩
section
variable {N : Nat} {B : List Bd}
/-- All that touch among the first rectangles are joined. -/
def Lk (rs : List TRect) (ρ : Nat → Nat) (n : Nat) : Prop := ∀ i j a b, i < n → j < n → rs[i]? = some a → rs[j]? = some b → tch a b → ρ i = ρ j
theorem bands_loop (hB : BOk B) (hN : (rectsB B).length ≤ N) (hN2 : 2000000004 ≤ N) (hn : (rectsB B).length ≤ 1000000000) (hl : B.length ≤ 1000000000) : ∀ (rest pre : List Bd) (u : List Int) (ρ : Nat → Nat), B = pre ++ rest → UInv (rectsB B) u ρ → Lk (rectsB B) ρ (rectsB pre).length →
    ∃ u' ρ', F_shape_Set__Parts_L20 N (B.map toP) (rectsB B) (rest.map toP) pre.length u ((rectsB pre).length : Int) ((rectsB pre.dropLast).length : Int) = F_shape_Set__Parts_L23 N (rectsB B) 0 u' [] [] ∧ UInv (rectsB B) u' ρ' ∧ Lk (rectsB B) ρ' (rectsB B).length
  | [], pre, u, ρ, hp, hI, hL => by
    rw [List.append_nil] at hp
    subst hp
    exact ⟨u, ρ, by rw [List.map_nil, F_shape_Set__Parts_L20.eq_1], hI, hL⟩
  | b :: rest, pre, u, ρ, hp, hI, hL => by
    obtain ⟨lo, hc⟩ := hB.can
    have hrs : rectsB B = rectsB pre ++ rectsOf b ++ rectsB rest := by rw [hp, rectsB_append, rectsB_cons]; simp
    have hlen : (rectsB B).length = (rectsB pre).length + b.2.2.length + (rectsB rest).length := by rw [hrs, List.length_append, List.length_append, rectsOf_len]
    have hbB : b ∈ B := by rw [hp]; simp
    have hpB : ∀ e ∈ pre, e ∈ B := fun e he => by rw [hp]; exact List.mem_append_left _ he
    have hc' := hc
    rw [hp] at hc'
    obtain ⟨c1, c2, c3⟩ := canB_split hc'
    have hpl : pre.length ≤ 1000000000 := by rw [hp] at hl; simp at hl; omega
    have step : ∀ u1 ρ1, UInv (rectsB B) u1 ρ1 → Lk (rectsB B) ρ1 ((rectsB pre).length + b.2.2.length) → ∃ u' ρ', F_shape_Set__Parts_J30 ((rectsB pre).length : Int) (F_shape_Set__Parts_L20 N (B.map toP) (rectsB B) (rest.map toP) (pre.length + 1)) (toP b) u1 = F_shape_Set__Parts_L23 N (rectsB B) 0 u' [] [] ∧ UInv (rectsB B) u' ρ' ∧ Lk (rectsB B) ρ' (rectsB B).length := by
      intro u1 ρ1 h1 h2
      have := bands_loop hB hN hN2 hn hl rest (pre ++ [b]) u1 ρ1 (by rw [hp]; simp) h1 (by rw [rectsB_append, List.length_append, rectsB_one, rectsOf_len]; exact h2)
      unfold F_shape_Set__Parts_J30
      have e : Int.tdiv (((toP b).Xs.length : Nat) : Int) 2 = (b.2.2.length : Int) := by
        show Int.tdiv (((flatS b.2.2).length : Nat) : Int) 2 = _
        rw [flatS_len, Int.tdiv_eq_ediv_of_nonneg (by omega)]; omega
      rw [e, w64_eq (x := (b.2.2.length : Int)) (by omega) (by omega), w64_eq (by omega) (by omega)]
      have e2 : ((rectsB (pre ++ [b])).length : Int) = (rectsB pre).length + b.2.2.length := by rw [rectsB_append, rectsB_one, List.length_append, rectsOf_len]; omega
      rw [e2, List.dropLast_concat, show (pre ++ [b]).length = pre.length + 1 by simp] at this
      exact this
    have inB : ∀ i a, (rectsB pre).length ≤ i → i < (rectsB pre).length + b.2.2.length → (rectsB B)[i]? = some a → (rectsOf b)[i - (rectsB pre).length]? = some a := fun i a h1 h2 h3 => by
      rw [hrs, mid_get h1 (by rw [rectsOf_len]; exact h2)] at h3; exact h3
    have inP : ∀ i a, i < (rectsB pre).length → (rectsB B)[i]? = some a → (rectsB pre)[i]? = some a := fun i a h1 h2 => by
      rw [hrs, List.append_assoc, List.getElem?_append_left h1] at h2; exact h2
    have pB := rectsOf_pair (hB.row b hbB)
    have hXB : ∀ i1 i2 a1 a2, (rectsB pre).length ≤ i1 → i1 < i2 → i2 < (rectsB pre).length + b.2.2.length → (rectsB B)[i1]? = some a1 → (rectsB B)[i2]? = some a2 → a1.X1 < a2.X0 := fun i1 i2 a1 a2 h1 h2 h3 h4 h5 => by
      have k1 := inB i1 a1 h1 (by omega) h4
      have k2 := inB i2 a2 (by omega) h3 h5
      obtain ⟨e1, e2⟩ := List.getElem?_eq_some_iff.1 k1
      obtain ⟨e3, e4⟩ := List.getElem?_eq_some_iff.1 k2
      have := (List.pairwise_iff_getElem.1 pB) _ _ e1 e3 (by omega)
      rw [e2, e4] at this; exact this
    -- those within the new band
    have same : ∀ ρ' : Nat → Nat, ∀ i j a c, (rectsB pre).length ≤ i → i < (rectsB pre).length + b.2.2.length → (rectsB pre).length ≤ j → j < (rectsB pre).length + b.2.2.length → (rectsB B)[i]? = some a → (rectsB B)[j]? = some c → tch a c → ρ' i = ρ' j := fun ρ' i j a c h1 h2 h3 h4 h5 h6 h7 => by
      rcases Nat.lt_trichotomy i j with hlt | rfl | hgt
      · have := hXB i j a c h1 hlt h4 h5 h6
        unfold tch at h7; omega
      · rfl
      · have := hXB j i c a h3 hgt h2 h6 h5
        unfold tch at h7; omega
    have lk : ∀ ρ' : Nat → Nat, (∀ x y, ρ x = ρ y → ρ' x = ρ' y) → (∀ i j a c, i < (rectsB pre).length → (rectsB pre).length ≤ j → j < (rectsB pre).length + b.2.2.length → (rectsB B)[i]? = some a → (rectsB B)[j]? = some c → tch a c → ρ' i = ρ' j) → Lk (rectsB B) ρ' ((rectsB pre).length + b.2.2.length) := fun ρ' hr hx i j a c h1 h2 h3 h4 h5 => by
      by_cases hi : i < (rectsB pre).length
      · by_cases hj : j < (rectsB pre).length
        · exact hr _ _ (hL i j a c hi hj h3 h4 h5)
        · exact hx i j a c hi (by omega) h2 h3 h4 h5
      · by_cases hj : j < (rectsB pre).length
        · exact (hx j i c a hj (by omega) h1 h4 h3 h5.symm).symm
        · exact same ρ' i j a c (by omega) h1 (by omega) h2 h3 h4 h5
    have yB : ∀ j c, (rectsB pre).length ≤ j → j < (rectsB pre).length + b.2.2.length → (rectsB B)[j]? = some c → c.Y0 = b.1 ∧ c.Y1 = b.2.1 := fun j c h1 h2 h3 => by
      have := mem_rectsOf (List.mem_of_getElem? (inB j c h1 h2 h3))
      exact ⟨this.1, this.2.1⟩
    rw [List.map_cons, F_shape_Set__Parts_L20.eq_2]
    rcases List.eq_nil_or_concat pre with rfl | ⟨pre', d, hcn⟩
    · rw [if_neg (by simp), Option.bind_some, if_neg (by simp)]
      exact step u ρ hI (lk ρ (fun _ _ e => e) fun i j a c h1 => by simp [rectsB] at h1)
    · rw [List.concat_eq_append] at hcn
      have hpos : 0 < pre.length := by rw [hcn]; simp
      have hd : d ∈ pre := by rw [hcn]; simp
      have hget : (B.map toP)[pre.length - 1]? = some (toP d) := by
        rw [hp, hcn]
        simp
      have hw : w64 ((pre.length : Int) - 1) = ((pre.length - 1 : Nat) : Int) := by rw [w64_eq (by omega) (by omega)]; omega
      rw [if_pos (by simpa using hpos), hw, idxN, hget, Option.bind_some, Option.bind_some]
      have hdl : pre.dropLast = pre' := by rw [hcn, List.dropLast_concat]
      have hrp : rectsB pre = rectsB pre' ++ rectsOf d := by rw [hcn, rectsB_append, rectsB_one]
      have hrpl : (rectsB pre).length = (rectsB pre').length + d.2.2.length := by rw [hrp, List.length_append, rectsOf_len]
      have hc2 := hc
      rw [hp, hcn, List.append_assoc] at hc2
      obtain ⟨d1, d2, d3⟩ := canB_split hc2
      have inD : ∀ i a, (rectsB pre').length ≤ i → i < (rectsB pre).length → (rectsB B)[i]? = some a → (rectsOf d)[i - (rectsB pre').length]? = some a := fun i a h1 h2 h3 => by
        have := inP i a h2 h3
        rw [hrp, List.getElem?_append_right h1] at this
        exact this
      have yD : ∀ i a, (rectsB pre').length ≤ i → i < (rectsB pre).length → (rectsB B)[i]? = some a → a.Y0 = d.1 ∧ a.Y1 = d.2.1 := fun i a h1 h2 h3 => by
        have := mem_rectsOf (List.mem_of_getElem? (inD i a h1 h2 h3))
        exact ⟨this.1, this.2.1⟩
      have yO : ∀ i a, i < (rectsB pre').length → (rectsB B)[i]? = some a → a.Y1 ≤ d.1 := fun i a h1 h2 => by
        have := inP i a (by omega) h2
        rw [hrp, List.getElem?_append_left h1] at this
        obtain ⟨e, he, s, hs, rfl⟩ := mem_rectsB.1 (List.mem_of_getElem? this)
        exact d1 e he
      have hdb : d.2.1 ≤ b.1 := c1 d hd
      by_cases hg : d.2.1 = b.1
      · rw [if_pos (by show ((toP d).Y1 == (toP b).Y0) = true; simp [toP, hg])]
        rw [hdl]
        have pD := rectsOf_pair (hB.row d (hpB d hd))
        have hneR := rectsB_ne hB
        obtain ⟨u1, ρ1, q1, q2, q3, q4⟩ := pairs_ok (rs := rectsB B) hN hn (below := (rectsB pre').length) (fr := (rectsB pre).length) (nb := b.2.2.length) (kF := F_shape_Set__Parts_L20 N (B.map toP) (rectsB B) (rest.map toP) (pre.length + 1)) (x := toP b) (flatS_len _) (by omega)
          (fun i1 i2 a1 a2 h1 h2 h3 h4 h5 => by
            have k1 := inD i1 a1 h1 (by omega) h4
            have k2 := inD i2 a2 (by omega) h3 h5
            obtain ⟨e1, e2⟩ := List.getElem?_eq_some_iff.1 k1
            obtain ⟨e3, e4⟩ := List.getElem?_eq_some_iff.1 k2
            have := (List.pairwise_iff_getElem.1 pD) _ _ e1 e3 (by omega)
            rw [e2, e4] at this; exact this) hXB
          (fun i j a c h1 h2 h3 h4 h5 h6 h7 h8 => by
            have k1 := yD i a h1 h2 h5
            have k2 := yB j c h3 h4 h6
            have k3 := hneR a (List.mem_of_getElem? h5)
            have k4 := hneR c (List.mem_of_getElem? h6)
            unfold tch; left; omega)
          N u ρ (rectsB pre').length (rectsB pre).length hI (Nat.le_refl _) (by omega) (Nat.le_refl _) (by omega) (by omega)
        obtain ⟨u', ρ', r1, r2, r3⟩ := step u1 ρ1 q2 (lk ρ1 q3 fun i j a c h1 h2 h3 h4 h5 h6 => by
          by_cases hi : i < (rectsB pre').length
          · have := yO i a hi h4
            have := yB j c h2 h3 h5
            have k3 := hneR a (List.mem_of_getElem? h4)
            unfold tch at h6; omega
          · have k1 := yD i a (by omega) h1 h4
            have k2 := yB j c h2 h3 h5
            refine q4 i j a c (by omega) h1 h2 h3 h4 h5 ?_ ?_ <;> (unfold tch at h6; omega))
        exact ⟨u', ρ', by rw [q1]; exact r1, r2, r3⟩
      · rw [if_neg (by show ¬ ((toP d).Y1 == (toP b).Y0) = true; simpa [toP] using hg)]
        refine step u ρ hI (lk ρ (fun _ _ e => e) fun i j a c h1 h2 h3 h4 h5 h6 => ?_)
        exfalso
        have k2 := yB j c h2 h3 h5
        by_cases hi : i < (rectsB pre').length
        · have := yO i a hi h4
          unfold tch at h6; omega
        · have k1 := yD i a (by omega) h1 h4
          unfold tch at h6; omega
end
/-- The rectangles of a list with a root, in order. -/
def gr (ρ : Nat → Nat) : Nat → List TRect → Nat → List TRect
  | _, [], _ => []
  | i, a :: l, t => if ρ i = t then a :: gr ρ (i + 1) l t else gr ρ (i + 1) l t
theorem gr_snoc (ρ : Nat → Nat) (t : Nat) (a : TRect) : ∀ (l : List TRect) (i : Nat), gr ρ i (l ++ [a]) t = gr ρ i l t ++ if ρ (i + l.length) = t then [a] else []
  | [], i => by
    show (if ρ i = t then [a] else []) = _
    simp [gr]
  | b :: l, i => by
    show (if ρ i = t then b :: gr ρ (i + 1) (l ++ [a]) t else gr ρ (i + 1) (l ++ [a]) t) = (if ρ i = t then b :: gr ρ (i + 1) l t else gr ρ (i + 1) l t) ++ _
    rw [gr_snoc ρ t a l (i + 1), show i + (b :: l).length = i + 1 + l.length by simp; omega]
    split <;> simp
theorem gr_mem {ρ : Nat → Nat} {t : Nat} {a : TRect} : ∀ {l : List TRect} {i : Nat}, a ∈ gr ρ i l t ↔ ∃ j, l[j]? = some a ∧ ρ (i + j) = t
  | [], i => by simp [gr]
  | b :: l, i => by
    have ih := gr_mem (ρ := ρ) (t := t) (a := a) (l := l) (i := i + 1)
    unfold gr
    constructor
    · intro h
      split at h
      · rename_i e
        rcases List.mem_cons.1 h with rfl | h
        · exact ⟨0, rfl, e⟩
        · obtain ⟨j, h1, h2⟩ := ih.1 h
          exact ⟨j + 1, by simpa using h1, by rw [← h2]; congr 1; omega⟩
      · obtain ⟨j, h1, h2⟩ := ih.1 h
        exact ⟨j + 1, by simpa using h1, by rw [← h2]; congr 1; omega⟩
    · rintro ⟨j, h1, h2⟩
      cases j with
      | zero =>
        simp at h1
        subst h1
        rw [if_pos (by simpa using h2)]; simp
      | succ j =>
        have := ih.2 ⟨j, by simpa using h1, by rw [← h2]; congr 1; omega⟩
        split
        · exact List.mem_cons_of_mem _ this
        · exact this
theorem gr_sub (ρ : Nat → Nat) (t : Nat) : ∀ (l : List TRect) (i : Nat), (gr ρ i l t).Sublist l
  | [], _ => .slnil
  | b :: l, i => by
    unfold gr
    split
    · exact (gr_sub ρ t l (i + 1)).cons_cons b
    · exact (gr_sub ρ t l (i + 1)).cons b
/-- The roots among the first numbers. -/
def rts (ρ : Nat → Nat) (n : Nat) : List Nat := (List.range n).filter fun i => decide (ρ i = i)
theorem rts_succ (ρ : Nat → Nat) (n : Nat) : rts ρ (n + 1) = rts ρ n ++ if ρ n = n then [n] else [] := by
  unfold rts
  rw [List.range_succ, List.filter_append]
  congr 1
  by_cases h : ρ n = n
  · rw [if_pos h]; simp [h]
  · rw [if_neg h]; simp [h]
theorem mem_rts {ρ : Nat → Nat} {n t : Nat} : t ∈ rts ρ n ↔ t < n ∧ ρ t = t := by unfold rts; simp
theorem rts_pair (ρ : Nat → Nat) (n : Nat) : (rts ρ n).Pairwise (· < ·) := List.Pairwise.filter _ List.pairwise_lt_range
/-- What is told of a root: the number of its list. -/
structure MapOk (m : List (Int × Int)) (ks : List Nat) : Prop where
  there : ∀ k t : Nat, ks[k]? = some t → iget m (t : Int) = some (k : Int)
  none : ∀ t : Nat, t ∉ ks → iget m (t : Int) = none
theorem iget_put (m : List (Int × Int)) (k v k' : Int) : iget (iput m k v) k' = if k' = k then some v else iget m k' := by
  induction m with
  | nil =>
    unfold iput iget
    by_cases h : k' = k
    · rw [if_pos h, if_pos h.symm]
    · rw [if_neg h, if_neg (fun e => h e.symm)]; rfl
  | cons p m ih =>
    unfold iput
    by_cases h : p.1 = k
    · rw [if_pos h]
      unfold iget
      by_cases h' : k' = k
      · rw [if_pos h', if_pos h'.symm]
      · rw [if_neg h', if_neg (fun e => h' e.symm), if_neg (by rw [h]; exact fun e => h' e.symm)]
    · rw [if_neg h]
      unfold iget
      rw [ih]
      by_cases h' : p.1 = k'
      · rw [if_pos h', if_pos h', if_neg (by rw [← h']; exact h)]
      · rw [if_neg h', if_neg h']
theorem inR_nat {k : Nat} (h : k ≤ 1000000000) : inR (k : Int) = true := by
  unfold inR; simp; omega
section
variable {N : Nat} {rs : List TRect}
theorem lists_loop (hN : 10000000000 ≤ N) (hn : rs.length ≤ 100000000) (h9 : ∀ r ∈ rs, R9 r) (ρ : Nat → Nat) : ∀ (rest pre : List TRect) (u : List Int) (m : List (Int × Int)), rs = pre ++ rest → Rep u ρ → u.length = rs.length → MapOk m (rts ρ pre.length) →
    F_shape_Set__Parts_L23 N rest pre.length u m ((rts ρ pre.length).map (gr ρ 0 pre)) = F_shape_Set__Parts_L24 N ((rts ρ rs.length).map (gr ρ 0 rs)) 0 []
  | [], pre, u, m, hp, hr, hu, hm => by
    rw [List.append_nil] at hp
    subst hp
    rw [F_shape_Set__Parts_L23.eq_1]
  | a :: rest, pre, u, m, hp, hr, hu, hm => by
    have hlt : pre.length < rs.length := by rw [hp]; simp
    have hrl : (rts ρ pre.length).length ≤ pre.length := by
      unfold rts
      exact Nat.le_trans (List.length_filter_le _ _) (by simp)
    obtain ⟨u', q1, q2, q3⟩ := top_ok (N := N) (by omega) hr (i := pre.length) (by omega)
    have ht : ρ pre.length ≤ pre.length := hr.le (by omega)
    have hid : ρ (ρ pre.length) = ρ pre.length := hr.idem (by omega)
    rw [F_shape_Set__Parts_L23.eq_2, q1, Option.bind_some]
    have hgl : ∀ t, (gr ρ 0 pre t).length ≤ pre.length := fun t => (gr_sub ρ t pre 0).length_le
    have next : ∀ m', MapOk m' (rts ρ (pre.length + 1)) → F_shape_Set__Parts_L23 N rest (pre.length + 1) u' m' ((rts ρ (pre.length + 1)).map (gr ρ 0 (pre ++ [a]))) = F_shape_Set__Parts_L24 N ((rts ρ rs.length).map (gr ρ 0 rs)) 0 [] := fun m' hm' => by
      have := lists_loop hN hn h9 ρ rest (pre ++ [a]) u' m' (by rw [hp]; simp) q2 (by omega) (by simpa using hm')
      simpa using this
    have hself : ∀ t, gr ρ 0 (pre ++ [a]) t = gr ρ 0 pre t ++ if ρ pre.length = t then [a] else [] := fun t => by
      rw [gr_snoc, Nat.zero_add]
    by_cases hnew : ρ pre.length = pre.length
    · -- a root
      have hno : pre.length ∉ rts ρ pre.length := fun h => by have := (mem_rts.1 h).1; omega
      have hg := hm.none pre.length hno
      have hgo : igetO m (ρ pre.length : Int) = some (0, false) := by
        unfold igetO
        rw [hnew, if_pos (inR_nat (by omega)), hg]; rfl
      simp only
      rw [hgo, Option.bind_some, if_pos (show (!((0 : Int), false).2) = true from rfl)]
      have hpo : iputO m (ρ pre.length : Int) ((((rts ρ pre.length).map (gr ρ 0 pre)).length : Nat) : Int) = some (iput m (ρ pre.length : Int) ((((rts ρ pre.length).map (gr ρ 0 pre)).length : Nat) : Int)) := by
        unfold iputO
        rw [hnew, if_pos (inR_nat (by omega))]
      rw [hpo, Option.bind_some, apd_ok (by simp; omega), Option.bind_some]
      unfold F_shape_Set__Parts_J25
      have hk : ((rts ρ pre.length).map (gr ρ 0 pre)).length = (rts ρ pre.length).length := by simp
      rw [hk, idxN, List.getElem?_append_right (by rw [hk]; exact Nat.le_refl _), hk, Nat.sub_self]
      rw [show ([[]] : List (List TRect))[0]? = some [] from rfl, Option.bind_some, apd_ok (by simp), Option.bind_some, List.nil_append, setsN _ (by simp), Option.bind_some]
      have hrs : rts ρ (pre.length + 1) = rts ρ pre.length ++ [pre.length] := by rw [rts_succ, if_pos hnew]
      have hset : ((rts ρ pre.length).map (gr ρ 0 pre) ++ [[]]).set (rts ρ pre.length).length [a] = (rts ρ (pre.length + 1)).map (gr ρ 0 (pre ++ [a])) := by
        rw [List.set_append_right _ _ (by rw [hk]; exact Nat.le_refl _), hk, Nat.sub_self, hrs, List.map_append]
        congr 1
        · refine List.map_congr_left fun t htm => ?_
          rw [hself, if_neg (by rw [hnew]; intro e; rw [← e] at htm; exact hno htm), List.append_nil]
        · show [[a]] = [gr ρ 0 (pre ++ [a]) pre.length]
          rw [hself, if_pos hnew]
          have : gr ρ 0 pre pre.length = [] := by
            refine List.eq_nil_iff_forall_not_mem.2 fun x hx => ?_
            obtain ⟨j, h1, h2⟩ := gr_mem.1 hx
            have hj := (List.getElem?_eq_some_iff.1 h1).1
            rw [Nat.zero_add] at h2
            have := hr.le (i := j) (by omega)
            omega
          rw [this]; rfl
      rw [hset]
      refine next _ ⟨fun k t hkt => ?_, fun t hnt => ?_⟩
      · rw [iget_put, hnew]
        rw [hrs] at hkt
        by_cases hk' : k < (rts ρ pre.length).length
        · rw [List.getElem?_append_left hk'] at hkt
          have htm := List.mem_of_getElem? hkt
          rw [if_neg (by have := (mem_rts.1 htm).1; omega)]
          exact hm.there k t hkt
        · rw [List.getElem?_append_right (by omega)] at hkt
          have hk0 : k - (rts ρ pre.length).length = 0 := by
            have := (List.getElem?_eq_some_iff.1 hkt).1
            simp at this; omega
          rw [hk0] at hkt
          simp at hkt
          subst hkt
          rw [if_pos rfl]
          congr 1
          omega
      · rw [iget_put, hnew]
        rw [hrs] at hnt
        rw [if_neg (by intro e; apply hnt; rw [show t = pre.length by omega]; simp)]
        exact hm.none t fun h => hnt (List.mem_append_left _ h)
    · -- a root that is known
      have hin : ρ pre.length ∈ rts ρ pre.length := mem_rts.2 ⟨by omega, hid⟩
      obtain ⟨k, hk⟩ := List.getElem?_of_mem hin
      have hkl := (List.getElem?_eq_some_iff.1 hk).1
      have hgo : igetO m (ρ pre.length : Int) = some ((k : Int), true) := by
        unfold igetO
        rw [if_pos (inR_nat (by omega)), hm.there k _ hk]; rfl
      simp only
      rw [hgo, Option.bind_some, if_neg (by simp)]
      unfold F_shape_Set__Parts_J25
      have hget : ((rts ρ pre.length).map (gr ρ 0 pre))[k]? = some (gr ρ 0 pre (ρ pre.length)) := by rw [List.getElem?_map, hk]; rfl
      rw [idxN, hget, Option.bind_some, apd_ok (by have := hgl (ρ pre.length); simp; omega), Option.bind_some, setsN _ (by simpa using hkl), Option.bind_some]
      have hrs : rts ρ (pre.length + 1) = rts ρ pre.length := by rw [rts_succ, if_neg hnew, List.append_nil]
      have hset : ((rts ρ pre.length).map (gr ρ 0 pre)).set k (gr ρ 0 pre (ρ pre.length) ++ [a]) = (rts ρ (pre.length + 1)).map (gr ρ 0 (pre ++ [a])) := by
        rw [hrs]
        apply List.ext_getElem?
        intro j
        by_cases hj : k = j
        · subst hj
          rw [List.getElem?_set_self (by simpa using hkl), List.getElem?_map, hk, Option.map_some, hself, if_pos rfl]
        · rw [List.getElem?_set_ne hj, List.getElem?_map, List.getElem?_map]
          cases hjt : (rts ρ pre.length)[j]? with
          | none => rfl
          | some t =>
            rw [Option.map_some, Option.map_some, hself, if_neg, List.append_nil]
            intro e
            subst e
            have hnd : (rts ρ pre.length).Nodup := (rts_pair ρ _).imp fun h => by omega
            exact hj ((List.getElem?_inj hkl hnd).1 (by rw [hk, hjt]))
      rw [hset]
      exact next m (by rw [hrs]; exact hm)
theorem sets_loop (hN : 10000000000 ≤ N) : ∀ (L : List (List TRect)) (i : Nat) (out : List (List TBand)), (∀ l ∈ L, l.length ≤ 100000000 ∧ ∀ r ∈ l, R9 r) → out.length + L.length ≤ 4294967296 → F_shape_Set__Parts_L24 N L i out = some (out ++ L.map fun l => (setB l).map toP)
  | [], i, out, _, _ => by rw [F_shape_Set__Parts_L24.eq_1]; simp
  | l :: L, i, out, h, ho => by
    simp only [List.length_cons] at ho
    rw [F_shape_Set__Parts_L24.eq_2, SetOf_ok hN (h l (by simp)).1 (h l (by simp)).2, Option.bind_some, apd_ok (by simp; omega), Option.bind_some, sets_loop hN L (i + 1) _ (fun m hm => h m (by simp [hm])) (by simp; omega)]
    simp
/-- The lists of the program are those of what hangs together. -/
theorem rs_of {B : List Bd} (hB : BOk B) {u : List Int} {ρ : Nat → Nat} (hI : UInv (rectsB B) u ρ) (hL : Lk (rectsB B) ρ (rectsB B).length) : RS (rectsB B) ((rts ρ (rectsB B).length).map (gr ρ 0 (rectsB B))) := by
  obtain ⟨lo, hc⟩ := hB.can
  have hord := ordR_pair (ordR_rectsB hc hB.row)
  have hne := rectsB_ne hB
  have hle : ∀ i, i < (rectsB B).length → ρ i ≤ i := fun i hi => hI.rep.le (by rw [hI.len]; exact hi)
  have hidx : ∀ (i j : Nat) (a b : TRect), (rectsB B)[i]? = some a → (rectsB B)[j]? = some b → ltP (a.X0, a.Y0) (b.X0, b.Y0) → i < j := fun i j a b h1 h2 h3 => by
    obtain ⟨e1, e2⟩ := List.getElem?_eq_some_iff.1 h1
    obtain ⟨e3, e4⟩ := List.getElem?_eq_some_iff.1 h2
    rcases Nat.lt_trichotomy i j with h | h | h
    · exact h
    · subst h
      rw [e2] at e4
      subst e4
      exact absurd h3 ltP.irrefl
    · have := (List.pairwise_iff_getElem.1 hord) j i e3 e1 h
      rw [e2, e4] at this
      exact absurd (this.trans h3) ltP.irrefl
  have hhead : ∀ t, t < (rectsB B).length → ρ t = t → ∃ a l, gr ρ 0 (rectsB B) t = a :: l ∧ (rectsB B)[t]? = some a ∧ ∀ b ∈ l, ltP (a.X0, a.Y0) (b.X0, b.Y0) := fun t ht hr => by
    have hp := hord.sublist (gr_sub ρ t (rectsB B) 0)
    have htm : (rectsB B)[t] ∈ gr ρ 0 (rectsB B) t := gr_mem.2 ⟨t, List.getElem?_eq_getElem ht, by rw [Nat.zero_add]; exact hr⟩
    match hgr : gr ρ 0 (rectsB B) t with
    | [] => rw [hgr] at htm; simp at htm
    | a :: l =>
      rw [hgr] at hp htm
      obtain ⟨p1, _⟩ := List.pairwise_cons.1 hp
      refine ⟨a, l, rfl, ?_, p1⟩
      have ham : a ∈ gr ρ 0 (rectsB B) t := by rw [hgr]; simp
      obtain ⟨i, h1, h2⟩ := gr_mem.1 ham
      rw [Nat.zero_add] at h2
      have hi := (List.getElem?_eq_some_iff.1 h1).1
      have := hle i hi
      rcases List.mem_cons.1 htm with e | hm
      · rw [← e]; exact List.getElem?_eq_getElem ht
      · have := hidx i t a _ h1 (List.getElem?_eq_getElem ht) (p1 _ hm)
        omega
  refine ⟨fun l hl => ?_, fun a => ?_, fun l hl a ha b hb => ?_, fun l hl a ha b hb htc => ?_, ?_⟩
  · obtain ⟨t, ht, rfl⟩ := List.mem_map.1 hl
    obtain ⟨a, l, h1, _⟩ := hhead t (mem_rts.1 ht).1 (mem_rts.1 ht).2
    rw [h1]; simp
  · constructor
    · intro ha
      obtain ⟨i, hi⟩ := List.getElem?_of_mem ha
      have hil := (List.getElem?_eq_some_iff.1 hi).1
      refine ⟨gr ρ 0 (rectsB B) (ρ i), List.mem_map.2 ⟨ρ i, mem_rts.2 ⟨?_, hI.rep.idem (by rw [hI.len]; exact hil)⟩, rfl⟩, gr_mem.2 ⟨i, hi, by rw [Nat.zero_add]⟩⟩
      have := hle i hil; omega
    · rintro ⟨l, hl, ha⟩
      obtain ⟨t, ht, rfl⟩ := List.mem_map.1 hl
      exact (gr_sub ρ t (rectsB B) 0).subset ha
  · obtain ⟨t, ht, rfl⟩ := List.mem_map.1 hl
    obtain ⟨i, h1, h2⟩ := gr_mem.1 ha
    obtain ⟨j, h3, h4⟩ := gr_mem.1 hb
    rw [Nat.zero_add] at h2 h4
    rcases hI.snd i j (h2.trans h4.symm) with rfl | ⟨a', b', k1, k2, k3⟩
    · rw [h1] at h3
      cases h3
      exact .refl (List.mem_of_getElem? h1)
    · rw [h1] at k1
      rw [h3] at k2
      cases k1; cases k2
      exact k3
  · obtain ⟨t, ht, rfl⟩ := List.mem_map.1 hl
    obtain ⟨i, h1, h2⟩ := gr_mem.1 ha
    obtain ⟨j, h3⟩ := List.getElem?_of_mem hb
    rw [Nat.zero_add] at h2
    refine gr_mem.2 ⟨j, h3, ?_⟩
    rw [Nat.zero_add, ← h2]
    exact (hL i j a b (List.getElem?_eq_some_iff.1 h1).1 (List.getElem?_eq_some_iff.1 h3).1 h1 h3 htc).symm
  · refine List.pairwise_map.2 ((rts_pair ρ _).imp_of_mem ?_)
    intro s t hs ht hst
    obtain ⟨a, l, h1, h2, h3⟩ := hhead s (mem_rts.1 hs).1 (mem_rts.1 hs).2
    obtain ⟨b, l', k1, k2, k3⟩ := hhead t (mem_rts.1 ht).1 (mem_rts.1 ht).2
    have ha : ∀ c ∈ gr ρ 0 (rectsB B) s, c.X0 < c.X1 ∧ c.Y0 < c.Y1 := fun c hc => hne c ((gr_sub ρ s (rectsB B) 0).subset hc)
    have hb : ∀ c ∈ gr ρ 0 (rectsB B) t, c.X0 < c.X1 ∧ c.Y0 < c.Y1 := fun c hc => hne c ((gr_sub ρ t (rectsB B) 0).subset hc)
    rw [h1] at ha ⊢
    rw [k1] at hb ⊢
    rw [fst_head ha h3, fst_head hb k3]
    obtain ⟨e1, e2⟩ := List.getElem?_eq_some_iff.1 h2
    obtain ⟨e3, e4⟩ := List.getElem?_eq_some_iff.1 k2
    have := (List.pairwise_iff_getElem.1 hord) s t e1 e3 hst
    rw [e2, e4] at this; exact this
theorem fill_loop (p0 : List TBand) (y : List TRect) (l0 : List Int) (hl : l0.length ≤ 1000000000) : ∀ (m : Nat) (l : List Int) (k : Nat), l.length = l0.length → k ≤ l0.length → (∀ i, i < k → l[i]? = some (i : Int)) → l0.length - k < m →
    F_shape_Set__Parts_L1 N p0 y l0 m l (k : Int) = F_shape_Set__Parts_L20 N p0 y p0 0 ((List.range l0.length).map fun i : Nat => (i : Int)) 0 0 := by
  intro m
  induction m with
  | zero => intro l k _ _ _ h; omega
  | succ m ih =>
    intro l k h1 h2 h3 h4
    unfold F_shape_Set__Parts_L1
    by_cases hk : k < l0.length
    · rw [if_pos (by simpa using hk), idxN, List.getElem?_eq_getElem (by omega), Option.bind_some, setsN _ (by omega), Option.bind_some, w64_eq (by omega) (by omega)]
      refine ih _ (k + 1) (by rw [List.length_set]; exact h1) (by omega) (fun i hi => ?_) (by omega)
      by_cases e : k = i
      · subst e; rw [List.getElem?_set_self (by omega)]
      · rw [List.getElem?_set_ne e]; exact h3 i (by omega)
    · rw [if_neg (by simpa using hk)]
      have e : k = l0.length := by omega
      have : l = (List.range l0.length).map (fun i : Nat => (i : Int)) := by
        apply List.ext_getElem?
        intro i
        by_cases hi : i < l0.length
        · rw [h3 i (by omega)]; simp [hi]
        · rw [List.getElem?_eq_none (by omega), List.getElem?_eq_none (by simp; omega)]
      rw [this]
/-- THE PARTS OF A SET. -/
theorem Parts_ok (hN : 10000000000 ≤ N) {B : List Bd} (hB : BOk B) (hs : Small B) (hn : (rectsB B).length ≤ 100000000) (hl : B.length ≤ 1000000000) (h9 : ∀ r ∈ rectsB B, R9 r) :
    ∃ L, F_shape_Set__Parts N (B.map toP) = some (L.map fun l => (setB l).map toP) ∧ RS (rectsB B) L ∧ L.length ≤ (rectsB B).length ∧ ∀ l ∈ L, l.length ≤ (rectsB B).length := by
  have hI0 : UInv (rectsB B) ((List.range (rectsB B).length).map fun i : Nat => (i : Int)) id := ⟨rep_id _, by simp, fun i j h => .inl h⟩
  obtain ⟨u, ρ, h1, h2, h3⟩ := bands_loop (N := N) hB (by omega) (by omega) (by omega) hl B [] _ id rfl hI0 (fun i j a b h => by simp [rectsB] at h)
  have hrl : (rts ρ (rectsB B).length).length ≤ (rectsB B).length := by
    unfold rts
    exact Nat.le_trans (List.length_filter_le _ _) (by simp)
  refine ⟨(rts ρ (rectsB B).length).map (gr ρ 0 (rectsB B)), ?_, rs_of hB h2 h3, by simpa using hrl, fun l hl => ?_⟩
  rotate_left
  · obtain ⟨t, _, rfl⟩ := List.mem_map.1 hl
    exact (gr_sub ρ t (rectsB B) 0).length_le
  unfold F_shape_Set__Parts
  have hmk : mkl (0 : Int) ((rectsB B).length : Int) = some (List.replicate (rectsB B).length 0) := by
    unfold mkl
    rw [if_pos (by omega), Int.toNat_natCast]
  rw [Rects_ok hN hs, Option.bind_some, hmk, Option.bind_some]
  have hf := fill_loop (N := N) (B.map toP) (rectsB B) (List.replicate (rectsB B).length 0) (by simp; omega) N (List.replicate (rectsB B).length 0) 0 rfl (by omega) (fun i h => by omega) (by simp; omega)
  rw [List.length_replicate] at hf
  have hf' : F_shape_Set__Parts_L1 N (B.map toP) (rectsB B) (List.replicate (rectsB B).length 0) N (List.replicate (rectsB B).length 0) 0 = _ := hf
  rw [hf']
  have h1' : F_shape_Set__Parts_L20 N (B.map toP) (rectsB B) (B.map toP) 0 ((List.range (rectsB B).length).map fun i : Nat => (i : Int)) 0 0 = F_shape_Set__Parts_L23 N (rectsB B) 0 u [] [] := h1
  rw [h1']
  have h4 := lists_loop (N := N) hN hn h9 ρ (rectsB B) [] u [] rfl h2.rep h2.len ⟨fun k t h => by simp [rts] at h, fun _ _ => rfl⟩
  have h4' : F_shape_Set__Parts_L23 N (rectsB B) 0 u [] [] = F_shape_Set__Parts_L24 N ((rts ρ (rectsB B).length).map (gr ρ 0 (rectsB B))) 0 [] := h4
  rw [h4', sets_loop hN _ 0 [] (fun l hl => ?_) (by simp; omega)]
  · simp
  · obtain ⟨t, _, rfl⟩ := List.mem_map.1 hl
    have hsub := gr_sub ρ t (rectsB B) 0
    exact ⟨by have := hsub.length_le; omega, fun r hr => h9 r (hsub.subset hr)⟩
end
end Go.Proofs.Ytnlhigfglfahiaa
namespace Go.Proofs.Ytnlhigfglfahiaa
/-- The box around a set, one square wider on each side. -/
structure Tight (B : List Bd) (x0 y0 x1 y1 : Int) : Prop where
  box : BoxOf B x0 y0 x1 y1
  l : ∃ y, InB (x0 + 1) y B
  r : ∃ y, InB (x1 - 2) y B
  d : ∃ x, InB x (y0 + 1) B
  u : ∃ x, InB x (y1 - 2) B
theorem Tight.uniq {B : List Bd} {x0 y0 x1 y1 u0 v0 u1 v1 : Int} (h : Tight B x0 y0 x1 y1) (k : Tight B u0 v0 u1 v1) : x0 = u0 ∧ y0 = v0 ∧ x1 = u1 ∧ y1 = v1 := by
  obtain ⟨_, a1⟩ := h.l
  obtain ⟨_, a2⟩ := h.r
  obtain ⟨_, a3⟩ := h.d
  obtain ⟨_, a4⟩ := h.u
  obtain ⟨_, b1⟩ := k.l
  obtain ⟨_, b2⟩ := k.r
  obtain ⟨_, b3⟩ := k.d
  obtain ⟨_, b4⟩ := k.u
  have := k.box.lim _ _ a1; have := k.box.lim _ _ a2; have := k.box.lim _ _ a3; have := k.box.lim _ _ a4
  have := h.box.lim _ _ b1; have := h.box.lim _ _ b2; have := h.box.lim _ _ b3; have := h.box.lim _ _ b4
  omega
/-- The holes of a set that is not empty. -/
structure HS (B : List Bd) (L : List (List Bd)) : Prop where
  is : ∃ x0 y0 x1 y1 M, Tight B x0 y0 x1 y1 ∧ PS (Out B x0 y0 x1 y1) M ∧ L = M.filter fun P => decide (fst P ≠ (x0, y0))
section
variable {B : List Bd} {L M : List (List Bd)}
theorem HS.uniq (h : HS B L) (k : HS B M) : L = M := by
  obtain ⟨x0, y0, x1, y1, X, h1, h2, h3⟩ := h.is
  obtain ⟨u0, v0, u1, v1, Y, k1, k2, k3⟩ := k.is
  obtain ⟨rfl, rfl, rfl, rfl⟩ := h1.uniq k1
  rw [h3, k3, h2.uniq k2]
theorem HS.ok (h : HS B L) : ∀ P ∈ L, BOk P ∧ P ≠ [] := fun P hP => by
  obtain ⟨x0, y0, x1, y1, X, h1, h2, h3⟩ := h.is
  rw [h3] at hP
  exact h2.ok P (List.mem_filter.1 hP).1
/-- A hole does not meet the set, and lies within the box around it. -/
theorem HS.out (h : HS B L) {x0 y0 x1 y1 : Int} (ht : Tight B x0 y0 x1 y1) {P : List Bd} (hP : P ∈ L) {x y : Int} (hx : InB x y P) : ¬ InB x y B ∧ (x0 < x ∧ x + 1 < x1) ∧ (y0 < y ∧ y + 1 < y1) := by
  obtain ⟨u0, v0, u1, v1, X, h1, h2, h3⟩ := h.is
  obtain ⟨rfl, rfl, rfl, rfl⟩ := h1.uniq ht
  rw [h3] at hP
  obtain ⟨hX, hf⟩ := List.mem_filter.1 hP
  have hf : fst P ≠ (u0, v0) := of_decide_eq_true hf
  have hs := h2.sub hX hx
  have hr : ¬ Ring u0 v0 u1 v1 x y := fun hr => hf ((h2.outer h1.box hX).2 ⟨x, y, hr, hx⟩)
  unfold Out at hs
  unfold Ring at hr
  refine ⟨hs.2, ?_, ?_⟩ <;> omega
theorem HS.len (hB : BOk B) (h : HS B L) {P : List Bd} (hP : P ∈ L) : (rectsB P).length ≤ (rectsB B).length := by
  obtain ⟨x0, y0, x1, y1, X, h1, h2, h3⟩ := h.is
  rw [h3] at hP
  obtain ⟨hX, hf⟩ := List.mem_filter.1 hP
  exact h2.holeLen hB h1.box hX (of_decide_eq_true hf)
theorem HS.total (hB : BOk B) (h : HS B L) : (L.flatMap rectsB).length ≤ (rectsB B).length := by
  obtain ⟨x0, y0, x1, y1, X, h1, h2, h3⟩ := h.is
  rw [h3]
  exact h2.holesTotal hB h1.box
theorem HS.disj (h : HS B L) {P Q : List Bd} (hP : P ∈ L) (hQ : Q ∈ L) {x y : Int} (hp : InB x y P) (hq : InB x y Q) : P = Q := by
  obtain ⟨x0, y0, x1, y1, X, h1, h2, h3⟩ := h.is
  rw [h3] at hP hQ
  exact h2.disj (List.mem_filter.1 hP).1 (List.mem_filter.1 hQ).1 hp hq
theorem PS.nodup {S : Int → Int → Prop} (h : PS S L) : L.Nodup := by
  refine h.ord.imp ?_
  intro a b hab e
  subst e
  exact ltP.irrefl hab
theorem HS.nodup (h : HS B L) : L.Nodup := by
  obtain ⟨x0, y0, x1, y1, X, h1, h2, h3⟩ := h.is
  rw [h3]
  exact h2.nodup.filter _
/-- The part outside. -/
theorem PS.rim {x0 y0 x1 y1 : Int} (h : BoxOf B x0 y0 x1 y1) (k : PS (Out B x0 y0 x1 y1) L) : ∃ O ∈ L, fst O = (x0, y0) ∧ InB x0 y0 O := by
  have hr : Ring x0 y0 x1 y1 x0 y0 := by have := h.ne; unfold Ring; omega
  obtain ⟨O, hO, hx⟩ := (k.cov x0 y0).1 (h.ring hr)
  exact ⟨O, hO, (k.outer h hO).2 ⟨x0, y0, hr, hx⟩, hx⟩
/-- A SET WITH ITS HOLES HAS NONE. -/
theorem HS.filled (h : HS B L) {F : List Bd} (hF : ∀ x y, InB x y F ↔ InB x y B ∨ ∃ P ∈ L, InB x y P) : HS F [] := by
  obtain ⟨x0, y0, x1, y1, X, h1, h2, h3⟩ := h.is
  obtain ⟨O, hO, o1, o2⟩ := h2.rim h1.box
  have hout : ∀ x y, InB x y O ↔ Out F x0 y0 x1 y1 x y := fun x y => by
    constructor
    · intro hx
      have hs := h2.sub hO hx
      refine ⟨hs.1, fun hf => ?_⟩
      rcases (hF x y).1 hf with hf | ⟨P, hP, hp⟩
      · exact hs.2 hf
      · rw [h3] at hP
        obtain ⟨hX, hne⟩ := List.mem_filter.1 hP
        have e := h2.disj hX hO hp hx
        rw [e, o1] at hne
        simp at hne
    · rintro ⟨hb, hf⟩
      obtain ⟨P, hP, hp⟩ := (h2.cov x y).1 ⟨hb, fun hx => hf ((hF x y).2 (.inl hx))⟩
      by_cases e : fst P = (x0, y0)
      · obtain ⟨u, v, hr, hu⟩ := (h2.outer h1.box hP).1 e
        have : InB x0 y0 P := by
          have := (fst_ok (h2.ok P hP).1 (h2.ok P hP).2).1
          rw [e] at this; exact this
        rw [h2.disj hO hP o2 this]; exact hp
      · exact absurd ((hF x y).2 (.inr ⟨P, by rw [h3]; exact List.mem_filter.2 ⟨hP, by simpa using e⟩, hp⟩)) hf
  refine ⟨x0, y0, x1, y1, [O], ⟨⟨fun x y hx => ?_, h1.box.ne⟩, ?_, ?_, ?_, ?_⟩, (h2.one hO).congr hout, ?_⟩
  · rcases (hF x y).1 hx with hx | ⟨P, hP, hp⟩
    · exact h1.box.lim x y hx
    · exact (h.out h1 hP hp).2
  · obtain ⟨y, hy⟩ := h1.l; exact ⟨y, (hF _ _).2 (.inl hy)⟩
  · obtain ⟨y, hy⟩ := h1.r; exact ⟨y, (hF _ _).2 (.inl hy)⟩
  · obtain ⟨y, hy⟩ := h1.d; exact ⟨y, (hF _ _).2 (.inl hy)⟩
  · obtain ⟨y, hy⟩ := h1.u; exact ⟨y, (hF _ _).2 (.inl hy)⟩
  · simp [o1]
end
/-- What is reached stays reached where squares with a side in common keep it. -/
theorem Conn.map {S T : Int → Int → Prop} {p q : Int × Int} (τ : Int × Int → Int × Int) (h : Conn S p q) (hs : ∀ p : Int × Int, S p.1 p.2 → T (τ p).1 (τ p).2) (ha : ∀ p q, Adj p q → Adj (τ p) (τ q)) : Conn T (τ p) (τ q) := by
  induction h with
  | refl h => exact .refl (hs _ h)
  | step _ a s ih => exact .step ih (ha _ _ a) (hs _ s)
theorem PS.le {S T : Int → Int → Prop} {L M : List (List Bd)} (h : PS S L) (k : PS T M) (τ σ : Int × Int → Int × Int) (hs : ∀ p : Int × Int, S p.1 p.2 → T (τ p).1 (τ p).2) (hc : ∀ p : Int × Int, T p.1 p.2 → S (σ p).1 (σ p).2) (ha : ∀ p q, Adj p q → Adj (σ p) (σ q)) (hi : ∀ p, σ (τ p) = p) : L.length ≤ M.length := by
  classical
  let g : List Bd → List Bd := fun P => if hp : ∃ Q ∈ M, InB (τ (fst P)).1 (τ (fst P)).2 Q then Classical.choose hp else []
  have hg : ∀ P ∈ L, g P ∈ M ∧ InB (τ (fst P)).1 (τ (fst P)).2 (g P) := fun P hP => by
    have hf := (fst_ok (h.ok P hP).1 (h.ok P hP).2).1
    have hx : ∃ Q ∈ M, InB (τ (fst P)).1 (τ (fst P)).2 Q := (k.cov _ _).1 (hs _ (h.sub hP hf))
    show (if hp : _ then _ else _) ∈ M ∧ InB _ _ (if hp : _ then _ else _)
    rw [dif_pos hx]
    exact Classical.choose_spec hx
  have hinj : ∀ P ∈ L, ∀ Q ∈ L, g P = g Q → P = Q := fun P hP Q hQ e => by
    obtain ⟨m1, m2⟩ := hg P hP
    obtain ⟨n1, n2⟩ := hg Q hQ
    rw [← e] at n2
    have hcn := (k.con _ m1 _ _ m2 n2).map σ hc ha
    rw [hi, hi] at hcn
    have hf := (fst_ok (h.ok P hP).1 (h.ok P hP).2).1
    have hf2 := (fst_ok (h.ok Q hQ).1 (h.ok Q hQ).2).1
    exact h.disj hP hQ ((h.reach hP hf (fst Q)).2 hcn) hf2
  have hnd : (L.map g).Nodup := by
    have : ∀ l : List (List Bd), l.Nodup → (∀ x ∈ l, x ∈ L) → (l.map g).Nodup := by
      intro l
      induction l with
      | nil => intro _ _; exact .nil
      | cons a l ih =>
        intro hn hsub
        obtain ⟨n1, n2⟩ := List.nodup_cons.1 hn
        refine List.nodup_cons.2 ⟨fun hm => ?_, ih n2 fun x hx => hsub x (by simp [hx])⟩
        obtain ⟨b, hb, e⟩ := List.mem_map.1 hm
        have := hinj b (hsub b (by simp [hb])) a (hsub a (by simp)) e
        subst this
        exact n1 hb
    exact this L h.nodup fun _ hx => hx
  have := nodup_sub_len hnd (m := M) fun x hx => by
    obtain ⟨P, hP, rfl⟩ := List.mem_map.1 hx
    exact (hg P hP).1
  simpa using this
/-- As many holes as parts outside, but one. -/
theorem HS.count {B : List Bd} {L : List (List Bd)} {x0 y0 x1 y1 : Int} {M : List (List Bd)} (h : HS B L) (ht : Tight B x0 y0 x1 y1) (k : PS (Out B x0 y0 x1 y1) M) : M.length = L.length + 1 := by
  obtain ⟨u0, v0, u1, v1, X, h1, h2, h3⟩ := h.is
  obtain ⟨rfl, rfl, rfl, rfl⟩ := h1.uniq ht
  have := h2.uniq k
  subst this
  obtain ⟨O, hO, o1, o2⟩ := h2.rim h1.box
  have hX : ∀ Y : List (List Bd), Y.Nodup → (∀ P ∈ Y, P ∈ X) → O ∈ Y → Y.length = (Y.filter fun P => decide (fst P ≠ (u0, v0))).length + 1 := by
    intro Y
    induction Y with
    | nil => intro _ _ ho; simp at ho
    | cons A Y ih =>
      intro hn hsub ho
      obtain ⟨n1, n2⟩ := List.nodup_cons.1 hn
      by_cases hA : A = O
      · subst hA
        have hall : Y.filter (fun P => decide (fst P ≠ (u0, v0))) = Y := by
          refine List.filter_eq_self.2 fun P hP => ?_
          simp only [ne_eq, decide_eq_true_eq]
          intro e
          have hin : InB u0 v0 P := by
            have := (fst_ok (h2.ok P (hsub P (by simp [hP]))).1 (h2.ok P (hsub P (by simp [hP]))).2).1
            rw [e] at this; exact this
          have := h2.disj hO (hsub P (by simp [hP])) o2 hin
          subst this
          exact n1 hP
        rw [List.filter_cons_of_neg (by simp [o1]), hall]; rfl
      · have hoY : O ∈ Y := by
          rcases List.mem_cons.1 ho with e | ho
          · exact absurd e.symm hA
          · exact ho
        have hA' : fst A ≠ (u0, v0) := fun e => by
          have hin : InB u0 v0 A := by
            have := (fst_ok (h2.ok A (hsub A (by simp))).1 (h2.ok A (hsub A (by simp))).2).1
            rw [e] at this; exact this
          exact hA (h2.disj (hsub A (by simp)) hO hin o2)
        rw [List.filter_cons_of_pos (by simpa using hA')]
        simp only [List.length_cons]
        have := ih n2 (fun P hP => hsub P (by simp [hP])) hoY
        omega
  rw [h3]
  exact hX X h2.nodup (fun _ h => h) hO
end Go.Proofs.Ytnlhigfglfahiaa
namespace Go.Proofs.Ytnlhigfglfahiaa
/-- The least rectangle around squares. -/
structure IsBnd (S : Int → Int → Prop) (r : TRect) : Prop where
  all : ∀ x y, S x y → (r.X0 ≤ x ∧ x < r.X1) ∧ (r.Y0 ≤ y ∧ y < r.Y1)
  x0 : ∃ y, S r.X0 y
  x1 : ∃ y, S (r.X1 - 1) y
  y0 : ∃ x, S x r.Y0
  y1 : ∃ x, S x (r.Y1 - 1)
theorem IsBnd.uniq {S T : Int → Int → Prop} {r q : TRect} (h1 : IsBnd S r) (h2 : IsBnd T q) (h : ∀ x y, S x y ↔ T x y) : r = q := by
  obtain ⟨a, ha⟩ := h1.x0
  obtain ⟨b, hb⟩ := h1.x1
  obtain ⟨c, hc⟩ := h1.y0
  obtain ⟨d, hd⟩ := h1.y1
  obtain ⟨a', ha'⟩ := h2.x0
  obtain ⟨b', hb'⟩ := h2.x1
  obtain ⟨c', hc'⟩ := h2.y0
  obtain ⟨d', hd'⟩ := h2.y1
  have e1 := h2.all _ _ ((h _ _).1 ha)
  have e2 := h2.all _ _ ((h _ _).1 hb)
  have e3 := h2.all _ _ ((h _ _).1 hc)
  have e4 := h2.all _ _ ((h _ _).1 hd)
  have f1 := h1.all _ _ ((h _ _).2 ha')
  have f2 := h1.all _ _ ((h _ _).2 hb')
  have f3 := h1.all _ _ ((h _ _).2 hc')
  have f4 := h1.all _ _ ((h _ _).2 hd')
  obtain ⟨x0, y0, x1, y1⟩ := r
  obtain ⟨x0', y0', x1', y1'⟩ := q
  simp only at *
  congr 1 <;> omega
theorem CanB.init : ∀ {l : List Bd} {b : Bd} {lo : Int}, CanB lo (l ++ [b]) → ∀ c ∈ l, c.2.1 ≤ b.1
  | [], _, _, _, c, hc => by simp at hc
  | d :: l, b, lo, h, c, hc => by
    have h' : CanB d.2.1 (l ++ [b]) := h.2.2.2.2
    rcases List.mem_cons.1 hc with rfl | hc
    · exact (h'.mem b (by simp)).1
    · exact h'.init c hc
theorem flatS_head {p : Int × Int} {l : List (Int × Int)} : idx (flatS (p :: l)) 0 = some p.1 ∧ idx (flatS (p :: l)) 1 = some p.2 := ⟨rfl, rfl⟩
theorem flatS_last {l : List (Int × Int)} {q : Int × Int} (hl : l.length ≤ 1000000000) : idx (flatS (l ++ [q])) (w64 (((flatS (l ++ [q])).length : Int) - 1)) = some q.2 := by
  have e : flatS (l ++ [q]) = (flatS l ++ [q.1]) ++ q.2 :: [] := by rw [flatS_append]; simp [flatS]
  have e2 : w64 (((flatS (l ++ [q])).length : Int) - 1) = ((flatS l ++ [q.1]).length : Int) := by
    rw [w64_id (by rw [flatS_len]; simp; omega) (by rw [flatS_len]; simp; omega), flatS_len]; simp [flatS_len]; omega
  rw [e2, e]
  exact idx_mid _ [] _
theorem Around_ok {l : List Bd} (h : BOk l) (hne : l ≠ []) (hl : l.length ≤ 1000000000) (hr : ∀ b ∈ l, b.2.2.length ≤ 1000000000) : ∃ r, F_shape_Set__Around (l.map toP) = some r ∧ IsBnd (fun x y => InB x y l) r := by
  obtain ⟨lo, hc⟩ := h.can
  -- the loop: the least and the greatest X of all bands
  have loop : ∀ (f g : TBand) (suf : List Bd) (i : Nat) (u v : Int), (∀ b ∈ suf, b ∈ l) → ∃ u' v', F_shape_Set__Around_L1 f g (suf.map toP) i u v = some ⟨u', f.Y0, v', g.Y1⟩ ∧ u' ≤ u ∧ v ≤ v' ∧ (u' = u ∨ ∃ b ∈ suf, ∃ p ∈ b.2.2, u' = p.1) ∧ (v' = v ∨ ∃ b ∈ suf, ∃ p ∈ b.2.2, v' = p.2) ∧ ∀ b ∈ suf, ∀ p ∈ b.2.2, u' ≤ p.1 ∧ p.2 ≤ v' := by
    intro f g suf
    induction suf with
    | nil => intro i u v _; exact ⟨u, v, rfl, Int.le_refl _, Int.le_refl _, .inl rfl, .inl rfl, by simp⟩
    | cons b suf ih =>
      intro i u v hb
      have hbl := hb b (by simp)
      have hbne := (hc.mem b hbl).2.2
      obtain ⟨lo', hcan⟩ := h.row b hbl
      have hlen := hr b hbl
      obtain ⟨p, t, hp⟩ : ∃ p t, b.2.2 = p :: t := by cases hx : b.2.2 with | nil => exact absurd hx hbne | cons p t => exact ⟨p, t, rfl⟩
      obtain ⟨j, q, hq⟩ : ∃ j q, b.2.2 = j ++ [q] := by
        rcases List.eq_nil_or_concat b.2.2 with hx | ⟨j, q, hx⟩
        · exact absurd hx hbne
        · exact ⟨j, q, by simpa using hx⟩
      have e1 : idx (toP b).Xs 0 = some p.1 := by show idx (flatS b.2.2) 0 = _; rw [hp]; rfl
      have e2 : idx (toP b).Xs (w64 (((toP b).Xs.length : Int) - 1)) = some q.2 := by
        show idx (flatS b.2.2) (w64 (((flatS b.2.2).length : Int) - 1)) = _
        rw [hq]
        exact flatS_last (by rw [hq] at hlen; simp at hlen; omega)
      obtain ⟨u', v', i1, i2, i3, i4, i5, i6⟩ := ih (i + 1) (min u p.1) (max v q.2) (fun c hc => hb c (by simp [hc]))
      have hfirst : ∀ r ∈ b.2.2, p.1 ≤ r.1 := fun r hr => by
        rw [hp] at hr hcan
        rcases List.mem_cons.1 hr with rfl | hr
        · exact Int.le_refl _
        · have := hcan.2.2.mem r hr; have := hcan.2.1; omega
      have hlast : ∀ r ∈ b.2.2, r.2 ≤ q.2 := fun r hr => by
        rw [hq] at hr hcan
        obtain ⟨_, c2, c3, c4⟩ := hcan.init
        rcases List.mem_append.1 hr with hr | hr
        · have := c2 r hr; omega
        · simp at hr; subst hr; exact Int.le_refl _
      refine ⟨u', v', ?_, Int.le_trans i2 (Int.min_le_left _ _), Int.le_trans (Int.le_max_left _ _) i3, ?_, ?_, fun c hcm r hrm => ?_⟩
      · rw [List.map_cons, F_shape_Set__Around_L1.eq_2, e1, Option.bind_some, e2, Option.bind_some]; exact i1
      · rcases i4 with k | ⟨c, hc1, r, hr1, k⟩
        · by_cases hu : u ≤ p.1
          · exact .inl (k.trans (Int.min_eq_left hu))
          · exact .inr ⟨b, by simp, p, by rw [hp]; simp, k.trans (Int.min_eq_right (by omega))⟩
        · exact .inr ⟨c, by simp [hc1], r, hr1, k⟩
      · rcases i5 with k | ⟨c, hc1, r, hr1, k⟩
        · by_cases hv : q.2 ≤ v
          · exact .inl (k.trans (Int.max_eq_left hv))
          · exact .inr ⟨b, by simp, q, by rw [hq]; simp, k.trans (Int.max_eq_right (by omega))⟩
        · exact .inr ⟨c, by simp [hc1], r, hr1, k⟩
      · rcases List.mem_cons.1 hcm with rfl | hcm
        · exact ⟨Int.le_trans i2 (Int.le_trans (Int.min_le_right _ _) (hfirst r hrm)), Int.le_trans (hlast r hrm) (Int.le_trans (Int.le_max_right _ _) i3)⟩
        · exact i6 c hcm r hrm
  obtain ⟨b, t, hbt⟩ : ∃ b t, l = b :: t := by cases l with | nil => exact absurd rfl hne | cons b t => exact ⟨b, t, rfl⟩
  obtain ⟨j, c, hjc⟩ : ∃ j c, l = j ++ [c] := by
    rcases List.eq_nil_or_concat l with hx | ⟨j, q, hx⟩
    · exact absurd hx hne
    · exact ⟨j, q, by simpa using hx⟩
  have hbl : b ∈ l := by rw [hbt]; simp
  have hcl : c ∈ l := by rw [hjc]; simp
  have hbm := hc.mem b hbl
  have hcm := hc.mem c hcl
  obtain ⟨p, s, hp⟩ : ∃ p s, b.2.2 = p :: s := by cases hx : b.2.2 with | nil => exact absurd hx hbm.2.2 | cons p t => exact ⟨p, t, rfl⟩
  obtain ⟨p2, s2, hp2⟩ : ∃ p s, c.2.2 = p :: s := by cases hx : c.2.2 with | nil => exact absurd hx hcm.2.2 | cons p t => exact ⟨p, t, rfl⟩
  have e0 : idx (l.map toP) 0 = some (toP b) := by rw [hbt]; rfl
  have e1 : idx (toP b).Xs 0 = some p.1 := by show idx (flatS b.2.2) 0 = _; rw [hp]; rfl
  have e2 : idx (toP b).Xs 1 = some p.2 := by show idx (flatS b.2.2) 1 = _; rw [hp]; rfl
  have e3 : idx (l.map toP) (w64 (((l.map toP).length : Int) - 1)) = some (toP c) := by
    have : w64 (((l.map toP).length : Int) - 1) = ((j.map toP).length : Int) := by
      rw [w64_id (by simp; omega) (by simp; omega), hjc]; simp
    rw [this, hjc, List.map_append]
    exact idx_mid _ [] _
  obtain ⟨u, v, k1, k2, k3, k4, k5, k6⟩ := loop (toP b) (toP c) l 0 p.1 p.2 (fun _ h => h)
  have inb : ∀ d ∈ l, ∀ r ∈ d.2.2, InB r.1 d.1 l ∧ InB (r.2 - 1) d.1 l ∧ InB r.1 (d.2.1 - 1) l := fun d hd r hr => by
    have hdm := hc.mem d hd
    obtain ⟨_, hcan⟩ := h.row d hd
    have hrm := hcan.mem r hr
    unfold InB
    rw [rowAt_of hc hd (Int.le_refl _) hdm.2.1, rowAt_of hc hd (y := d.2.1 - 1) (by omega) (by omega)]
    exact ⟨⟨r, hr, Int.le_refl _, hrm.2⟩, ⟨r, hr, by omega, by omega⟩, ⟨r, hr, Int.le_refl _, hrm.2⟩⟩
  refine ⟨⟨u, b.1, v, c.2.1⟩, ?_, fun x y hxy => ?_, ?_, ?_, ?_, ?_⟩
  · unfold F_shape_Set__Around
    rw [e0, Option.bind_some, e1, Option.bind_some, Option.bind_some, Option.bind_some, e2, Option.bind_some, e3, Option.bind_some]
    exact k1
  · have hxy : InB x y l := hxy
    unfold InB at hxy
    rcases rowAt_mem (l := l) (y := y) with h1 | ⟨d, hd, h1, h2, h3⟩
    · rw [h1] at hxy; exact absurd hxy InS_nil
    · rw [h3] at hxy
      obtain ⟨r, hr, hx⟩ := hxy
      have := k6 d hd r hr
      have hlo : b.1 ≤ d.1 := by
        have hc' := hc
        rw [hbt] at hd hc'
        rcases List.mem_cons.1 hd with rfl | hd
        · exact Int.le_refl _
        · have := hc'.2.2.2.2.mem d hd; have := hc'.2.1; omega
      have hhi : d.2.1 ≤ c.2.1 := by
        have hc' := hc
        rw [hjc] at hd hc'
        rcases List.mem_append.1 hd with hd | hd
        · have := hc'.init d hd; omega
        · simp at hd; subst hd; exact Int.le_refl _
      show (u ≤ x ∧ x < v) ∧ (b.1 ≤ y ∧ y < c.2.1)
      omega
  · rcases k4 with k | ⟨d, hd, r, hr, k⟩
    · rw [k]; exact ⟨b.1, (inb b hbl p (by rw [hp]; simp)).1⟩
    · rw [k]; exact ⟨d.1, (inb d hd r hr).1⟩
  · rcases k5 with k | ⟨d, hd, r, hr, k⟩
    · show ∃ y, InB (v - 1) y l
      rw [k]; exact ⟨b.1, (inb b hbl p (by rw [hp]; simp)).2.1⟩
    · show ∃ y, InB (v - 1) y l
      rw [k]; exact ⟨d.1, (inb d hd r hr).2.1⟩
  · exact ⟨p.1, (inb b hbl p (by rw [hp]; simp)).1⟩
  · exact ⟨p2.1, (inb c hcl p2 (by rw [hp2]; simp)).2.2⟩
end Go.Proofs.Ytnlhigfglfahiaa
namespace Go.Proofs.Ytnlhigfglfahiaa
/-- How often a border lies at or before a number: odd. -/
def par (x : Int) : List Int → Bool
  | [] => false
  | a :: l => xor (decide (a ≤ x)) (par x l)
theorem par_append (x : Int) : ∀ l m : List Int, par x (l ++ m) = xor (par x l) (par x m)
  | [], m => by simp [par]
  | a :: l, m => by rw [List.cons_append, par, par_append x l m, par, Bool.xor_assoc]
theorem par_lo {x : Int} : ∀ {l : List Int}, (∀ a ∈ l, x < a) → par x l = false
  | [], _ => rfl
  | a :: l, h => by
    rw [par, par_lo fun b hb => h b (by simp [hb]), decide_eq_false (by have := h a (by simp); omega)]; rfl
theorem odd_cons (n : Nat) : ((n + 1) % 2 == 1) = !(n % 2 == 1) := by
  rcases Nat.mod_two_eq_zero_or_one n with h | h
  · have : (n + 1) % 2 = 1 := by omega
    rw [h, this]; rfl
  · have : (n + 1) % 2 = 0 := by omega
    rw [h, this]; rfl
theorem par_hi {x : Int} : ∀ {l : List Int}, (∀ a ∈ l, a ≤ x) → par x l = (l.length % 2 == 1)
  | [], _ => rfl
  | a :: l, h => by
    rw [par, par_hi fun b hb => h b (by simp [hb]), decide_eq_true (h a (by simp)), List.length_cons, odd_cons, Bool.true_xor]
theorem InS_par : ∀ {l : List (Int × Int)} {lo x : Int}, Can lo l → (InS x l ↔ par x (flatS l) = true)
  | [], _, _, _ => by simp [InS_nil, flatS_nil, par]
  | p :: l, lo, x, h => by
    obtain ⟨h1, h2, h3⟩ := h
    have ih := InS_par (x := x) h3
    have hl := fun hx : InS x l => h3.lt hx
    rw [InS_cons, flatS_cons, par, par]
    cases hp : par x (flatS l)
    · rw [hp] at ih
      have : ¬ InS x l := fun hx => by have := ih.1 hx; cases this
      by_cases a : p.1 ≤ x <;> by_cases b : p.2 ≤ x <;> simp [a, b, this] <;> omega
    · rw [hp] at ih
      have h4 := ih.2 rfl
      have := hl h4
      have a : p.1 ≤ x := by omega
      have b : p.2 ≤ x := by omega
      simp [a, b, h4]
theorem Can.strict : ∀ {l : List (Int × Int)} {lo : Int}, Can lo l → (flatS l).Pairwise (fun x y => x < y) ∧ ∀ z ∈ flatS l, lo < z
  | [], _, _ => ⟨List.Pairwise.nil, by simp [flatS_nil]⟩
  | p :: l, lo, h => by
    obtain ⟨h1, h2, h3⟩ := h
    obtain ⟨i1, i2⟩ := h3.strict
    rw [flatS_cons]
    refine ⟨List.pairwise_cons.2 ⟨fun z hz => ?_, List.pairwise_cons.2 ⟨i2, i1⟩⟩, fun z hz => ?_⟩
    · rcases List.mem_cons.1 hz with rfl | hz
      · exact h2
      · have := i2 z hz; omega
    · rcases List.mem_cons.1 hz with rfl | hz
      · exact h1
      · rcases List.mem_cons.1 hz with rfl | hz
        · omega
        · have := i2 z hz; omega
theorem strict_can : ∀ (l : List Int) (lo : Int), l.Pairwise (fun x y => x < y) → (∀ z ∈ l, lo < z) → (l.length % 2 == 1) = false → ∃ C, Can lo C ∧ flatS C = l
  | [], _, _, _, _ => ⟨[], trivial, rfl⟩
  | [a], _, _, _, h => by simp at h
  | a :: b :: l, lo, h1, h2, h3 => by
    have k := List.pairwise_cons.1 h1
    have k2 := List.pairwise_cons.1 k.2
    obtain ⟨C, c1, c2⟩ := strict_can l b k2.2 k2.1 (by rw [List.length_cons, List.length_cons, odd_cons, odd_cons, Bool.not_not] at h3; exact h3)
    exact ⟨(a, b) :: C, ⟨h2 a (by simp), k.1 b (by simp), c1⟩, by rw [flatS_cons, c2]⟩
theorem cut_tail {α : Type} (x : α) (l : List α) : cut (x :: l) 1 ((x :: l).length : Int) = some l := by
  unfold cut
  rw [if_pos ⟨by omega, by simp; omega, by omega⟩]
  simp
/-- What a merge of two lists of borders says. -/
structure LineOk (k : Bool → Bool → Bool) (a b out : List Int) (inA inB : Bool) (r : List Int) : Prop where
  strict : r.Pairwise fun x y => x < y
  mem : ∀ z ∈ r, z ∈ out ∨ z ∈ a ∨ z ∈ b
  len : r.length ≤ out.length + a.length + b.length
  hi : ∀ z, (∀ o ∈ out, o ≤ z) → par z r = k (xor inA (par z a)) (xor inB (par z b))
  lo : ∀ z, (∃ o ∈ out, z < o) → par z r = par z out
theorem line_step {k : Bool → Bool → Bool} {f : Bool → Bool → Option Bool} (hf : ∀ a b, f a b = some (k a b)) {m : Nat} {a b a1 b1 out : List Int} {inA inB inA1 inB1 is : Bool} {X : Int}
    (ih : ∀ (out : List Int) (is : Bool), out.Pairwise (fun x y => x < y) → (∀ o ∈ out, (∀ x ∈ a1, o < x) ∧ ∀ x ∈ b1, o < x) → is = k inA1 inB1 → is = (out.length % 2 == 1) → out.length + a1.length + b1.length ≤ 4000000000 → ∃ r, F_shape_line_L7 f m a1 b1 out inA1 inB1 is = some r ∧ LineOk k a1 b1 out inA1 inB1 r)
    (hs : out.Pairwise fun x y => x < y) (ho : ∀ o ∈ out, o < X) (ha1 : ∀ x ∈ a1, X < x) (hb1 : ∀ x ∈ b1, X < x) (hi : is = k inA inB) (hp : is = (out.length % 2 == 1)) (hl : out.length + a1.length + b1.length + 1 ≤ out.length + a.length + b.length) (hl2 : out.length + a.length + b.length ≤ 4000000000)
    (pa : ∀ z, X ≤ z → xor inA (par z a) = xor inA1 (par z a1)) (pb : ∀ z, X ≤ z → xor inB (par z b) = xor inB1 (par z b1)) (pa0 : ∀ z, z < X → par z a = false) (pb0 : ∀ z, z < X → par z b = false)
    (hm : ∀ z, z ∈ a1 → z ∈ a) (hm2 : ∀ z, z ∈ b1 → z ∈ b) (hX : X ∈ a ∨ X ∈ b) :
    ∃ r, F_shape_line_J8 f out is (F_shape_line_L7 f m) X a1 inA1 b1 inB1 = some r ∧ LineOk k a b out inA inB r := by
  unfold F_shape_line_J8
  rw [hf, Option.bind_some]
  by_cases hk : k inA1 inB1 = is
  · rw [if_neg (by simp [hk])]
    obtain ⟨r, h1, h2⟩ := ih out is hs (fun o h => ⟨fun x hx => by have := ho o h; have := ha1 x hx; omega, fun x hx => by have := ho o h; have := hb1 x hx; omega⟩) hk.symm hp (by omega)
    refine ⟨r, h1, h2.strict, fun z hz => ?_, by have := h2.len; omega, fun z hz => ?_, h2.lo⟩
    · rcases h2.mem z hz with h | h | h
      · exact .inl h
      · exact .inr (.inl (hm z h))
      · exact .inr (.inr (hm2 z h))
    · rw [h2.hi z hz]
      by_cases hxz : X ≤ z
      · rw [pa z hxz, pb z hxz]
      · rw [pa0 z (by omega), pb0 z (by omega), par_lo fun x hx => by have := ha1 x hx; omega, par_lo fun x hx => by have := hb1 x hx; omega, Bool.xor_false, Bool.xor_false, Bool.xor_false, Bool.xor_false, hk, hi]
  · rw [if_pos (by simpa using hk), apd_ok (by simp; omega), Option.bind_some]
    obtain ⟨r, h1, h2⟩ := ih (out ++ [X]) (k inA1 inB1) (List.pairwise_append.2 ⟨hs, List.pairwise_singleton _ _, fun o h x hx => by simp at hx; subst hx; exact ho o h⟩) (fun o h => by
      rcases List.mem_append.1 h with h | h
      · exact ⟨fun x hx => by have := ho o h; have := ha1 x hx; omega, fun x hx => by have := ho o h; have := hb1 x hx; omega⟩
      · simp at h; subst h; exact ⟨ha1, hb1⟩) rfl (by
      rw [List.length_append, List.length_singleton, odd_cons, ← hp]
      cases hv : k inA1 inB1 <;> cases is <;> simp_all) (by simp; omega)
    refine ⟨r, h1, h2.strict, fun z hz => ?_, by have := h2.len; simp at this; omega, fun z hz => ?_, fun z hz => ?_⟩
    · rcases h2.mem z hz with h | h | h
      · rcases List.mem_append.1 h with h | h
        · exact .inl h
        · simp at h; subst h
          rcases hX with h | h
          · exact .inr (.inl h)
          · exact .inr (.inr h)
      · exact .inr (.inl (hm z h))
      · exact .inr (.inr (hm2 z h))
    · by_cases hxz : X ≤ z
      · rw [h2.hi z (fun o h => by
          rcases List.mem_append.1 h with h | h
          · exact hz o h
          · simp at h; omega), pa z hxz, pb z hxz]
      · rw [h2.lo z ⟨X, by simp, by omega⟩, par_append, pa0 z (by omega), pb0 z (by omega), Bool.xor_false, Bool.xor_false, par_hi hz, ← hp, hi, par_lo (l := [X]) (fun x hx => by simp at hx; omega), Bool.xor_false]
    · obtain ⟨o, h, hzo⟩ := hz
      rw [h2.lo z ⟨o, by simp [h], hzo⟩, par_append, par_lo (l := [X]) (fun x hx => by simp at hx; have := ho o h; omega), Bool.xor_false]
theorem line_go {k : Bool → Bool → Bool} {f : Bool → Bool → Option Bool} (hf : ∀ a b, f a b = some (k a b)) : ∀ (m : Nat) (a b out : List Int) (inA inB is : Bool), a.length + b.length < m → a.Pairwise (fun x y => x < y) → b.Pairwise (fun x y => x < y) → out.Pairwise (fun x y => x < y) → (∀ o ∈ out, (∀ x ∈ a, o < x) ∧ ∀ x ∈ b, o < x) → is = k inA inB → is = (out.length % 2 == 1) → out.length + a.length + b.length ≤ 4000000000 →
    ∃ r, F_shape_line_L7 f m a b out inA inB is = some r ∧ LineOk k a b out inA inB r
  | 0, _, _, _, _, _, _, h, _, _, _, _, _, _, _ => absurd h (Nat.not_lt_zero _)
  | m + 1, [], [], out, inA, inB, is, _, _, _, hs, _, hi, hp, _ => by
    rw [F_shape_line_L7.eq_2, if_neg (by simp)]
    exact ⟨out, rfl, hs, fun z hz => .inl hz, by simp, fun z hz => by rw [par_hi hz, ← hp, hi]; simp [par], fun _ _ => rfl⟩
  | m + 1, x :: a, [], out, inA, inB, is, hm, sa, sb, hs, ho, hi, hp, hl => by
    have ha := List.pairwise_cons.1 sa
    rw [F_shape_line_L7.eq_2, if_pos (by simp), if_pos (by simp), Option.bind_some, if_pos rfl, show idx (x :: a) 0 = some x from rfl, Option.bind_some]
    unfold F_shape_line_J10
    rw [if_pos (by simp), show idx (x :: a) 0 = some x from rfl, Option.bind_some, Option.bind_some, if_pos (by simp), cut_tail, Option.bind_some]
    unfold F_shape_line_J9
    rw [if_neg (by simp), Option.bind_some, if_neg (by simp)]
    simp only [List.length_cons, List.length_nil] at hm hl
    refine line_step (m := m) (a := x :: a) (b := []) hf (fun o i k1 k2 k3 k4 k5 => line_go hf m a [] o (!inA) inB i (by simp; omega) ha.2 sb k1 k2 k3 k4 k5) hs (fun o h => (ho o h).1 x (by simp)) ha.1 (by simp) hi hp (by simp; omega) (by simp; omega) (fun z hz => ?_) (fun _ _ => rfl) (fun z hz => par_lo fun y hy => ?_) (fun _ _ => rfl) (fun z h => by simp [h]) (fun z h => h) (.inl (by simp))
    · rw [par, decide_eq_true hz]; cases inA <;> cases par z a <;> rfl
    · rcases List.mem_cons.1 hy with rfl | hy
      · exact hz
      · have := ha.1 y hy; omega
  | m + 1, [], y :: b, out, inA, inB, is, hm, sa, sb, hs, ho, hi, hp, hl => by
    have hb := List.pairwise_cons.1 sb
    rw [F_shape_line_L7.eq_2, if_pos (by simp), if_neg (by simp; omega), if_neg (by simp), Option.bind_some, Option.bind_some, if_neg (by simp), show idx (y :: b) 0 = some y from rfl, Option.bind_some]
    unfold F_shape_line_J10
    rw [if_neg (by simp), Option.bind_some, if_neg (by simp)]
    unfold F_shape_line_J9
    rw [if_pos (by simp), show idx (y :: b) 0 = some y from rfl, Option.bind_some, Option.bind_some, if_pos (by simp), cut_tail, Option.bind_some]
    simp only [List.length_cons, List.length_nil] at hm hl
    refine line_step (m := m) (a := []) (b := y :: b) hf (fun o i k1 k2 k3 k4 k5 => line_go hf m [] b o inA (!inB) i (by simp; omega) sa hb.2 k1 k2 k3 k4 k5) hs (fun o h => (ho o h).2 y (by simp)) (by simp) hb.1 hi hp (by simp; omega) (by simp; omega) (fun _ _ => rfl) (fun z hz => ?_) (fun _ _ => rfl) (fun z hz => par_lo fun x hx => ?_) (fun z h => h) (fun z h => by simp [h]) (.inr (by simp))
    · rw [par, decide_eq_true hz]; cases inB <;> cases par z b <;> rfl
    · rcases List.mem_cons.1 hx with rfl | hx
      · exact hz
      · have := hb.1 x hx; omega
  | m + 1, x :: a, y :: b, out, inA, inB, is, hm, sa, sb, hs, ho, hi, hp, hl => by
    have ha := List.pairwise_cons.1 sa
    have hb := List.pairwise_cons.1 sb
    have e1 : idx (x :: a) 0 = some x := rfl
    have e2 : idx (y :: b) 0 = some y := rfl
    simp only [List.length_cons] at hm hl
    rw [F_shape_line_L7.eq_2, if_pos (by simp), if_neg (by simp; omega), if_pos (by simp), e1, Option.bind_some, e2, Option.bind_some, Option.bind_some, Option.bind_some]
    simp only [Option.bind_some]
    have hxa : ∀ z, x ≤ z → xor inA (par z (x :: a)) = xor (!inA) (par z a) := fun z hz => by rw [par, decide_eq_true hz]; cases inA <;> cases par z a <;> rfl
    have hyb : ∀ z, y ≤ z → xor inB (par z (y :: b)) = xor (!inB) (par z b) := fun z hz => by rw [par, decide_eq_true hz]; cases inB <;> cases par z b <;> rfl
    have hax : ∀ z, z < x → par z (x :: a) = false := fun z hz => par_lo fun v hv => by
      rcases List.mem_cons.1 hv with rfl | hv
      · exact hz
      · have := ha.1 v hv; omega
    have hby : ∀ z, z < y → par z (y :: b) = false := fun z hz => par_lo fun v hv => by
      rcases List.mem_cons.1 hv with rfl | hv
      · exact hz
      · have := hb.1 v hv; omega
    by_cases hxy : x ≤ y
    · rw [if_pos (by simpa using hxy)]
      unfold F_shape_line_J10
      rw [if_pos (by simp), e1, Option.bind_some, Option.bind_some, if_pos (by simp), cut_tail, Option.bind_some]
      unfold F_shape_line_J9
      rw [if_pos (by simp), e2, Option.bind_some, Option.bind_some]
      by_cases he : y = x
      · subst he
        rw [if_pos (by simp), cut_tail, Option.bind_some]
        exact line_step (m := m) (a := y :: a) (b := y :: b) hf (fun o i k1 k2 k3 k4 k5 => line_go hf m a b o (!inA) (!inB) i (by omega) ha.2 hb.2 k1 k2 k3 k4 k5) hs (fun o h => (ho o h).1 y (by simp)) ha.1 hb.1 hi hp (by simp; omega) (by simp; omega) hxa hyb hax hby (fun z h => by simp [h]) (fun z h => by simp [h]) (.inl (by simp))
      · rw [if_neg (by simpa using he)]
        exact line_step (m := m) (a := x :: a) (b := y :: b) hf (fun o i k1 k2 k3 k4 k5 => line_go hf m a (y :: b) o (!inA) inB i (by simp; omega) ha.2 sb k1 k2 k3 k4 k5) hs (fun o h => (ho o h).1 x (by simp)) ha.1 (fun v hv => by
          rcases List.mem_cons.1 hv with rfl | hv
          · omega
          · have := hb.1 v hv; omega) hi hp (by simp; omega) (by simp; omega) hxa (fun _ _ => rfl) hax (fun z hz => hby z (by omega)) (fun z h => by simp [h]) (fun z h => h) (.inl (by simp))
    · rw [if_neg (by simpa using hxy)]
      unfold F_shape_line_J10
      rw [if_pos (by simp), e1, Option.bind_some, Option.bind_some, if_neg (by simp; omega)]
      unfold F_shape_line_J9
      rw [if_pos (by simp), e2, Option.bind_some, Option.bind_some, if_pos (by simp), cut_tail, Option.bind_some]
      exact line_step (m := m) (a := x :: a) (b := y :: b) hf (fun o i k1 k2 k3 k4 k5 => line_go hf m (x :: a) b o inA (!inB) i (by simp; omega) sa hb.2 k1 k2 k3 k4 k5) hs (fun o h => (ho o h).2 y (by simp)) (fun v hv => by
          rcases List.mem_cons.1 hv with rfl | hv
          · omega
          · have := ha.1 v hv; omega) hb.1 hi hp (by simp; omega) (by simp; omega) (fun _ _ => rfl) hyb (fun z hz => hax z (by omega)) hby (fun z h => h) (fun z h => by simp [h]) (.inr (by simp))
theorem up_ex : ∀ l : List Int, ∃ z, ∀ a ∈ l, a ≤ z
  | [] => ⟨0, by simp⟩
  | b :: l => by
    obtain ⟨z, h⟩ := up_ex l
    refine ⟨max z b, fun a ha => ?_⟩
    rcases List.mem_cons.1 ha with rfl | ha
    · omega
    · have := h a ha; omega
theorem lo_ex : ∀ l : List Int, ∃ z, ∀ a ∈ l, z < a
  | [] => ⟨0, by simp⟩
  | b :: l => by
    obtain ⟨z, h⟩ := lo_ex l
    refine ⟨min z (b - 1), fun a ha => ?_⟩
    rcases List.mem_cons.1 ha with rfl | ha
    · omega
    · have := h a ha; omega
theorem even_two (n : Nat) : (2 * n % 2 == 1) = false := by
  have : 2 * n % 2 = 0 := by omega
  rw [this]; rfl
/-- Merged stretches: where the two say so. -/
theorem line_ok {k : Bool → Bool → Bool} {f : Bool → Bool → Option Bool} (hf : ∀ a b, f a b = some (k a b)) (hk : k false false = false) {N : Nat} {l m : List (Int × Int)} (hl : ∃ lo, Can lo l) (hm : ∃ lo, Can lo m) (hlen : 2 * l.length + 2 * m.length < N) (hlen2 : 2 * l.length + 2 * m.length ≤ 4000000000) :
    ∃ C, F_shape_line N (flatS l) (flatS m) f = some (flatS C) ∧ (∃ lo, Can lo C) ∧ C.length ≤ l.length + m.length ∧ ∀ x, InS x C ↔ ∃ p q, (p = true ↔ InS x l) ∧ (q = true ↔ InS x m) ∧ k p q = true := by
  obtain ⟨lo1, c1⟩ := hl
  obtain ⟨lo2, c2⟩ := hm
  obtain ⟨r, h1, h2⟩ := line_go hf N (flatS l) (flatS m) [] false false false (by rw [flatS_len, flatS_len]; exact hlen) c1.strict.1 c2.strict.1 List.Pairwise.nil (by simp) hk.symm rfl (by rw [flatS_len, flatS_len]; simpa using hlen2)
  have hpar : ∀ z, par z r = k (par z (flatS l)) (par z (flatS m)) := fun z => by
    have := h2.hi z (by simp)
    rw [Bool.false_xor, Bool.false_xor] at this
    exact this
  have hodd : (r.length % 2 == 1) = false := by
    obtain ⟨z, hz⟩ := up_ex (r ++ flatS l ++ flatS m)
    rw [← par_hi (x := z) (l := r) (fun a ha => hz a (by simp [ha])), hpar z, par_hi (x := z) (l := flatS l) (fun a ha => hz a (by simp [ha])), par_hi (x := z) (l := flatS m) (fun a ha => hz a (by simp [ha])), flatS_len, flatS_len, even_two, even_two, hk]
  obtain ⟨lo, hlo⟩ := lo_ex r
  obtain ⟨C, d1, d2⟩ := strict_can r lo h2.strict hlo hodd
  refine ⟨C, by rw [d2]; exact h1, ⟨lo, d1⟩, ?_, fun x => ?_⟩
  · have := h2.len
    rw [← d2, flatS_len, flatS_len, flatS_len] at this
    simp at this
    omega
  · rw [InS_par d1, d2, hpar]
    constructor
    · intro h
      exact ⟨_, _, (InS_par c1).symm, (InS_par c2).symm, h⟩
    · rintro ⟨p, q, hp, hq, h⟩
      have e1 : p = par x (flatS l) := by rw [Bool.eq_iff_iff, hp, InS_par c1]
      have e2 : q = par x (flatS m) := by rw [Bool.eq_iff_iff, hq, InS_par c2]
      rw [← e1, ← e2]; exact h
end Go.Proofs.Ytnlhigfglfahiaa
