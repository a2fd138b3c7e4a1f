/- Sets of numbers by stretches: their one form. Plain Lean. -/
import Derived.Test.YtfdglihcpfpefaaGreatD0
namespace Go.Proofs.YtfdglihcpfpefaaGreat
/-- Stretches behind a number, in order, none touching another one. -/
def Can : Int → List (Int × Int) → Prop
  | _, [] => True
  | lo, p :: l => lo < p.1 ∧ p.1 < p.2 ∧ Can p.2 l
def InS (x : Int) (l : List (Int × Int)) : Prop := ∃ p ∈ l, p.1 ≤ x ∧ x < p.2
theorem InS_cons {x : Int} {p : Int × Int} {l : List (Int × Int)} : InS x (p :: l) ↔ (p.1 ≤ x ∧ x < p.2) ∨ InS x l := by unfold InS; simp
theorem InS_nil {x : Int} : ¬ InS x [] := by unfold InS; simp
theorem InS_append {x : Int} {l m : List (Int × Int)} : InS x (l ++ m) ↔ InS x l ∨ InS x m := by
  unfold InS
  constructor
  · rintro ⟨p, hp, h⟩
    rcases List.mem_append.1 hp with hp | hp
    · exact .inl ⟨p, hp, h⟩
    · exact .inr ⟨p, hp, h⟩
  · rintro (⟨p, hp, h⟩ | ⟨p, hp, h⟩)
    · exact ⟨p, List.mem_append_left _ hp, h⟩
    · exact ⟨p, List.mem_append_right _ hp, h⟩
theorem Can.lt : ∀ {l : List (Int × Int)} {lo x : Int}, Can lo l → InS x l → lo < x
  | [], _, _, _, h => absurd h InS_nil
  | p :: l, lo, x, h, hx => by
    obtain ⟨h1, h2, h3⟩ := h
    rcases InS_cons.1 hx with hx | hx
    · omega
    · have := h3.lt hx; omega
theorem Can.mono {l : List (Int × Int)} {lo lo' : Int} (h : Can lo l) (hl : lo' ≤ lo) : Can lo' l := by
  cases l with
  | nil => trivial
  | cons p l => exact ⟨by have := h.1; omega, h.2⟩
/-- The form is one. -/
theorem Can.uniq : ∀ {l m : List (Int × Int)} {lo lo' : Int}, Can lo l → Can lo' m → (∀ x, InS x l ↔ InS x m) → l = m
  | [], [], _, _, _, _, _ => rfl
  | [], p :: m, _, _, _, h2, h => absurd ((h p.1).2 (InS_cons.2 (.inl ⟨Int.le_refl _, h2.2.1⟩))) InS_nil
  | p :: l, [], _, _, h1, _, h => absurd ((h p.1).1 (InS_cons.2 (.inl ⟨Int.le_refl _, h1.2.1⟩))) InS_nil
  | p :: l, q :: m, lo, lo', h1, h2, h => by
    obtain ⟨a1, a2, a3⟩ := h1
    obtain ⟨b1, b2, b3⟩ := h2
    have c1 : q.1 ≤ p.1 := by
      rcases InS_cons.1 ((h p.1).1 (InS_cons.2 (.inl ⟨Int.le_refl _, a2⟩))) with hx | hx
      · exact hx.1
      · have := b3.lt hx; omega
    have c2 : p.1 ≤ q.1 := by
      rcases InS_cons.1 ((h q.1).2 (InS_cons.2 (.inl ⟨Int.le_refl _, b2⟩))) with hx | hx
      · exact hx.1
      · have := a3.lt hx; omega
    have c3 : ¬ p.2 < q.2 := fun hlt => by
      rcases InS_cons.1 ((h p.2).2 (InS_cons.2 (.inl ⟨by omega, hlt⟩))) with hx | hx
      · omega
      · have := a3.lt hx; omega
    have c4 : ¬ q.2 < p.2 := fun hlt => by
      rcases InS_cons.1 ((h q.2).1 (InS_cons.2 (.inl ⟨by omega, hlt⟩))) with hx | hx
      · omega
      · have := b3.lt hx; omega
    have hpq : p = q := by obtain ⟨a, b⟩ := p; obtain ⟨c, d⟩ := q; simp only at *; congr 1 <;> omega
    subst hpq
    have hlm : l = m := a3.uniq b3 fun x => by
      constructor
      · intro hx
        have hlt := a3.lt hx
        rcases InS_cons.1 ((h x).1 (InS_cons.2 (.inr hx))) with h' | h'
        · omega
        · exact h'
      · intro hx
        have hlt := b3.lt hx
        rcases InS_cons.1 ((h x).2 (InS_cons.2 (.inr hx))) with h' | h'
        · omega
        · exact h'
    rw [hlm]
/-- Stretches that begin with init and end with one more. -/
theorem Can.snoc : ∀ {l : List (Int × Int)} {lo : Int} {p : Int × Int}, Can lo l → (∀ q ∈ l, q.2 < p.1) → lo < p.1 → p.1 < p.2 → Can lo (l ++ [p])
  | [], _, _, _, _, h1, h2 => ⟨h1, h2, trivial⟩
  | q :: l, lo, p, h, hq, h1, h2 => ⟨h.1, h.2.1, h.2.2.snoc (fun r hr => hq r (by simp [hr])) (hq q (by simp)) h2⟩
theorem Can.init : ∀ {l : List (Int × Int)} {lo : Int} {p : Int × Int}, Can lo (l ++ [p]) → Can lo l ∧ (∀ q ∈ l, q.2 < p.1) ∧ lo < p.1 ∧ p.1 < p.2
  | [], _, _, h => ⟨trivial, by simp, h.1, h.2.1⟩
  | q :: l, lo, p, h => by
    obtain ⟨i1, i2, i3, i4⟩ := Can.init (l := l) h.2.2
    have := h.1; have := h.2.1
    refine ⟨⟨h.1, h.2.1, i1⟩, fun r hr => ?_, by omega, i4⟩
    rcases List.mem_cons.1 hr with rfl | hr
    · exact i3
    · exact i2 r hr
/-- All numbers of stretches, one behind the other. -/
def flatS (l : List (Int × Int)) : List Int := l.flatMap fun p => [p.1, p.2]
theorem flatS_nil : flatS [] = [] := rfl
theorem flatS_cons (p : Int × Int) (l : List (Int × Int)) : flatS (p :: l) = p.1 :: p.2 :: flatS l := rfl
theorem flatS_append (l m : List (Int × Int)) : flatS (l ++ m) = flatS l ++ flatS m := by unfold flatS; rw [List.flatMap_append]
theorem flatS_len : ∀ l : List (Int × Int), (flatS l).length = 2 * l.length
  | [] => rfl
  | p :: l => by rw [flatS_cons, List.length_cons, List.length_cons, flatS_len l, List.length_cons]; omega
theorem flatS_inj : ∀ {l m : List (Int × Int)}, flatS l = flatS m → l = m
  | [], [], _ => rfl
  | [], q :: m, h => by rw [flatS_nil, flatS_cons] at h; cases h
  | p :: l, [], h => by rw [flatS_nil, flatS_cons] at h; cases h
  | p :: l, q :: m, h => by
    rw [flatS_cons, flatS_cons] at h
    injection h with h1 h
    injection h with h2 h
    rw [flatS_inj h]
    congr 1
    obtain ⟨a, b⟩ := p; obtain ⟨c, d⟩ := q
    simp only at h1 h2
    rw [h1, h2]
/-- One stretch more, that begins no sooner than the last one. -/
def ext1 (l : List (Int × Int)) (p : Int × Int) : List (Int × Int) :=
  match l.getLast? with
  | none => [p]
  | some q => if p.1 ≤ q.2 then l.dropLast ++ [(q.1, max q.2 p.2)] else l ++ [p]
theorem ext1_nil (p : Int × Int) : ext1 [] p = [p] := rfl
theorem ext1_snoc (l : List (Int × Int)) (q p : Int × Int) : ext1 (l ++ [q]) p = if p.1 ≤ q.2 then l ++ [(q.1, max q.2 p.2)] else l ++ [q] ++ [p] := by
  unfold ext1
  simp
theorem ext1_ok {lo : Int} {l done : List (Int × Int)} {p : Int × Int} (hc : Can lo l) (hm : ∀ x, InS x l ↔ InS x done) (hlast : ∀ q ∈ l, q.1 ≤ p.1) (hlo : lo < p.1) (hp : p.1 < p.2) :
    Can lo (ext1 l p) ∧ (∀ x, InS x (ext1 l p) ↔ InS x (done ++ [p])) ∧ ∀ q ∈ ext1 l p, q.1 ≤ p.1 := by
  have hsplit : l = [] ∨ ∃ i q, l = i ++ [q] := by
    rcases List.eq_nil_or_concat l with h | ⟨i, q, h⟩
    · exact .inl h
    · exact .inr ⟨i, q, by simpa using h⟩
  rcases hsplit with rfl | ⟨i, q, rfl⟩
  · rw [ext1_nil]
    refine ⟨⟨hlo, hp, trivial⟩, fun x => ?_, by simp⟩
    rw [InS_append, ← hm x]
    exact ⟨fun h => .inr h, fun h => h.resolve_left InS_nil⟩
  · obtain ⟨c1, c2, c3, c4⟩ := hc.init
    have hq := hlast q (by simp)
    rw [ext1_snoc]
    by_cases hle : p.1 ≤ q.2
    · rw [if_pos hle]
      refine ⟨c1.snoc (p := (q.1, max q.2 p.2)) c2 c3 (by show q.1 < max q.2 p.2; omega), fun x => ?_, fun r hr => ?_⟩
      · rw [InS_append, InS_append (l := done), ← hm x, InS_append]
        have e1 : InS x [(q.1, max q.2 p.2)] ↔ (q.1 ≤ x ∧ x < max q.2 p.2) := by unfold InS; simp
        have e2 : InS x [q] ↔ (q.1 ≤ x ∧ x < q.2) := by unfold InS; simp
        have e3 : InS x [p] ↔ (p.1 ≤ x ∧ x < p.2) := by unfold InS; simp
        rw [e1, e2, e3]
        constructor
        · rintro (h | h)
          · exact .inl (.inl h)
          · by_cases hx : x < q.2
            · exact .inl (.inr ⟨h.1, hx⟩)
            · exact .inr ⟨by omega, by omega⟩
        · rintro ((h | h) | h)
          · exact .inl h
          · exact .inr ⟨h.1, by omega⟩
          · exact .inr ⟨by omega, by omega⟩
      · rcases List.mem_append.1 hr with hr | hr
        · have := c2 r hr; exact hlast r (by simp [hr])
        · simp at hr; subst hr; exact hq
    · rw [if_neg hle]
      refine ⟨hc.snoc (fun r hr => ?_) hlo hp, fun x => ?_, fun r hr => ?_⟩
      · rcases List.mem_append.1 hr with hr | hr
        · have := c2 r hr; omega
        · simp at hr; subst hr; omega
      · rw [InS_append, InS_append (l := done), hm x]
      · rcases List.mem_append.1 hr with hr | hr
        · exact hlast r hr
        · simp at hr; subst hr; exact Int.le_refl _
/-- The stretches of many, sorted by where they begin. -/
theorem ext_all {lo : Int} : ∀ (suf : List (Int × Int)) (l done : List (Int × Int)), Can lo l → (∀ x, InS x l ↔ InS x done) → (∀ p ∈ suf, ∀ q ∈ l, q.1 ≤ p.1) → suf.Pairwise (fun p q => p.1 ≤ q.1) → (∀ p ∈ suf, lo < p.1 ∧ p.1 < p.2) →
    Can lo (suf.foldl ext1 l) ∧ ∀ x, InS x (suf.foldl ext1 l) ↔ InS x (done ++ suf)
  | [], l, done, h1, h2, _, _, _ => ⟨h1, by simpa using h2⟩
  | p :: suf, l, done, h1, h2, h3, h4, h5 => by
    obtain ⟨s1, s2, s3⟩ := ext1_ok h1 h2 (h3 p (by simp)) (h5 p (by simp)).1 (h5 p (by simp)).2
    rw [List.pairwise_cons] at h4
    have := ext_all suf (ext1 l p) (done ++ [p]) s1 s2 (fun r hr q hq => Int.le_trans (s3 q hq) (h4.1 r hr)) h4.2 (fun r hr => h5 r (by simp [hr]))
    simpa using this
/-- One stretch more, wherever it lies: those before it, what it joins, those behind it. -/
def joinGo : Int → Int → List (Int × Int) → List (Int × Int)
  | a, b, [] => [(a, b)]
  | a, b, q :: l => if q.1 ≤ b then joinGo (min a q.1) (max b q.2) l else (a, b) :: q :: l
def join1 : List (Int × Int) → Int × Int → List (Int × Int)
  | [], p => [p]
  | q :: l, p => if q.2 < p.1 then q :: join1 l p else joinGo p.1 p.2 (q :: l)
theorem joinGo_ok : ∀ {l : List (Int × Int)} {lo a b : Int}, lo < a → a < b → (∀ q ∈ l, lo < q.1) → (∀ q ∈ l, a ≤ q.2) → (∃ lo', Can lo' l) → Can lo (joinGo a b l) ∧ ∀ x, InS x (joinGo a b l) ↔ (a ≤ x ∧ x < b) ∨ InS x l
  | [], lo, a, b, h1, h2, _, _, _ => ⟨⟨h1, h2, trivial⟩, fun x => by unfold joinGo; rw [InS_cons]⟩
  | q :: l, lo, a, b, h1, h2, h3, h5, ⟨lo', h4⟩ => by
    have hq := h3 q (by simp)
    have hov := h5 q (by simp)
    have hq2 := h4.2.1
    unfold joinGo
    by_cases hle : q.1 ≤ b
    · rw [if_pos hle]
      obtain ⟨i1, i2⟩ := joinGo_ok (l := l) (lo := lo) (a := min a q.1) (b := max b q.2) (by omega) (by omega) (fun r hr => h3 r (by simp [hr])) (fun r hr => by have := h5 r (by simp [hr]); omega) ⟨q.2, h4.2.2⟩
      refine ⟨i1, fun x => ?_⟩
      rw [i2, InS_cons]
      constructor
      · rintro (h | h)
        · by_cases h' : a ≤ x ∧ x < b
          · exact .inl h'
          · exact .inr (.inl ⟨by omega, by omega⟩)
        · exact .inr (.inr h)
      · rintro (h | h | h)
        · exact .inl ⟨by omega, by omega⟩
        · exact .inl ⟨by omega, by omega⟩
        · exact .inr h
    · rw [if_neg hle]
      refine ⟨⟨h1, h2, by omega, hq2, h4.2.2⟩, fun x => ?_⟩
      rw [InS_cons]
theorem Can.mem : ∀ {l : List (Int × Int)} {lo : Int}, Can lo l → ∀ q ∈ l, lo < q.1 ∧ q.1 < q.2
  | [], _, _, q, h => by simp at h
  | p :: l, lo, h, q, hq => by
    rcases List.mem_cons.1 hq with rfl | hq
    · exact ⟨h.1, h.2.1⟩
    · have := h.2.2.mem q hq
      have := h.1; have := h.2.1
      omega
theorem join1_ok : ∀ {l : List (Int × Int)} {lo : Int} {p : Int × Int}, Can lo l → lo < p.1 → p.1 < p.2 → Can lo (join1 l p) ∧ ∀ x, InS x (join1 l p) ↔ InS x (l ++ [p])
  | [], lo, p, _, h1, h2 => ⟨⟨h1, h2, trivial⟩, fun x => Iff.rfl⟩
  | q :: l, lo, p, h, h1, h2 => by
    unfold join1
    by_cases hlt : q.2 < p.1
    · rw [if_pos hlt]
      obtain ⟨i1, i2⟩ := join1_ok (l := l) (lo := q.2) (p := p) h.2.2 hlt h2
      refine ⟨⟨h.1, h.2.1, i1⟩, fun x => ?_⟩
      rw [InS_cons, i2, List.cons_append, InS_cons]
    · rw [if_neg hlt]
      obtain ⟨i1, i2⟩ := joinGo_ok (l := q :: l) (lo := lo) (a := p.1) (b := p.2) h1 h2 (fun r hr => (h.mem r hr).1) (fun r hr => by
        rcases List.mem_cons.1 hr with rfl | hr
        · omega
        · have := h.2.2.mem r hr; omega) ⟨lo, h⟩
      refine ⟨i1, fun x => ?_⟩
      rw [i2, InS_append]
      have e : InS x [p] ↔ (p.1 ≤ x ∧ x < p.2) := by unfold InS; simp
      rw [e]
      exact or_comm
theorem join_all {lo : Int} : ∀ (suf : List (Int × Int)) (l done : List (Int × Int)), Can lo l → (∀ x, InS x l ↔ InS x done) → (∀ p ∈ suf, lo < p.1 ∧ p.1 < p.2) →
    Can lo (suf.foldl join1 l) ∧ ∀ x, InS x (suf.foldl join1 l) ↔ InS x (done ++ suf)
  | [], l, done, h1, h2, _ => ⟨h1, by simpa using h2⟩
  | p :: suf, l, done, h1, h2, h5 => by
    obtain ⟨s1, s2⟩ := join1_ok h1 (h5 p (by simp)).1 (h5 p (by simp)).2
    have := join_all suf (join1 l p) (done ++ [p]) s1 (fun x => by rw [s2, InS_append, InS_append, h2]) (fun r hr => h5 r (by simp [hr]))
    simpa using this
/-- The one form of what stretches cover together. -/
def covS (l : List (Int × Int)) : List (Int × Int) := l.foldl join1 []
theorem covS_ok {lo : Int} {l : List (Int × Int)} (h : ∀ p ∈ l, lo < p.1 ∧ p.1 < p.2) : Can lo (covS l) ∧ ∀ x, InS x (covS l) ↔ InS x l := by
  have := join_all l [] [] (lo := lo) trivial (fun x => Iff.rfl) h
  rw [List.nil_append] at this
  exact this
/-- Built up in order, in whatever order they lay. -/
theorem ext_cov {lo : Int} {l m : List (Int × Int)} (hp : m.Perm l) (hs : m.Pairwise (fun p q => p.1 ≤ q.1)) (h : ∀ p ∈ l, lo < p.1 ∧ p.1 < p.2) : m.foldl ext1 [] = covS l := by
  obtain ⟨a1, a2⟩ := ext_all m [] [] (lo := lo) trivial (fun x => Iff.rfl) (by simp) hs (fun p hq => h p (hp.subset hq))
  obtain ⟨b1, b2⟩ := covS_ok h
  refine a1.uniq b1 fun x => ?_
  rw [a2, b2, List.nil_append]
  unfold InS
  constructor
  · rintro ⟨p, hq, h⟩; exact ⟨p, hp.subset hq, h⟩
  · rintro ⟨p, hq, h⟩; exact ⟨p, hp.symm.subset hq, h⟩
theorem covS_congr {lo : Int} {l m : List (Int × Int)} (hl : ∀ p ∈ l, lo < p.1 ∧ p.1 < p.2) (hm : ∀ p ∈ m, lo < p.1 ∧ p.1 < p.2) (h : ∀ x, InS x l ↔ InS x m) : covS l = covS m := by
  obtain ⟨a1, a2⟩ := covS_ok hl
  obtain ⟨b1, b2⟩ := covS_ok hm
  exact a1.uniq b1 fun x => by rw [a2, b2, h]
theorem joinGo_len : ∀ (l : List (Int × Int)) (a b : Int), (joinGo a b l).length ≤ l.length + 1
  | [], _, _ => by simp [joinGo]
  | q :: l, a, b => by
    unfold joinGo
    split
    · have := joinGo_len l (min a q.1) (max b q.2); simp; omega
    · simp
theorem join1_len : ∀ (l : List (Int × Int)) (p : Int × Int), (join1 l p).length ≤ l.length + 1
  | [], _ => by simp [join1]
  | q :: l, p => by
    unfold join1
    split
    · have := join1_len l p; simp; omega
    · exact joinGo_len _ _ _
theorem covS_len : ∀ (l m : List (Int × Int)), (l.foldl join1 m).length ≤ m.length + l.length
  | [], m => by simp
  | p :: l, m => by
    have := covS_len l (join1 m p); have := join1_len m p
    rw [List.foldl_cons, List.length_cons]; omega
end Go.Proofs.YtfdglihcpfpefaaGreat
