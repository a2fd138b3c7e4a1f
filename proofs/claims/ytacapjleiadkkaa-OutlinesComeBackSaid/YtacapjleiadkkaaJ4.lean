/- Two lists of stretches, merged: the program's line. Plain Lean about the plain functions. Bands: the sides of their set. Plain Lean about the plain functions. Conditions: none beyond each theorem's own. The sides of bands are the border of their set. Plain Lean. Conditions: none beyond each theorem's own. Sets: what the program tells of them. Plain Lean about the plain functions. Outlines of regions: the program's are the borders. Plain Lean about the plain functions. Conditions: none beyond each theorem's own. Closed rows of points: what they go around, by heights (as for plots). Plain Lean. Conditions: none beyond each theorem's own. Rows of points: their errors. Plain Lean about the plain functions. Conditions: none beyond each theorem's own. What closed rows go around, as the program finds it (as for plots). Plain Lean about the plain functions. Conditions: none beyond each theorem's own. Outlines come back: what is filled of them is the region. Plain Lean about the plain functions. Conditions: none beyond each theorem's own. Chapter 1: the law's own small region. Plain Lean about the plain functions. The law: the outlines of a region come back. Plain Lean about the plain functions. Conditions: none beyond each theorem's own. -/
import Derived.Test.YtacapjleiadkkaaJ3
import Derived.Test.YtacapjleiadkkaaXF
namespace Go.Proofs.Ytacapjleiadkkaa
/-- How often a border lies at or before a number: odd. -/
def par (x : Int) : List Int → Bool
  | [] => false
  | a :: l => xor (decide (a ≤ x)) (par x l)
theorem par_append (x : Int) : ∀ l m : List Int, par x (l ++ m) = xor (par x l) (par x m)
  | [], m => by simp [par]
  | a :: l, m => by rw [List.cons_append, par, par_append x l m, par, Bool.xor_assoc]
theorem par_lo {x : Int} : ∀ {l : List Int}, (∀ a ∈ l, x < a) → par x l = false
  | [], _ => rfl
  | a :: l, h => by
    rw [par, par_lo fun b hb => h b (by simp [hb]), decide_eq_false (by have := h a (by simp); omega)]; rfl
theorem odd_cons (n : Nat) : ((n + 1) % 2 == 1) = !(n % 2 == 1) := by
  rcases Nat.mod_two_eq_zero_or_one n with h | h
  · have : (n + 1) % 2 = 1 := by omega
    rw [h, this]; rfl
  · have : (n + 1) % 2 = 0 := by omega
    rw [h, this]; rfl
theorem par_hi {x : Int} : ∀ {l : List Int}, (∀ a ∈ l, a ≤ x) → par x l = (l.length % 2 == 1)
  | [], _ => rfl
  | a :: l, h => by
    rw [par, par_hi fun b hb => h b (by simp [hb]), decide_eq_true (h a (by simp)), List.length_cons, odd_cons, Bool.true_xor]
theorem InS_par : ∀ {l : List (Int × Int)} {lo x : Int}, Can lo l → (InS x l ↔ par x (flatS l) = true)
  | [], _, _, _ => by simp [InS_nil, flatS_nil, par]
  | p :: l, lo, x, h => by
    obtain ⟨h1, h2, h3⟩ := h
    have ih := InS_par (x := x) h3
    have hl := fun hx : InS x l => h3.lt hx
    rw [InS_cons, flatS_cons, par, par]
    cases hp : par x (flatS l)
    · rw [hp] at ih
      have : ¬ InS x l := fun hx => by have := ih.1 hx; cases this
      by_cases a : p.1 ≤ x <;> by_cases b : p.2 ≤ x <;> simp [a, b, this] <;> omega
    · rw [hp] at ih
      have h4 := ih.2 rfl
      have := hl h4
      have a : p.1 ≤ x := by omega
      have b : p.2 ≤ x := by omega
      simp [a, b, h4]
theorem Can.strict : ∀ {l : List (Int × Int)} {lo : Int}, Can lo l → (flatS l).Pairwise (fun x y => x < y) ∧ ∀ z ∈ flatS l, lo < z
  | [], _, _ => ⟨List.Pairwise.nil, by simp [flatS_nil]⟩
  | p :: l, lo, h => by
    obtain ⟨h1, h2, h3⟩ := h
    obtain ⟨i1, i2⟩ := h3.strict
    rw [flatS_cons]
    refine ⟨List.pairwise_cons.2 ⟨fun z hz => ?_, List.pairwise_cons.2 ⟨i2, i1⟩⟩, fun z hz => ?_⟩
    · rcases List.mem_cons.1 hz with rfl | hz
      · exact h2
      · have := i2 z hz; omega
    · rcases List.mem_cons.1 hz with rfl | hz
      · exact h1
      · rcases List.mem_cons.1 hz with rfl | hz
        · omega
        · have := i2 z hz; omega
theorem strict_can : ∀ (l : List Int) (lo : Int), l.Pairwise (fun x y => x < y) → (∀ z ∈ l, lo < z) → (l.length % 2 == 1) = false → ∃ C, Can lo C ∧ flatS C = l
  | [], _, _, _, _ => ⟨[], trivial, rfl⟩
  | [a], _, _, _, h => by simp at h
  | a :: b :: l, lo, h1, h2, h3 => by
    have k := List.pairwise_cons.1 h1
    have k2 := List.pairwise_cons.1 k.2
    obtain ⟨C, c1, c2⟩ := strict_can l b k2.2 k2.1 (by rw [List.length_cons, List.length_cons, odd_cons, odd_cons, Bool.not_not] at h3; exact h3)
    exact ⟨(a, b) :: C, ⟨h2 a (by simp), k.1 b (by simp), c1⟩, by rw [flatS_cons, c2]⟩
theorem cut_tail {α : Type} (x : α) (l : List α) : cut (x :: l) 1 ((x :: l).length : Int) = some l := by
  unfold cut
  rw [if_pos ⟨by omega, by simp; omega, by omega⟩]
  simp
/-- What a merge of two lists of borders says. -/
structure LineOk (k : Bool → Bool → Bool) (a b out : List Int) (inA inB : Bool) (r : List Int) : Prop where
  strict : r.Pairwise fun x y => x < y
  mem : ∀ z ∈ r, z ∈ out ∨ z ∈ a ∨ z ∈ b
  len : r.length ≤ out.length + a.length + b.length
  hi : ∀ z, (∀ o ∈ out, o ≤ z) → par z r = k (xor inA (par z a)) (xor inB (par z b))
  lo : ∀ z, (∃ o ∈ out, z < o) → par z r = par z out
theorem line_step {k : Bool → Bool → Bool} {f : Bool → Bool → Option Bool} (hf : ∀ a b, f a b = some (k a b)) {m : Nat} {a b a1 b1 out : List Int} {inA inB inA1 inB1 is : Bool} {X : Int}
    (ih : ∀ (out : List Int) (is : Bool), out.Pairwise (fun x y => x < y) → (∀ o ∈ out, (∀ x ∈ a1, o < x) ∧ ∀ x ∈ b1, o < x) → is = k inA1 inB1 → is = (out.length % 2 == 1) → out.length + a1.length + b1.length ≤ 4000000000 → ∃ r, F_shape_line_L7 f m a1 b1 out inA1 inB1 is = some r ∧ LineOk k a1 b1 out inA1 inB1 r)
    (hs : out.Pairwise fun x y => x < y) (ho : ∀ o ∈ out, o < X) (ha1 : ∀ x ∈ a1, X < x) (hb1 : ∀ x ∈ b1, X < x) (hi : is = k inA inB) (hp : is = (out.length % 2 == 1)) (hl : out.length + a1.length + b1.length + 1 ≤ out.length + a.length + b.length) (hl2 : out.length + a.length + b.length ≤ 4000000000)
    (pa : ∀ z, X ≤ z → xor inA (par z a) = xor inA1 (par z a1)) (pb : ∀ z, X ≤ z → xor inB (par z b) = xor inB1 (par z b1)) (pa0 : ∀ z, z < X → par z a = false) (pb0 : ∀ z, z < X → par z b = false)
    (hm : ∀ z, z ∈ a1 → z ∈ a) (hm2 : ∀ z, z ∈ b1 → z ∈ b) (hX : X ∈ a ∨ X ∈ b) :
    ∃ r, F_shape_line_J8 f out is (F_shape_line_L7 f m) X a1 inA1 b1 inB1 = some r ∧ LineOk k a b out inA inB r := by
  unfold F_shape_line_J8
  rw [hf, Option.bind_some]
  by_cases hk : k inA1 inB1 = is
  · rw [if_neg (by simp [hk])]
    obtain ⟨r, h1, h2⟩ := ih out is hs (fun o h => ⟨fun x hx => by have := ho o h; have := ha1 x hx; omega, fun x hx => by have := ho o h; have := hb1 x hx; omega⟩) hk.symm hp (by omega)
    refine ⟨r, h1, h2.strict, fun z hz => ?_, by have := h2.len; omega, fun z hz => ?_, h2.lo⟩
    · rcases h2.mem z hz with h | h | h
      · exact .inl h
      · exact .inr (.inl (hm z h))
      · exact .inr (.inr (hm2 z h))
    · rw [h2.hi z hz]
      by_cases hxz : X ≤ z
      · rw [pa z hxz, pb z hxz]
      · rw [pa0 z (by omega), pb0 z (by omega), par_lo fun x hx => by have := ha1 x hx; omega, par_lo fun x hx => by have := hb1 x hx; omega, Bool.xor_false, Bool.xor_false, Bool.xor_false, Bool.xor_false, hk, hi]
  · rw [if_pos (by simpa using hk), apd_ok (by simp; omega), Option.bind_some]
    obtain ⟨r, h1, h2⟩ := ih (out ++ [X]) (k inA1 inB1) (List.pairwise_append.2 ⟨hs, List.pairwise_singleton _ _, fun o h x hx => by simp at hx; subst hx; exact ho o h⟩) (fun o h => by
      rcases List.mem_append.1 h with h | h
      · exact ⟨fun x hx => by have := ho o h; have := ha1 x hx; omega, fun x hx => by have := ho o h; have := hb1 x hx; omega⟩
      · simp at h; subst h; exact ⟨ha1, hb1⟩) rfl (by
      rw [List.length_append, List.length_singleton, odd_cons, ← hp]
      cases hv : k inA1 inB1 <;> cases is <;> simp_all) (by simp; omega)
    refine ⟨r, h1, h2.strict, fun z hz => ?_, by have := h2.len; simp at this; omega, fun z hz => ?_, fun z hz => ?_⟩
    · rcases h2.mem z hz with h | h | h
      · rcases List.mem_append.1 h with h | h
        · exact .inl h
        · simp at h; subst h
          rcases hX with h | h
          · exact .inr (.inl h)
          · exact .inr (.inr h)
      · exact .inr (.inl (hm z h))
      · exact .inr (.inr (hm2 z h))
    · by_cases hxz : X ≤ z
      · rw [h2.hi z (fun o h => by
          rcases List.mem_append.1 h with h | h
          · exact hz o h
          · simp at h; omega), pa z hxz, pb z hxz]
      · rw [h2.lo z ⟨X, by simp, by omega⟩, par_append, pa0 z (by omega), pb0 z (by omega), Bool.xor_false, Bool.xor_false, par_hi hz, ← hp, hi, par_lo (l := [X]) (fun x hx => by simp at hx; omega), Bool.xor_false]
    · obtain ⟨o, h, hzo⟩ := hz
      rw [h2.lo z ⟨o, by simp [h], hzo⟩, par_append, par_lo (l := [X]) (fun x hx => by simp at hx; have := ho o h; omega), Bool.xor_false]
theorem line_go {k : Bool → Bool → Bool} {f : Bool → Bool → Option Bool} (hf : ∀ a b, f a b = some (k a b)) : ∀ (m : Nat) (a b out : List Int) (inA inB is : Bool), a.length + b.length < m → a.Pairwise (fun x y => x < y) → b.Pairwise (fun x y => x < y) → out.Pairwise (fun x y => x < y) → (∀ o ∈ out, (∀ x ∈ a, o < x) ∧ ∀ x ∈ b, o < x) → is = k inA inB → is = (out.length % 2 == 1) → out.length + a.length + b.length ≤ 4000000000 →
    ∃ r, F_shape_line_L7 f m a b out inA inB is = some r ∧ LineOk k a b out inA inB r
  | 0, _, _, _, _, _, _, h, _, _, _, _, _, _, _ => absurd h (Nat.not_lt_zero _)
  | m + 1, [], [], out, inA, inB, is, _, _, _, hs, _, hi, hp, _ => by
    rw [F_shape_line_L7.eq_2, if_neg (by simp)]
    exact ⟨out, rfl, hs, fun z hz => .inl hz, by simp, fun z hz => by rw [par_hi hz, ← hp, hi]; simp [par], fun _ _ => rfl⟩
  | m + 1, x :: a, [], out, inA, inB, is, hm, sa, sb, hs, ho, hi, hp, hl => by
    have ha := List.pairwise_cons.1 sa
    rw [F_shape_line_L7.eq_2, if_pos (by simp), if_pos (by simp), Option.bind_some, if_pos rfl, show idx (x :: a) 0 = some x from rfl, Option.bind_some]
    unfold F_shape_line_J10
    rw [if_pos (by simp), show idx (x :: a) 0 = some x from rfl, Option.bind_some, Option.bind_some, if_pos (by simp), cut_tail, Option.bind_some]
    unfold F_shape_line_J9
    rw [if_neg (by simp), Option.bind_some, if_neg (by simp)]
    simp only [List.length_cons, List.length_nil] at hm hl
    refine line_step (m := m) (a := x :: a) (b := []) hf (fun o i k1 k2 k3 k4 k5 => line_go hf m a [] o (!inA) inB i (by simp; omega) ha.2 sb k1 k2 k3 k4 k5) hs (fun o h => (ho o h).1 x (by simp)) ha.1 (by simp) hi hp (by simp; omega) (by simp; omega) (fun z hz => ?_) (fun _ _ => rfl) (fun z hz => par_lo fun y hy => ?_) (fun _ _ => rfl) (fun z h => by simp [h]) (fun z h => h) (.inl (by simp))
    · rw [par, decide_eq_true hz]; cases inA <;> cases par z a <;> rfl
    · rcases List.mem_cons.1 hy with rfl | hy
      · exact hz
      · have := ha.1 y hy; omega
  | m + 1, [], y :: b, out, inA, inB, is, hm, sa, sb, hs, ho, hi, hp, hl => by
    have hb := List.pairwise_cons.1 sb
    rw [F_shape_line_L7.eq_2, if_pos (by simp), if_neg (by simp; omega), if_neg (by simp), Option.bind_some, Option.bind_some, if_neg (by simp), show idx (y :: b) 0 = some y from rfl, Option.bind_some]
    unfold F_shape_line_J10
    rw [if_neg (by simp), Option.bind_some, if_neg (by simp)]
    unfold F_shape_line_J9
    rw [if_pos (by simp), show idx (y :: b) 0 = some y from rfl, Option.bind_some, Option.bind_some, if_pos (by simp), cut_tail, Option.bind_some]
    simp only [List.length_cons, List.length_nil] at hm hl
    refine line_step (m := m) (a := []) (b := y :: b) hf (fun o i k1 k2 k3 k4 k5 => line_go hf m [] b o inA (!inB) i (by simp; omega) sa hb.2 k1 k2 k3 k4 k5) hs (fun o h => (ho o h).2 y (by simp)) (by simp) hb.1 hi hp (by simp; omega) (by simp; omega) (fun _ _ => rfl) (fun z hz => ?_) (fun _ _ => rfl) (fun z hz => par_lo fun x hx => ?_) (fun z h => h) (fun z h => by simp [h]) (.inr (by simp))
    · rw [par, decide_eq_true hz]; cases inB <;> cases par z b <;> rfl
    · rcases List.mem_cons.1 hx with rfl | hx
      · exact hz
      · have := hb.1 x hx; omega
  | m + 1, x :: a, y :: b, out, inA, inB, is, hm, sa, sb, hs, ho, hi, hp, hl => by
    have ha := List.pairwise_cons.1 sa
    have hb := List.pairwise_cons.1 sb
    have e1 : idx (x :: a) 0 = some x := rfl
    have e2 : idx (y :: b) 0 = some y := rfl
    simp only [List.length_cons] at hm hl
    rw [F_shape_line_L7.eq_2, if_pos (by simp), if_neg (by simp; omega), if_pos (by simp), e1, Option.bind_some, e2, Option.bind_some, Option.bind_some, Option.bind_some]
    simp only [Option.bind_some]
    have hxa : ∀ z, x ≤ z → xor inA (par z (x :: a)) = xor (!inA) (par z a) := fun z hz => by rw [par, decide_eq_true hz]; cases inA <;> cases par z a <;> rfl
    have hyb : ∀ z, y ≤ z → xor inB (par z (y :: b)) = xor (!inB) (par z b) := fun z hz => by rw [par, decide_eq_true hz]; cases inB <;> cases par z b <;> rfl
    have hax : ∀ z, z < x → par z (x :: a) = false := fun z hz => par_lo fun v hv => by
      rcases List.mem_cons.1 hv with rfl | hv
      · exact hz
      · have := ha.1 v hv; omega
    have hby : ∀ z, z < y → par z (y :: b) = false := fun z hz => par_lo fun v hv => by
      rcases List.mem_cons.1 hv with rfl | hv
      · exact hz
      · have := hb.1 v hv; omega
    by_cases hxy : x ≤ y
    · rw [if_pos (by simpa using hxy)]
      unfold F_shape_line_J10
      rw [if_pos (by simp), e1, Option.bind_some, Option.bind_some, if_pos (by simp), cut_tail, Option.bind_some]
      unfold F_shape_line_J9
      rw [if_pos (by simp), e2, Option.bind_some, Option.bind_some]
      by_cases he : y = x
      · subst he
        rw [if_pos (by simp), cut_tail, Option.bind_some]
        exact line_step (m := m) (a := y :: a) (b := y :: b) hf (fun o i k1 k2 k3 k4 k5 => line_go hf m a b o (!inA) (!inB) i (by omega) ha.2 hb.2 k1 k2 k3 k4 k5) hs (fun o h => (ho o h).1 y (by simp)) ha.1 hb.1 hi hp (by simp; omega) (by simp; omega) hxa hyb hax hby (fun z h => by simp [h]) (fun z h => by simp [h]) (.inl (by simp))
      · rw [if_neg (by simpa using he)]
        exact line_step (m := m) (a := x :: a) (b := y :: b) hf (fun o i k1 k2 k3 k4 k5 => line_go hf m a (y :: b) o (!inA) inB i (by simp; omega) ha.2 sb k1 k2 k3 k4 k5) hs (fun o h => (ho o h).1 x (by simp)) ha.1 (fun v hv => by
          rcases List.mem_cons.1 hv with rfl | hv
          · omega
          · have := hb.1 v hv; omega) hi hp (by simp; omega) (by simp; omega) hxa (fun _ _ => rfl) hax (fun z hz => hby z (by omega)) (fun z h => by simp [h]) (fun z h => h) (.inl (by simp))
    · rw [if_neg (by simpa using hxy)]
      unfold F_shape_line_J10
      rw [if_pos (by simp), e1, Option.bind_some, Option.bind_some, if_neg (by simp; omega)]
      unfold F_shape_line_J9
      rw [if_pos (by simp), e2, Option.bind_some, Option.bind_some, if_pos (by simp), cut_tail, Option.bind_some]
      exact line_step (m := m) (a := x :: a) (b := y :: b) hf (fun o i k1 k2 k3 k4 k5 => line_go hf m (x :: a) b o inA (!inB) i (by simp; omega) sa hb.2 k1 k2 k3 k4 k5) hs (fun o h => (ho o h).2 y (by simp)) (fun v hv => by
          rcases List.mem_cons.1 hv with rfl | hv
          · omega
          · have := ha.1 v hv; omega) hb.1 hi hp (by simp; omega) (by simp; omega) (fun _ _ => rfl) hyb (fun z hz => hax z (by omega)) hby (fun z h => h) (fun z h => by simp [h]) (.inr (by simp))
theorem up_ex : ∀ l : List Int, ∃ z, ∀ a ∈ l, a ≤ z
  | [] => ⟨0, by simp⟩
  | b :: l => by
    obtain ⟨z, h⟩ := up_ex l
    refine ⟨max z b, fun a ha => ?_⟩
    rcases List.mem_cons.1 ha with rfl | ha
    · omega
    · have := h a ha; omega
theorem lo_ex : ∀ l : List Int, ∃ z, ∀ a ∈ l, z < a
  | [] => ⟨0, by simp⟩
  | b :: l => by
    obtain ⟨z, h⟩ := lo_ex l
    refine ⟨min z (b - 1), fun a ha => ?_⟩
    rcases List.mem_cons.1 ha with rfl | ha
    · omega
    · have := h a ha; omega
theorem even_two (n : Nat) : (2 * n % 2 == 1) = false := by
  have : 2 * n % 2 = 0 := by omega
  rw [this]; rfl
/-- Merged stretches: where the two say so. -/
theorem line_ok {k : Bool → Bool → Bool} {f : Bool → Bool → Option Bool} (hf : ∀ a b, f a b = some (k a b)) (hk : k false false = false) {N : Nat} {l m : List (Int × Int)} (hl : ∃ lo, Can lo l) (hm : ∃ lo, Can lo m) (hlen : 2 * l.length + 2 * m.length < N) (hlen2 : 2 * l.length + 2 * m.length ≤ 4000000000) :
    ∃ C, F_shape_line N (flatS l) (flatS m) f = some (flatS C) ∧ (∃ lo, Can lo C) ∧ C.length ≤ l.length + m.length ∧ ∀ x, InS x C ↔ ∃ p q, (p = true ↔ InS x l) ∧ (q = true ↔ InS x m) ∧ k p q = true := by
  obtain ⟨lo1, c1⟩ := hl
  obtain ⟨lo2, c2⟩ := hm
  obtain ⟨r, h1, h2⟩ := line_go hf N (flatS l) (flatS m) [] false false false (by rw [flatS_len, flatS_len]; exact hlen) c1.strict.1 c2.strict.1 List.Pairwise.nil (by simp) hk.symm rfl (by rw [flatS_len, flatS_len]; simpa using hlen2)
  have hpar : ∀ z, par z r = k (par z (flatS l)) (par z (flatS m)) := fun z => by
    have := h2.hi z (by simp)
    rw [Bool.false_xor, Bool.false_xor] at this
    exact this
  have hodd : (r.length % 2 == 1) = false := by
    obtain ⟨z, hz⟩ := up_ex (r ++ flatS l ++ flatS m)
    rw [← par_hi (x := z) (l := r) (fun a ha => hz a (by simp [ha])), hpar z, par_hi (x := z) (l := flatS l) (fun a ha => hz a (by simp [ha])), par_hi (x := z) (l := flatS m) (fun a ha => hz a (by simp [ha])), flatS_len, flatS_len, even_two, even_two, hk]
  obtain ⟨lo, hlo⟩ := lo_ex r
  obtain ⟨C, d1, d2⟩ := strict_can r lo h2.strict hlo hodd
  refine ⟨C, by rw [d2]; exact h1, ⟨lo, d1⟩, ?_, fun x => ?_⟩
  · have := h2.len
    rw [← d2, flatS_len, flatS_len, flatS_len] at this
    simp at this
    omega
  · rw [InS_par d1, d2, hpar]
    constructor
    · intro h
      exact ⟨_, _, (InS_par c1).symm, (InS_par c2).symm, h⟩
    · rintro ⟨p, q, hp, hq, h⟩
      have e1 : p = par x (flatS l) := by rw [Bool.eq_iff_iff, hp, InS_par c1]
      have e2 : q = par x (flatS m) := by rw [Bool.eq_iff_iff, hq, InS_par c2]
      rw [← e1, ← e2]; exact h
end Go.Proofs.Ytacapjleiadkkaa
namespace Go.Proofs.Ytacapjleiadkkaa
open PX
/-- A step lies on a side. -/
def On (s : Sd) (e : Ed) : Prop := ∃ i, i < s.2 ∧ adv s.1 i = e
def Dj (s t : Sd) : Prop := ∀ e, On s e → ¬ On t e
theorem sysB_of {I : Sq} {L : List Sd} (hp : ∀ s ∈ L, 0 < s.2) (hon : ∀ e, (∃ s ∈ L, On s e) ↔ isB I e) (hd : L.Pairwise Dj) : SysB I L where
  pos := hp
  bor := fun s hs i hi => (hon _).1 ⟨s, hs, i, hi, rfl⟩
  all := fun e he => (hon e).2 he
  once := fun a b s t ha hb i j hi hj he => by
    obtain ⟨ha', rfl⟩ := List.getElem?_eq_some_iff.1 ha
    obtain ⟨hb', rfl⟩ := List.getElem?_eq_some_iff.1 hb
    rw [List.pairwise_iff_getElem] at hd
    rcases Nat.lt_trichotomy a b with h | h | h
    · exact absurd ⟨j, hj, rfl⟩ (hd a b ha' hb' h _ ⟨i, hi, he⟩)
    · exact h
    · exact absurd ⟨i, hi, rfl⟩ (hd b a hb' ha' h _ ⟨j, hj, he.symm⟩)
/-! The four kinds of sides. -/
def sdS (y0 y1 : Int) (p : Int × Int) : Sd := (⟨p.1, y1, .S⟩, (y1 - y0).toNat)
def sdN (y0 y1 : Int) (p : Int × Int) : Sd := (⟨p.2, y0, .N⟩, (y1 - y0).toNat)
def sdW (y : Int) (p : Int × Int) : Sd := (⟨p.2, y, .W⟩, (p.2 - p.1).toNat)
def sdE (y : Int) (p : Int × Int) : Sd := (⟨p.1, y, .E⟩, (p.2 - p.1).toNat)
theorem on_S {y0 y1 : Int} {p : Int × Int} {e : Ed} : On (sdS y0 y1 p) e ↔ e.d = .S ∧ e.x = p.1 ∧ y0 < e.y ∧ e.y ≤ y1 := by
  unfold On sdS adv
  constructor
  · rintro ⟨i, hi, rfl⟩
    simp only [Dir.dx, Dir.dy] at *
    exact ⟨trivial, by omega, by omega, by omega⟩
  · rintro ⟨h1, h2, h3, h4⟩
    refine ⟨(y1 - e.y).toNat, by simp only; omega, Ed.ext' ?_ ?_ h1.symm⟩ <;> simp only [Dir.dx, Dir.dy] <;> omega
theorem on_N {y0 y1 : Int} {p : Int × Int} {e : Ed} : On (sdN y0 y1 p) e ↔ e.d = .N ∧ e.x = p.2 ∧ y0 ≤ e.y ∧ e.y < y1 := by
  unfold On sdN adv
  constructor
  · rintro ⟨i, hi, rfl⟩
    simp only [Dir.dx, Dir.dy] at *
    exact ⟨trivial, by omega, by omega, by omega⟩
  · rintro ⟨h1, h2, h3, h4⟩
    refine ⟨(e.y - y0).toNat, by simp only; omega, Ed.ext' ?_ ?_ h1.symm⟩ <;> simp only [Dir.dx, Dir.dy] <;> omega
theorem on_W {y : Int} {p : Int × Int} {e : Ed} : On (sdW y p) e ↔ e.d = .W ∧ e.y = y ∧ p.1 < e.x ∧ e.x ≤ p.2 := by
  unfold On sdW adv
  constructor
  · rintro ⟨i, hi, rfl⟩
    simp only [Dir.dx, Dir.dy] at *
    exact ⟨trivial, by omega, by omega, by omega⟩
  · rintro ⟨h1, h2, h3, h4⟩
    refine ⟨(p.2 - e.x).toNat, by simp only; omega, Ed.ext' ?_ ?_ h1.symm⟩ <;> simp only [Dir.dx, Dir.dy] <;> omega
theorem on_E {y : Int} {p : Int × Int} {e : Ed} : On (sdE y p) e ↔ e.d = .E ∧ e.y = y ∧ p.1 ≤ e.x ∧ e.x < p.2 := by
  unfold On sdE adv
  constructor
  · rintro ⟨i, hi, rfl⟩
    simp only [Dir.dx, Dir.dy] at *
    exact ⟨trivial, by omega, by omega, by omega⟩
  · rintro ⟨h1, h2, h3, h4⟩
    refine ⟨(e.x - p.1).toNat, by simp only; omega, Ed.ext' ?_ ?_ h1.symm⟩ <;> simp only [Dir.dx, Dir.dy] <;> omega
/-! Pieces of a line. -/
open Classical in
/-- What a row has above or below another. -/
noncomputable def diffS (A B : List (Int × Int)) : List (Int × Int) := if h : ∃ C, (∃ lo, Can lo C) ∧ ∀ x, InS x C ↔ InS x A ∧ ¬ InS x B then Classical.choose h else []
theorem diffS_ok {A B C : List (Int × Int)} (h1 : ∃ lo, Can lo C) (h2 : ∀ x, InS x C ↔ InS x A ∧ ¬ InS x B) : diffS A B = C := by
  have h : ∃ C, (∃ lo, Can lo C) ∧ ∀ x, InS x C ↔ InS x A ∧ ¬ InS x B := ⟨C, h1, h2⟩
  unfold diffS
  rw [dif_pos h]
  obtain ⟨g1, g2⟩ := Classical.choose_spec h
  exact can_eq g1 h1 fun x => by rw [g2, h2]
structure DiffOk (A B C : List (Int × Int)) : Prop where
  can : ∃ lo, Can lo C
  mem : ∀ x, InS x C ↔ InS x A ∧ ¬ InS x B
  len : C.length ≤ A.length + B.length
theorem line1_ok {N : Nat} {A B : List (Int × Int)} (hN : 10000000000 ≤ N) (hA : ∃ lo, Can lo A) (hB : ∃ lo, Can lo B) (hl : A.length + B.length ≤ 1000000000) : DiffOk A B (diffS A B) ∧ F_shape_line N (flatS A) (flatS B) F_shape_Set__sides_2_1 = some (flatS (diffS A B)) := by
  obtain ⟨C, h1, h2, h3, h4⟩ := line_ok (k := fun a b => a && !b) (f := F_shape_Set__sides_2_1) (fun a b => rfl) rfl (N := N) hA hB (by omega) (by omega)
  have h5 : ∀ x, InS x C ↔ InS x A ∧ ¬ InS x B := fun x => by
    rw [h4]
    constructor
    · rintro ⟨p, q, g1, g2, g3⟩
      simp only [Bool.and_eq_true, Bool.not_eq_true'] at g3
      exact ⟨g1.1 g3.1, fun hh => by have := g2.2 hh; rw [g3.2] at this; cases this⟩
    · rintro ⟨g1, g2⟩
      exact ⟨true, false, by simp [g1], by simp [g2], rfl⟩
  rw [diffS_ok h2 h5]
  exact ⟨⟨h2, h5, h3⟩, h1⟩
theorem line2_ok {N : Nat} {A B : List (Int × Int)} (hN : 10000000000 ≤ N) (hA : ∃ lo, Can lo A) (hB : ∃ lo, Can lo B) (hl : A.length + B.length ≤ 1000000000) : DiffOk B A (diffS B A) ∧ F_shape_line N (flatS A) (flatS B) F_shape_Set__sides_2_2 = some (flatS (diffS B A)) := by
  obtain ⟨C, h1, h2, h3, h4⟩ := line_ok (k := fun a b => b && !a) (f := F_shape_Set__sides_2_2) (fun a b => rfl) rfl (N := N) hA hB (by omega) (by omega)
  have h5 : ∀ x, InS x C ↔ InS x B ∧ ¬ InS x A := fun x => by
    rw [h4]
    constructor
    · rintro ⟨p, q, g1, g2, g3⟩
      simp only [Bool.and_eq_true, Bool.not_eq_true'] at g3
      exact ⟨g2.1 g3.1, fun hh => by have := g1.2 hh; rw [g3.2] at this; cases this⟩
    · rintro ⟨g1, g2⟩
      exact ⟨false, true, by simp [g2], by simp [g1], rfl⟩
  rw [diffS_ok h2 h5]
  exact ⟨⟨h2, h5, by omega⟩, h1⟩
/-- The sides at a level: a row below, one above. -/
noncomputable def hz (y : Int) (A B : List (Int × Int)) : List Sd := (diffS A B).map (sdW y) ++ (diffS B A).map (sdE y)
def vt (b : Bd) : List Sd := b.2.2.flatMap fun p => [sdS b.1 b.2.1 p, sdN b.1 b.2.1 p]
/-- The row that touches a band from below. -/
def lowR (prev : Option Bd) (b : Bd) : List (Int × Int) := match prev with
  | none => []
  | some c => if c.2.1 < b.1 then [] else c.2.2
/-- The sides at the upper end of a band, if nothing touches it there. -/
noncomputable def topR (b : Bd) (rest : List Bd) : List Sd := match rest with
  | [] => hz b.2.1 b.2.2 []
  | c :: _ => if b.2.1 < c.1 then hz b.2.1 b.2.2 [] else []
noncomputable def sidesQ : Option Bd → List Bd → List Sd
  | _, [] => []
  | prev, b :: rest => vt b ++ hz b.1 (lowR prev b) b.2.2 ++ topR b rest ++ sidesQ (some b) rest
/-! The program makes them. -/
theorem toS_S {y0 y1 : Int} {p : Int × Int} (h : y0 < y1) : toS (sdS y0 y1 p) = ⟨⟨p.1, y1⟩, ⟨p.1, y0⟩⟩ := by
  unfold toS endP sdS adv toPt Ed.p
  simp only [Dir.dx, Dir.dy, TSide.mk.injEq, TPoint.mk.injEq]
  exact ⟨trivial, by omega, by omega⟩
theorem toS_N {y0 y1 : Int} {p : Int × Int} (h : y0 < y1) : toS (sdN y0 y1 p) = ⟨⟨p.2, y0⟩, ⟨p.2, y1⟩⟩ := by
  unfold toS endP sdN adv toPt Ed.p
  simp only [Dir.dx, Dir.dy, TSide.mk.injEq, TPoint.mk.injEq]
  exact ⟨trivial, by omega, by omega⟩
theorem toS_W {y : Int} {p : Int × Int} (h : p.1 < p.2) : toS (sdW y p) = ⟨⟨p.2, y⟩, ⟨p.1, y⟩⟩ := by
  unfold toS endP sdW adv toPt Ed.p
  simp only [Dir.dx, Dir.dy, TSide.mk.injEq, TPoint.mk.injEq]
  exact ⟨trivial, by omega, by omega⟩
theorem toS_E {y : Int} {p : Int × Int} (h : p.1 < p.2) : toS (sdE y p) = ⟨⟨p.1, y⟩, ⟨p.2, y⟩⟩ := by
  unfold toS endP sdE adv toPt Ed.p
  simp only [Dir.dx, Dir.dy, TSide.mk.injEq, TPoint.mk.injEq]
  exact ⟨trivial, by omega, by omega⟩
theorem flat_fst (pre suf : List (Int × Int)) (p : Int × Int) : idx (flatS (pre ++ p :: suf)) ((2 * pre.length : Nat) : Int) = some p.1 := by
  have h := idx_mid (flatS pre) (p.2 :: flatS suf) p.1
  rw [flatS_len] at h
  rw [flatS_append, flatS_cons]; exact h
theorem flat_snd (pre suf : List (Int × Int)) (p : Int × Int) : idx (flatS (pre ++ p :: suf)) ((2 * pre.length + 1 : Nat) : Int) = some p.2 := by
  have h := idx_mid (flatS pre ++ [p.1]) (flatS suf) p.2
  rw [List.length_append, flatS_len, List.length_singleton, List.append_assoc] at h
  rw [flatS_append, flatS_cons]; exact h
theorem sides1_ok {a b c d : Int} {out : List TSide} (h : out.length < 1000000000) : F_shape_Set__sides_1 a b c d out = some (out ++ [⟨⟨a, b⟩, ⟨c, d⟩⟩]) := by
  unfold F_shape_Set__sides_1
  rw [apd_ok (by simp; omega)]; rfl
theorem len_flat {l : List (Int × Int)} {C pre suf : List (Int × Int)} (h : C = pre ++ suf) : (flatS C).length = 2 * pre.length + 2 * suf.length := by rw [h, flatS_len, List.length_append]; omega
theorem can_pos {l : List (Int × Int)} (h : ∃ lo, Can lo l) : ∀ p ∈ l, p.1 < p.2 := fun p hp => by
  obtain ⟨lo, h⟩ := h
  exact (h.mem p hp).2
theorem east_loop {y : Int} {C : List (Int × Int)} (hC : ∀ p ∈ C, p.1 < p.2) (hl : C.length ≤ 1000000000) : ∀ (suf pre : List (Int × Int)) (m : Nat) (out : List Sd), C = pre ++ suf → suf.length < m → out.length + suf.length ≤ 100000000 →
    F_shape_Set__sides_2__sides_1_L2 y (flatS C) m (out.map toS) ((2 * pre.length : Nat) : Int) = some ((out ++ suf.map (sdE y)).map toS)
  | _, _, 0, _, _, hm, _ => absurd hm (Nat.not_lt_zero _)
  | [], pre, m + 1, out, h, _, _ => by
    rw [F_shape_Set__sides_2__sides_1_L2.eq_2, if_neg (by rw [len_flat (l := C) h]; simp)]; simp
  | p :: suf, pre, m + 1, out, h, hm, ho => by
    have hpl : pre.length ≤ 1000000000 := by rw [h] at hl; simp at hl; omega
    rw [F_shape_Set__sides_2__sides_1_L2.eq_2, if_pos (by rw [len_flat (l := C) h]; simp; omega)]
    have e1 : w64 (((2 * pre.length : Nat) : Int) + 1) = ((2 * pre.length + 1 : Nat) : Int) := by rw [w64_id (by omega) (by omega)]; omega
    have e2 : w64 (((2 * pre.length : Nat) : Int) + 2) = ((2 * (pre ++ [p]).length : Nat) : Int) := by rw [w64_id (by omega) (by omega)]; simp; omega
    have i1 := flat_fst pre suf p
    have i2 := flat_snd pre suf p
    rw [← h] at i1 i2
    simp only [List.length_cons] at hm ho
    rw [e1, e2, i1, Option.bind_some, i2, Option.bind_some, sides1_ok (by rw [List.length_map]; omega), Option.bind_some]
    have := east_loop (y := y) hC hl suf (pre ++ [p]) m (out ++ [sdE y p]) (by rw [h]; simp) (by omega) (by simp; omega)
    rw [List.map_append, List.map_singleton, toS_E (hC p (by rw [h]; simp))] at this
    rw [this]; simp
theorem west_loop {N : Nat} {y : Int} {A B : List Int} {C : List (Int × Int)} (hC : ∀ p ∈ C, p.1 < p.2) (hl : C.length ≤ 1000000000) : ∀ (suf pre : List (Int × Int)) (m : Nat) (out : List Sd), C = pre ++ suf → suf.length < m → out.length + suf.length ≤ 100000000 →
    F_shape_Set__sides_2__sides_1_L1 N y A B (flatS C) m (out.map toS) ((2 * pre.length : Nat) : Int) = (F_shape_line N A B F_shape_Set__sides_2_2).bind fun y122 => F_shape_Set__sides_2__sides_1_L2 y y122 N ((out ++ suf.map (sdW y)).map toS) 0
  | _, _, 0, _, _, hm, _ => absurd hm (Nat.not_lt_zero _)
  | [], pre, m + 1, out, h, _, _ => by
    rw [F_shape_Set__sides_2__sides_1_L1.eq_2, if_neg (by rw [len_flat (l := C) h]; simp)]; simp
  | p :: suf, pre, m + 1, out, h, hm, ho => by
    have hpl : pre.length ≤ 1000000000 := by rw [h] at hl; simp at hl; omega
    rw [F_shape_Set__sides_2__sides_1_L1.eq_2, if_pos (by rw [len_flat (l := C) h]; simp; omega)]
    have e1 : w64 (((2 * pre.length : Nat) : Int) + 1) = ((2 * pre.length + 1 : Nat) : Int) := by rw [w64_id (by omega) (by omega)]; omega
    have e2 : w64 (((2 * pre.length : Nat) : Int) + 2) = ((2 * (pre ++ [p]).length : Nat) : Int) := by rw [w64_id (by omega) (by omega)]; simp; omega
    have i1 := flat_fst pre suf p
    have i2 := flat_snd pre suf p
    rw [← h] at i1 i2
    simp only [List.length_cons] at hm ho
    rw [e1, e2, i2, Option.bind_some, i1, Option.bind_some, sides1_ok (by rw [List.length_map]; omega), Option.bind_some]
    have := west_loop (N := N) (y := y) (A := A) (B := B) hC hl suf (pre ++ [p]) m (out ++ [sdW y p]) (by rw [h]; simp) (by omega) (by simp; omega)
    rw [List.map_append, List.map_singleton, toS_W (hC p (by rw [h]; simp))] at this
    rw [this]; simp
theorem hz_ok {N : Nat} {y : Int} {A B : List (Int × Int)} {out : List Sd} (hN : 10000000000 ≤ N) (hA : ∃ lo, Can lo A) (hB : ∃ lo, Can lo B) (hl : A.length + B.length ≤ 1000000000) (ho : (out ++ hz y A B).length ≤ 100000000) :
    F_shape_Set__sides_2__sides_1 N y (flatS A) (flatS B) (out.map toS) = some ((out ++ hz y A B).map toS) := by
  obtain ⟨d1, d2⟩ := line1_ok hN hA hB hl
  obtain ⟨d3, d4⟩ := line2_ok hN hA hB hl
  unfold hz at ho
  simp only [List.length_append, List.length_map] at ho
  unfold F_shape_Set__sides_2__sides_1
  show (F_shape_line N (flatS A) (flatS B) F_shape_Set__sides_2_1).bind _ = _
  rw [d2, Option.bind_some]
  have h1 := west_loop (N := N) (y := y) (A := flatS A) (B := flatS B) (can_pos d1.can) (by have := d1.len; omega) (diffS A B) [] N out rfl (by have := d1.len; omega) (by omega)
  have h2 := east_loop (y := y) (can_pos d3.can) (by have := d3.len; omega) (diffS B A) [] N (out ++ (diffS A B).map (sdW y)) rfl (by have := d3.len; omega) (by simp; omega)
  have e0 : ((2 * ([] : List (Int × Int)).length : Nat) : Int) = 0 := rfl
  rw [e0] at h1 h2
  rw [h1, d4, Option.bind_some, h2]
  unfold hz
  rw [List.append_assoc]
theorem vt_loop {N : Nat} {p0 : List TBand} {k : List TSide → Option (List TSide)} {b : Bd} {i : Nat} (hb : b.1 < b.2.1) (hl : b.2.2.length ≤ 1000000000) : ∀ (suf pre : List (Int × Int)) (m : Nat) (out : List Sd), b.2.2 = pre ++ suf → suf.length < m → out.length + 2 * suf.length ≤ 100000000 →
    F_shape_Set__sides_L6 N p0 k (toP b) i m (out.map toS) ((2 * pre.length : Nat) : Int) = F_shape_Set__sides_L6 N p0 k (toP b) i 1 ((out ++ suf.flatMap fun p => [sdS b.1 b.2.1 p, sdN b.1 b.2.1 p]).map toS) ((2 * b.2.2.length : Nat) : Int)
  | _, _, 0, _, _, hm, _ => absurd hm (Nat.not_lt_zero _)
  | [], pre, m + 1, out, h, _, _ => by
    have e : b.2.2.length = pre.length := by rw [h]; simp
    have hx : (toP b).Xs = flatS b.2.2 := rfl
    rw [F_shape_Set__sides_L6.eq_2, F_shape_Set__sides_L6.eq_2, e, hx, if_neg (by rw [len_flat (l := b.2.2) h]; simp), if_neg (c := decide (((2 * pre.length : Nat) : Int) < ((flatS b.2.2).length : Int)) = true) (by rw [len_flat (l := b.2.2) h]; simp)]; simp
  | p :: suf, pre, m + 1, out, h, hm, ho => by
    have hpl : pre.length ≤ 1000000000 := by rw [h] at hl; simp at hl; omega
    have hx : (toP b).Xs = flatS b.2.2 := rfl
    have hy0 : (toP b).Y0 = b.1 := rfl
    have hy1 : (toP b).Y1 = b.2.1 := rfl
    rw [F_shape_Set__sides_L6.eq_2, hx, hy0, hy1, if_pos (by rw [len_flat (l := b.2.2) h]; simp; omega)]
    have e1 : w64 (((2 * pre.length : Nat) : Int) + 1) = ((2 * pre.length + 1 : Nat) : Int) := by rw [w64_id (by omega) (by omega)]; omega
    have e2 : w64 (((2 * pre.length : Nat) : Int) + 2) = ((2 * (pre ++ [p]).length : Nat) : Int) := by rw [w64_id (by omega) (by omega)]; simp; omega
    have i1 := flat_fst pre suf p
    have i2 := flat_snd pre suf p
    rw [← h] at i1 i2
    simp only [List.length_cons] at hm ho
    rw [e1, e2, i1, Option.bind_some, Option.bind_some, sides1_ok (by rw [List.length_map]; omega), Option.bind_some, i2, Option.bind_some, Option.bind_some, sides1_ok (by simp; omega), Option.bind_some]
    have := vt_loop (N := N) (p0 := p0) (k := k) (i := i) hb hl suf (pre ++ [p]) m (out ++ [sdS b.1 b.2.1 p, sdN b.1 b.2.1 p]) (by rw [h]; simp) (by omega) (by simp; omega)
    rw [List.map_append, List.map_cons, List.map_singleton, toS_S hb, toS_N hb] at this
    rw [show (out.map toS ++ [TSide.mk ⟨p.1, b.2.1⟩ ⟨p.1, b.1⟩] ++ [TSide.mk ⟨p.2, b.1⟩ ⟨p.2, b.2.1⟩]) = out.map toS ++ [TSide.mk ⟨p.1, b.2.1⟩ ⟨p.1, b.1⟩, TSide.mk ⟨p.2, b.1⟩ ⟨p.2, b.2.1⟩] from by simp, this]
    simp
theorem len_app {a b : List Sd} {n : Nat} (h : (a ++ b).length ≤ n) : a.length ≤ n := by rw [List.length_append] at h; omega
theorem sidesQ_loop {N : Nat} (hN : 10000000000 ≤ N) {l : List Bd} (hl : l.length ≤ 1000000000) (hlo : ∀ b ∈ l, b.1 < b.2.1 ∧ b.2.2.length ≤ 100000000 ∧ ∃ lo, Can lo b.2.2) : ∀ (suf pre : List Bd) (out : List Sd), l = pre ++ suf → (out ++ sidesQ pre.getLast? suf).length ≤ 100000000 →
    F_shape_Set__sides_L5 N (l.map toP) (suf.map toP) pre.length (out.map toS) = some ((out ++ sidesQ pre.getLast? suf).map toS)
  | [], pre, out, _, _ => by
    show F_shape_Set__sides_L5 _ _ [] _ _ = _
    rw [F_shape_Set__sides_L5.eq_1]
    unfold sidesQ
    rw [List.append_nil]
  | b :: rest, pre, out, h, ho => by
    have hbm : b ∈ l := by rw [h]; simp
    obtain ⟨hb1, hb2, hb3⟩ := hlo b hbm
    have hpl : pre.length ≤ 1000000000 := by rw [h] at hl; simp at hl; omega
    unfold sidesQ at ho ⊢
    have eA : out ++ (vt b ++ hz b.1 (lowR pre.getLast? b) b.2.2 ++ topR b rest ++ sidesQ (some b) rest) = (((out ++ vt b) ++ hz b.1 (lowR pre.getLast? b) b.2.2) ++ topR b rest) ++ sidesQ (some b) rest := by simp only [List.append_assoc]
    rw [eA] at ho ⊢
    have ho3 := len_app ho
    have ho2 := len_app ho3
    have ho1 := len_app ho2
    have hvl : (vt b).length = 2 * b.2.2.length := by
      unfold vt
      rw [List.length_flatMap]
      simp only [List.length_cons, List.length_nil]
      rw [List.map_const', List.sum_replicate_nat]; omega
    rw [List.map_cons, F_shape_Set__sides_L5.eq_2]
    have hv := vt_loop (N := N) (p0 := l.map toP) (k := F_shape_Set__sides_L5 N (l.map toP) (rest.map toP) (pre.length + 1)) (b := b) (i := pre.length) hb1 (by omega) b.2.2 [] N out rfl (by omega) (by rw [List.length_append, hvl] at ho1; omega)
    have e0 : ((2 * ([] : List (Int × Int)).length : Nat) : Int) = 0 := rfl
    rw [e0] at hv
    have hx : (toP b).Xs = flatS b.2.2 := rfl
    have hy0 : (toP b).Y0 = b.1 := rfl
    have hy1 : (toP b).Y1 = b.2.1 := rfl
    have hvt : (b.2.2.flatMap fun p => [sdS b.1 b.2.1 p, sdN b.1 b.2.1 p]) = vt b := rfl
    rw [hv, hvt, F_shape_Set__sides_L6.eq_2, hx, hy0, if_neg (by rw [flatS_len]; simp)]
    -- what comes behind
    have hJ : F_shape_Set__sides_J7 N (l.map toP) (F_shape_Set__sides_L5 N (l.map toP) (rest.map toP) (pre.length + 1)) (toP b) pre.length ((out ++ vt b ++ hz b.1 (lowR pre.getLast? b) b.2.2).map toS) = some ((out ++ vt b ++ hz b.1 (lowR pre.getLast? b) b.2.2 ++ topR b rest ++ sidesQ (some b) rest).map toS) := by
      have ih := sidesQ_loop hN hl hlo rest (pre ++ [b]) (out ++ vt b ++ hz b.1 (lowR pre.getLast? b) b.2.2 ++ topR b rest) (by rw [h]; simp) (by rw [List.getLast?_append]; exact ho)
      rw [List.getLast?_append, List.length_append] at ih
      have ih : F_shape_Set__sides_L5 N (l.map toP) (rest.map toP) (pre.length + 1) ((out ++ vt b ++ hz b.1 (lowR pre.getLast? b) b.2.2 ++ topR b rest).map toS) = some ((out ++ vt b ++ hz b.1 (lowR pre.getLast? b) b.2.2 ++ topR b rest ++ sidesQ (some b) rest).map toS) := ih
      unfold F_shape_Set__sides_J7
      have e1 : w64 ((pre.length : Int) + 1) = ((pre ++ [b]).length : Int) := up_mid pre b (by omega)
      have hz0 : ∀ {o : List Sd}, (o ++ hz b.2.1 b.2.2 []).length ≤ 100000000 → F_shape_Set__sides_2__sides_1 N b.2.1 (flatS b.2.2) [] (o.map toS) = some ((o ++ hz b.2.1 b.2.2 []).map toS) := fun {o} ho => hz_ok (B := []) hN hb3 ⟨0, trivial⟩ (by simp; omega) ho
      rw [e1, hx, hy1]
      cases rest with
      | nil =>
        rw [if_pos (by rw [h]; simp), Option.bind_some, if_pos rfl]
        have e2 : topR b [] = hz b.2.1 b.2.2 [] := rfl
        rw [e2] at ih ho3 ⊢
        rw [hz0 ho3, Option.bind_some]; exact ih
      | cons c rest =>
        have e3 : idx (l.map toP) ((pre ++ [b]).length : Int) = some (toP c) := by
          have := idx_mid ((pre ++ [b]).map toP) (rest.map toP) (toP c)
          rw [List.length_map] at this
          rw [h, show pre ++ b :: c :: rest = (pre ++ [b]) ++ c :: rest by simp, List.map_append, List.map_cons]; exact this
        rw [if_neg (by rw [h]; simp; omega), e3, Option.bind_some, Option.bind_some]
        have e4 : (toP c).Y0 = c.1 := rfl
        rw [e4]
        by_cases hc : b.2.1 < c.1
        · have e2 : topR b (c :: rest) = hz b.2.1 b.2.2 [] := if_pos hc
          rw [if_pos (by simpa using hc)]
          rw [e2] at ih ho3 ⊢
          rw [hz0 ho3, Option.bind_some]; exact ih
        · have e2 : topR b (c :: rest) = [] := if_neg hc
          rw [if_neg (by simpa using hc)]
          rw [e2, List.append_nil] at ih ⊢
          exact ih
    rcases List.eq_nil_or_concat pre with hp | ⟨q, c, hp⟩
    · subst hp
      rw [if_pos (by simp), Option.bind_some, if_pos rfl]
      have := hz_ok (N := N) (y := b.1) (A := []) (B := b.2.2) (out := out ++ vt b) hN ⟨0, trivial⟩ hb3 (by simp; omega) ho2
      have e2 : flatS [] = [] := rfl
      rw [e2] at this
      rw [this, Option.bind_some]
      exact hJ
    · rw [List.concat_eq_append] at hp
      subst hp
      have hcm : c ∈ l := by rw [h]; simp
      obtain ⟨hc1, hc2, hc3⟩ := hlo c hcm
      have e1 : w64 (((q ++ [c]).length : Int) - 1) = (q.length : Int) := by rw [w64_id (by omega) (by omega)]; simp
      have e3 : idx (l.map toP) (q.length : Int) = some (toP c) := by
        have := idx_mid (q.map toP) ((b :: rest).map toP) (toP c)
        rw [List.length_map] at this
        rw [h, show (q ++ [c]) ++ b :: rest = q ++ c :: b :: rest by simp, List.map_append, List.map_cons]; exact this
      rw [if_neg (by simp; omega), e1, e3, Option.bind_some, Option.bind_some]
      have e4 : (toP c).Y1 = c.2.1 := rfl
      have e5 : (toP c).Xs = flatS c.2.2 := rfl
      have e6 : (q ++ [c]).getLast? = some c := by simp
      rw [e4]
      rw [e6] at hJ ho2 ⊢
      by_cases hc : c.2.1 < b.1
      · have e2 : lowR (some c) b = [] := if_pos hc
        rw [e2] at hJ ho2 ⊢
        rw [if_pos (by simpa using hc)]
        have := hz_ok (N := N) (y := b.1) (A := []) (B := b.2.2) (out := out ++ vt b) hN ⟨0, trivial⟩ hb3 (by simp; omega) ho2
        have e2 : flatS [] = [] := rfl
        rw [e2] at this
        rw [this, Option.bind_some]
        exact hJ
      · have e2 : lowR (some c) b = c.2.2 := if_neg hc
        rw [e2] at hJ ho2 ⊢
        rw [if_neg (by simpa using hc), Option.bind_some, e5, hz_ok (N := N) (y := b.1) (out := out ++ vt b) hN hc3 hb3 (by omega) ho2, Option.bind_some]
        exact hJ
theorem sidesQ_ok {N : Nat} (hN : 10000000000 ≤ N) {l : List Bd} (hl : l.length ≤ 1000000000) (hlo : ∀ b ∈ l, b.1 < b.2.1 ∧ b.2.2.length ≤ 100000000 ∧ ∃ lo, Can lo b.2.2) (hlen : (sidesQ none l).length ≤ 100000000) : F_shape_Set__sides N (l.map toP) = some ((sidesQ none l).map toS) := sidesQ_loop hN hl hlo l [] [] rfl hlen
end Go.Proofs.Ytacapjleiadkkaa
namespace Go.Proofs.Ytacapjleiadkkaa
open PX
def Has (L : List Sd) (e : Ed) : Prop := ∃ s ∈ L, On s e
theorem has_nil (e : Ed) : ¬ Has [] e := fun ⟨_, h, _⟩ => nomatch h
theorem has_app {A B : List Sd} {e : Ed} : Has (A ++ B) e ↔ Has A e ∨ Has B e := by
  unfold Has
  constructor
  · rintro ⟨s, h1, h2⟩
    rcases List.mem_append.1 h1 with h1 | h1
    · exact .inl ⟨s, h1, h2⟩
    · exact .inr ⟨s, h1, h2⟩
  · rintro (⟨s, h1, h2⟩ | ⟨s, h1, h2⟩)
    · exact ⟨s, List.mem_append_left _ h1, h2⟩
    · exact ⟨s, List.mem_append_right _ h1, h2⟩
theorem can_sep : ∀ {l : List (Int × Int)} {lo : Int}, Can lo l → l.Pairwise fun p q => p.2 < q.1
  | [], _, _ => .nil
  | p :: l, lo, h => List.pairwise_cons.2 ⟨fun q hq => (h.2.2.mem q hq).1, can_sep h.2.2⟩
theorem pw_two {α : Type} {R : α → α → Prop} : ∀ {l : List α}, l.Pairwise R → ∀ a ∈ l, ∀ b ∈ l, a = b ∨ R a b ∨ R b a
  | x :: l, h, a, ha, b, hb => by
    obtain ⟨h1, h2⟩ := List.pairwise_cons.1 h
    rcases List.mem_cons.1 ha with ea | ea
    · rcases List.mem_cons.1 hb with eb | eb
      · left; rw [ea, eb]
      · right; left; rw [ea]; exact h1 b eb
    · rcases List.mem_cons.1 hb with eb | eb
      · right; right; rw [eb]; exact h1 a ea
      · exact pw_two h2 a ea b eb
theorem can_end {l : List (Int × Int)} (h : ∃ lo, Can lo l) {x : Int} : (∃ p ∈ l, x = p.2) ↔ InS (x - 1) l ∧ ¬ InS x l := by
  obtain ⟨lo, h⟩ := h
  constructor
  · rintro ⟨p, hp, rfl⟩
    have h1 := (h.mem p hp).2
    refine ⟨⟨p, hp, by omega, by omega⟩, ?_⟩
    rintro ⟨q, hq, g1, g2⟩
    have h2 := (h.mem q hq).2
    rcases pw_two (can_sep h) p hp q hq with e | e | e
    · subst e; omega
    · omega
    · omega
  · rintro ⟨⟨p, hp, g1, g2⟩, h2⟩
    refine ⟨p, hp, ?_⟩
    rcases Int.lt_or_le x p.2 with h3 | h3
    · exact absurd ⟨p, hp, by omega, h3⟩ h2
    · omega
theorem can_beg {l : List (Int × Int)} (h : ∃ lo, Can lo l) {x : Int} : (∃ p ∈ l, x = p.1) ↔ InS x l ∧ ¬ InS (x - 1) l := by
  obtain ⟨lo, h⟩ := h
  constructor
  · rintro ⟨p, hp, rfl⟩
    have h1 := (h.mem p hp).2
    refine ⟨⟨p, hp, by omega, by omega⟩, ?_⟩
    rintro ⟨q, hq, g1, g2⟩
    have h2 := (h.mem q hq).2
    rcases pw_two (can_sep h) p hp q hq with e | e | e
    · subst e; omega
    · omega
    · omega
  · rintro ⟨⟨p, hp, g1, g2⟩, h2⟩
    refine ⟨p, hp, ?_⟩
    rcases Int.lt_or_le (x - 1) p.1 with h3 | h3
    · omega
    · exact absurd ⟨p, hp, by omega, by omega⟩ h2
def Ok1 (b : Bd) : Prop := b.1 < b.2.1 ∧ b.2.2.length ≤ 100000000 ∧ ∃ lo, Can lo b.2.2
theorem diff_ok {A B : List (Int × Int)} (hA : ∃ lo, Can lo A) (hB : ∃ lo, Can lo B) (hl : A.length + B.length ≤ 1000000000) : DiffOk A B (diffS A B) := (line1_ok (Nat.le_refl _) hA hB hl).1
/-- A row that is in order and not too long. -/
def RowO (A : List (Int × Int)) : Prop := (∃ lo, Can lo A) ∧ A.length ≤ 100000000
theorem RowO.nil : RowO [] := ⟨⟨0, trivial⟩, by simp⟩
theorem Ok1.row {b : Bd} (h : Ok1 b) : RowO b.2.2 := ⟨h.2.2, h.2.1⟩
theorem has_vt {b : Bd} (h : Ok1 b) {e : Ed} : Has (vt b) e ↔ (e.d = .N ∧ (b.1 ≤ e.y ∧ e.y < b.2.1) ∧ InS (e.x - 1) b.2.2 ∧ ¬ InS e.x b.2.2) ∨ (e.d = .S ∧ (b.1 < e.y ∧ e.y ≤ b.2.1) ∧ InS e.x b.2.2 ∧ ¬ InS (e.x - 1) b.2.2) := by
  unfold Has vt
  rw [← can_end h.2.2, ← can_beg h.2.2]
  constructor
  · rintro ⟨s, h1, h2⟩
    obtain ⟨p, hp, hs⟩ := List.mem_flatMap.1 h1
    simp only [List.mem_cons, List.not_mem_nil, or_false] at hs
    rcases hs with rfl | rfl
    · obtain ⟨g1, g2, g3, g4⟩ := on_S.1 h2
      exact .inr ⟨g1, ⟨g3, g4⟩, p, hp, g2⟩
    · obtain ⟨g1, g2, g3, g4⟩ := on_N.1 h2
      exact .inl ⟨g1, ⟨g3, g4⟩, p, hp, g2⟩
  · rintro (⟨g1, ⟨g3, g4⟩, p, hp, g2⟩ | ⟨g1, ⟨g3, g4⟩, p, hp, g2⟩)
    · exact ⟨_, List.mem_flatMap.2 ⟨p, hp, List.mem_cons_of_mem _ (List.mem_cons_self)⟩, on_N.2 ⟨g1, g2, g3, g4⟩⟩
    · exact ⟨_, List.mem_flatMap.2 ⟨p, hp, List.mem_cons_self⟩, on_S.2 ⟨g1, g2, g3, g4⟩⟩
theorem has_hz {y : Int} {A B : List (Int × Int)} (hA : RowO A) (hB : RowO B) {e : Ed} : Has (hz y A B) e ↔ e.y = y ∧ ((e.d = .W ∧ InS (e.x - 1) A ∧ ¬ InS (e.x - 1) B) ∨ (e.d = .E ∧ InS e.x B ∧ ¬ InS e.x A)) := by
  have d1 := diff_ok hA.1 hB.1 (by have := hA.2; have := hB.2; omega)
  have d2 := diff_ok hB.1 hA.1 (by have := hA.2; have := hB.2; omega)
  unfold hz
  rw [has_app, ← d1.mem, ← d2.mem]
  unfold Has
  simp only [List.mem_map]
  constructor
  · rintro (⟨s, ⟨p, hp, rfl⟩, h2⟩ | ⟨s, ⟨p, hp, rfl⟩, h2⟩)
    · obtain ⟨g1, g2, g3, g4⟩ := on_W.1 h2
      exact ⟨g2, .inl ⟨g1, p, hp, by omega, by omega⟩⟩
    · obtain ⟨g1, g2, g3, g4⟩ := on_E.1 h2
      exact ⟨g2, .inr ⟨g1, p, hp, by omega, by omega⟩⟩
  · rintro ⟨g2, (⟨g1, p, hp, g3, g4⟩ | ⟨g1, p, hp, g3, g4⟩)⟩
    · exact .inl ⟨_, ⟨p, hp, rfl⟩, on_W.2 ⟨g1, g2, by omega, by omega⟩⟩
    · exact .inr ⟨_, ⟨p, hp, rfl⟩, on_E.2 ⟨g1, g2, by omega, by omega⟩⟩
/-- Nothing touches a band from above. -/
def Free (b : Bd) : List Bd → Prop
  | [] => True
  | c :: _ => b.2.1 < c.1
theorem has_top {b : Bd} {rest : List Bd} (h : Ok1 b) {e : Ed} : Has (topR b rest) e ↔ Free b rest ∧ e.y = b.2.1 ∧ e.d = .W ∧ InS (e.x - 1) b.2.2 := by
  have h1 := has_hz (y := b.2.1) h.row RowO.nil (e := e)
  have h2 : Has (hz b.2.1 b.2.2 []) e ↔ e.y = b.2.1 ∧ e.d = .W ∧ InS (e.x - 1) b.2.2 := by
    rw [h1]
    constructor
    · rintro ⟨g1, (⟨g2, g3, _⟩ | ⟨_, g3, _⟩)⟩
      · exact ⟨g1, g2, g3⟩
      · exact absurd g3 InS_nil
    · rintro ⟨g1, g2, g3⟩
      exact ⟨g1, .inl ⟨g2, g3, InS_nil⟩⟩
  cases rest with
  | nil => show Has (hz b.2.1 b.2.2 []) e ↔ _; rw [h2]; simp [Free]
  | cons c rest =>
    unfold topR Free
    by_cases hc : b.2.1 < c.1
    · simp only [if_pos hc]
      rw [h2]; simp [hc]
    · simp only [if_neg hc]
      exact ⟨fun hh => absurd hh (has_nil e), fun hh => absurd hh.1 hc⟩
/-- The row under bands: what touches the first from below, then theirs. -/
def gR (prev : Option Bd) : List Bd → Int → List (Int × Int)
  | [], _ => []
  | b :: rest, y => if y = b.1 - 1 then lowR prev b else rowAt (b :: rest) y
theorem gR_cons (prev : Option Bd) (b : Bd) (rest : List Bd) (y : Int) : gR prev (b :: rest) y = if y = b.1 - 1 then lowR prev b else rowAt (b :: rest) y := rfl
theorem sidesQ_cons (prev : Option Bd) (b : Bd) (rest : List Bd) : sidesQ prev (b :: rest) = vt b ++ hz b.1 (lowR prev b) b.2.2 ++ topR b rest ++ sidesQ (some b) rest := by rw [sidesQ]
theorem gR_lo {prev : Option Bd} {l : List Bd} {lo y : Int} (h : CanB lo l) (hy : y < lo - 1) : gR prev l y = [] := by
  cases l with
  | nil => rfl
  | cons b rest =>
    rw [gR_cons, if_neg (by have := h.1; omega)]
    exact rowAt_lo h (by omega)
theorem gR_free {b : Bd} {l : List Bd} (h : CanB b.2.1 l) (hf : Free b l) : gR (some b) l (b.2.1 - 1) = [] := by
  cases l with
  | nil => rfl
  | cons c rest =>
    have hf : b.2.1 < c.1 := hf
    rw [gR_cons, if_neg (by omega)]
    exact rowAt_lo h (by omega)
theorem gR_touch {b : Bd} {l : List Bd} (h : CanB b.2.1 l) (hf : ¬ Free b l) : gR (some b) l (b.2.1 - 1) = b.2.2 := by
  cases l with
  | nil => exact absurd trivial hf
  | cons c rest =>
    have hf : ¬ b.2.1 < c.1 := hf
    have hc : c.1 = b.2.1 := by have := h.1; omega
    rw [gR_cons, if_pos (by omega)]
    exact if_neg hf
theorem rowAt_in {b : Bd} {rest : List Bd} {y : Int} (h1 : b.1 ≤ y) (h2 : y < b.2.1) : rowAt (b :: rest) y = b.2.2 := if_pos ⟨h1, h2⟩
theorem rowAt_hi {b : Bd} {rest : List Bd} {y : Int} (h2 : b.2.1 ≤ y) : rowAt (b :: rest) y = rowAt rest y := if_neg (by omega)
theorem gR_hi {b : Bd} {l : List Bd} {y : Int} (h : CanB b.2.1 l) (hy : b.2.1 ≤ y) : gR (some b) l y = rowAt l y := by
  cases l with
  | nil => rfl
  | cons c rest =>
    rw [gR_cons]
    by_cases hc : y = c.1 - 1
    · rw [if_pos hc]
      have hf : b.2.1 < c.1 := by omega
      have : rowAt (c :: rest) y = [] := rowAt_lo (lo := c.1) ⟨Int.le_refl _, h.2.1, h.2.2.1, h.2.2.2.1, h.2.2.2.2⟩ (by omega)
      rw [this]
      exact if_pos hf
    · rw [if_neg hc]
/-- What the sides of bands are. -/
structure Prv (prev : Option Bd) : Prop where
  ok : ∀ c, prev = some c → Ok1 c
theorem Prv.low {prev : Option Bd} (h : Prv prev) (b : Bd) : RowO (lowR prev b) := by
  cases prev with
  | none => exact RowO.nil
  | some c =>
    unfold lowR
    by_cases hc : c.2.1 < b.1
    · simp only [if_pos hc]; exact RowO.nil
    · simp only [if_neg hc]; exact (h.ok c rfl).row
def QN (l : List Bd) (e : Ed) : Prop := InS (e.x - 1) (rowAt l e.y) ∧ ¬ InS e.x (rowAt l e.y)
def QS (l : List Bd) (e : Ed) : Prop := InS e.x (rowAt l (e.y - 1)) ∧ ¬ InS (e.x - 1) (rowAt l (e.y - 1))
def QE (prev : Option Bd) (l : List Bd) (e : Ed) : Prop := InS e.x (rowAt l e.y) ∧ ¬ InS e.x (gR prev l (e.y - 1))
def QW (prev : Option Bd) (l : List Bd) (e : Ed) : Prop := InS (e.x - 1) (gR prev l (e.y - 1)) ∧ ¬ InS (e.x - 1) (rowAt l e.y)
theorem has_cons {prev : Option Bd} {b : Bd} {rest : List Bd} {e : Ed} : Has (sidesQ prev (b :: rest)) e ↔ Has (vt b) e ∨ Has (hz b.1 (lowR prev b) b.2.2) e ∨ Has (topR b rest) e ∨ Has (sidesQ (some b) rest) e := by
  rw [sidesQ_cons, has_app, has_app, has_app]
  constructor
  · rintro (((h | h) | h) | h)
    · exact .inl h
    · exact .inr (.inl h)
    · exact .inr (.inr (.inl h))
    · exact .inr (.inr (.inr h))
  · rintro (h | h | h | h)
    · exact .inl (.inl (.inl h))
    · exact .inl (.inl (.inr h))
    · exact .inl (.inr h)
    · exact .inr h
theorem has_sides : ∀ {l : List Bd} {prev : Option Bd} {lo : Int}, CanB lo l → (∀ b ∈ l, Ok1 b) → Prv prev → ∀ e, Has (sidesQ prev l) e ↔ (e.d = .N ∧ QN l e) ∨ (e.d = .S ∧ QS l e) ∨ (e.d = .E ∧ QE prev l e) ∨ (e.d = .W ∧ QW prev l e)
  | [], prev, lo, _, _, _, e => by
    constructor
    · intro h; exact absurd h (has_nil e)
    · rintro (⟨_, h, _⟩ | ⟨_, h, _⟩ | ⟨_, h, _⟩ | ⟨_, h, _⟩) <;> exact absurd h InS_nil
  | b :: rest, prev, lo, hc, hok, hp, e => by
    obtain ⟨c1, c2, c3, c4, c5⟩ := hc
    have hb := hok b (by simp)
    have ih := has_sides (prev := some b) c5 (fun c hc => hok c (by simp [hc])) ⟨fun c hc => by cases hc; exact hb⟩ e
    have hcan : CanB b.1 (b :: rest) := ⟨Int.le_refl _, c2, c3, c4, c5⟩
    rw [has_cons, has_vt hb, has_hz (hp.low b) hb.row, has_top hb, ih]
    have nil : ∀ {y : Int}, y < b.2.1 → rowAt rest y = [] := fun hy => rowAt_lo c5 hy
    have lo0 : ∀ {y : Int}, y < b.1 → rowAt (b :: rest) y = [] := fun hy => rowAt_lo hcan hy
    have glow : gR prev (b :: rest) (b.1 - 1) = lowR prev b := by rw [gR_cons, if_pos rfl]
    have gother : ∀ {y : Int}, y ≠ b.1 - 1 → gR prev (b :: rest) y = rowAt (b :: rest) y := fun hy => by rw [gR_cons, if_neg hy]
    have gnil : ∀ {y : Int}, y < b.2.1 - 1 → gR (some b) rest y = [] := fun hy => gR_lo c5 hy
    cases hd : e.d
    · -- east
      simp only [reduceCtorEq, false_and, false_or, or_false, true_and, and_false]
      unfold QE
      rcases Int.lt_or_le e.y b.1 with h1 | h1
      · rw [lo0 h1, nil (y := e.y) (by omega)]
        constructor
        · rintro (⟨h, _⟩ | ⟨h, _⟩)
          · omega
          · exact absurd h InS_nil
        · rintro ⟨h, _⟩; exact absurd h InS_nil
      · rcases Int.lt_or_le e.y b.2.1 with h2 | h2
        · rw [rowAt_in h1 h2, nil h2]
          by_cases h3 : e.y = b.1
          · rw [h3, glow]
            constructor
            · rintro (⟨_, g⟩ | ⟨h, _⟩)
              · exact g
              · exact absurd h InS_nil
            · intro g; exact .inl ⟨rfl, g⟩
          · rw [gother (by omega), rowAt_in (by omega) (by omega)]
            constructor
            · rintro (⟨h, _⟩ | ⟨h, _⟩)
              · exact absurd h h3
              · exact absurd h InS_nil
            · rintro ⟨g1, g2⟩; exact absurd g1 g2
        · rw [rowAt_hi h2, gother (y := e.y - 1) (by omega)]
          by_cases h3 : e.y = b.2.1
          · rw [rowAt_in (y := e.y - 1) (by omega) (by omega), h3]
            by_cases hf : Free b rest
            · -- nothing begins there
              have hn : rowAt rest b.2.1 = [] := by
                cases rest with
                | nil => rfl
                | cons c r => exact rowAt_lo (lo := c.1) ⟨Int.le_refl _, c5.2.1, c5.2.2.1, c5.2.2.2.1, c5.2.2.2.2⟩ hf
              rw [hn]
              constructor
              · rintro (⟨h, _⟩ | ⟨h, _⟩)
                · omega
                · exact absurd h InS_nil
              · rintro ⟨h, _⟩; exact absurd h InS_nil
            · rw [gR_touch c5 hf]
              constructor
              · rintro (⟨h, _⟩ | g)
                · omega
                · exact g
              · intro g; exact .inr g
          · rw [rowAt_hi (y := e.y - 1) (by omega), gR_hi c5 (y := e.y - 1) (by omega)]
            constructor
            · rintro (⟨h, _⟩ | g)
              · omega
              · exact g
            · intro g; exact .inr g
    · -- north
      simp only [reduceCtorEq, false_and, false_or, or_false, true_and, and_false]
      unfold QN
      by_cases h1 : b.1 ≤ e.y ∧ e.y < b.2.1
      · rw [rowAt_in h1.1 h1.2, nil h1.2]
        constructor
        · rintro (⟨_, g⟩ | ⟨h, _⟩)
          · exact g
          · exact absurd h InS_nil
        · intro g; exact .inl ⟨h1, g⟩
      · have : rowAt (b :: rest) e.y = rowAt rest e.y := if_neg h1
        rw [this]
        constructor
        · rintro (⟨h, _⟩ | g)
          · exact absurd h h1
          · exact g
        · intro g; exact .inr g
    · -- west
      simp only [reduceCtorEq, false_and, false_or, or_false, true_and, and_false]
      unfold QW
      rcases Int.lt_or_le e.y b.1 with h1 | h1
      · rw [gother (by omega), lo0 (y := e.y - 1) (by omega), gnil (by omega)]
        constructor
        · rintro (⟨h, _⟩ | ⟨_, h, _⟩ | ⟨h, _⟩)
          · omega
          · omega
          · exact absurd h InS_nil
        · rintro ⟨h, _⟩; exact absurd h InS_nil
      · rcases Int.lt_or_le e.y b.2.1 with h2 | h2
        · rw [rowAt_in h1 h2, nil h2, gnil (by omega)]
          by_cases h3 : e.y = b.1
          · rw [h3, glow]
            constructor
            · rintro (⟨_, g⟩ | ⟨_, h, _⟩ | ⟨h, _⟩)
              · exact g
              · omega
              · exact absurd h InS_nil
            · intro g; exact .inl ⟨rfl, g⟩
          · rw [gother (by omega), rowAt_in (by omega) (by omega)]
            constructor
            · rintro (⟨h, _⟩ | ⟨_, h, _⟩ | ⟨h, _⟩)
              · exact absurd h h3
              · omega
              · exact absurd h InS_nil
            · rintro ⟨g1, g2⟩; exact absurd g1 g2
        · rw [rowAt_hi h2, gother (y := e.y - 1) (by omega)]
          by_cases h3 : e.y = b.2.1
          · rw [rowAt_in (y := e.y - 1) (by omega) (by omega), h3]
            by_cases hf : Free b rest
            · have hn : rowAt rest b.2.1 = [] := by
                cases rest with
                | nil => rfl
                | cons c r => exact rowAt_lo (lo := c.1) ⟨Int.le_refl _, c5.2.1, c5.2.2.1, c5.2.2.2.1, c5.2.2.2.2⟩ hf
              rw [hn, gR_free c5 hf]
              constructor
              · rintro (⟨h, _⟩ | ⟨_, _, g⟩ | ⟨h, _⟩)
                · omega
                · exact ⟨g, InS_nil⟩
                · exact absurd h InS_nil
              · rintro ⟨g, _⟩; exact .inr (.inl ⟨hf, rfl, g⟩)
            · rw [gR_touch c5 hf]
              constructor
              · rintro (⟨h, _⟩ | ⟨h, _⟩ | g)
                · omega
                · exact absurd h hf
                · exact g
              · intro g; exact .inr (.inr g)
          · rw [rowAt_hi (y := e.y - 1) (by omega), gR_hi c5 (y := e.y - 1) (by omega)]
            constructor
            · rintro (⟨h, _⟩ | ⟨_, h, _⟩ | g)
              · omega
              · exact absurd h h3
              · exact g
            · intro g; exact .inr (.inr g)
    · -- south
      simp only [reduceCtorEq, false_and, false_or, or_false, true_and, and_false]
      unfold QS
      by_cases h1 : b.1 < e.y ∧ e.y ≤ b.2.1
      · rw [rowAt_in (by omega) (by omega), nil (y := e.y - 1) (by omega)]
        constructor
        · rintro (⟨_, g⟩ | ⟨h, _⟩)
          · exact g
          · exact absurd h InS_nil
        · intro g; exact .inl ⟨h1, g⟩
      · have : rowAt (b :: rest) (e.y - 1) = rowAt rest (e.y - 1) := if_neg (by omega)
        rw [this]
        constructor
        · rintro (⟨h, _⟩ | g)
          · exact absurd h h1
          · exact g
        · intro g; exact .inr g
/-! No two of them share a step. -/
theorem dj_dir {s t : Sd} (h : ∀ e, On s e → ∀ f, On t f → e.d ≠ f.d) : Dj s t := fun e h1 h2 => h e h1 e h2 rfl
theorem pw_has {A B : List Sd} (hA : A.Pairwise Dj) (hB : B.Pairwise Dj) (h : ∀ e, Has A e → ¬ Has B e) : (A ++ B).Pairwise Dj :=
  List.pairwise_append.2 ⟨hA, hB, fun s hs t ht e h1 h2 => h e ⟨s, hs, h1⟩ ⟨t, ht, h2⟩⟩
theorem pw_hz {y : Int} {A B : List (Int × Int)} (hA : RowO A) (hB : RowO B) : (hz y A B).Pairwise Dj := by
  obtain ⟨lo1, d1⟩ := (diff_ok hA.1 hB.1 (by have := hA.2; have := hB.2; omega)).can
  obtain ⟨lo2, d2⟩ := (diff_ok hB.1 hA.1 (by have := hA.2; have := hB.2; omega)).can
  unfold hz
  refine pw_has ?_ ?_ ?_
  · rw [List.pairwise_map]
    exact (can_sep d1).imp fun {p q} h e h1 h2 => by
      obtain ⟨_, _, g1, g2⟩ := on_W.1 h1
      obtain ⟨_, _, g3, g4⟩ := on_W.1 h2
      omega
  · rw [List.pairwise_map]
    exact (can_sep d2).imp fun {p q} h e h1 h2 => by
      obtain ⟨_, _, g1, g2⟩ := on_E.1 h1
      obtain ⟨_, _, g3, g4⟩ := on_E.1 h2
      omega
  · rintro e ⟨s, hs, h1⟩ ⟨t, ht, h2⟩
    obtain ⟨p, _, rfl⟩ := List.mem_map.1 hs
    obtain ⟨q, _, rfl⟩ := List.mem_map.1 ht
    have g1 := (on_W.1 h1).1
    have g2 := (on_E.1 h2).1
    rw [g1] at g2; cases g2
theorem pw_vt {b : Bd} (h : Ok1 b) : (vt b).Pairwise Dj := by
  obtain ⟨lo, hc⟩ := h.2.2
  unfold vt
  rw [List.pairwise_flatMap]
  constructor
  · intro p hp
    refine List.pairwise_cons.2 ⟨fun t ht e h1 h2 => ?_, List.pairwise_cons.2 ⟨fun t ht => (nomatch ht), .nil⟩⟩
    rw [List.mem_singleton.1 ht] at h2
    have g1 := (on_S.1 h1).1
    have g2 := (on_N.1 h2).1
    rw [g1] at g2; cases g2
  · refine List.Pairwise.imp_of_mem (R := fun p q => p.2 < q.1) (fun {p q} hp hq hpq s hs t ht e h1 h2 => ?_) (can_sep hc)
    have p1 := (hc.mem p hp).2
    have q1 := (hc.mem q hq).2
    simp only [List.mem_cons, List.not_mem_nil, or_false] at hs ht
    rcases hs with rfl | rfl <;> rcases ht with rfl | rfl
    · have g1 := (on_S.1 h1).2.1
      have g2 := (on_S.1 h2).2.1
      omega
    · have g1 := (on_S.1 h1).2.1
      have g2 := (on_N.1 h2).2.1
      omega
    · have g1 := (on_N.1 h1).2.1
      have g2 := (on_S.1 h2).2.1
      omega
    · have g1 := (on_N.1 h1).2.1
      have g2 := (on_N.1 h2).2.1
      omega
theorem pw_top {b : Bd} {rest : List Bd} (h : Ok1 b) : (topR b rest).Pairwise Dj := by
  cases rest with
  | nil => exact pw_hz h.row RowO.nil
  | cons c r =>
    unfold topR
    by_cases hc : b.2.1 < c.1
    · simp only [if_pos hc]; exact pw_hz h.row RowO.nil
    · simp only [if_neg hc]; exact .nil
theorem pw_sides : ∀ {l : List Bd} {prev : Option Bd} {lo : Int}, CanB lo l → (∀ b ∈ l, Ok1 b) → Prv prev → (sidesQ prev l).Pairwise Dj
  | [], _, _, _, _, _ => .nil
  | b :: rest, prev, lo, ⟨c1, c2, c3, c4, c5⟩, hok, hp => by
    have hb := hok b (by simp)
    have hp' : Prv (some b) := ⟨fun c hc => by cases hc; exact hb⟩
    have ih := pw_sides (prev := some b) c5 (fun c hc => hok c (by simp [hc])) hp'
    have hs := has_sides (prev := some b) c5 (fun c hc => hok c (by simp [hc])) hp'
    rw [sidesQ_cons]
    refine pw_has (pw_has (pw_has (pw_vt hb) (pw_hz (hp.low b) hb.row) ?_) (pw_top hb) ?_) ih ?_
    · intro e h1 h2
      rw [has_vt hb] at h1
      rw [has_hz (hp.low b) hb.row] at h2
      rcases h1 with ⟨g, _⟩ | ⟨g, _⟩ <;> rcases h2 with ⟨_, (⟨g', _⟩ | ⟨g', _⟩)⟩ <;> rw [g] at g' <;> cases g'
    · intro e h1 h2
      rw [has_top hb] at h2
      obtain ⟨_, g1, g2, _⟩ := h2
      rcases has_app.1 h1 with h1 | h1
      · rw [has_vt hb] at h1
        rcases h1 with ⟨g, _⟩ | ⟨g, _⟩ <;> rw [g2] at g <;> cases g
      · rw [has_hz (hp.low b) hb.row] at h1
        omega
    · intro e h1 h2
      have nil : ∀ {y : Int}, y < b.2.1 → rowAt rest y = [] := fun hy => rowAt_lo c5 hy
      rw [hs e] at h2
      rw [has_app, has_app, has_vt hb, has_hz (hp.low b) hb.row, has_top hb] at h1
      rcases h2 with ⟨g, q1, _⟩ | ⟨g, q1, _⟩ | ⟨g, q1, _⟩ | ⟨g, q1, _⟩ <;> rw [g] at h1 <;> simp only [reduceCtorEq, false_and, false_or, or_false, true_and, and_false] at h1
      · rw [nil h1.1.2] at q1; exact InS_nil q1
      · rw [nil (by omega)] at q1; exact InS_nil q1
      · rw [nil (by omega)] at q1; exact InS_nil q1
      · rcases h1 with ⟨h1, _⟩ | ⟨hf, h1, _⟩
        · rw [gR_lo c5 (by omega)] at q1; exact InS_nil q1
        · rw [h1, gR_free c5 hf] at q1; exact InS_nil q1
theorem gR_none {l : List Bd} {lo : Int} (h : CanB lo l) (y : Int) : gR none l y = rowAt l y := by
  cases l with
  | nil => rfl
  | cons b rest =>
    rw [gR_cons]
    by_cases hy : y = b.1 - 1
    · rw [if_pos hy]
      exact (rowAt_lo (lo := b.1) (l := b :: rest) ⟨Int.le_refl _, h.2.1, h.2.2.1, h.2.2.2.1, h.2.2.2.2⟩ (by omega)).symm
    · rw [if_neg hy]
theorem sides_pos : ∀ {l : List Bd} {prev : Option Bd}, (∀ b ∈ l, Ok1 b) → Prv prev → ∀ s ∈ sidesQ prev l, 0 < s.2
  | b :: rest, prev, hok, hp, s, hs => by
    have hb := hok b (by simp)
    have hz0 : ∀ {y : Int} {A B : List (Int × Int)}, RowO A → RowO B → ∀ s ∈ hz y A B, 0 < s.2 := fun {y A B} hA hB s hs => by
      have d1 := can_pos (diff_ok hA.1 hB.1 (by have := hA.2; have := hB.2; omega)).can
      have d2 := can_pos (diff_ok hB.1 hA.1 (by have := hA.2; have := hB.2; omega)).can
      unfold hz at hs
      rcases List.mem_append.1 hs with hs | hs
      · obtain ⟨p, hp, rfl⟩ := List.mem_map.1 hs
        have := d1 p hp
        show 0 < (p.2 - p.1).toNat; omega
      · obtain ⟨p, hp, rfl⟩ := List.mem_map.1 hs
        have := d2 p hp
        show 0 < (p.2 - p.1).toNat; omega
    rw [sidesQ_cons] at hs
    rcases List.mem_append.1 hs with hs | hs
    · rcases List.mem_append.1 hs with hs | hs
      · rcases List.mem_append.1 hs with hs | hs
        · obtain ⟨p, hp, hs⟩ := List.mem_flatMap.1 hs
          have := hb.1
          simp only [List.mem_cons, List.not_mem_nil, or_false] at hs
          rcases hs with rfl | rfl <;> show 0 < (b.2.1 - b.1).toNat <;> omega
        · exact hz0 (hp.low b) hb.row s hs
      · cases rest with
        | nil => exact hz0 hb.row RowO.nil s hs
        | cons c r =>
          unfold topR at hs
          by_cases hc : b.2.1 < c.1
          · simp only [if_pos hc] at hs; exact hz0 hb.row RowO.nil s hs
          · simp only [if_neg hc] at hs; cases hs
    · exact sides_pos (prev := some b) (fun c hc => hok c (by simp [hc])) ⟨fun c hc => by cases hc; exact hb⟩ s hs
/-- The sides of bands are the border of their set. -/
theorem sidesQ_sys {I : Sq} {l : List Bd} (h : BOk l) (hlen : ∀ b ∈ l, b.2.2.length ≤ 100000000) (hI : ∀ x y, I x y = true ↔ InS x (rowAt l y)) : SysB I (sidesQ none l) := by
  obtain ⟨lo, hc⟩ := h.can
  have hok : ∀ b ∈ l, Ok1 b := fun b hb => ⟨(hc.mem b hb).2.1, hlen b hb, h.row b hb⟩
  have hp : Prv none := ⟨fun c hc => nomatch hc⟩
  have hI' : ∀ x y, I x y = false ↔ ¬ InS x (rowAt l y) := fun x y => by
    rw [← hI]; cases I x y <;> simp
  refine sysB_of (sides_pos hok hp) (fun e => ?_) (pw_sides hc hok hp)
  refine (has_sides hc hok hp e).trans ?_
  unfold QN QS QE QW isB
  rw [gR_none hc]
  cases hd : e.d <;> simp only [reduceCtorEq, false_and, false_or, or_false, true_and, and_false, lq, Dir.right, hI, hI']
/-- How many there are. -/
theorem sidesQ_len {n : Nat} (hn : n ≤ 100000000) : ∀ {l : List Bd} {prev : Option Bd}, (∀ b ∈ l, Ok1 b ∧ b.2.2.length ≤ n) → (∀ c, prev = some c → Ok1 c ∧ c.2.2.length ≤ n) → (sidesQ prev l).length ≤ l.length * (8 * n)
  | [], _, _, _ => by unfold sidesQ; simp
  | b :: rest, prev, hok, hp => by
    obtain ⟨hb, hbn⟩ := hok b (by simp)
    have ih := sidesQ_len hn (l := rest) (prev := some b) (fun c hc => hok c (by simp [hc])) (fun c hc => by cases hc; exact ⟨hb, hbn⟩)
    have hzl : ∀ {y : Int} {A B : List (Int × Int)}, RowO A → RowO B → (hz y A B).length ≤ 2 * (A.length + B.length) := fun {y A B} hA hB => by
      have d1 := (diff_ok hA.1 hB.1 (by have := hA.2; have := hB.2; omega)).len
      have d2 := (diff_ok hB.1 hA.1 (by have := hA.2; have := hB.2; omega)).len
      unfold hz
      simp only [List.length_append, List.length_map]; omega
    have hlow : (lowR prev b).length ≤ n := by
      cases prev with
      | none => exact Nat.zero_le _
      | some c =>
        unfold lowR
        by_cases hc : c.2.1 < b.1
        · simp only [if_pos hc]; exact Nat.zero_le _
        · simp only [if_neg hc]; exact (hp c rfl).2
    have h1 := hzl (y := b.1) (Prv.low ⟨fun c hc => (hp c hc).1⟩ b) hb.row
    have h2 : (topR b rest).length ≤ 2 * n := by
      have h3 := hzl (y := b.2.1) hb.row RowO.nil
      rw [List.length_nil] at h3
      cases rest with
      | nil => exact Nat.le_trans h3 (by omega)
      | cons c r =>
        unfold topR
        by_cases hc : b.2.1 < c.1
        · simp only [if_pos hc]; omega
        · simp only [if_neg hc]; exact Nat.zero_le _
    have hvl : (vt b).length = 2 * b.2.2.length := by
      unfold vt
      rw [List.length_flatMap]
      simp only [List.length_cons, List.length_nil]
      rw [List.map_const', List.sum_replicate_nat]; omega
    rw [sidesQ_cons]
    simp only [List.length_append, List.length_cons, hvl]
    rw [Nat.add_mul, Nat.one_mul]
    omega
end Go.Proofs.Ytacapjleiadkkaa
namespace Go.Proofs.Ytacapjleiadkkaa
section
variable {N : Nat} (hN : 10000000000 ≤ N)
include hN
theorem Told_ok {l : List Bd} (hl : l.length ≤ 200000000) (h : (rectsB l).length ≤ 1000000000000000000) : F_shape_Set__Told N (l.map toP) = some (toldV l) := by
  unfold F_shape_Set__Told toldV
  rw [Many_ok h, Option.bind_some]
  by_cases h2 : 2000 < (rectsB l).length
  · rw [if_pos (by simp; omega), if_pos h2]
  · rw [if_neg (by simp; omega), if_neg h2, Rects_ok hN ⟨hl, fun b hb => by have := rectsB_row hb; omega, by omega⟩, Option.bind_some]
end
end Go.Proofs.Ytacapjleiadkkaa
namespace Go.Proofs.Ytacapjleiadkkaa
open PX
/-- The squares of rectangles. -/
def inRb (l : List TRect) : Sq := fun x y => l.any fun r => (decide (r.X0 ≤ x) && decide (x < r.X1)) && (decide (r.Y0 ≤ y) && decide (y < r.Y1))
theorem inRb_iff {l : List TRect} {x y : Int} : inRb l x y = true ↔ InR x y l := by
  unfold inRb InR
  rw [List.any_eq_true]
  simp only [Bool.and_eq_true, decide_eq_true_eq]
/-- The squares lie within limits. -/
def Lims (I : Sq) : Prop := ∀ x y, I x y = true → (-1000000 ≤ x ∧ x < 1000000) ∧ (-1000000 ≤ y ∧ y < 1000000)
theorem step_lim {I : Sq} (hI : Lims I) {e : Ed} (h : isB I e) : ((-1000000 ≤ e.x ∧ e.x ≤ 1000000) ∧ (-1000000 ≤ e.y ∧ e.y ≤ 1000000)) ∧ ((-1000000 ≤ e.tx ∧ e.tx ≤ 1000000) ∧ (-1000000 ≤ e.ty ∧ e.ty ≤ 1000000)) := by
  obtain ⟨h1, _⟩ := h
  unfold Ed.tx Ed.ty
  cases hd : e.d <;> rw [hd] at h1 <;> simp only [lq, Dir.dx, Dir.dy] at * <;> have := hI _ _ h1 <;> omega
theorem limS_of {I : Sq} {L : List Sd} (h : SysB I L) (hI : Lims I) (hl : L.length ≤ 100000000) : LimS L := by
  refine ⟨hl, fun s hs => ?_⟩
  obtain ⟨a1, _⟩ := step_lim hI (h.fst hs)
  obtain ⟨_, a2⟩ := step_lim hI (h.last hs).1
  obtain ⟨t1, t2, _⟩ := lst_to (h.pos s hs)
  rw [t1, t2] at a2
  refine ⟨⟨?_, ?_⟩, ?_, ?_⟩
  · show -1000000000 ≤ s.1.x ∧ s.1.x ≤ 1000000000; omega
  · show -1000000000 ≤ s.1.y ∧ s.1.y ≤ 1000000000; omega
  · omega
  · omega
/-- How many points some rows have, as the program counts. -/
def cntP : List (List TPoint) → Int → Int
  | [], n => n
  | p :: l, n => cntP l (w64 (n + (p.length : Int)))
theorem cntS_ok (y : List (List TPoint)) : ∀ (suf : List (List TPoint)) (i : Nat) (n : Int), F_shape_Outlines_L1 y suf i n = some (if 2000 < cntP suf n then ([], 2) else (y, 0))
  | [], i, n => by
    rw [F_shape_Outlines_L1.eq_1]
    unfold cntP
    by_cases h : 2000 < n
    · rw [if_pos (by simpa using h), if_pos h]
    · rw [if_neg (by simpa using h), if_neg h]
  | p :: suf, i, n => by rw [F_shape_Outlines_L1.eq_2, cntS_ok y suf]; rfl
/-- A region's squares lie within limits; its bands are few and short. -/
theorem region_lims {l : List TRect} (h : ∀ r ∈ l, ROk r) : Lims (inRb l) := fun _ _ hx => InR_lim h (inRb_iff.1 hx)
theorem bands_few {l : List Bd} (h : ∀ b ∈ l, b.2.2 ≠ []) : l.length ≤ (rectsB l).length ∧ ∀ b ∈ l, b.2.2.length ≤ (rectsB l).length := by
  induction l with
  | nil => exact ⟨Nat.le_refl _, fun b hb => nomatch hb⟩
  | cons b l ih =>
    obtain ⟨i1, i2⟩ := ih fun c hc => h c (by simp [hc])
    have hb := List.length_pos_iff.2 (h b (by simp))
    rw [rectsB_cons, List.length_append, rectsOf_len]
    refine ⟨by simp only [List.length_cons]; omega, fun c hc => ?_⟩
    rcases List.mem_cons.1 hc with rfl | hc
    · omega
    · have := i2 c hc; omega
/-- The borders of a region's squares. -/
def outV (l : List TRect) (ls : List (List (Int × Int))) : List (List TPoint) × Int := if 2000 < cntP (ls.map (List.map toPt)) 0 then ([], 2) else (ls.map (List.map toPt), 0)
theorem borders_reg {N : Nat} (hN : 10000000000 ≤ N) {l : List TRect} (h : regionErr l = 0) : ∃ ls, Outs (inRb l) ls ∧ (∃ B, Fin_ (inRb l) B) ∧ ls.length ≤ 100000000 ∧ ls.flatten.length ≤ 100000000 ∧ (F_shape_SetOf N l).bind (fun y101 => F_shape_Set__Borders N y101) = some (ls.map (List.map toPt)) := by
  obtain ⟨_, h2, h3, h4⟩ := regionErr_ok h
  have hne := ROk.ne h3
  obtain ⟨b1, b2⟩ := setB_ok hne
  obtain ⟨lo, hc⟩ := b1.can
  obtain ⟨f1, f2⟩ := bands_few (l := setB l) fun b hb => (hc.mem b hb).2.2
  rw [h4] at f1 f2
  have hrow : ∀ b ∈ setB l, b.2.2.length ≤ 2000 := fun b hb => by have := f2 b hb; omega
  have hok : ∀ b ∈ setB l, Ok1 b := fun b hb => ⟨(hc.mem b hb).2.1, by have := hrow b hb; omega, b1.row b hb⟩
  have hI : ∀ x y, inRb l x y = true ↔ InS x (rowAt (setB l) y) := fun x y => inRb_iff.trans (b2 x y).symm
  have sys := sidesQ_sys (I := inRb l) b1 (fun b hb => by have := hrow b hb; omega) hI
  have hlen := sidesQ_len (n := 2000) (by omega) (l := setB l) (prev := none) (fun b hb => ⟨hok b hb, hrow b hb⟩) (fun c hc => nomatch hc)
  have hlim := limS_of sys (region_lims h3) (by omega)
  obtain ⟨ls, l1, l2, l4, l3⟩ := borders_ok sys hlim (N := N) (by omega)
  refine ⟨ls, l1, sys.fin, by omega, by omega, ?_⟩
  rw [SetOf_ok hN (by omega) (fun r hr => (h3 r hr).r9), Option.bind_some]
  unfold F_shape_Set__Borders
  rw [sidesQ_ok hN (by omega) (fun b hb => hok b hb) (by omega), Option.bind_some]
  exact l3
/-- What the program tells of a region's outlines. -/
theorem OutlinesP_ok {N : Nat} (hN : 10000000000 ≤ N) (l : List TRect) : ∃ y, F_shape_Outlines N l = some y ∧ (regionErr l ≠ 0 → y = ([], regionErr l)) ∧ (regionErr l = 0 → ∃ ls, Outs (inRb l) ls ∧ (∃ B, Fin_ (inRb l) B) ∧ ls.length ≤ 100000000 ∧ ls.flatten.length ≤ 100000000 ∧ y = outV l ls) := by
  unfold F_shape_Outlines
  rw [CheckRegion_ok hN, Option.bind_some]
  by_cases h : regionErr l = 0
  · rw [if_neg (by simpa using h)]
    obtain ⟨ls, l1, l4, l2, l5, l3⟩ := borders_reg hN h
    refine ⟨outV l ls, ?_, fun hh => absurd h hh, fun _ => ⟨ls, l1, l4, l2, l5, rfl⟩⟩
    obtain ⟨y, y1, y2⟩ := Option.bind_eq_some_iff.1 l3
    rw [y1, Option.bind_some, y2, Option.bind_some, cntS_ok]; rfl
  · rw [if_pos (by simpa using h)]
    exact ⟨_, rfl, fun _ => rfl, fun hh => absurd hh h⟩
/-- The points are counted. -/
theorem cntP_val : ∀ (suf : List (List TPoint)) (n : Nat), n + suf.flatten.length ≤ 100000000 → cntP suf (n : Int) = ((n + suf.flatten.length : Nat) : Int)
  | [], n, _ => by simp [cntP]
  | l :: suf, n, hn => by
    rw [List.flatten_cons, List.length_append] at hn
    unfold cntP
    have e : w64 ((n : Int) + (l.length : Int)) = ((n + l.length : Nat) : Int) := by rw [w64_id (by omega) (by omega)]; omega
    rw [e, cntP_val suf (n + l.length) (by omega), List.flatten_cons, List.length_append]
    omega
end Go.Proofs.Ytacapjleiadkkaa
namespace Go.Proofs.Ytacapjleiadkkaa
/-! Numbers, two equal ones struck. -/
def stk (xs : List Int) (x : Int) : List Int := if xs.getLast? = some x then xs.dropLast else xs ++ [x]
def canc (l : List Int) : List Int := l.foldl stk []
def cle (x : Int) (l : List Int) : Nat := (l.filter fun z => decide (z ≤ x)).length
theorem cle_append (x : Int) (l m : List Int) : cle x (l ++ m) = cle x l + cle x m := by unfold cle; rw [List.filter_append, List.length_append]
theorem cle_one (x z : Int) : cle x [z] = if z ≤ x then 1 else 0 := by
  unfold cle
  by_cases h : z ≤ x <;> simp [h]
structure StkOk (xs done : List Int) : Prop where
  inc : xs.Pairwise fun a b => a < b
  par : ∀ x, cle x xs % 2 = cle x done % 2
  len : xs.length % 2 = done.length % 2
  sub : ∀ x ∈ xs, x ∈ done
theorem stk_ok {xs done : List Int} {x : Int} (h : StkOk xs done) (hx : ∀ z ∈ done, z ≤ x) : StkOk (stk xs x) (done ++ [x]) := by
  obtain ⟨h1, h2, h3, h4⟩ := h
  unfold stk
  by_cases hl : xs.getLast? = some x
  · rw [if_pos hl]
    obtain ⟨ys, rfl⟩ := List.getLast?_eq_some_iff.1 hl
    rw [List.dropLast_concat]
    rw [List.pairwise_append] at h1
    refine ⟨h1.1, fun z => ?_, ?_, fun z hz => List.mem_append_left _ (h4 z (List.mem_append_left _ hz))⟩
    · have := h2 z
      rw [cle_append] at this
      rw [cle_append]; omega
    · rw [List.length_append] at h3 ⊢
      simp only [List.length_singleton] at h3 ⊢
      omega
  · rw [if_neg hl]
    refine ⟨?_, fun z => ?_, ?_, fun z hz => ?_⟩
    · rw [List.pairwise_append]
      refine ⟨h1, by simp, fun a ha b hb => ?_⟩
      simp at hb; subst hb
      have hle := hx a (h4 a ha)
      rcases Int.lt_or_eq_of_le hle with h | h
      · exact h
      · subst h
        exfalso
        apply hl
        rcases List.eq_nil_or_concat xs with e | ⟨ys, y, e⟩
        · subst e; cases ha
        · rw [List.concat_eq_append] at e
          subst e
          have hy := hx y (h4 y (by simp))
          rw [List.pairwise_append] at h1
          rcases List.mem_append.1 ha with ha | ha
          · have := h1.2.2 a ha y (by simp)
            omega
          · simp at ha; subst ha; simp
    · have := h2 z
      rw [cle_append, cle_append]; omega
    · rw [List.length_append, List.length_append]
      simp only [List.length_singleton]; omega
    · rcases List.mem_append.1 hz with hz | hz
      · exact List.mem_append_left _ (h4 z hz)
      · exact List.mem_append_right _ hz
theorem canc_go : ∀ (suf done xs : List Int), StkOk xs done → (∀ z ∈ done, ∀ y ∈ suf, z ≤ y) → suf.Pairwise (fun a b => a ≤ b) → StkOk (suf.foldl stk xs) (done ++ suf)
  | [], done, xs, h, _, _ => by simpa using h
  | x :: l, done, xs, h, hd, hs => by
    obtain ⟨s1, s2⟩ := List.pairwise_cons.1 hs
    have := canc_go l (done ++ [x]) (stk xs x) (stk_ok h fun z hz => hd z hz x List.mem_cons_self) (fun z hz y hy => by
      rcases List.mem_append.1 hz with hz | hz
      · exact hd z hz y (List.mem_cons_of_mem _ hy)
      · simp at hz; subst hz; exact s1 y hy) s2
    rw [List.foldl_cons]
    simpa using this
theorem canc_ok {l : List Int} (hs : l.Pairwise fun a b => a ≤ b) : StkOk (canc l) l := by
  have := canc_go l [] [] ⟨.nil, fun _ => rfl, rfl, fun _ h => (by cases h)⟩ (fun _ h => by cases h) hs
  unfold canc
  simpa using this
/-! In pairs. -/
def prs : List Int → List (Int × Int)
  | a :: b :: l => (a, b) :: prs l
  | _ => []
theorem prs_ok : ∀ {xs : List Int} {lo : Int}, xs.Pairwise (fun a b => a < b) → xs.length % 2 = 0 → (∀ x ∈ xs, lo < x) → flatS (prs xs) = xs ∧ Can lo (prs xs) ∧ ∀ x, InS x (prs xs) ↔ cle x xs % 2 = 1
  | [], lo, _, _, _ => ⟨rfl, trivial, fun x => ⟨fun h => absurd h InS_nil, fun h => by simp [cle] at h⟩⟩
  | [a], lo, _, h, _ => by simp at h
  | a :: b :: l, lo, hp, hl, hlo => by
    obtain ⟨p1, p2⟩ := List.pairwise_cons.1 hp
    obtain ⟨p3, p4⟩ := List.pairwise_cons.1 p2
    have hab := p1 b List.mem_cons_self
    obtain ⟨i1, i2, i3⟩ := prs_ok (xs := l) (lo := b) p4 (by simp at hl; omega) p3
    refine ⟨by rw [prs, flatS_cons, i1], ⟨hlo a List.mem_cons_self, hab, i2⟩, fun x => ?_⟩
    rw [prs, InS_cons, i3]
    have e : cle x (a :: b :: l) = (if a ≤ x then 1 else 0) + ((if b ≤ x then 1 else 0) + cle x l) := by
      rw [show a :: b :: l = [a] ++ ([b] ++ l) from rfl, cle_append, cle_append, cle_one, cle_one]
    rw [e]
    have h0 : x < b → cle x l = 0 := fun h => by
      unfold cle
      rw [List.length_eq_zero_iff, List.filter_eq_nil_iff]
      intro z hz
      have := p3 z hz
      simp; omega
    by_cases ha : a ≤ x <;> by_cases hb : b ≤ x <;> simp only [ha, hb, if_true, if_false, true_and, false_and, and_false, false_or, true_or, iff_true] <;> first | omega | (have := h0 (by omega); omega)
/-! The sides of a closed row. -/
def nxt (p0 : TPoint) : List TPoint → List (TPoint × TPoint)
  | [] => []
  | [x] => [(x, p0)]
  | x :: y :: r => (x, y) :: nxt p0 (y :: r)
def sidesP : List TPoint → List (TPoint × TPoint)
  | [] => []
  | x :: r => nxt x (x :: r)
/-- Sides along the axes. -/
def axS (l : List (TPoint × TPoint)) : Prop := ∀ s ∈ l, (s.1.X = s.2.X) ≠ (s.1.Y = s.2.Y)
def crossN (y : Int) (l : List (TPoint × TPoint)) : List (TPoint × TPoint) := l.filter fun s => decide (s.1.X = s.2.X) && (decide (min s.1.Y s.2.Y ≤ y) && decide (y < max s.1.Y s.2.Y))
theorem cross_iff {y : Int} {s : TPoint × TPoint} (h : s.1.X ≠ s.2.X → s.1.Y = s.2.Y) : (decide (s.1.X = s.2.X) && (decide (min s.1.Y s.2.Y ≤ y) && decide (y < max s.1.Y s.2.Y))) = (decide (s.1.Y ≤ y) != decide (s.2.Y ≤ y)) := by
  by_cases hx : s.1.X = s.2.X
  · rw [decide_eq_true hx, Bool.true_and, Bool.eq_iff_iff]
    simp only [Bool.and_eq_true, decide_eq_true_eq, bne_iff_ne, ne_eq, decide_eq_decide]
    omega
  · have hy := h hx
    rw [decide_eq_false hx, Bool.false_and, hy]; simp
theorem nxt_par (y : Int) (p0 : TPoint) : ∀ (r : List TPoint) (x : TPoint), axS (nxt p0 (x :: r)) → (crossN y (nxt p0 (x :: r))).length % 2 = (if (decide (x.Y ≤ y) != decide (p0.Y ≤ y)) then 1 else 0)
  | [], x, h => by
    have hs := h (x, p0) (by simp [nxt])
    have := cross_iff (y := y) (s := (x, p0)) (fun hx => by
      by_cases hy : x.Y = p0.Y
      · exact hy
      · exact absurd (propext ⟨fun h => absurd h hx, fun h => absurd h hy⟩) hs)
    unfold crossN
    rw [nxt, List.filter_cons, List.filter_nil, this]
    split <;> rfl
  | z :: r, x, h => by
    have hs := h (x, z) (by simp [nxt])
    have hc := cross_iff (y := y) (s := (x, z)) (fun hx => by
      by_cases hy : x.Y = z.Y
      · exact hy
      · exact absurd (propext ⟨fun h => absurd h hx, fun h => absurd h hy⟩) hs)
    have ih := nxt_par y p0 r z (fun s hs => h s (by rw [nxt]; exact List.mem_cons_of_mem _ hs))
    unfold crossN at ih ⊢
    rw [nxt, List.filter_cons, hc]
    simp only at hc ⊢
    cases h1 : decide (x.Y ≤ y) <;> cases h2 : decide (z.Y ≤ y) <;> cases h3 : decide (p0.Y ≤ y) <;> rw [h2, h3] at ih <;> simp at ih ⊢ <;> omega
/-- An even number of sides crosses a height. -/
theorem cross_even (y : Int) {l : List TPoint} (h : axS (sidesP l)) : (crossN y (sidesP l)).length % 2 = 0 := by
  cases l with
  | nil => rfl
  | cons x r =>
    have := nxt_par y x r x h
    rw [sidesP, this]; simp
/-! What the sides cross, by heights. -/
def xsAt (up : List TRect) (y : Int) : List Int := (up.filter fun s => decide (s.Y0 ≤ y) && decide (y < s.Y1)).map (·.X0)
def fA (up : List TRect) (y : Int) : List (Int × Int) := prs (canc (xsAt up y))
theorem low_all : ∀ (l : List Int), ∃ lo, ∀ x ∈ l, lo < x
  | [] => ⟨0, fun _ h => by cases h⟩
  | a :: l => by
    obtain ⟨lo, h⟩ := low_all l
    refine ⟨min lo (a - 1), fun x hx => ?_⟩
    rcases List.mem_cons.1 hx with rfl | hx
    · omega
    · have := h x hx; omega
theorem fA_ok {up : List TRect} (hs : up.Pairwise fun a b => a.X0 ≤ b.X0) (hev : ∀ y, (xsAt up y).length % 2 = 0) (y : Int) : flatS (fA up y) = canc (xsAt up y) ∧ (∃ lo, Can lo (fA up y)) ∧ (∀ x, InS x (fA up y) ↔ cle x (xsAt up y) % 2 = 1) ∧ ∀ z ∈ canc (xsAt up y), z ∈ xsAt up y := by
  have hp : (xsAt up y).Pairwise fun a b => a ≤ b := by
    unfold xsAt
    rw [List.pairwise_map]
    exact hs.filter _
  have hc := canc_ok hp
  obtain ⟨lo, hlo⟩ := low_all (canc (xsAt up y))
  obtain ⟨a1, a2, a3⟩ := prs_ok (lo := lo) hc.inc (by rw [hc.len, hev]) hlo
  exact ⟨a1, ⟨lo, a2⟩, fun x => by unfold fA; rw [a3, hc.par], hc.sub⟩
theorem xsAt_const {up : List TRect} {ys : List Int} (hm : ∀ s ∈ up, s.Y0 ∈ ys ∧ s.Y1 ∈ ys) {a y : Int} (hay : a ≤ y) (h : ∀ z ∈ ys, z ≤ a ∨ y < z) : xsAt up y = xsAt up a := by
  unfold xsAt
  congr 1
  apply List.filter_congr
  intro s hs
  obtain ⟨h1, h2⟩ := hm s hs
  have k1 := h _ h1
  have k2 := h _ h2
  rw [Bool.eq_iff_iff]
  simp only [Bool.and_eq_true, decide_eq_true_eq]
  omega
theorem fA_bands {up : List TRect} {ys : List Int} (hy : ys.Pairwise fun x y => x < y) (hs : up.Pairwise fun a b => a.X0 ≤ b.X0) (hev : ∀ y, (xsAt up y).length % 2 = 0) (hm : ∀ s ∈ up, s.Y0 ∈ ys ∧ s.Y1 ∈ ys) : BOk (bandsF (fA up) ys []) ∧ ∀ x y, InB x y (bandsF (fA up) ys []) ↔ cle x (xsAt up y) % 2 = 1 := by
  have hnil : ∀ y, (∀ s ∈ up, ¬ (s.Y0 ≤ y ∧ y < s.Y1)) → fA up y = [] := fun y h => by
    have : xsAt up y = [] := by
      unfold xsAt
      rw [List.map_eq_nil_iff, List.filter_eq_nil_iff]
      intro s hs
      have := h s hs
      simpa using this
    unfold fA; rw [this]; rfl
  obtain ⟨b1, b2⟩ := bandsF_row (f := fA up) hy (fun y => (fA_ok hs hev y).2.1) (fun a y hay h => by unfold fA; rw [xsAt_const hm hay h])
    (fun y h => hnil y fun s hs hh => by have := h _ (hm s hs).1; omega) (fun y h => hnil y fun s hs hh => by have := h _ (hm s hs).2; omega)
  refine ⟨b1, fun x y => ?_⟩
  unfold InB
  rw [b2, (fA_ok hs hev y).2.2.1]
end Go.Proofs.Ytacapjleiadkkaa
namespace Go.Proofs.Ytacapjleiadkkaa
theorem up_mid2 {α : Type} (pre : List α) (x : α) (h : pre.length < 9223372036854775807) : w64 ((pre.length : Int) + 1) = ((pre ++ [x]).length : Int) := by
  rw [w64_eq (by omega) (by omega)]; simp
/-! Rows of corners (as for plots). -/
def rowL (l : List TPoint) : List TPoint → Nat → Bool
  | [], _ => true
  | x :: r, i => if ((x.X == (l.getD ((i + 1) % l.length) ⟨0, 0⟩).X) == (x.Y == (l.getD ((i + 1) % l.length) ⟨0, 0⟩).Y)) then false else rowL l r (i + 1)
theorem next_ok {l : List TPoint} {i : Nat} (h : i < l.length) (hl : l.length ≤ 9223372036854775807) : ((md (w64 ((i : Int) + 1)) (l.length : Int)).bind fun q => idx l q) = some (l.getD ((i + 1) % l.length) ⟨0, 0⟩) := by
  have hm : (i + 1) % l.length < l.length := Nat.mod_lt _ (by omega)
  unfold md
  rw [w64_eq (by omega) (by omega), if_neg (by omega), Option.bind_some, Int.tmod_eq_emod_of_nonneg (by omega)]
  rw [show ((i : Int) + 1) % (l.length : Int) = (((i + 1) % l.length : Nat) : Int) by simp]
  rw [idx_nat hm]
  simp [List.getD, hm]
theorem next_ok2 {β : Type} {l : List TPoint} {i : Nat} (h : i < l.length) (hl : l.length ≤ 9223372036854775807) (k : TPoint → Option β) :
    ((md (w64 ((i : Int) + 1)) (l.length : Int)).bind fun q => (idx l q).bind k) = k (l.getD ((i + 1) % l.length) ⟨0, 0⟩) := by
  have := next_ok h hl
  cases hq : md (w64 ((i : Int) + 1)) (l.length : Int) with
  | none => rw [hq] at this; simp at this
  | some q =>
    rw [hq] at this
    simp only [Option.bind_some] at this ⊢
    rw [this, Option.bind_some]
theorem IsRow_loop {l : List TPoint} (hl : l.length ≤ 9223372036854775807) : ∀ (suf : List TPoint) (i : Nat), i + suf.length = l.length → F_shape_IsRow_L1 l suf i = some (rowL l suf i)
  | [], _, _ => rfl
  | x :: r, i, h => by
    simp at h
    rw [F_shape_IsRow_L1, rowL, next_ok2 (by omega) hl, IsRow_loop hl r (i + 1) (by omega)]
    split <;> rfl
theorem IsRow_ok {l : List TPoint} (hl : l.length ≤ 9223372036854775807) : F_shape_IsRow l = some (if (l.length : Int) < 4 then false else rowL l l 0) := by
  unfold F_shape_IsRow
  rw [IsRow_loop hl l 0 (by omega)]
  split
  · rename_i h; rw [if_pos (by simpa using h)]
  · rename_i h; rw [if_neg (by simpa using h)]
def ptB (q : TPoint) : Bool := (decide (-1000000 ≤ q.X) && decide (q.X ≤ 1000000)) && (decide (-1000000 ≤ q.Y) && decide (q.Y ≤ 1000000))
theorem ptB_iff {q : TPoint} : ptB q = true ↔ (-1000000 ≤ q.X ∧ q.X ≤ 1000000) ∧ (-1000000 ≤ q.Y ∧ q.Y ≤ 1000000) := by unfold ptB; simp
theorem ptS_ok (q : TPoint) : F_shape_IsPoint q = some (ptB q) := by
  have h : ∀ x : Int, F_shape_IsAt x = some (decide (-1000000 ≤ x) && decide (x ≤ 1000000)) := fun x => rfl
  unfold F_shape_IsPoint ptB
  rw [h, h, Option.bind_some, Option.bind_some]
  cases (decide (-1000000 ≤ q.X) && decide (q.X ≤ 1000000)) <;> simp
/-- What is wrong with a row. -/
def rowErr (l : List TPoint) : Int := if (l.length : Int) < 4 then 3 else if (l.any fun q => !ptB q) = true then 1 else if rowL l l 0 = true then 0 else 3
/-- .. and with the first one of which something is. -/
def rowsErr : List (List TPoint) → Int
  | [] => 0
  | l :: r => if rowErr l = 0 then rowsErr r else rowErr l
theorem rowsErr_bad {l : List TPoint} {r : List (List TPoint)} {k : Int} (h : rowErr l = k) (hk : k ≠ 0) : rowsErr (l :: r) = k := by
  rw [rowsErr, h, if_neg hk]
theorem rowsErr_good {l : List TPoint} {r : List (List TPoint)} (h : rowErr l = 0) : rowsErr (l :: r) = rowsErr r := by
  rw [rowsErr, if_pos h]
theorem rowsErr_nil : rowsErr [] = 0 := rfl
theorem outP_ok (l : List TPoint) : F_slices_ContainsFunc_Point l F_shape_Filled_1 = some (l.any fun q => !ptB q) := by
  have key : ∀ (l : List TPoint) (i : Nat), F_slices_IndexFunc_Point_L1 F_shape_Filled_1 l i = some (ixOf (fun q => !ptB q) l (i : Int)) := by
    intro l
    induction l with
    | nil => intro i; rfl
    | cons x r ih =>
      intro i
      rw [F_slices_IndexFunc_Point_L1, ixOf, ih]
      have e : F_shape_Filled_1 x = some (!ptB x) := by
        unfold F_shape_Filled_1
        rw [ptS_ok]; rfl
      rw [e, Option.bind_some]
      split <;> rfl
  unfold F_slices_ContainsFunc_Point F_slices_IndexFunc_Point
  rw [key, Option.bind_some]
  exact congrArg some (ixOf_any _ l 0 (by omega))
theorem filled2_ok {N : Nat} {p0 : List (List TPoint)} : ∀ (suf : List (List TPoint)) (i : Nat), (∀ l ∈ suf, l.length ≤ 9223372036854775807) → F_shape_Filled_L2 N p0 suf i = if rowsErr suf = 0 then (F_shape_Around N p0).bind fun y116 => (F_shape_Set__Told N y116).bind fun y118 => some (y118.1, y118.2) else some ([], rowsErr suf)
  | [], i, _ => by
    rw [F_shape_Filled_L2.eq_1, if_pos rowsErr_nil]
  | l :: suf, i, hl => by
    have hll := hl l (by simp)
    rw [F_shape_Filled_L2.eq_2]
    by_cases h4 : (l.length : Int) < 4
    · have e : rowErr l = 3 := if_pos h4
      rw [if_pos (by simpa using h4), rowsErr_bad e (by decide), if_neg (by decide)]
    · rw [if_neg (by simpa using h4)]
      show (F_slices_ContainsFunc_Point l F_shape_Filled_1).bind _ = _
      rw [outP_ok, Option.bind_some]
      by_cases hp : (l.any fun q => !ptB q) = true
      · have e : rowErr l = 1 := (if_neg h4).trans (if_pos hp)
        rw [if_pos hp, rowsErr_bad e (by decide), if_neg (by decide)]
      · rw [if_neg hp, IsRow_ok hll, Option.bind_some, if_neg h4]
        by_cases hr : rowL l l 0 = true
        · have e : rowErr l = 0 := (if_neg h4).trans ((if_neg hp).trans (if_pos hr))
          rw [if_neg (by simp [hr]), rowsErr_good e]
          exact filled2_ok suf (i + 1) fun m hm => hl m (by simp [hm])
        · have e : rowErr l = 3 := (if_neg h4).trans ((if_neg hp).trans (if_neg hr))
          rw [if_pos (by simpa using hr), rowsErr_bad e (by decide), if_neg (by decide)]
theorem filled1_ok {N : Nat} {p0 : List (List TPoint)} : ∀ (suf : List (List TPoint)) (i : Nat) (n : Int), F_shape_Filled_L1 N p0 suf i n = if 2000 < cntP suf n then some ([], 2) else F_shape_Filled_L2 N p0 p0 0
  | [], i, n => by
    rw [F_shape_Filled_L1.eq_1]
    unfold cntP
    by_cases h : 2000 < n
    · rw [if_pos (by simpa using h), if_pos h]
    · rw [if_neg (by simpa using h), if_neg h]
  | p :: suf, i, n => by rw [F_shape_Filled_L1.eq_2, filled1_ok suf]; rfl
theorem FilledP_ok {N : Nat} {p0 : List (List TPoint)} (hl : ∀ l ∈ p0, l.length ≤ 9223372036854775807) : F_shape_Filled N p0 = if 2000 < cntP p0 0 then some ([], 2) else if rowsErr p0 = 0 then (F_shape_Around N p0).bind fun y116 => (F_shape_Set__Told N y116).bind fun y118 => some (y118.1, y118.2) else some ([], rowsErr p0) := by
  unfold F_shape_Filled
  rw [filled1_ok, filled2_ok p0 0 hl]
end Go.Proofs.Ytacapjleiadkkaa
namespace Go.Proofs.Ytacapjleiadkkaa
theorem stk_len (xs : List Int) (x : Int) : (stk xs x).length ≤ xs.length + 1 := by
  unfold stk
  split
  · rw [List.length_dropLast]; omega
  · simp
theorem canc_len_go : ∀ (l xs : List Int), (l.foldl stk xs).length ≤ xs.length + l.length
  | [], xs => by simp
  | x :: l, xs => by
    have h1 := stk_len xs x
    have h2 := canc_len_go l (stk xs x)
    rw [List.foldl_cons, List.length_cons]; omega
theorem canc_len (l : List Int) : (canc l).length ≤ l.length := by
  have := canc_len_go l []
  unfold canc
  simpa using this
/-- The numbers of one height. -/
theorem xs_loop {ys : List Int} {out : List TBand} {k : Nat} {K : List TBand → Int → Option (List TBand)} {a b : Int} (ha : idx ys (k : Int) = some a) (hb : idx ys (w64 ((k : Int) + 1)) = some b) : ∀ (suf : List TRect) (i : Nat) (xs : List Int), xs.length + suf.length ≤ 1000000 →
    F_shape_Around_L7 ys out (k : Int) K suf i xs = (F_shape_Set__push out ⟨a, b, (xsAt suf a).foldl stk xs⟩).bind fun y => K y (w64 ((k : Int) + 1))
  | [], i, xs, _ => by
    rw [F_shape_Around_L7, ha, Option.bind_some, hb, Option.bind_some]; rfl
  | s :: l, i, xs, h => by
    simp at h
    rw [F_shape_Around_L7, ha, Option.bind_some]
    by_cases hc : s.Y0 ≤ a ∧ a < s.Y1
    · have e1 : xsAt (s :: l) a = s.X0 :: xsAt l a := by
        unfold xsAt
        rw [List.filter_cons, if_pos (by simpa using hc)]; rfl
      rw [if_neg (by simp <;> omega), Option.bind_some, Option.bind_some, if_neg (by simp <;> omega), e1, List.foldl_cons]
      rcases List.eq_nil_or_concat xs with hx | ⟨zs, z, hx⟩
      · subst hx
        rw [if_neg (by simp), Option.bind_some, if_neg (by simp), apd_ok (by simp), Option.bind_some, xs_loop ha hb l (i + 1) _ (by simp <;> omega)]
        rfl
      · rw [List.concat_eq_append] at hx
        subst hx
        simp at h
        have hz : idx (zs ++ [z]) (w64 (((zs ++ [z]).length : Int) - 1)) = some z := by
          rw [w64_id (by simp <;> omega) (by simp <;> omega), show ((zs ++ [z]).length : Int) - 1 = (zs.length : Int) by simp]
          exact idx_mid zs [] z
        rw [if_pos (by simp), hz, Option.bind_some, Option.bind_some]
        by_cases he : z = s.X0
        · have hp : pre (zs ++ [z]) (w64 (((zs ++ [z]).length : Int) - 1)) = some zs := by
            rw [w64_id (by simp <;> omega) (by simp <;> omega), show ((zs ++ [z]).length : Int) - 1 = (zs.length : Int) by simp]
            unfold pre
            rw [if_pos ⟨by omega, by simp <;> omega⟩]
            simp
          rw [if_pos (by simpa using he), hp, Option.bind_some, xs_loop ha hb l (i + 1) _ (by omega)]
          unfold stk
          rw [if_pos (by simp [he]), List.dropLast_concat]
        · rw [if_neg (by simpa using he), apd_ok (by simp <;> omega), Option.bind_some, xs_loop ha hb l (i + 1) _ (by simp <;> omega)]
          have : stk (zs ++ [z]) s.X0 = zs ++ [z] ++ [s.X0] := by unfold stk; rw [if_neg (by simp [he])]
          rw [this]
    · have e1 : xsAt (s :: l) a = xsAt l a := by
        unfold xsAt
        rw [List.filter_cons, if_neg (by simpa using hc)]
      rw [e1]
      by_cases h0 : a < s.Y0
      · rw [if_pos (decide_eq_true h0), Option.bind_some, if_pos rfl, xs_loop ha hb l (i + 1) _ (by omega)]
      · rw [if_neg (by simpa using h0), Option.bind_some, Option.bind_some, if_pos (by simp <;> omega), xs_loop ha hb l (i + 1) _ (by omega)]
/-- All heights. -/
theorem bands_loop {ys : List Int} {up : List TRect} (hy : ys.Pairwise fun x y => x < y) (hs : up.Pairwise fun a b => a.X0 ≤ b.X0) (hev : ∀ y, (xsAt up y).length % 2 = 0) (hl : ys.length ≤ 100000) (hu : up.length ≤ 100000) : ∀ (suf pre : List Int) (m : Nat) (out : List Bd), ys = pre ++ suf → suf.length < m → out.length + suf.length ≤ 1000000 →
    F_shape_Around_L6 ys up m (out.map toP) (pre.length : Int) = some ((bandsF (fA up) suf out).map toP)
  | [], pre, m, out, he, hm, _ => by
    obtain ⟨m, rfl⟩ : ∃ k, m = k + 1 := ⟨m - 1, by omega⟩
    have hlen : ys.length = pre.length := by rw [he]; simp
    rw [F_shape_Around_L6, if_neg (by rw [w64_id (by omega) (by omega)]; simp; omega)]
    rfl
  | [a], pre, m, out, he, hm, _ => by
    obtain ⟨m, rfl⟩ : ∃ k, m = k + 1 := ⟨m - 1, by omega⟩
    have hlen : ys.length = pre.length + 1 := by rw [he]; simp
    rw [F_shape_Around_L6, if_neg (by rw [w64_id (by omega) (by omega)]; simp; omega)]
    rfl
  | a :: b :: l, pre, m, out, he, hm, ho => by
    obtain ⟨m, rfl⟩ : ∃ k, m = k + 1 := ⟨m - 1, by simp at hm; omega⟩
    simp at hm ho
    have hlen : ys.length = pre.length + (l.length + 2) := by rw [he]; simp
    have hab : a < b := by
      rw [he] at hy
      have := (List.pairwise_append.1 hy).2.1
      exact (List.pairwise_cons.1 this).1 b List.mem_cons_self
    have hia : idx ys (pre.length : Int) = some a := by rw [he]; exact idx_mid _ _ _
    have hib : idx ys (w64 ((pre.length : Int) + 1)) = some b := by
      rw [up_mid2 pre a (by omega), he, show pre ++ a :: b :: l = (pre ++ [a]) ++ b :: l by simp]; exact idx_mid _ _ _
    rw [F_shape_Around_L6, if_pos (by rw [w64_id (by omega) (by omega)]; simp; omega), xs_loop hia hib up 0 [] (by simp; omega)]
    have hpu := push_ok (l := out) (b := (a, b, fA up a)) (by omega) hab
    have e : toP (a, b, fA up a) = ⟨a, b, (xsAt up a).foldl stk []⟩ := by
      show (⟨a, b, flatS (fA up a)⟩ : TBand) = _
      rw [(fA_ok hs hev a).1]; rfl
    rw [e] at hpu
    rw [hpu, Option.bind_some, up_mid2 pre a (by omega)]
    have hpl := pushB_len out (a, b, fA up a)
    have := bands_loop hy hs hev hl hu (b :: l) (pre ++ [a]) m (pushB out (a, b, fA up a)) (by rw [he]; simp) (by simp; omega) (by simp; omega)
    rw [this]; rfl
/-! The sides. -/
def vertP (s : TPoint × TPoint) : Option TRect := if s.1.X = s.2.X then some ⟨s.1.X, min s.1.Y s.2.Y, 0, max s.1.Y s.2.Y⟩ else none
theorem nxt_cons (p0 x : TPoint) (r : List TPoint) : nxt p0 (x :: r) = (x, (r ++ [p0]).headD p0) :: nxt p0 r := by
  cases r with
  | nil => rfl
  | cons y r => rfl
theorem next_head {pre r : List TPoint} {x p0 : TPoint} (h0 : (pre ++ x :: r).head? = some p0) : (pre ++ x :: r).getD ((pre.length + 1) % (pre ++ x :: r).length) ⟨0, 0⟩ = (r ++ [p0]).headD p0 := by
  cases r with
  | nil =>
    have : (pre.length + 1) % (pre ++ [x]).length = 0 := by simp
    rw [this]
    cases pre with
    | nil => simp at h0 ⊢; exact h0
    | cons z pre => simp at h0 ⊢; exact h0
  | cons y r =>
    have : (pre.length + 1) % (pre ++ x :: y :: r).length = pre.length + 1 := Nat.mod_eq_of_lt (by simp)
    rw [this]
    simp [List.getD]
theorem sides_loop {l : List TPoint} {p0 : TPoint} (h0 : l.head? = some p0) (hl : l.length ≤ 100000) {K : List Int → List TRect → Option (List TBand)} : ∀ (suf pre : List TPoint) (ys : List Int) (up : List TRect), l = pre ++ suf → ys.length + suf.length ≤ 1000000000 → up.length + suf.length ≤ 1000000000 →
    F_shape_Around_L8 K l suf pre.length ys up = K (ys ++ suf.map (·.Y)) (up ++ (nxt p0 suf).filterMap vertP)
  | [], pre, ys, up, he, hy, hu => by rw [F_shape_Around_L8]; simp [nxt]
  | x :: r, pre, ys, up, he, hy, hu => by
    simp only [List.length_cons] at hy hu
    have hlen : l.length = pre.length + (r.length + 1) := by rw [he]; simp
    have hnx : l.getD ((pre.length + 1) % l.length) ⟨0, 0⟩ = (r ++ [p0]).headD p0 := by
      have := next_head (pre := pre) (r := r) (x := x) (p0 := p0) (by rw [← he]; exact h0)
      rw [he]; exact this
    rw [F_shape_Around_L8, next_ok2 (by omega) (by omega), hnx, apd_ok (by simp; omega), Option.bind_some, nxt_cons]
    by_cases hx : x.X = ((r ++ [p0]).headD p0).X
    · have hv : vertP (x, (r ++ [p0]).headD p0) = some ⟨x.X, min x.Y ((r ++ [p0]).headD p0).Y, 0, max x.Y ((r ++ [p0]).headD p0).Y⟩ := if_pos hx
      rw [if_pos (by simpa using hx), apd_ok (by simp; omega), Option.bind_some, List.filterMap_cons_some hv]
      have := sides_loop h0 hl (K := K) r (pre ++ [x]) (ys ++ [x.Y]) (up ++ [⟨x.X, min x.Y ((r ++ [p0]).headD p0).Y, 0, max x.Y ((r ++ [p0]).headD p0).Y⟩]) (by rw [he]; simp) (by first | omega | (simp; omega)) (by first | omega | (simp; omega))
      rw [show (pre ++ [x]).length = pre.length + 1 by simp] at this
      rw [this]; simp
    · have hv : vertP (x, (r ++ [p0]).headD p0) = none := if_neg hx
      rw [if_neg (by simpa using hx), List.filterMap_cons_none hv]
      have := sides_loop h0 hl (K := K) r (pre ++ [x]) (ys ++ [x.Y]) up (by rw [he]; simp) (by first | omega | (simp; omega)) (by first | omega | (simp; omega))
      rw [show (pre ++ [x]).length = pre.length + 1 by simp] at this
      rw [this]; simp
theorem vert_cross (y : Int) : ∀ (S : List (TPoint × TPoint)), ((S.filterMap vertP).filter fun s => decide (s.Y0 ≤ y) && decide (y < s.Y1)).map (·.X0) = (crossN y S).map (·.1.X)
  | [] => rfl
  | s :: S => by
    have ih := vert_cross y S
    unfold crossN at ih ⊢
    by_cases hx : s.1.X = s.2.X
    · have hv : vertP s = some ⟨s.1.X, min s.1.Y s.2.Y, 0, max s.1.Y s.2.Y⟩ := if_pos hx
      rw [List.filterMap_cons_some hv, List.filter_cons, List.filter_cons, decide_eq_true hx, Bool.true_and]
      by_cases hc : (decide (min s.1.Y s.2.Y ≤ y) && decide (y < max s.1.Y s.2.Y)) = true
      · rw [if_pos hc, if_pos hc, List.map_cons, List.map_cons, ih]
      · rw [if_neg hc, if_neg hc, ih]
    · have hv : vertP s = none := if_neg hx
      rw [List.filterMap_cons_none hv, List.filter_cons, decide_eq_false hx, Bool.false_and, if_neg (by simp), ih]
theorem nxt_len (p0 : TPoint) : ∀ (l : List TPoint), (nxt p0 l).length = l.length
  | [] => rfl
  | x :: r => by rw [nxt_cons, List.length_cons, List.length_cons, nxt_len p0 r]
theorem nxt_mem {p0 : TPoint} : ∀ {l : List TPoint} {s : TPoint × TPoint}, s ∈ nxt p0 l → s.1 ∈ l ∧ (s.2 ∈ l ∨ s.2 = p0)
  | [], s, h => by cases h
  | x :: r, s, h => by
    rw [nxt_cons] at h
    rcases List.mem_cons.1 h with rfl | h
    · refine ⟨List.mem_cons_self, ?_⟩
      cases r with
      | nil => exact .inr rfl
      | cons y r => exact .inl (by simp)
    · obtain ⟨h1, h2⟩ := nxt_mem h
      exact ⟨List.mem_cons_of_mem _ h1, h2.imp (List.mem_cons_of_mem _) id⟩
/-- Whether a square lies within a closed row: an odd number of its sides lies to the left. -/
def inRow (l : List TPoint) (x y : Int) : Prop := cle x ((crossN y (sidesP l)).map (·.1.X)) % 2 = 1
theorem bandsF_len {f : Int → List (Int × Int)} {R : Nat} (hf : ∀ y, (f y).length ≤ R) : ∀ (ys : List Int) (out : List Bd), (∀ c ∈ out, c.2.2.length ≤ R) → (bandsF f ys out).length ≤ out.length + ys.length ∧ ∀ c ∈ bandsF f ys out, c.2.2.length ≤ R
  | [], out, h => ⟨by simp [bandsF], h⟩
  | [a], out, h => ⟨by simp [bandsF], h⟩
  | a :: b :: ys, out, h => by
    have h1 := pushB_len out (a, b, f a)
    obtain ⟨h2, h3⟩ := bandsF_len hf (b :: ys) (pushB out (a, b, f a)) (pushB_row h (hf a))
    rw [bandsF]
    exact ⟨by simp at h2 ⊢; omega, h3⟩
/-- The sides of many rows. -/
def allS (rows : List (List TPoint)) : List (TPoint × TPoint) := rows.flatMap sidesP
/-- Whether a square lies within rows: an odd number of their sides lies to the left. -/
def inRows (rows : List (List TPoint)) (x y : Int) : Prop := cle x ((crossN y (allS rows)).map (·.1.X)) % 2 = 1
def allY (rows : List (List TPoint)) : List Int := rows.flatMap fun l => l.map (·.Y)
theorem crossN_append (y : Int) (a b : List (TPoint × TPoint)) : crossN y (a ++ b) = crossN y a ++ crossN y b := by unfold crossN; rw [List.filter_append]
theorem cross_evens (y : Int) : ∀ {rows : List (List TPoint)}, (∀ l ∈ rows, axS (sidesP l)) → (crossN y (allS rows)).length % 2 = 0
  | [], _ => rfl
  | l :: rows, h => by
    have h1 := cross_even y (h l (by simp))
    have h2 := cross_evens y (rows := rows) fun m hm => h m (by simp [hm])
    have e : allS (l :: rows) = sidesP l ++ allS rows := rfl
    rw [e, crossN_append, List.length_append]; omega
theorem sidesP_len (l : List TPoint) : (sidesP l).length = l.length := by
  cases l with
  | nil => rfl
  | cons x r => exact nxt_len x (x :: r)
theorem allS_len : ∀ rows : List (List TPoint), (allS rows).length = rows.flatten.length
  | [] => rfl
  | l :: rows => by
    have e : allS (l :: rows) = sidesP l ++ allS rows := rfl
    rw [e, List.flatten_cons, List.length_append, List.length_append, sidesP_len, allS_len rows]
theorem allY_len : ∀ rows : List (List TPoint), (allY rows).length = rows.flatten.length
  | [] => rfl
  | l :: rows => by
    have e : allY (l :: rows) = l.map (·.Y) ++ allY rows := rfl
    rw [e, List.flatten_cons, List.length_append, List.length_append, List.length_map, allY_len rows]
theorem sidesP_mem {l : List TPoint} {s : TPoint × TPoint} (h : s ∈ sidesP l) : s.1 ∈ l ∧ s.2 ∈ l := by
  cases l with
  | nil => cases h
  | cons x r =>
    obtain ⟨s1, s2⟩ := nxt_mem (show s ∈ nxt x (x :: r) from h)
    exact ⟨s1, s2.elim id fun e => e ▸ List.mem_cons_self⟩
theorem rows_loop {N : Nat} : ∀ (suf : List (List TPoint)) (i : Nat) (ys : List Int) (up : List TRect), (∀ l ∈ suf, l.length ≤ 100000) → ys.length + suf.flatten.length ≤ 1000000000 → up.length + suf.flatten.length ≤ 1000000000 →
    F_shape_Around_L3 N suf i ys up = F_shape_Around_L3 N [] (i + suf.length) (ys ++ allY suf) (up ++ (allS suf).filterMap vertP)
  | [], i, ys, up, _, _, _ => by simp [allY, allS]
  | l :: suf, i, ys, up, hl, hy, hu => by
    rw [List.flatten_cons, List.length_append] at hy hu
    have e1 : allY (l :: suf) = l.map (·.Y) ++ allY suf := rfl
    have e2 : allS (l :: suf) = sidesP l ++ allS suf := rfl
    rw [F_shape_Around_L3.eq_2, e1, e2, List.filterMap_append, List.length_cons]
    have hfl := List.length_filterMap_le vertP (sidesP l)
    rw [sidesP_len] at hfl
    have ih := rows_loop (N := N) suf (i + 1) (ys ++ l.map (·.Y)) (up ++ (sidesP l).filterMap vertP) (fun m hm => hl m (by simp [hm])) (by rw [List.length_append, List.length_map]; omega) (by rw [List.length_append]; omega)
    cases l with
    | nil =>
      rw [F_shape_Around_L8]
      simp only [List.map_nil, List.append_nil, List.nil_append, sidesP, List.filterMap_nil] at ih ⊢
      rw [ih]; congr 1; omega
    | cons x r =>
      have hsl := sides_loop (l := x :: r) (p0 := x) rfl (hl _ (by simp)) (K := F_shape_Around_L3 N suf (i + 1)) (x :: r) [] ys up rfl (by omega) (by omega)
      rw [show ([] : List TPoint).length = 0 from rfl] at hsl
      rw [hsl]
      show F_shape_Around_L3 N suf (i + 1) (ys ++ (x :: r).map (·.Y)) (up ++ (sidesP (x :: r)).filterMap vertP) = _
      rw [ih, List.append_assoc, List.append_assoc]
      congr 1; omega
/-- What rows go around. -/
theorem Around_rows {N : Nat} (hN : 10000000000 ≤ N) {rows : List (List TPoint)} (hl : rows.flatten.length ≤ 2000) (hb : ∀ l ∈ rows, ∀ p ∈ l, -1000000000 ≤ p.X ∧ p.X ≤ 1000000000) (hax : ∀ l ∈ rows, axS (sidesP l)) :
    ∃ A, F_shape_Around N rows = some (A.map toP) ∧ BOk A ∧ A.length ≤ 2000 ∧ (∀ b ∈ A, b.2.2.length ≤ 2000) ∧ (∀ x y, InB x y A ↔ inRows rows x y) := by
  have hrl : ∀ l ∈ rows, l.length ≤ 2000 := fun l h => by
    have : l.length ≤ rows.flatten.length := by
      obtain ⟨a, b, rfl⟩ := List.append_of_mem h
      simp; omega
    omega
  obtain ⟨V, hV⟩ : ∃ V, V = (allS rows).filterMap vertP := ⟨_, rfl⟩
  have hVm : ∀ v ∈ V, (∃ l ∈ rows, v.X0 ∈ l.map (·.X)) ∧ v.Y0 ∈ allY rows ∧ v.Y1 ∈ allY rows := fun v hv => by
    rw [hV] at hv
    obtain ⟨s, hs, hsv⟩ := List.mem_filterMap.1 hv
    obtain ⟨l, hlr, hs⟩ := List.mem_flatMap.1 hs
    obtain ⟨s1, s2⟩ := sidesP_mem hs
    have y1 : s.1.Y ∈ allY rows := List.mem_flatMap.2 ⟨l, hlr, List.mem_map.2 ⟨s.1, s1, rfl⟩⟩
    have y2 : s.2.Y ∈ allY rows := List.mem_flatMap.2 ⟨l, hlr, List.mem_map.2 ⟨s.2, s2, rfl⟩⟩
    unfold vertP at hsv
    split at hsv
    · cases Option.some.inj hsv
      refine ⟨⟨l, hlr, List.mem_map.2 ⟨s.1, s1, rfl⟩⟩, ?_, ?_⟩
      · show min s.1.Y s.2.Y ∈ _
        rcases (show min s.1.Y s.2.Y = s.1.Y ∨ min s.1.Y s.2.Y = s.2.Y by omega) with e | e <;> rw [e]
        · exact y1
        · exact y2
      · show max s.1.Y s.2.Y ∈ _
        rcases (show max s.1.Y s.2.Y = s.2.Y ∨ max s.1.Y s.2.Y = s.1.Y by omega) with e | e <;> rw [e]
        · exact y2
        · exact y1
    · cases hsv
  have hVl : V.length ≤ 2000 := by
    rw [hV]
    refine Nat.le_trans (List.length_filterMap_le _ _) ?_
    rw [allS_len]; exact hl
  have hVx : ∀ v ∈ V, -1000000000 ≤ v.X0 ∧ v.X0 ≤ 1000000000 := fun v hv => by
    obtain ⟨l, hlr, h1⟩ := (hVm v hv).1
    obtain ⟨p, hp, e⟩ := List.mem_map.1 h1
    have := hb l hlr p hp
    omega
  obtain ⟨U, u1, u2, u3⟩ := sort_key (c := fun z0 z1 => F_shape_Around_1 z0 z1) (k := fun r => r.X0) (l := V) (by omega) (fun x hx y hy => by
    have a := hVx x hx; have b := hVx y hy
    unfold F_shape_Around_1
    rw [w64_id (by omega) (by omega)])
  have hxs : ∀ y, (xsAt U y).Perm ((crossN y (allS rows)).map (·.1.X)) := fun y => by
    rw [← vert_cross, ← hV]
    exact (u2.filter _).map _
  have hev : ∀ y, (xsAt U y).length % 2 = 0 := fun y => by
    rw [(hxs y).length_eq, List.length_map]; exact cross_evens y hax
  have hcle : ∀ x y, cle x (xsAt U y) = cle x ((crossN y (allS rows)).map (·.1.X)) := fun x y => ((hxs y).filter _).length_eq
  obtain ⟨ys, hys⟩ : ∃ ys, ys = srtd (allY rows) := ⟨_, rfl⟩
  have hysl : ys.length ≤ 2000 := by rw [hys]; exact Nat.le_trans (srtd_len _) (by rw [allY_len]; exact hl)
  obtain ⟨b1, b2⟩ := fA_bands (up := U) (ys := ys) (by rw [hys]; exact srtd_strict _) u3 hev (fun s hs => by
    have := hVm s (u2.subset hs)
    rw [hys, srtd_mem, srtd_mem]; exact this.2)
  have hUl : U.length ≤ 2000 := by rw [u2.length_eq]; exact hVl
  have hrow : ∀ y, (fA U y).length ≤ 2000 := fun y => by
    have h1 := flatS_len (fA U y)
    rw [(fA_ok u3 hev y).1] at h1
    have h2 := canc_len (xsAt U y)
    have h3 : (xsAt U y).length ≤ U.length := by unfold xsAt; rw [List.length_map]; exact List.length_filter_le _ _
    omega
  obtain ⟨c1, c2⟩ := bandsF_len hrow ys [] (fun c hc => by cases hc)
  refine ⟨bandsF (fA U) ys [], ?_, b1, by simp at c1; omega, c2, fun x y => by rw [b2, hcle]; rfl⟩
  unfold F_shape_Around
  rw [rows_loop rows 0 [] [] (fun l h => by have := hrl l h; omega) (by rw [List.length_nil]; omega) (by rw [List.length_nil]; omega), List.nil_append, List.nil_append, F_shape_Around_L3.eq_1]
  have hso := srtd_ok (l := allY rows) (by rw [allY_len]; omega)
  rw [srtI_ok (by rw [allY_len]; omega), Option.bind_some] at hso ⊢
  rw [hso, Option.bind_some, ← hV, u1, Option.bind_some, ← hys]
  exact bands_loop (by rw [hys]; exact srtd_strict _) u3 hev (by omega) (by omega) ys [] N [] rfl (by omega) (by simp; omega)
/-- A good row runs along the axes. -/
theorem rowL_ax {l : List TPoint} {p0 : TPoint} (h0 : l.head? = some p0) : ∀ (suf pre : List TPoint), l = pre ++ suf → (rowL l suf pre.length = true ↔ axS (nxt p0 suf))
  | [], pre, _ => by
    constructor
    · intro _ s hs; cases hs
    · intro _; rfl
  | x :: r, pre, he => by
    have hnx : l.getD ((pre.length + 1) % l.length) ⟨0, 0⟩ = (r ++ [p0]).headD p0 := by
      have := next_head (pre := pre) (r := r) (x := x) (p0 := p0) (by rw [← he]; exact h0)
      rw [he]; exact this
    have ih := rowL_ax h0 r (pre ++ [x]) (by rw [he]; simp)
    rw [List.length_append, List.length_singleton] at ih
    rw [nxt_cons, rowL, hnx]
    generalize (r ++ [p0]).headD p0 = q
    have hb : ((x.X == q.X) == (x.Y == q.Y)) = true ↔ ¬ (x.X = q.X) ≠ (x.Y = q.Y) := by
      have e1 : (x.X == q.X) = decide (x.X = q.X) := rfl
      have e2 : (x.Y == q.Y) = decide (x.Y = q.Y) := rfl
      rw [e1, e2]
      by_cases h1 : x.X = q.X <;> by_cases h2 : x.Y = q.Y <;> simp [h1, h2]
    by_cases hc : ((x.X == q.X) == (x.Y == q.Y)) = true
    · rw [if_pos hc]
      constructor
      · intro h; cases h
      · intro h
        exact absurd (h (x, q) List.mem_cons_self) (hb.1 hc)
    · rw [if_neg hc, ih]
      constructor
      · intro h s hs
        rcases List.mem_cons.1 hs with rfl | hs
        · by_cases hh : (x.X = q.X) ≠ (x.Y = q.Y)
          · exact hh
          · exact absurd (hb.2 hh) hc
        · exact h s hs
      · intro h s hs
        exact h s (List.mem_cons_of_mem _ hs)
theorem rowErr_ok {l : List TPoint} : rowErr l = 0 ↔ 4 ≤ l.length ∧ (∀ p ∈ l, ptB p = true) ∧ axS (sidesP l) := by
  unfold rowErr
  by_cases h4 : (l.length : Int) < 4
  · rw [if_pos h4]
    constructor
    · intro h; cases h
    · rintro ⟨h, _⟩; omega
  · rw [if_neg h4]
    have hne : l ≠ [] := fun e => by subst e; simp at h4
    obtain ⟨p0, r0, rfl⟩ := List.exists_cons_of_ne_nil hne
    have hax := rowL_ax (l := p0 :: r0) (p0 := p0) rfl (p0 :: r0) [] rfl
    rw [List.length_nil] at hax
    by_cases hp : ((p0 :: r0).any fun q => !ptB q) = true
    · rw [if_pos hp]
      constructor
      · intro h; cases h
      · rintro ⟨_, h, _⟩
        obtain ⟨q, q1, q2⟩ := List.any_eq_true.1 hp
        rw [h q q1] at q2; cases q2
    · rw [if_neg hp]
      have hp' : ∀ p ∈ p0 :: r0, ptB p = true := fun p hpm => by
        cases hb : ptB p with
        | true => rfl
        | false => exact absurd (List.any_eq_true.2 ⟨p, hpm, by rw [hb]; rfl⟩) hp
      by_cases hr : rowL (p0 :: r0) (p0 :: r0) 0 = true
      · rw [if_pos hr]
        exact ⟨fun _ => ⟨by omega, hp', hax.1 hr⟩, fun _ => rfl⟩
      · rw [if_neg hr]
        constructor
        · intro h; cases h
        · rintro ⟨_, _, h⟩; exact absurd (hax.2 h) hr
theorem rowsErr_ok : ∀ {rows : List (List TPoint)}, rowsErr rows = 0 → ∀ l ∈ rows, rowErr l = 0
  | m :: rows, h, l, hl => by
    unfold rowsErr at h
    by_cases he : rowErr m = 0
    · rw [if_pos he] at h
      rcases List.mem_cons.1 hl with rfl | hl
      · exact he
      · exact rowsErr_ok h l hl
    · rw [if_neg he] at h; exact absurd h he
theorem rowsErr_of : ∀ {rows : List (List TPoint)}, (∀ l ∈ rows, rowErr l = 0) → rowsErr rows = 0
  | [], _ => rfl
  | m :: rows, h => by
    rw [rowsErr_good (h m (by simp))]
    exact rowsErr_of fun l hl => h l (by simp [hl])
end Go.Proofs.Ytacapjleiadkkaa
namespace Go.Proofs.Ytacapjleiadkkaa
open PX
theorem nxt_nxp (z : Int × Int) : ∀ l : List (Int × Int), nxt (toPt z) (l.map toPt) = (nxp z l).map fun s => (toPt s.1, toPt s.2)
  | [] => rfl
  | x :: r => by
    have e : nxp z (x :: r) = (x, r.headD z) :: nxp z r := rfl
    rw [List.map_cons, nxt_cons, nxt_nxp z r, e, List.map_cons]
    congr 1
    cases r <;> rfl
theorem sidesP_nxp {l : List (Int × Int)} : sidesP (l.map toPt) = (nxp (l.headD (0, 0)) l).map fun s => (toPt s.1, toPt s.2) := by
  cases l with
  | nil => rfl
  | cons x r => exact nxt_nxp x (x :: r)
theorem crossN_crx (y : Int) (l : List (Int × Int)) : (crossN y (sidesP (l.map toPt))).map (·.1.X) = crx y l := by
  rw [sidesP_nxp]
  unfold crossN crx
  rw [List.filter_map, List.map_map]
  rfl
theorem crossN_rows (y : Int) : ∀ ls : List (List (Int × Int)), (crossN y (allS (ls.map (List.map toPt)))).map (·.1.X) = ls.flatMap (crx y)
  | [] => rfl
  | l :: ls => by
    have e : allS ((l :: ls).map (List.map toPt)) = sidesP (l.map toPt) ++ allS (ls.map (List.map toPt)) := rfl
    rw [e, crossN_append, List.map_append, crossN_crx, crossN_rows y ls]; rfl
/-- The rows of borders are good. -/
theorem border_good {I : Sq} {B : List Ed} (hB : Fin_ I B) (hI : Lims I) {e : Ed} {l : List (Int × Int)} (he : Lst I e) (hl : Otl I e l) : rowErr (l.map toPt) = 0 := by
  have hd := hl.headD hB he
  obtain ⟨n, hn, hl⟩ := hl
  have hr := row_ok hB he hn
  rw [← hl] at hr
  refine rowErr_ok.2 ⟨by rw [List.length_map]; exact hr.len, fun p hp => ?_, ?_⟩
  · obtain ⟨q, hq, rfl⟩ := List.mem_map.1 hp
    obtain ⟨f, hf, rfl⟩ := hr.pts q hq
    obtain ⟨h1, _⟩ := step_lim hI hf
    exact ptB_iff.2 h1
  · rw [sidesP_nxp, hd]
    intro s hs
    obtain ⟨t, ht, rfl⟩ := List.mem_map.1 hs
    exact hr.ax t ht
/-- What is filled of the borders of a region. -/
theorem filled_back {N : Nat} (hN : 10000000000 ≤ N) {l : List TRect} (h : regionErr l = 0) {ls : List (List (Int × Int))} (ho : Outs (inRb l) ls) (hf : ∃ B, Fin_ (inRb l) B) (hlen : ls.flatten.length ≤ 100000000) (hc : ¬ 2000 < cntP (ls.map (List.map toPt)) 0) : F_shape_Filled N (ls.map (List.map toPt)) = some (l, 0) := by
  obtain ⟨_, h2, h3, h4⟩ := regionErr_ok h
  obtain ⟨B, hB⟩ := hf
  have hne := ROk.ne h3
  have hI := region_lims h3
  have hfl : (ls.map (List.map toPt)).flatten.length = ls.flatten.length := by
    rw [← List.map_flatten, List.length_map]
  have h2k : (ls.map (List.map toPt)).flatten.length ≤ 2000 := by
    have := cntP_val (ls.map (List.map toPt)) 0 (by omega)
    have e0 : ((0 : Nat) : Int) = 0 := rfl
    rw [e0] at this
    omega
  have hro : ∀ r ∈ ls.map (List.map toPt), rowErr r = 0 := fun r hr => by
    obtain ⟨l, hl, rfl⟩ := List.mem_map.1 hr
    obtain ⟨e, e1, e2⟩ := ho.is l hl
    exact border_good hB hI e1 e2
  have hrl : ∀ r ∈ ls.map (List.map toPt), r.length ≤ 2000 := fun r hr => by
    have : r.length ≤ (ls.map (List.map toPt)).flatten.length := by
      obtain ⟨a, b, hab⟩ := List.append_of_mem hr
      rw [hab]
      simp; omega
    omega
  obtain ⟨A, a1, a2, a3, a4, a5⟩ := Around_rows hN h2k (fun r hr p hp => by
    have := ptB_iff.1 ((rowErr_ok.1 (hro r hr)).2.1 p hp)
    omega) (fun r hr => (rowErr_ok.1 (hro r hr)).2.2)
  obtain ⟨b1, b2⟩ := setB_ok hne
  have hA : A = setB l := a2.uniq b1 fun x y => by
    rw [a5, b2, ← inRb_iff, ← ho.cross hB (fun y => ⟨-1000001, fun x hx => by
      cases hh : inRb l x y with
      | false => rfl
      | true => have := hI x y hh; omega⟩) x y]
    unfold inRows
    rw [crossN_rows]; rfl
  rw [FilledP_ok (fun r hr => by have := hrl r hr; omega), if_neg hc, if_pos (rowsErr_of hro), a1, Option.bind_some, Told_ok hN (by omega) (by
    have h5 := rectsB_len a4
    have h6 := Nat.mul_le_mul_left 2000 a3
    omega), Option.bind_some, hA]
  unfold toldV
  rw [h4, if_neg (by omega)]
end Go.Proofs.Ytacapjleiadkkaa
namespace Go.Proofs.Ytacapjleiadkkaa
theorem srtF_one {α : Type} {a : α} {c : α → α → Option Int} {k : Int} (h : c a a = some k) (hk : ¬ k < 0) : srtF [a] c = some [a] := by
  have hs : SortOk c [a] := ⟨by simp, fun x hx y hy => by simp at hx hy; subst hx hy; exact ⟨k, h⟩, fun x hx => by simp at hx; subst hx; simp [ltC, h]; omega, fun x hx y hy z hz h1 => by
    simp at hx hy; subst hx hy; simp [ltC, h] at h1; omega, fun x hx y hy z hz _ _ => by simp at hx hz; subst hx hz; simp [ltC, h]; omega⟩
  obtain ⟨m, hm⟩ := srtF_ok hs
  obtain ⟨_, hp, _⟩ := srtF_some hm
  rw [hm, List.perm_singleton.1 hp]
def r23 : TRect := ⟨0, 0, 2, 3⟩
theorem set23 (m : Nat) : F_shape_SetOf (m + 10) [r23] = some [⟨0, 3, [0, 2]⟩] := by
  have h1 : srtF [r23] (fun z0 z1 => F_shape_SetOf_1 z0 z1) = some [r23] := srtF_one (k := 0) rfl (by decide)
  have h2 : srtF [r23] (fun z0 z1 => F_shape_stretches_1 z0 z1) = some [r23] := srtF_one (k := 0) rfl (by decide)
  have h3 : srtI [0, 3] = some [0, 3] := by
    unfold srtI
    rw [if_pos (by simp), List.mergeSort_of_pairwise (by simp)]
  have h4 : F_shape_stretches [r23] = some ([0, 2], [r23]) := by
    unfold F_shape_stretches
    rw [h2]; rfl
  have h5 : cpI [0, 3] = some [0, 3] := rfl
  unfold F_shape_SetOf F_slices_Clone_Rect
  rw [show apd ([] : List TRect) [r23] = some [r23] from rfl, Option.bind_some, Option.bind_some, h1, Option.bind_some, F_shape_SetOf_L1.eq_2, show apd ([] : List Int) [r23.Y0, r23.Y1] = some [0, 3] from rfl, Option.bind_some, F_shape_SetOf_L1.eq_1, h3, Option.bind_some, h5, Option.bind_some,
    F_shape_SetOf_L4.eq_2, if_pos (by decide), show F_slices_DeleteFunc_Rect (m + 10) ([] : List TRect) (fun z0 => F_shape_SetOf_2 z0 [0, 3] 0) = some [] from rfl, Option.bind_some, F_shape_SetOf_L5.eq_2]
  show ((some (decide (r23.Y0 ≤ 0))).bind fun g261 => if g261 then _ else _) = _
  rw [Option.bind_some, if_pos (by decide)]
  show F_shape_SetOf_L5 [r23] [0, 3] 0 [] (F_shape_SetOf_L4 (m + 10) [r23] [0, 3] (m + 9)) (m + 9) [r23] 1 = _
  rw [F_shape_SetOf_L5.eq_2]
  show (((F_shape_stretches [r23]).bind fun y270 => (F_shape_Set__push [] (TBand.mk 0 3 y270.1)).bind fun y274 => F_shape_SetOf_L4 (m + 10) [r23] [0, 3] (m + 9) 1 y274 y270.2 1)) = _
  rw [h4]
  show F_shape_SetOf_L4 (m + 10) [r23] [0, 3] (m + 9) 1 [⟨0, 3, [0, 2]⟩] [r23] 1 = _
  rw [F_shape_SetOf_L4.eq_2, if_neg (by decide)]
theorem awake1_ok {N : Nat} (hN : 10 ≤ N) : F_etchhouselaw1_awake N = some true := by
  obtain ⟨m, rfl⟩ : ∃ m, N = m + 10 := ⟨N - 10, by omega⟩
  unfold F_etchhouselaw1_awake F_shape_Area F_shape_CheckRegion
  rw [show F_shape_CheckRects [TRect.mk 0 0 2 3] = some 0 from rfl, Option.bind_some, if_neg (by decide), F_shape_CheckRegion_L1.eq_2, if_neg (by decide)]
  have := set23 m
  unfold r23 at this
  rw [this]
  rfl
end Go.Proofs.Ytacapjleiadkkaa
namespace Go.Proofs.Ytacapjleiadkkaa
theorem outBack_ok {N : Nat} (hN : 10000000000 ≤ N) (l : List TRect) : F_etchhouselaw1_OutlinesComeBack N l = some true := by
  obtain ⟨y, y1, y2, y3⟩ := OutlinesP_ok hN l
  unfold F_etchhouselaw1_OutlinesComeBack
  rw [y1, Option.bind_some]
  have hend : y.1 = [] → ((if ((y.1.length : Int) == 0) then (F_etchhouselaw1_awake N).bind fun y104 => some y104 else some false).bind fun g103 => some g103) = some true := fun h => by
    rw [h, if_pos (by simp), awake1_ok (by omega)]; rfl
  by_cases h : regionErr l = 0
  · obtain ⟨ls, l1, l2, l3, l4, rfl⟩ := y3 h
    by_cases hc : 2000 < cntP (ls.map (List.map toPt)) 0
    · have e : outV l ls = ([], 2) := if_pos hc
      rw [e] at hend ⊢
      rw [if_pos (by decide)]
      exact hend rfl
    · have e : outV l ls = (ls.map (List.map toPt), 0) := if_neg hc
      obtain ⟨b, b1, b2⟩ := EqualR_ok l l
      have hb := b2.2 rfl
      subst hb
      rw [e]
      show (if ((0 : Int) != 0) = true then _ else (F_shape_Filled N (ls.map (List.map toPt))).bind _) = _
      rw [if_neg (by decide)]
      rw [filled_back hN h l1 l2 l4 hc, Option.bind_some]
      show (((F_slices_Equal_Rect l l).bind fun y109 => some y109).bind _) = _
      rw [b1, Option.bind_some, Option.bind_some, if_pos rfl, awake1_ok (by omega)]; rfl
  · rw [y2 h] at hend ⊢
    rw [if_pos (by simpa using h)]
    exact hend rfl
theorem OutlinesBack_plain (l : List TRect) {X : Prop} (_ : X) : ∃ N, F_etchhouselaw1_OutlinesComeBack N l = some true := ⟨10000000000, outBack_ok (Nat.le_refl _) l⟩
end Go.Proofs.Ytacapjleiadkkaa
