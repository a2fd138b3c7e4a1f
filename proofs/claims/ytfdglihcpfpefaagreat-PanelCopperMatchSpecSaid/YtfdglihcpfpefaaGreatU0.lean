/- Two lists of stretches, merged: the program's line. Plain Lean about the plain functions. -/
import Derived.Test.YtfdglihcpfpefaaGreatS8
namespace Go.Proofs.YtfdglihcpfpefaaGreat
/-- How often a border lies at or before a number: odd. -/
def par (x : Int) : List Int → Bool
  | [] => false
  | a :: l => xor (decide (a ≤ x)) (par x l)
theorem par_append (x : Int) : ∀ l m : List Int, par x (l ++ m) = xor (par x l) (par x m)
  | [], m => by simp [par]
  | a :: l, m => by rw [List.cons_append, par, par_append x l m, par, Bool.xor_assoc]
theorem par_lo {x : Int} : ∀ {l : List Int}, (∀ a ∈ l, x < a) → par x l = false
  | [], _ => rfl
  | a :: l, h => by
    rw [par, par_lo fun b hb => h b (by simp [hb]), decide_eq_false (by have := h a (by simp); omega)]; rfl
theorem odd_cons (n : Nat) : ((n + 1) % 2 == 1) = !(n % 2 == 1) := by
  rcases Nat.mod_two_eq_zero_or_one n with h | h
  · have : (n + 1) % 2 = 1 := by omega
    rw [h, this]; rfl
  · have : (n + 1) % 2 = 0 := by omega
    rw [h, this]; rfl
theorem par_hi {x : Int} : ∀ {l : List Int}, (∀ a ∈ l, a ≤ x) → par x l = (l.length % 2 == 1)
  | [], _ => rfl
  | a :: l, h => by
    rw [par, par_hi fun b hb => h b (by simp [hb]), decide_eq_true (h a (by simp)), List.length_cons, odd_cons, Bool.true_xor]
theorem InS_par : ∀ {l : List (Int × Int)} {lo x : Int}, Can lo l → (InS x l ↔ par x (flatS l) = true)
  | [], _, _, _ => by simp [InS_nil, flatS_nil, par]
  | p :: l, lo, x, h => by
    obtain ⟨h1, h2, h3⟩ := h
    have ih := InS_par (x := x) h3
    have hl := fun hx : InS x l => h3.lt hx
    rw [InS_cons, flatS_cons, par, par]
    cases hp : par x (flatS l)
    · rw [hp] at ih
      have : ¬ InS x l := fun hx => by have := ih.1 hx; cases this
      by_cases a : p.1 ≤ x <;> by_cases b : p.2 ≤ x <;> simp [a, b, this] <;> omega
    · rw [hp] at ih
      have h4 := ih.2 rfl
      have := hl h4
      have a : p.1 ≤ x := by omega
      have b : p.2 ≤ x := by omega
      simp [a, b, h4]
theorem Can.strict : ∀ {l : List (Int × Int)} {lo : Int}, Can lo l → (flatS l).Pairwise (fun x y => x < y) ∧ ∀ z ∈ flatS l, lo < z
  | [], _, _ => ⟨List.Pairwise.nil, by simp [flatS_nil]⟩
  | p :: l, lo, h => by
    obtain ⟨h1, h2, h3⟩ := h
    obtain ⟨i1, i2⟩ := h3.strict
    rw [flatS_cons]
    refine ⟨List.pairwise_cons.2 ⟨fun z hz => ?_, List.pairwise_cons.2 ⟨i2, i1⟩⟩, fun z hz => ?_⟩
    · rcases List.mem_cons.1 hz with rfl | hz
      · exact h2
      · have := i2 z hz; omega
    · rcases List.mem_cons.1 hz with rfl | hz
      · exact h1
      · rcases List.mem_cons.1 hz with rfl | hz
        · omega
        · have := i2 z hz; omega
theorem strict_can : ∀ (l : List Int) (lo : Int), l.Pairwise (fun x y => x < y) → (∀ z ∈ l, lo < z) → (l.length % 2 == 1) = false → ∃ C, Can lo C ∧ flatS C = l
  | [], _, _, _, _ => ⟨[], trivial, rfl⟩
  | [a], _, _, _, h => by simp at h
  | a :: b :: l, lo, h1, h2, h3 => by
    have k := List.pairwise_cons.1 h1
    have k2 := List.pairwise_cons.1 k.2
    obtain ⟨C, c1, c2⟩ := strict_can l b k2.2 k2.1 (by rw [List.length_cons, List.length_cons, odd_cons, odd_cons, Bool.not_not] at h3; exact h3)
    exact ⟨(a, b) :: C, ⟨h2 a (by simp), k.1 b (by simp), c1⟩, by rw [flatS_cons, c2]⟩
theorem cut_tail {α : Type} (x : α) (l : List α) : cut (x :: l) 1 ((x :: l).length : Int) = some l := by
  unfold cut
  rw [if_pos ⟨by omega, by simp; omega, by omega⟩]
  simp
/-- What a merge of two lists of borders says. -/
structure LineOk (k : Bool → Bool → Bool) (a b out : List Int) (inA inB : Bool) (r : List Int) : Prop where
  strict : r.Pairwise fun x y => x < y
  mem : ∀ z ∈ r, z ∈ out ∨ z ∈ a ∨ z ∈ b
  len : r.length ≤ out.length + a.length + b.length
  hi : ∀ z, (∀ o ∈ out, o ≤ z) → par z r = k (xor inA (par z a)) (xor inB (par z b))
  lo : ∀ z, (∃ o ∈ out, z < o) → par z r = par z out
theorem line_step {k : Bool → Bool → Bool} {f : Bool → Bool → Option Bool} (hf : ∀ a b, f a b = some (k a b)) {m : Nat} {a b a1 b1 out : List Int} {inA inB inA1 inB1 is : Bool} {X : Int}
    (ih : ∀ (out : List Int) (is : Bool), out.Pairwise (fun x y => x < y) → (∀ o ∈ out, (∀ x ∈ a1, o < x) ∧ ∀ x ∈ b1, o < x) → is = k inA1 inB1 → is = (out.length % 2 == 1) → out.length + a1.length + b1.length ≤ 2100000000000 → ∃ r, F_shape_line_L7 f m a1 b1 out inA1 inB1 is = some r ∧ LineOk k a1 b1 out inA1 inB1 r)
    (hs : out.Pairwise fun x y => x < y) (ho : ∀ o ∈ out, o < X) (ha1 : ∀ x ∈ a1, X < x) (hb1 : ∀ x ∈ b1, X < x) (hi : is = k inA inB) (hp : is = (out.length % 2 == 1)) (hl : out.length + a1.length + b1.length + 1 ≤ out.length + a.length + b.length) (hl2 : out.length + a.length + b.length ≤ 2100000000000)
    (pa : ∀ z, X ≤ z → xor inA (par z a) = xor inA1 (par z a1)) (pb : ∀ z, X ≤ z → xor inB (par z b) = xor inB1 (par z b1)) (pa0 : ∀ z, z < X → par z a = false) (pb0 : ∀ z, z < X → par z b = false)
    (hm : ∀ z, z ∈ a1 → z ∈ a) (hm2 : ∀ z, z ∈ b1 → z ∈ b) (hX : X ∈ a ∨ X ∈ b) :
    ∃ r, F_shape_line_J8 f out is (F_shape_line_L7 f m) X a1 inA1 b1 inB1 = some r ∧ LineOk k a b out inA inB r := by
  unfold F_shape_line_J8
  rw [hf, Option.bind_some]
  by_cases hk : k inA1 inB1 = is
  · rw [if_neg (by simp [hk])]
    obtain ⟨r, h1, h2⟩ := ih out is hs (fun o h => ⟨fun x hx => by have := ho o h; have := ha1 x hx; omega, fun x hx => by have := ho o h; have := hb1 x hx; omega⟩) hk.symm hp (by omega)
    refine ⟨r, h1, h2.strict, fun z hz => ?_, by have := h2.len; omega, fun z hz => ?_, h2.lo⟩
    · rcases h2.mem z hz with h | h | h
      · exact .inl h
      · exact .inr (.inl (hm z h))
      · exact .inr (.inr (hm2 z h))
    · rw [h2.hi z hz]
      by_cases hxz : X ≤ z
      · rw [pa z hxz, pb z hxz]
      · rw [pa0 z (by omega), pb0 z (by omega), par_lo fun x hx => by have := ha1 x hx; omega, par_lo fun x hx => by have := hb1 x hx; omega, Bool.xor_false, Bool.xor_false, Bool.xor_false, Bool.xor_false, hk, hi]
  · rw [if_pos (by simpa using hk), apd_ok (by simp; omega), Option.bind_some]
    obtain ⟨r, h1, h2⟩ := ih (out ++ [X]) (k inA1 inB1) (List.pairwise_append.2 ⟨hs, List.pairwise_singleton _ _, fun o h x hx => by simp at hx; subst hx; exact ho o h⟩) (fun o h => by
      rcases List.mem_append.1 h with h | h
      · exact ⟨fun x hx => by have := ho o h; have := ha1 x hx; omega, fun x hx => by have := ho o h; have := hb1 x hx; omega⟩
      · simp at h; subst h; exact ⟨ha1, hb1⟩) rfl (by
      rw [List.length_append, List.length_singleton, odd_cons, ← hp]
      cases hv : k inA1 inB1 <;> cases is <;> simp_all) (by simp; omega)
    refine ⟨r, h1, h2.strict, fun z hz => ?_, by have := h2.len; simp at this; omega, fun z hz => ?_, fun z hz => ?_⟩
    · rcases h2.mem z hz with h | h | h
      · rcases List.mem_append.1 h with h | h
        · exact .inl h
        · simp at h; subst h
          rcases hX with h | h
          · exact .inr (.inl h)
          · exact .inr (.inr h)
      · exact .inr (.inl (hm z h))
      · exact .inr (.inr (hm2 z h))
    · by_cases hxz : X ≤ z
      · rw [h2.hi z (fun o h => by
          rcases List.mem_append.1 h with h | h
          · exact hz o h
          · simp at h; omega), pa z hxz, pb z hxz]
      · rw [h2.lo z ⟨X, by simp, by omega⟩, par_append, pa0 z (by omega), pb0 z (by omega), Bool.xor_false, Bool.xor_false, par_hi hz, ← hp, hi, par_lo (l := [X]) (fun x hx => by simp at hx; omega), Bool.xor_false]
    · obtain ⟨o, h, hzo⟩ := hz
      rw [h2.lo z ⟨o, by simp [h], hzo⟩, par_append, par_lo (l := [X]) (fun x hx => by simp at hx; have := ho o h; omega), Bool.xor_false]
theorem line_go {k : Bool → Bool → Bool} {f : Bool → Bool → Option Bool} (hf : ∀ a b, f a b = some (k a b)) : ∀ (m : Nat) (a b out : List Int) (inA inB is : Bool), a.length + b.length < m → a.Pairwise (fun x y => x < y) → b.Pairwise (fun x y => x < y) → out.Pairwise (fun x y => x < y) → (∀ o ∈ out, (∀ x ∈ a, o < x) ∧ ∀ x ∈ b, o < x) → is = k inA inB → is = (out.length % 2 == 1) → out.length + a.length + b.length ≤ 2100000000000 →
    ∃ r, F_shape_line_L7 f m a b out inA inB is = some r ∧ LineOk k a b out inA inB r
  | 0, _, _, _, _, _, _, h, _, _, _, _, _, _, _ => absurd h (Nat.not_lt_zero _)
  | m + 1, [], [], out, inA, inB, is, _, _, _, hs, _, hi, hp, _ => by
    rw [F_shape_line_L7.eq_2, if_neg (by simp)]
    exact ⟨out, rfl, hs, fun z hz => .inl hz, by simp, fun z hz => by rw [par_hi hz, ← hp, hi]; simp [par], fun _ _ => rfl⟩
  | m + 1, x :: a, [], out, inA, inB, is, hm, sa, sb, hs, ho, hi, hp, hl => by
    have ha := List.pairwise_cons.1 sa
    rw [F_shape_line_L7.eq_2, if_pos (by simp), if_pos (by simp), Option.bind_some, if_pos rfl, show idx (x :: a) 0 = some x from rfl, Option.bind_some]
    unfold F_shape_line_J10
    rw [if_pos (by simp), show idx (x :: a) 0 = some x from rfl, Option.bind_some, Option.bind_some, if_pos (by simp), cut_tail, Option.bind_some]
    unfold F_shape_line_J9
    rw [if_neg (by simp), Option.bind_some, if_neg (by simp)]
    simp only [List.length_cons, List.length_nil] at hm hl
    refine line_step (m := m) (a := x :: a) (b := []) hf (fun o i k1 k2 k3 k4 k5 => line_go hf m a [] o (!inA) inB i (by simp; omega) ha.2 sb k1 k2 k3 k4 k5) hs (fun o h => (ho o h).1 x (by simp)) ha.1 (by simp) hi hp (by simp; omega) (by simp; omega) (fun z hz => ?_) (fun _ _ => rfl) (fun z hz => par_lo fun y hy => ?_) (fun _ _ => rfl) (fun z h => by simp [h]) (fun z h => h) (.inl (by simp))
    · rw [par, decide_eq_true hz]; cases inA <;> cases par z a <;> rfl
    · rcases List.mem_cons.1 hy with rfl | hy
      · exact hz
      · have := ha.1 y hy; omega
  | m + 1, [], y :: b, out, inA, inB, is, hm, sa, sb, hs, ho, hi, hp, hl => by
    have hb := List.pairwise_cons.1 sb
    rw [F_shape_line_L7.eq_2, if_pos (by simp), if_neg (by simp; omega), if_neg (by simp), Option.bind_some, Option.bind_some, if_neg (by simp), show idx (y :: b) 0 = some y from rfl, Option.bind_some]
    unfold F_shape_line_J10
    rw [if_neg (by simp), Option.bind_some, if_neg (by simp)]
    unfold F_shape_line_J9
    rw [if_pos (by simp), show idx (y :: b) 0 = some y from rfl, Option.bind_some, Option.bind_some, if_pos (by simp), cut_tail, Option.bind_some]
    simp only [List.length_cons, List.length_nil] at hm hl
    refine line_step (m := m) (a := []) (b := y :: b) hf (fun o i k1 k2 k3 k4 k5 => line_go hf m [] b o inA (!inB) i (by simp; omega) sa hb.2 k1 k2 k3 k4 k5) hs (fun o h => (ho o h).2 y (by simp)) (by simp) hb.1 hi hp (by simp; omega) (by simp; omega) (fun _ _ => rfl) (fun z hz => ?_) (fun _ _ => rfl) (fun z hz => par_lo fun x hx => ?_) (fun z h => h) (fun z h => by simp [h]) (.inr (by simp))
    · rw [par, decide_eq_true hz]; cases inB <;> cases par z b <;> rfl
    · rcases List.mem_cons.1 hx with rfl | hx
      · exact hz
      · have := hb.1 x hx; omega
  | m + 1, x :: a, y :: b, out, inA, inB, is, hm, sa, sb, hs, ho, hi, hp, hl => by
    have ha := List.pairwise_cons.1 sa
    have hb := List.pairwise_cons.1 sb
    have e1 : idx (x :: a) 0 = some x := rfl
    have e2 : idx (y :: b) 0 = some y := rfl
    simp only [List.length_cons] at hm hl
    rw [F_shape_line_L7.eq_2, if_pos (by simp), if_neg (by simp; omega), if_pos (by simp), e1, Option.bind_some, e2, Option.bind_some, Option.bind_some, Option.bind_some]
    simp only [Option.bind_some]
    have hxa : ∀ z, x ≤ z → xor inA (par z (x :: a)) = xor (!inA) (par z a) := fun z hz => by rw [par, decide_eq_true hz]; cases inA <;> cases par z a <;> rfl
    have hyb : ∀ z, y ≤ z → xor inB (par z (y :: b)) = xor (!inB) (par z b) := fun z hz => by rw [par, decide_eq_true hz]; cases inB <;> cases par z b <;> rfl
    have hax : ∀ z, z < x → par z (x :: a) = false := fun z hz => par_lo fun v hv => by
      rcases List.mem_cons.1 hv with rfl | hv
      · exact hz
      · have := ha.1 v hv; omega
    have hby : ∀ z, z < y → par z (y :: b) = false := fun z hz => par_lo fun v hv => by
      rcases List.mem_cons.1 hv with rfl | hv
      · exact hz
      · have := hb.1 v hv; omega
    by_cases hxy : x ≤ y
    · rw [if_pos (by simpa using hxy)]
      unfold F_shape_line_J10
      rw [if_pos (by simp), e1, Option.bind_some, Option.bind_some, if_pos (by simp), cut_tail, Option.bind_some]
      unfold F_shape_line_J9
      rw [if_pos (by simp), e2, Option.bind_some, Option.bind_some]
      by_cases he : y = x
      · subst he
        rw [if_pos (by simp), cut_tail, Option.bind_some]
        exact line_step (m := m) (a := y :: a) (b := y :: b) hf (fun o i k1 k2 k3 k4 k5 => line_go hf m a b o (!inA) (!inB) i (by omega) ha.2 hb.2 k1 k2 k3 k4 k5) hs (fun o h => (ho o h).1 y (by simp)) ha.1 hb.1 hi hp (by simp; omega) (by simp; omega) hxa hyb hax hby (fun z h => by simp [h]) (fun z h => by simp [h]) (.inl (by simp))
      · rw [if_neg (by simpa using he)]
        exact line_step (m := m) (a := x :: a) (b := y :: b) hf (fun o i k1 k2 k3 k4 k5 => line_go hf m a (y :: b) o (!inA) inB i (by simp; omega) ha.2 sb k1 k2 k3 k4 k5) hs (fun o h => (ho o h).1 x (by simp)) ha.1 (fun v hv => by
          rcases List.mem_cons.1 hv with rfl | hv
          · omega
          · have := hb.1 v hv; omega) hi hp (by simp; omega) (by simp; omega) hxa (fun _ _ => rfl) hax (fun z hz => hby z (by omega)) (fun z h => by simp [h]) (fun z h => h) (.inl (by simp))
    · rw [if_neg (by simpa using hxy)]
      unfold F_shape_line_J10
      rw [if_pos (by simp), e1, Option.bind_some, Option.bind_some, if_neg (by simp; omega)]
      unfold F_shape_line_J9
      rw [if_pos (by simp), e2, Option.bind_some, Option.bind_some, if_pos (by simp), cut_tail, Option.bind_some]
      exact line_step (m := m) (a := x :: a) (b := y :: b) hf (fun o i k1 k2 k3 k4 k5 => line_go hf m (x :: a) b o inA (!inB) i (by simp; omega) sa hb.2 k1 k2 k3 k4 k5) hs (fun o h => (ho o h).2 y (by simp)) (fun v hv => by
          rcases List.mem_cons.1 hv with rfl | hv
          · omega
          · have := ha.1 v hv; omega) hb.1 hi hp (by simp; omega) (by simp; omega) (fun _ _ => rfl) hyb (fun z hz => hax z (by omega)) hby (fun z h => h) (fun z h => by simp [h]) (.inr (by simp))
theorem up_ex : ∀ l : List Int, ∃ z, ∀ a ∈ l, a ≤ z
  | [] => ⟨0, by simp⟩
  | b :: l => by
    obtain ⟨z, h⟩ := up_ex l
    refine ⟨max z b, fun a ha => ?_⟩
    rcases List.mem_cons.1 ha with rfl | ha
    · omega
    · have := h a ha; omega
theorem lo_ex : ∀ l : List Int, ∃ z, ∀ a ∈ l, z < a
  | [] => ⟨0, by simp⟩
  | b :: l => by
    obtain ⟨z, h⟩ := lo_ex l
    refine ⟨min z (b - 1), fun a ha => ?_⟩
    rcases List.mem_cons.1 ha with rfl | ha
    · omega
    · have := h a ha; omega
theorem even_two (n : Nat) : (2 * n % 2 == 1) = false := by
  have : 2 * n % 2 = 0 := by omega
  rw [this]; rfl
/-- Merged stretches: where the two say so. -/
theorem line_ok {k : Bool → Bool → Bool} {f : Bool → Bool → Option Bool} (hf : ∀ a b, f a b = some (k a b)) (hk : k false false = false) {N : Nat} {l m : List (Int × Int)} (hl : ∃ lo, Can lo l) (hm : ∃ lo, Can lo m) (hlen : 2 * l.length + 2 * m.length < N) (hlen2 : 2 * l.length + 2 * m.length ≤ 2100000000000) :
    ∃ C, F_shape_line N (flatS l) (flatS m) f = some (flatS C) ∧ (∃ lo, Can lo C) ∧ C.length ≤ l.length + m.length ∧ ∀ x, InS x C ↔ ∃ p q, (p = true ↔ InS x l) ∧ (q = true ↔ InS x m) ∧ k p q = true := by
  obtain ⟨lo1, c1⟩ := hl
  obtain ⟨lo2, c2⟩ := hm
  obtain ⟨r, h1, h2⟩ := line_go hf N (flatS l) (flatS m) [] false false false (by rw [flatS_len, flatS_len]; exact hlen) c1.strict.1 c2.strict.1 List.Pairwise.nil (by simp) hk.symm rfl (by rw [flatS_len, flatS_len]; simpa using hlen2)
  have hpar : ∀ z, par z r = k (par z (flatS l)) (par z (flatS m)) := fun z => by
    have := h2.hi z (by simp)
    rw [Bool.false_xor, Bool.false_xor] at this
    exact this
  have hodd : (r.length % 2 == 1) = false := by
    obtain ⟨z, hz⟩ := up_ex (r ++ flatS l ++ flatS m)
    rw [← par_hi (x := z) (l := r) (fun a ha => hz a (by simp [ha])), hpar z, par_hi (x := z) (l := flatS l) (fun a ha => hz a (by simp [ha])), par_hi (x := z) (l := flatS m) (fun a ha => hz a (by simp [ha])), flatS_len, flatS_len, even_two, even_two, hk]
  obtain ⟨lo, hlo⟩ := lo_ex r
  obtain ⟨C, d1, d2⟩ := strict_can r lo h2.strict hlo hodd
  refine ⟨C, by rw [d2]; exact h1, ⟨lo, d1⟩, ?_, fun x => ?_⟩
  · have := h2.len
    rw [← d2, flatS_len, flatS_len, flatS_len] at this
    simp at this
    omega
  · rw [InS_par d1, d2, hpar]
    constructor
    · intro h
      exact ⟨_, _, (InS_par c1).symm, (InS_par c2).symm, h⟩
    · rintro ⟨p, q, hp, hq, h⟩
      have e1 : p = par x (flatS l) := by rw [Bool.eq_iff_iff, hp, InS_par c1]
      have e2 : q = par x (flatS m) := by rw [Bool.eq_iff_iff, hq, InS_par c2]
      rw [← e1, ← e2]; exact h
end Go.Proofs.YtfdglihcpfpefaaGreat
