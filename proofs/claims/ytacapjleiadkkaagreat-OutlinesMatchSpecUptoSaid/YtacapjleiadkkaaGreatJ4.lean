/- Two lists of stretches, merged: the program's line. Plain Lean about the plain functions. Bands: the sides of their set. Plain Lean about the plain functions. Conditions: none beyond each theorem's own. The sides of bands are the border of their set. Plain Lean. Conditions: none beyond each theorem's own. Sets of rectangles: the reference's bands are the ones. Plain Lean about the plain functions. The reference's cells and its sides. Plain Lean about the plain functions. Conditions: none beyond each theorem's own. The reference's sides are the border of the set, in an order that tells where rows begin. Plain Lean. Conditions: none beyond each theorem's own. The order of the reference's sides: where a row begins at a crossing, the other side has gone before. Plain Lean. Conditions: none beyond each theorem's own. The reference follows the sides of a set: it tells all borders, in order. Plain Lean about the plain functions. Conditions: none beyond each theorem's own. The reference's corners, and its borders in order. Plain Lean about the plain functions. Conditions: none beyond each theorem's own. Regions: what the reference tells of sets. Plain Lean about the plain functions. Regions: what the reference checks. Plain Lean about the plain functions. Sets: what the program tells of them. Plain Lean about the plain functions. Outlines of regions: the program's and the reference's are the borders. Plain Lean about the plain functions. Conditions: none beyond each theorem's own. Closed rows of points: what they go around, by heights (as for plots). Plain Lean. Conditions: none beyond each theorem's own. Rows of points: their errors. Plain Lean about the plain functions. Conditions: none beyond each theorem's own. -/
import Derived.Test.YtacapjleiadkkaaGreatJ3
namespace Go.Proofs.YtacapjleiadkkaaGreat
def par (x : Int) : List Int → Bool
  | [] => false
  | a :: l => xor (decide (a ≤ x)) (par x l)
theorem zJm (x : Int) : ∀ l m : List Int, par x (l ++ m) = xor (par x l) (par x m)
  | [], m => by simp [par]
  | a :: l, m => by rw [List.cons_append, par, zJm x l m, par, Bool.xor_assoc]
theorem zHD {x : Int} : ∀ {l : List Int}, (∀ a ∈ l, x < a) → par x l = false
  | [], _ => rfl
  | a :: l, h => by
    rw [par, zHD fun b hb => h b (by simp [hb]), decide_eq_false (by have := h a (by simp); omega)]; rfl
theorem zKL (n : Nat) : ((n + 1) % 2 == 1) = !(n % 2 == 1) := by
  rcases Nat.mod_two_eq_zero_or_one n with h | h
  · have : (n + 1) % 2 = 1 := by omega
    rw [h, this]; rfl
  · have : (n + 1) % 2 = 0 := by omega
    rw [h, this]; rfl
theorem zLQ {x : Int} : ∀ {l : List Int}, (∀ a ∈ l, a ≤ x) → par x l = (l.length % 2 == 1)
  | [], _ => rfl
  | a :: l, h => by
    rw [par, zLQ fun b hb => h b (by simp [hb]), decide_eq_true (h a (by simp)), List.length_cons, zKL, Bool.true_xor]
theorem zI4 : ∀ {l : List (Int × Int)} {lo x : Int}, Can lo l → (InS x l ↔ par x (Qf l) = true)
  | [], _, _, _ => by simp [VF, zFG, par]
  | p :: l, lo, x, h => by
    obtain ⟨h1, h2, h3⟩ := h
    have ih := zI4 (x := x) h3
    have hl := fun hx : InS x l => h3.lt hx
    rw [VX, zA2, par, par]
    cases hp : par x (Qf l)
    · rw [hp] at ih
      have : ¬ InS x l := fun hx => by have := ih.1 hx; cases this
      by_cases a : p.1 ≤ x <;> by_cases b : p.2 ≤ x <;> simp [a, b, this] <;> omega
    · rw [hp] at ih
      have h4 := ih.2 rfl
      have := hl h4
      have a : p.1 ≤ x := by omega
      have b : p.2 ≤ x := by omega
      simp [a, b, h4]
theorem Can.strict : ∀ {l : List (Int × Int)} {lo : Int}, Can lo l → (Qf l).Pairwise (fun x y => x < y) ∧ ∀ z ∈ Qf l, lo < z
  | [], _, _ => ⟨List.Pairwise.nil, by simp [zFG]⟩
  | p :: l, lo, h => by
    obtain ⟨h1, h2, h3⟩ := h
    obtain ⟨i1, i2⟩ := h3.strict
    rw [zA2]
    refine ⟨List.pairwise_cons.2 ⟨fun z hz => ?_, List.pairwise_cons.2 ⟨i2, i1⟩⟩, fun z hz => ?_⟩
    · rcases List.mem_cons.1 hz with rfl | hz
      · exact h2
      · have := i2 z hz; omega
    · rcases List.mem_cons.1 hz with rfl | hz
      · exact h1
      · rcases List.mem_cons.1 hz with rfl | hz
        · omega
        · have := i2 z hz; omega
theorem zNj : ∀ (l : List Int) (lo : Int), l.Pairwise (fun x y => x < y) → (∀ z ∈ l, lo < z) → (l.length % 2 == 1) = false → ∃ C, Can lo C ∧ Qf C = l
  | [], _, _, _, _ => ⟨[], trivial, rfl⟩
  | [a], _, _, _, h => by simp at h
  | a :: b :: l, lo, h1, h2, h3 => by
    have k := List.pairwise_cons.1 h1
    have k2 := List.pairwise_cons.1 k.2
    obtain ⟨C, c1, c2⟩ := zNj l b k2.2 k2.1 (by rw [List.length_cons, List.length_cons, zKL, zKL, Bool.not_not] at h3; exact h3)
    exact ⟨(a, b) :: C, ⟨h2 a (by simp), k.1 b (by simp), c1⟩, by rw [zA2, c2]⟩
theorem zIQ {α : Type} (x : α) (l : List α) : cut (x :: l) 1 ((x :: l).length : Int) = some l := by
  unfold cut
  rw [if_pos ⟨by omega, by simp; omega, by omega⟩]
  simp
structure zWS (k : Bool → Bool → Bool) (a b out : List Int) (inA inB : Bool) (r : List Int) : Prop where
  strict : r.Pairwise fun x y => x < y
  mem : ∀ z ∈ r, z ∈ out ∨ z ∈ a ∨ z ∈ b
  len : r.length ≤ out.length + a.length + b.length
  hi : ∀ z, (∀ o ∈ out, o ≤ z) → par z r = k (xor inA (par z a)) (xor inB (par z b))
  lo : ∀ z, (∃ o ∈ out, z < o) → par z r = par z out
theorem zGc {k : Bool → Bool → Bool} {f : Bool → Bool → Option Bool} (hf : ∀ a b, f a b = some (k a b)) {m : Nat} {a b a1 b1 out : List Int} {inA inB inA1 inB1 is : Bool} {X : Int}
    (ih : ∀ (out : List Int) (is : Bool), out.Pairwise (fun x y => x < y) → (∀ o ∈ out, (∀ x ∈ a1, o < x) ∧ ∀ x ∈ b1, o < x) → is = k inA1 inB1 → is = (out.length % 2 == 1) → out.length + a1.length + b1.length ≤ 4000000000 → ∃ r, Qx f m a1 b1 out inA1 inB1 is = some r ∧ zWS k a1 b1 out inA1 inB1 r)
    (hs : out.Pairwise fun x y => x < y) (ho : ∀ o ∈ out, o < X) (ha1 : ∀ x ∈ a1, X < x) (hb1 : ∀ x ∈ b1, X < x) (hi : is = k inA inB) (hp : is = (out.length % 2 == 1)) (hl : out.length + a1.length + b1.length + 1 ≤ out.length + a.length + b.length) (hl2 : out.length + a.length + b.length ≤ 4000000000)
    (pa : ∀ z, X ≤ z → xor inA (par z a) = xor inA1 (par z a1)) (pb : ∀ z, X ≤ z → xor inB (par z b) = xor inB1 (par z b1)) (pa0 : ∀ z, z < X → par z a = false) (pb0 : ∀ z, z < X → par z b = false)
    (hm : ∀ z, z ∈ a1 → z ∈ a) (hm2 : ∀ z, z ∈ b1 → z ∈ b) (hX : X ∈ a ∨ X ∈ b) :
    ∃ r, zAd f out is (Qx f m) X a1 inA1 b1 inB1 = some r ∧ zWS k a b out inA inB r := by
  unfold zAd
  rw [hf, Option.bind_some]
  by_cases hk : k inA1 inB1 = is
  · rw [if_neg (by simp [hk])]
    obtain ⟨r, h1, h2⟩ := ih out is hs (fun o h => ⟨fun x hx => by have := ho o h; have := ha1 x hx; omega, fun x hx => by have := ho o h; have := hb1 x hx; omega⟩) hk.symm hp (by omega)
    refine ⟨r, h1, h2.strict, fun z hz => ?_, by have := h2.len; omega, fun z hz => ?_, h2.lo⟩
    · rcases h2.mem z hz with h | h | h
      · exact .inl h
      · exact .inr (.inl (hm z h))
      · exact .inr (.inr (hm2 z h))
    · rw [h2.hi z hz]
      by_cases hxz : X ≤ z
      · rw [pa z hxz, pb z hxz]
      · rw [pa0 z (by omega), pb0 z (by omega), zHD fun x hx => by have := ha1 x hx; omega, zHD fun x hx => by have := hb1 x hx; omega, Bool.xor_false, Bool.xor_false, Bool.xor_false, Bool.xor_false, hk, hi]
  · rw [if_pos (by simpa using hk), Kl (by simp; omega), Option.bind_some]
    obtain ⟨r, h1, h2⟩ := ih (out ++ [X]) (k inA1 inB1) (List.pairwise_append.2 ⟨hs, List.pairwise_singleton _ _, fun o h x hx => by simp at hx; subst hx; exact ho o h⟩) (fun o h => by
      rcases List.mem_append.1 h with h | h
      · exact ⟨fun x hx => by have := ho o h; have := ha1 x hx; omega, fun x hx => by have := ho o h; have := hb1 x hx; omega⟩
      · simp at h; subst h; exact ⟨ha1, hb1⟩) rfl (by
      rw [List.length_append, List.length_singleton, zKL, ← hp]
      cases hv : k inA1 inB1 <;> cases is <;> simp_all) (by simp; omega)
    refine ⟨r, h1, h2.strict, fun z hz => ?_, by have := h2.len; simp at this; omega, fun z hz => ?_, fun z hz => ?_⟩
    · rcases h2.mem z hz with h | h | h
      · rcases List.mem_append.1 h with h | h
        · exact .inl h
        · simp at h; subst h
          rcases hX with h | h
          · exact .inr (.inl h)
          · exact .inr (.inr h)
      · exact .inr (.inl (hm z h))
      · exact .inr (.inr (hm2 z h))
    · by_cases hxz : X ≤ z
      · rw [h2.hi z (fun o h => by
          rcases List.mem_append.1 h with h | h
          · exact hz o h
          · simp at h; omega), pa z hxz, pb z hxz]
      · rw [h2.lo z ⟨X, by simp, by omega⟩, zJm, pa0 z (by omega), pb0 z (by omega), Bool.xor_false, Bool.xor_false, zLQ hz, ← hp, hi, zHD (l := [X]) (fun x hx => by simp at hx; omega), Bool.xor_false]
    · obtain ⟨o, h, hzo⟩ := hz
      rw [h2.lo z ⟨o, by simp [h], hzo⟩, zJm, zHD (l := [X]) (fun x hx => by simp at hx; have := ho o h; omega), Bool.xor_false]
theorem zIl {k : Bool → Bool → Bool} {f : Bool → Bool → Option Bool} (hf : ∀ a b, f a b = some (k a b)) : ∀ (m : Nat) (a b out : List Int) (inA inB is : Bool), a.length + b.length < m → a.Pairwise (fun x y => x < y) → b.Pairwise (fun x y => x < y) → out.Pairwise (fun x y => x < y) → (∀ o ∈ out, (∀ x ∈ a, o < x) ∧ ∀ x ∈ b, o < x) → is = k inA inB → is = (out.length % 2 == 1) → out.length + a.length + b.length ≤ 4000000000 →
    ∃ r, Qx f m a b out inA inB is = some r ∧ zWS k a b out inA inB r
  | 0, _, _, _, _, _, _, h, _, _, _, _, _, _, _ => absurd h (Nat.not_lt_zero _)
  | m + 1, [], [], out, inA, inB, is, _, _, _, hs, _, hi, hp, _ => by
    rw [Qx.eq_2, if_neg (by simp)]
    exact ⟨out, rfl, hs, fun z hz => .inl hz, by simp, fun z hz => by rw [zLQ hz, ← hp, hi]; simp [par], fun _ _ => rfl⟩
  | m + 1, x :: a, [], out, inA, inB, is, hm, sa, sb, hs, ho, hi, hp, hl => by
    have ha := List.pairwise_cons.1 sa
    rw [Qx.eq_2, if_pos (by simp), if_pos (by simp), Option.bind_some, if_pos rfl, show idx (x :: a) 0 = some x from rfl, Option.bind_some]
    unfold Vy
    rw [if_pos (by simp), show idx (x :: a) 0 = some x from rfl, Option.bind_some, Option.bind_some, if_pos (by simp), zIQ, Option.bind_some]
    unfold WO
    rw [if_neg (by simp), Option.bind_some, if_neg (by simp)]
    simp only [List.length_cons, List.length_nil] at hm hl
    refine zGc (m := m) (a := x :: a) (b := []) hf (fun o i k1 k2 k3 k4 k5 => zIl hf m a [] o (!inA) inB i (by simp; omega) ha.2 sb k1 k2 k3 k4 k5) hs (fun o h => (ho o h).1 x (by simp)) ha.1 (by simp) hi hp (by simp; omega) (by simp; omega) (fun z hz => ?_) (fun _ _ => rfl) (fun z hz => zHD fun y hy => ?_) (fun _ _ => rfl) (fun z h => by simp [h]) (fun z h => h) (.inl (by simp))
    · rw [par, decide_eq_true hz]; cases inA <;> cases par z a <;> rfl
    · rcases List.mem_cons.1 hy with rfl | hy
      · exact hz
      · have := ha.1 y hy; omega
  | m + 1, [], y :: b, out, inA, inB, is, hm, sa, sb, hs, ho, hi, hp, hl => by
    have hb := List.pairwise_cons.1 sb
    rw [Qx.eq_2, if_pos (by simp), if_neg (by simp; omega), if_neg (by simp), Option.bind_some, Option.bind_some, if_neg (by simp), show idx (y :: b) 0 = some y from rfl, Option.bind_some]
    unfold Vy
    rw [if_neg (by simp), Option.bind_some, if_neg (by simp)]
    unfold WO
    rw [if_pos (by simp), show idx (y :: b) 0 = some y from rfl, Option.bind_some, Option.bind_some, if_pos (by simp), zIQ, Option.bind_some]
    simp only [List.length_cons, List.length_nil] at hm hl
    refine zGc (m := m) (a := []) (b := y :: b) hf (fun o i k1 k2 k3 k4 k5 => zIl hf m [] b o inA (!inB) i (by simp; omega) sa hb.2 k1 k2 k3 k4 k5) hs (fun o h => (ho o h).2 y (by simp)) (by simp) hb.1 hi hp (by simp; omega) (by simp; omega) (fun _ _ => rfl) (fun z hz => ?_) (fun _ _ => rfl) (fun z hz => zHD fun x hx => ?_) (fun z h => h) (fun z h => by simp [h]) (.inr (by simp))
    · rw [par, decide_eq_true hz]; cases inB <;> cases par z b <;> rfl
    · rcases List.mem_cons.1 hx with rfl | hx
      · exact hz
      · have := hb.1 x hx; omega
  | m + 1, x :: a, y :: b, out, inA, inB, is, hm, sa, sb, hs, ho, hi, hp, hl => by
    have ha := List.pairwise_cons.1 sa
    have hb := List.pairwise_cons.1 sb
    have e1 : idx (x :: a) 0 = some x := rfl
    have e2 : idx (y :: b) 0 = some y := rfl
    simp only [List.length_cons] at hm hl
    rw [Qx.eq_2, if_pos (by simp), if_neg (by simp; omega), if_pos (by simp), e1, Option.bind_some, e2, Option.bind_some, Option.bind_some, Option.bind_some]
    simp only [Option.bind_some]
    have hxa : ∀ z, x ≤ z → xor inA (par z (x :: a)) = xor (!inA) (par z a) := fun z hz => by rw [par, decide_eq_true hz]; cases inA <;> cases par z a <;> rfl
    have hyb : ∀ z, y ≤ z → xor inB (par z (y :: b)) = xor (!inB) (par z b) := fun z hz => by rw [par, decide_eq_true hz]; cases inB <;> cases par z b <;> rfl
    have hax : ∀ z, z < x → par z (x :: a) = false := fun z hz => zHD fun v hv => by
      rcases List.mem_cons.1 hv with rfl | hv
      · exact hz
      · have := ha.1 v hv; omega
    have hby : ∀ z, z < y → par z (y :: b) = false := fun z hz => zHD fun v hv => by
      rcases List.mem_cons.1 hv with rfl | hv
      · exact hz
      · have := hb.1 v hv; omega
    by_cases hxy : x ≤ y
    · rw [if_pos (by simpa using hxy)]
      unfold Vy
      rw [if_pos (by simp), e1, Option.bind_some, Option.bind_some, if_pos (by simp), zIQ, Option.bind_some]
      unfold WO
      rw [if_pos (by simp), e2, Option.bind_some, Option.bind_some]
      by_cases he : y = x
      · subst he
        rw [if_pos (by simp), zIQ, Option.bind_some]
        exact zGc (m := m) (a := y :: a) (b := y :: b) hf (fun o i k1 k2 k3 k4 k5 => zIl hf m a b o (!inA) (!inB) i (by omega) ha.2 hb.2 k1 k2 k3 k4 k5) hs (fun o h => (ho o h).1 y (by simp)) ha.1 hb.1 hi hp (by simp; omega) (by simp; omega) hxa hyb hax hby (fun z h => by simp [h]) (fun z h => by simp [h]) (.inl (by simp))
      · rw [if_neg (by simpa using he)]
        exact zGc (m := m) (a := x :: a) (b := y :: b) hf (fun o i k1 k2 k3 k4 k5 => zIl hf m a (y :: b) o (!inA) inB i (by simp; omega) ha.2 sb k1 k2 k3 k4 k5) hs (fun o h => (ho o h).1 x (by simp)) ha.1 (fun v hv => by
          rcases List.mem_cons.1 hv with rfl | hv
          · omega
          · have := hb.1 v hv; omega) hi hp (by simp; omega) (by simp; omega) hxa (fun _ _ => rfl) hax (fun z hz => hby z (by omega)) (fun z h => by simp [h]) (fun z h => h) (.inl (by simp))
    · rw [if_neg (by simpa using hxy)]
      unfold Vy
      rw [if_pos (by simp), e1, Option.bind_some, Option.bind_some, if_neg (by simp; omega)]
      unfold WO
      rw [if_pos (by simp), e2, Option.bind_some, Option.bind_some, if_pos (by simp), zIQ, Option.bind_some]
      exact zGc (m := m) (a := x :: a) (b := y :: b) hf (fun o i k1 k2 k3 k4 k5 => zIl hf m (x :: a) b o inA (!inB) i (by simp; omega) sa hb.2 k1 k2 k3 k4 k5) hs (fun o h => (ho o h).2 y (by simp)) (fun v hv => by
          rcases List.mem_cons.1 hv with rfl | hv
          · omega
          · have := ha.1 v hv; omega) hb.1 hi hp (by simp; omega) (by simp; omega) (fun _ _ => rfl) hyb (fun z hz => hax z (by omega)) hby (fun z h => h) (fun z h => by simp [h]) (.inr (by simp))
theorem zd4 : ∀ l : List Int, ∃ z, ∀ a ∈ l, a ≤ z
  | [] => ⟨0, by simp⟩
  | b :: l => by
    obtain ⟨z, h⟩ := zd4 l
    refine ⟨max z b, fun a ha => ?_⟩
    rcases List.mem_cons.1 ha with rfl | ha
    · omega
    · have := h a ha; omega
theorem zeG : ∀ l : List Int, ∃ z, ∀ a ∈ l, z < a
  | [] => ⟨0, by simp⟩
  | b :: l => by
    obtain ⟨z, h⟩ := zeG l
    refine ⟨min z (b - 1), fun a ha => ?_⟩
    rcases List.mem_cons.1 ha with rfl | ha
    · omega
    · have := h a ha; omega
theorem zUB (n : Nat) : (2 * n % 2 == 1) = false := by
  have : 2 * n % 2 = 0 := by omega
  rw [this]; rfl
theorem zWz {k : Bool → Bool → Bool} {f : Bool → Bool → Option Bool} (hf : ∀ a b, f a b = some (k a b)) (hk : k false false = false) {N : Nat} {l m : List (Int × Int)} (hl : ∃ lo, Can lo l) (hm : ∃ lo, Can lo m) (hlen : 2 * l.length + 2 * m.length < N) (hlen2 : 2 * l.length + 2 * m.length ≤ 4000000000) :
    ∃ C, zAp N (Qf l) (Qf m) f = some (Qf C) ∧ (∃ lo, Can lo C) ∧ C.length ≤ l.length + m.length ∧ ∀ x, InS x C ↔ ∃ p q, (p = true ↔ InS x l) ∧ (q = true ↔ InS x m) ∧ k p q = true := by
  obtain ⟨lo1, c1⟩ := hl
  obtain ⟨lo2, c2⟩ := hm
  obtain ⟨r, h1, h2⟩ := zIl hf N (Qf l) (Qf m) [] false false false (by rw [Kr, Kr]; exact hlen) c1.strict.1 c2.strict.1 List.Pairwise.nil (by simp) hk.symm rfl (by rw [Kr, Kr]; simpa using hlen2)
  have hpar : ∀ z, par z r = k (par z (Qf l)) (par z (Qf m)) := fun z => by
    have := h2.hi z (by simp)
    rw [Bool.false_xor, Bool.false_xor] at this
    exact this
  have hodd : (r.length % 2 == 1) = false := by
    obtain ⟨z, hz⟩ := zd4 (r ++ Qf l ++ Qf m)
    rw [← zLQ (x := z) (l := r) (fun a ha => hz a (by simp [ha])), hpar z, zLQ (x := z) (l := Qf l) (fun a ha => hz a (by simp [ha])), zLQ (x := z) (l := Qf m) (fun a ha => hz a (by simp [ha])), Kr, Kr, zUB, zUB, hk]
  obtain ⟨lo, hlo⟩ := zeG r
  obtain ⟨C, d1, d2⟩ := zNj r lo h2.strict hlo hodd
  refine ⟨C, by rw [d2]; exact h1, ⟨lo, d1⟩, ?_, fun x => ?_⟩
  · have := h2.len
    rw [← d2, Kr, Kr, Kr] at this
    simp at this
    omega
  · rw [zI4 d1, d2, hpar]
    constructor
    · intro h
      exact ⟨_, _, (zI4 c1).symm, (zI4 c2).symm, h⟩
    · rintro ⟨p, q, hp, hq, h⟩
      have e1 : p = par x (Qf l) := by rw [Bool.eq_iff_iff, hp, zI4 c1]
      have e2 : q = par x (Qf m) := by rw [Bool.eq_iff_iff, hq, zI4 c2]
      rw [← e1, ← e2]; exact h
open PX
def On (s : Sd) (e : Ed) : Prop := ∃ i, i < s.2 ∧ adv s.1 i = e
def Dj (s t : Sd) : Prop := ∀ e, On s e → ¬ On t e
theorem zWh {I : Sq} {L : List Sd} (hp : ∀ s ∈ L, 0 < s.2) (hon : ∀ e, (∃ s ∈ L, On s e) ↔ isB I e) (hd : L.Pairwise Dj) : zAR I L where
  pos := hp
  bor := fun s hs i hi => (hon _).1 ⟨s, hs, i, hi, rfl⟩
  all := fun e he => (hon e).2 he
  once := fun a b s t ha hb i j hi hj he => by
    obtain ⟨ha', rfl⟩ := List.getElem?_eq_some_iff.1 ha
    obtain ⟨hb', rfl⟩ := List.getElem?_eq_some_iff.1 hb
    rw [List.pairwise_iff_getElem] at hd
    rcases Nat.lt_trichotomy a b with h | h | h
    · exact absurd ⟨j, hj, rfl⟩ (hd a b ha' hb' h _ ⟨i, hi, he⟩)
    · exact h
    · exact absurd ⟨i, hi, rfl⟩ (hd b a hb' ha' h _ ⟨j, hj, he.symm⟩)
def sdS (y0 y1 : Int) (p : Int × Int) : Sd := (⟨p.1, y1, .S⟩, (y1 - y0).toNat)
def sdN (y0 y1 : Int) (p : Int × Int) : Sd := (⟨p.2, y0, .N⟩, (y1 - y0).toNat)
def sdW (y : Int) (p : Int × Int) : Sd := (⟨p.2, y, .W⟩, (p.2 - p.1).toNat)
def sdE (y : Int) (p : Int × Int) : Sd := (⟨p.1, y, .E⟩, (p.2 - p.1).toNat)
theorem zN7 {y0 y1 : Int} {p : Int × Int} {e : Ed} : On (sdS y0 y1 p) e ↔ e.d = .S ∧ e.x = p.1 ∧ y0 < e.y ∧ e.y ≤ y1 := by
  unfold On sdS adv
  constructor
  · rintro ⟨i, hi, rfl⟩
    simp only [Dir.dx, Dir.dy] at *
    exact ⟨trivial, by omega, by omega, by omega⟩
  · rintro ⟨h1, h2, h3, h4⟩
    refine ⟨(y1 - e.y).toNat, by simp only; omega, Ed.ext' ?_ ?_ h1.symm⟩ <;> simp only [Dir.dx, Dir.dy] <;> omega
theorem zPg {y0 y1 : Int} {p : Int × Int} {e : Ed} : On (sdN y0 y1 p) e ↔ e.d = .N ∧ e.x = p.2 ∧ y0 ≤ e.y ∧ e.y < y1 := by
  unfold On sdN adv
  constructor
  · rintro ⟨i, hi, rfl⟩
    simp only [Dir.dx, Dir.dy] at *
    exact ⟨trivial, by omega, by omega, by omega⟩
  · rintro ⟨h1, h2, h3, h4⟩
    refine ⟨(e.y - y0).toNat, by simp only; omega, Ed.ext' ?_ ?_ h1.symm⟩ <;> simp only [Dir.dx, Dir.dy] <;> omega
theorem zRx {y : Int} {p : Int × Int} {e : Ed} : On (sdW y p) e ↔ e.d = .W ∧ e.y = y ∧ p.1 < e.x ∧ e.x ≤ p.2 := by
  unfold On sdW adv
  constructor
  · rintro ⟨i, hi, rfl⟩
    simp only [Dir.dx, Dir.dy] at *
    exact ⟨trivial, by omega, by omega, by omega⟩
  · rintro ⟨h1, h2, h3, h4⟩
    refine ⟨(p.2 - e.x).toNat, by simp only; omega, Ed.ext' ?_ ?_ h1.symm⟩ <;> simp only [Dir.dx, Dir.dy] <;> omega
theorem zVQ {y : Int} {p : Int × Int} {e : Ed} : On (sdE y p) e ↔ e.d = .E ∧ e.y = y ∧ p.1 ≤ e.x ∧ e.x < p.2 := by
  unfold On sdE adv
  constructor
  · rintro ⟨i, hi, rfl⟩
    simp only [Dir.dx, Dir.dy] at *
    exact ⟨trivial, by omega, by omega, by omega⟩
  · rintro ⟨h1, h2, h3, h4⟩
    refine ⟨(e.x - p.1).toNat, by simp only; omega, Ed.ext' ?_ ?_ h1.symm⟩ <;> simp only [Dir.dx, Dir.dy] <;> omega
open Classical in
noncomputable def zHh (A B : List (Int × Int)) : List (Int × Int) := if h : ∃ C, (∃ lo, Can lo C) ∧ ∀ x, InS x C ↔ InS x A ∧ ¬ InS x B then Classical.choose h else []
theorem zUC {A B C : List (Int × Int)} (h1 : ∃ lo, Can lo C) (h2 : ∀ x, InS x C ↔ InS x A ∧ ¬ InS x B) : zHh A B = C := by
  have h : ∃ C, (∃ lo, Can lo C) ∧ ∀ x, InS x C ↔ InS x A ∧ ¬ InS x B := ⟨C, h1, h2⟩
  unfold zHh
  rw [dif_pos h]
  obtain ⟨g1, g2⟩ := Classical.choose_spec h
  exact zWJ g1 h1 fun x => by rw [g2, h2]
structure zWX (A B C : List (Int × Int)) : Prop where
  can : ∃ lo, Can lo C
  mem : ∀ x, InS x C ↔ InS x A ∧ ¬ InS x B
  len : C.length ≤ A.length + B.length
theorem zTT {N : Nat} {A B : List (Int × Int)} (hN : 10000000000 ≤ N) (hA : ∃ lo, Can lo A) (hB : ∃ lo, Can lo B) (hl : A.length + B.length ≤ 1000000000) : zWX A B (zHh A B) ∧ zAp N (Qf A) (Qf B) VS = some (Qf (zHh A B)) := by
  obtain ⟨C, h1, h2, h3, h4⟩ := zWz (k := fun a b => a && !b) (f := VS) (fun a b => rfl) rfl (N := N) hA hB (by omega) (by omega)
  have h5 : ∀ x, InS x C ↔ InS x A ∧ ¬ InS x B := fun x => by
    rw [h4]
    constructor
    · rintro ⟨p, q, g1, g2, g3⟩
      simp only [Bool.and_eq_true, Bool.not_eq_true'] at g3
      exact ⟨g1.1 g3.1, fun hh => by have := g2.2 hh; rw [g3.2] at this; cases this⟩
    · rintro ⟨g1, g2⟩
      exact ⟨true, false, by simp [g1], by simp [g2], rfl⟩
  rw [zUC h2 h5]
  exact ⟨⟨h2, h5, h3⟩, h1⟩
theorem zZr {N : Nat} {A B : List (Int × Int)} (hN : 10000000000 ≤ N) (hA : ∃ lo, Can lo A) (hB : ∃ lo, Can lo B) (hl : A.length + B.length ≤ 1000000000) : zWX B A (zHh B A) ∧ zAp N (Qf A) (Qf B) VR = some (Qf (zHh B A)) := by
  obtain ⟨C, h1, h2, h3, h4⟩ := zWz (k := fun a b => b && !a) (f := VR) (fun a b => rfl) rfl (N := N) hA hB (by omega) (by omega)
  have h5 : ∀ x, InS x C ↔ InS x B ∧ ¬ InS x A := fun x => by
    rw [h4]
    constructor
    · rintro ⟨p, q, g1, g2, g3⟩
      simp only [Bool.and_eq_true, Bool.not_eq_true'] at g3
      exact ⟨g2.1 g3.1, fun hh => by have := g1.2 hh; rw [g3.2] at this; cases this⟩
    · rintro ⟨g1, g2⟩
      exact ⟨false, true, by simp [g2], by simp [g1], rfl⟩
  rw [zUC h2 h5]
  exact ⟨⟨h2, h5, by omega⟩, h1⟩
noncomputable def hz (y : Int) (A B : List (Int × Int)) : List Sd := (zHh A B).map (sdW y) ++ (zHh B A).map (sdE y)
def vt (b : Bd) : List Sd := b.2.2.flatMap fun p => [sdS b.1 b.2.1 p, sdN b.1 b.2.1 p]
def zHE (prev : Option Bd) (b : Bd) : List (Int × Int) := match prev with
  | none => []
  | some c => if c.2.1 < b.1 then [] else c.2.2
noncomputable def zG8 (b : Bd) (rest : List Bd) : List Sd := match rest with
  | [] => hz b.2.1 b.2.2 []
  | c :: _ => if b.2.1 < c.1 then hz b.2.1 b.2.2 [] else []
noncomputable def zBC : Option Bd → List Bd → List Sd
  | _, [] => []
  | prev, b :: rest => vt b ++ hz b.1 (zHE prev b) b.2.2 ++ zG8 b rest ++ zBC (some b) rest
theorem zd6 {y0 y1 : Int} {p : Int × Int} (h : y0 < y1) : toS (sdS y0 y1 p) = ⟨⟨p.1, y1⟩, ⟨p.1, y0⟩⟩ := by
  unfold toS zBb sdS adv Ke Ed.p
  simp only [Dir.dx, Dir.dy, Qw.mk.injEq, zG.mk.injEq]
  exact ⟨trivial, by omega, by omega⟩
theorem zd7 {y0 y1 : Int} {p : Int × Int} (h : y0 < y1) : toS (sdN y0 y1 p) = ⟨⟨p.2, y0⟩, ⟨p.2, y1⟩⟩ := by
  unfold toS zBb sdN adv Ke Ed.p
  simp only [Dir.dx, Dir.dy, Qw.mk.injEq, zG.mk.injEq]
  exact ⟨trivial, by omega, by omega⟩
theorem zd5 {y : Int} {p : Int × Int} (h : p.1 < p.2) : toS (sdW y p) = ⟨⟨p.2, y⟩, ⟨p.1, y⟩⟩ := by
  unfold toS zBb sdW adv Ke Ed.p
  simp only [Dir.dx, Dir.dy, Qw.mk.injEq, zG.mk.injEq]
  exact ⟨trivial, by omega, by omega⟩
theorem zd8 {y : Int} {p : Int × Int} (h : p.1 < p.2) : toS (sdE y p) = ⟨⟨p.1, y⟩, ⟨p.2, y⟩⟩ := by
  unfold toS zBb sdE adv Ke Ed.p
  simp only [Dir.dx, Dir.dy, Qw.mk.injEq, zG.mk.injEq]
  exact ⟨trivial, by omega, by omega⟩
theorem zOz (pre suf : List (Int × Int)) (p : Int × Int) : idx (Qf (pre ++ p :: suf)) ((2 * pre.length : Nat) : Int) = some p.1 := by
  have h := Qn (Qf pre) (p.2 :: Qf suf) p.1
  rw [Kr] at h
  rw [zCj, zA2]; exact h
theorem zOy (pre suf : List (Int × Int)) (p : Int × Int) : idx (Qf (pre ++ p :: suf)) ((2 * pre.length + 1 : Nat) : Int) = some p.2 := by
  have h := Qn (Qf pre ++ [p.1]) (Qf suf) p.2
  rw [List.length_append, Kr, List.length_singleton, List.append_assoc] at h
  rw [zCj, zA2]; exact h
theorem zIh {a b c d : Int} {out : List Qw} (h : out.length < 1000000000) : VI a b c d out = some (out ++ [⟨⟨a, b⟩, ⟨c, d⟩⟩]) := by
  unfold VI
  rw [Kl (by simp; omega)]; rfl
theorem zFU {l : List (Int × Int)} {C pre suf : List (Int × Int)} (h : C = pre ++ suf) : (Qf C).length = 2 * pre.length + 2 * suf.length := by rw [h, Kr, List.length_append]; omega
theorem zNG {l : List (Int × Int)} (h : ∃ lo, Can lo l) : ∀ p ∈ l, p.1 < p.2 := fun p hp => by
  obtain ⟨lo, h⟩ := h
  exact (h.mem p hp).2
theorem zQ6 {y : Int} {C : List (Int × Int)} (hC : ∀ p ∈ C, p.1 < p.2) (hl : C.length ≤ 1000000000) : ∀ (suf pre : List (Int × Int)) (m : Nat) (out : List Sd), C = pre ++ suf → suf.length < m → out.length + suf.length ≤ 100000000 →
    Qc y (Qf C) m (out.map toS) ((2 * pre.length : Nat) : Int) = some ((out ++ suf.map (sdE y)).map toS)
  | _, _, 0, _, _, hm, _ => absurd hm (Nat.not_lt_zero _)
  | [], pre, m + 1, out, h, _, _ => by
    rw [Qc.eq_2, if_neg (by rw [zFU (l := C) h]; simp)]; simp
  | p :: suf, pre, m + 1, out, h, hm, ho => by
    have hpl : pre.length ≤ 1000000000 := by rw [h] at hl; simp at hl; omega
    rw [Qc.eq_2, if_pos (by rw [zFU (l := C) h]; simp; omega)]
    have e1 : w64 (((2 * pre.length : Nat) : Int) + 1) = ((2 * pre.length + 1 : Nat) : Int) := by rw [Qg (by omega) (by omega)]; omega
    have e2 : w64 (((2 * pre.length : Nat) : Int) + 2) = ((2 * (pre ++ [p]).length : Nat) : Int) := by rw [Qg (by omega) (by omega)]; simp; omega
    have i1 := zOz pre suf p
    have i2 := zOy pre suf p
    rw [← h] at i1 i2
    simp only [List.length_cons] at hm ho
    rw [e1, e2, i1, Option.bind_some, i2, Option.bind_some, zIh (by rw [List.length_map]; omega), Option.bind_some]
    have := zQ6 (y := y) hC hl suf (pre ++ [p]) m (out ++ [sdE y p]) (by rw [h]; simp) (by omega) (by simp; omega)
    rw [List.map_append, List.map_singleton, zd8 (hC p (by rw [h]; simp))] at this
    rw [this]; simp
theorem zPw {N : Nat} {y : Int} {A B : List Int} {C : List (Int × Int)} (hC : ∀ p ∈ C, p.1 < p.2) (hl : C.length ≤ 1000000000) : ∀ (suf pre : List (Int × Int)) (m : Nat) (out : List Sd), C = pre ++ suf → suf.length < m → out.length + suf.length ≤ 100000000 →
    Qt N y A B (Qf C) m (out.map toS) ((2 * pre.length : Nat) : Int) = (zAp N A B VR).bind fun VM => Qc y VM N ((out ++ suf.map (sdW y)).map toS) 0
  | _, _, 0, _, _, hm, _ => absurd hm (Nat.not_lt_zero _)
  | [], pre, m + 1, out, h, _, _ => by
    rw [Qt.eq_2, if_neg (by rw [zFU (l := C) h]; simp)]; simp
  | p :: suf, pre, m + 1, out, h, hm, ho => by
    have hpl : pre.length ≤ 1000000000 := by rw [h] at hl; simp at hl; omega
    rw [Qt.eq_2, if_pos (by rw [zFU (l := C) h]; simp; omega)]
    have e1 : w64 (((2 * pre.length : Nat) : Int) + 1) = ((2 * pre.length + 1 : Nat) : Int) := by rw [Qg (by omega) (by omega)]; omega
    have e2 : w64 (((2 * pre.length : Nat) : Int) + 2) = ((2 * (pre ++ [p]).length : Nat) : Int) := by rw [Qg (by omega) (by omega)]; simp; omega
    have i1 := zOz pre suf p
    have i2 := zOy pre suf p
    rw [← h] at i1 i2
    simp only [List.length_cons] at hm ho
    rw [e1, e2, i2, Option.bind_some, i1, Option.bind_some, zIh (by rw [List.length_map]; omega), Option.bind_some]
    have := zPw (N := N) (y := y) (A := A) (B := B) hC hl suf (pre ++ [p]) m (out ++ [sdW y p]) (by rw [h]; simp) (by omega) (by simp; omega)
    rw [List.map_append, List.map_singleton, zd5 (hC p (by rw [h]; simp))] at this
    rw [this]; simp
theorem zW8 {N : Nat} {y : Int} {A B : List (Int × Int)} {out : List Sd} (hN : 10000000000 ≤ N) (hA : ∃ lo, Can lo A) (hB : ∃ lo, Can lo B) (hl : A.length + B.length ≤ 1000000000) (ho : (out ++ hz y A B).length ≤ 100000000) :
    JH N y (Qf A) (Qf B) (out.map toS) = some ((out ++ hz y A B).map toS) := by
  obtain ⟨d1, d2⟩ := zTT hN hA hB hl
  obtain ⟨d3, d4⟩ := zZr hN hA hB hl
  unfold hz at ho
  simp only [List.length_append, List.length_map] at ho
  unfold JH
  show (zAp N (Qf A) (Qf B) VS).bind _ = _
  rw [d2, Option.bind_some]
  have h1 := zPw (N := N) (y := y) (A := Qf A) (B := Qf B) (zNG d1.can) (by have := d1.len; omega) (zHh A B) [] N out rfl (by have := d1.len; omega) (by omega)
  have h2 := zQ6 (y := y) (zNG d3.can) (by have := d3.len; omega) (zHh B A) [] N (out ++ (zHh A B).map (sdW y)) rfl (by have := d3.len; omega) (by simp; omega)
  have e0 : ((2 * ([] : List (Int × Int)).length : Nat) : Int) = 0 := rfl
  rw [e0] at h1 h2
  rw [h1, d4, Option.bind_some, h2]
  unfold hz
  rw [List.append_assoc]
theorem zWZ {N : Nat} {p0 : List JD} {k : List Qw → Option (List Qw)} {b : Bd} {i : Nat} (hb : b.1 < b.2.1) (hl : b.2.2.length ≤ 1000000000) : ∀ (suf pre : List (Int × Int)) (m : Nat) (out : List Sd), b.2.2 = pre ++ suf → suf.length < m → out.length + 2 * suf.length ≤ 100000000 →
    JR N p0 k (toP b) i m (out.map toS) ((2 * pre.length : Nat) : Int) = JR N p0 k (toP b) i 1 ((out ++ suf.flatMap fun p => [sdS b.1 b.2.1 p, sdN b.1 b.2.1 p]).map toS) ((2 * b.2.2.length : Nat) : Int)
  | _, _, 0, _, _, hm, _ => absurd hm (Nat.not_lt_zero _)
  | [], pre, m + 1, out, h, _, _ => by
    have e : b.2.2.length = pre.length := by rw [h]; simp
    have hx : (toP b).Xs = Qf b.2.2 := rfl
    rw [JR.eq_2, JR.eq_2, e, hx, if_neg (by rw [zFU (l := b.2.2) h]; simp), if_neg (c := decide (((2 * pre.length : Nat) : Int) < ((Qf b.2.2).length : Int)) = true) (by rw [zFU (l := b.2.2) h]; simp)]; simp
  | p :: suf, pre, m + 1, out, h, hm, ho => by
    have hpl : pre.length ≤ 1000000000 := by rw [h] at hl; simp at hl; omega
    have hx : (toP b).Xs = Qf b.2.2 := rfl
    have hy0 : (toP b).Y0 = b.1 := rfl
    have hy1 : (toP b).Y1 = b.2.1 := rfl
    rw [JR.eq_2, hx, hy0, hy1, if_pos (by rw [zFU (l := b.2.2) h]; simp; omega)]
    have e1 : w64 (((2 * pre.length : Nat) : Int) + 1) = ((2 * pre.length + 1 : Nat) : Int) := by rw [Qg (by omega) (by omega)]; omega
    have e2 : w64 (((2 * pre.length : Nat) : Int) + 2) = ((2 * (pre ++ [p]).length : Nat) : Int) := by rw [Qg (by omega) (by omega)]; simp; omega
    have i1 := zOz pre suf p
    have i2 := zOy pre suf p
    rw [← h] at i1 i2
    simp only [List.length_cons] at hm ho
    rw [e1, e2, i1, Option.bind_some, Option.bind_some, zIh (by rw [List.length_map]; omega), Option.bind_some, i2, Option.bind_some, Option.bind_some, zIh (by simp; omega), Option.bind_some]
    have := zWZ (N := N) (p0 := p0) (k := k) (i := i) hb hl suf (pre ++ [p]) m (out ++ [sdS b.1 b.2.1 p, sdN b.1 b.2.1 p]) (by rw [h]; simp) (by omega) (by simp; omega)
    rw [List.map_append, List.map_cons, List.map_singleton, zd6 hb, zd7 hb] at this
    rw [show (out.map toS ++ [Qw.mk ⟨p.1, b.2.1⟩ ⟨p.1, b.1⟩] ++ [Qw.mk ⟨p.2, b.1⟩ ⟨p.2, b.2.1⟩]) = out.map toS ++ [Qw.mk ⟨p.1, b.2.1⟩ ⟨p.1, b.1⟩, Qw.mk ⟨p.2, b.1⟩ ⟨p.2, b.2.1⟩] from by simp, this]
    simp
theorem zR3 {a b : List Sd} {n : Nat} (h : (a ++ b).length ≤ n) : a.length ≤ n := by rw [List.length_append] at h; omega
theorem zLz {N : Nat} (hN : 10000000000 ≤ N) {l : List Bd} (hl : l.length ≤ 1000000000) (hlo : ∀ b ∈ l, b.1 < b.2.1 ∧ b.2.2.length ≤ 100000000 ∧ ∃ lo, Can lo b.2.2) : ∀ (suf pre : List Bd) (out : List Sd), l = pre ++ suf → (out ++ zBC pre.getLast? suf).length ≤ 100000000 →
    QR N (l.map toP) (suf.map toP) pre.length (out.map toS) = some ((out ++ zBC pre.getLast? suf).map toS)
  | [], pre, out, _, _ => by
    show QR _ _ [] _ _ = _
    rw [QR.eq_1]
    unfold zBC
    rw [List.append_nil]
  | b :: rest, pre, out, h, ho => by
    have hbm : b ∈ l := by rw [h]; simp
    obtain ⟨hb1, hb2, hb3⟩ := hlo b hbm
    have hpl : pre.length ≤ 1000000000 := by rw [h] at hl; simp at hl; omega
    unfold zBC at ho ⊢
    have eA : out ++ (vt b ++ hz b.1 (zHE pre.getLast? b) b.2.2 ++ zG8 b rest ++ zBC (some b) rest) = (((out ++ vt b) ++ hz b.1 (zHE pre.getLast? b) b.2.2) ++ zG8 b rest) ++ zBC (some b) rest := by simp only [List.append_assoc]
    rw [eA] at ho ⊢
    have ho3 := zR3 ho
    have ho2 := zR3 ho3
    have ho1 := zR3 ho2
    have hvl : (vt b).length = 2 * b.2.2.length := by
      unfold vt
      rw [List.length_flatMap]
      simp only [List.length_cons, List.length_nil]
      rw [List.map_const', List.sum_replicate_nat]; omega
    rw [List.map_cons, QR.eq_2]
    have hv := zWZ (N := N) (p0 := l.map toP) (k := QR N (l.map toP) (rest.map toP) (pre.length + 1)) (b := b) (i := pre.length) hb1 (by omega) b.2.2 [] N out rfl (by omega) (by rw [List.length_append, hvl] at ho1; omega)
    have e0 : ((2 * ([] : List (Int × Int)).length : Nat) : Int) = 0 := rfl
    rw [e0] at hv
    have hx : (toP b).Xs = Qf b.2.2 := rfl
    have hy0 : (toP b).Y0 = b.1 := rfl
    have hy1 : (toP b).Y1 = b.2.1 := rfl
    have hvt : (b.2.2.flatMap fun p => [sdS b.1 b.2.1 p, sdN b.1 b.2.1 p]) = vt b := rfl
    rw [hv, hvt, JR.eq_2, hx, hy0, if_neg (by rw [Kr]; simp)]
    have hJ : Vb N (l.map toP) (QR N (l.map toP) (rest.map toP) (pre.length + 1)) (toP b) pre.length ((out ++ vt b ++ hz b.1 (zHE pre.getLast? b) b.2.2).map toS) = some ((out ++ vt b ++ hz b.1 (zHE pre.getLast? b) b.2.2 ++ zG8 b rest ++ zBC (some b) rest).map toS) := by
      have ih := zLz hN hl hlo rest (pre ++ [b]) (out ++ vt b ++ hz b.1 (zHE pre.getLast? b) b.2.2 ++ zG8 b rest) (by rw [h]; simp) (by rw [List.getLast?_append]; exact ho)
      rw [List.getLast?_append, List.length_append] at ih
      have ih : QR N (l.map toP) (rest.map toP) (pre.length + 1) ((out ++ vt b ++ hz b.1 (zHE pre.getLast? b) b.2.2 ++ zG8 b rest).map toS) = some ((out ++ vt b ++ hz b.1 (zHE pre.getLast? b) b.2.2 ++ zG8 b rest ++ zBC (some b) rest).map toS) := ih
      unfold Vb
      have e1 : w64 ((pre.length : Int) + 1) = ((pre ++ [b]).length : Int) := zAP pre b (by omega)
      have hz0 : ∀ {o : List Sd}, (o ++ hz b.2.1 b.2.2 []).length ≤ 100000000 → JH N b.2.1 (Qf b.2.2) [] (o.map toS) = some ((o ++ hz b.2.1 b.2.2 []).map toS) := fun {o} ho => zW8 (B := []) hN hb3 ⟨0, trivial⟩ (by simp; omega) ho
      rw [e1, hx, hy1]
      cases rest with
      | nil =>
        rw [if_pos (by rw [h]; simp), Option.bind_some, if_pos rfl]
        have e2 : zG8 b [] = hz b.2.1 b.2.2 [] := rfl
        rw [e2] at ih ho3 ⊢
        rw [hz0 ho3, Option.bind_some]; exact ih
      | cons c rest =>
        have e3 : idx (l.map toP) ((pre ++ [b]).length : Int) = some (toP c) := by
          have := Qn ((pre ++ [b]).map toP) (rest.map toP) (toP c)
          rw [List.length_map] at this
          rw [h, show pre ++ b :: c :: rest = (pre ++ [b]) ++ c :: rest by simp, List.map_append, List.map_cons]; exact this
        rw [if_neg (by rw [h]; simp; omega), e3, Option.bind_some, Option.bind_some]
        have e4 : (toP c).Y0 = c.1 := rfl
        rw [e4]
        by_cases hc : b.2.1 < c.1
        · have e2 : zG8 b (c :: rest) = hz b.2.1 b.2.2 [] := if_pos hc
          rw [if_pos (by simpa using hc)]
          rw [e2] at ih ho3 ⊢
          rw [hz0 ho3, Option.bind_some]; exact ih
        · have e2 : zG8 b (c :: rest) = [] := if_neg hc
          rw [if_neg (by simpa using hc)]
          rw [e2, List.append_nil] at ih ⊢
          exact ih
    rcases List.eq_nil_or_concat pre with hp | ⟨q, c, hp⟩
    · subst hp
      rw [if_pos (by simp), Option.bind_some, if_pos rfl]
      have := zW8 (N := N) (y := b.1) (A := []) (B := b.2.2) (out := out ++ vt b) hN ⟨0, trivial⟩ hb3 (by simp; omega) ho2
      have e2 : Qf [] = [] := rfl
      rw [e2] at this
      rw [this, Option.bind_some]
      exact hJ
    · rw [List.concat_eq_append] at hp
      subst hp
      have hcm : c ∈ l := by rw [h]; simp
      obtain ⟨hc1, hc2, hc3⟩ := hlo c hcm
      have e1 : w64 (((q ++ [c]).length : Int) - 1) = (q.length : Int) := by rw [Qg (by omega) (by omega)]; simp
      have e3 : idx (l.map toP) (q.length : Int) = some (toP c) := by
        have := Qn (q.map toP) ((b :: rest).map toP) (toP c)
        rw [List.length_map] at this
        rw [h, show (q ++ [c]) ++ b :: rest = q ++ c :: b :: rest by simp, List.map_append, List.map_cons]; exact this
      rw [if_neg (by simp; omega), e1, e3, Option.bind_some, Option.bind_some]
      have e4 : (toP c).Y1 = c.2.1 := rfl
      have e5 : (toP c).Xs = Qf c.2.2 := rfl
      have e6 : (q ++ [c]).getLast? = some c := by simp
      rw [e4]
      rw [e6] at hJ ho2 ⊢
      by_cases hc : c.2.1 < b.1
      · have e2 : zHE (some c) b = [] := if_pos hc
        rw [e2] at hJ ho2 ⊢
        rw [if_pos (by simpa using hc)]
        have := zW8 (N := N) (y := b.1) (A := []) (B := b.2.2) (out := out ++ vt b) hN ⟨0, trivial⟩ hb3 (by simp; omega) ho2
        have e2 : Qf [] = [] := rfl
        rw [e2] at this
        rw [this, Option.bind_some]
        exact hJ
      · have e2 : zHE (some c) b = c.2.2 := if_neg hc
        rw [e2] at hJ ho2 ⊢
        rw [if_neg (by simpa using hc), Option.bind_some, e5, zW8 (N := N) (y := b.1) (out := out ++ vt b) hN hc3 hb3 (by omega) ho2, Option.bind_some]
        exact hJ
theorem zYd {N : Nat} (hN : 10000000000 ≤ N) {l : List Bd} (hl : l.length ≤ 1000000000) (hlo : ∀ b ∈ l, b.1 < b.2.1 ∧ b.2.2.length ≤ 100000000 ∧ ∃ lo, Can lo b.2.2) (hlen : (zBC none l).length ≤ 100000000) : zB3 N (l.map toP) = some ((zBC none l).map toS) := zLz hN hl hlo l [] [] rfl hlen
open PX
def Has (L : List Sd) (e : Ed) : Prop := ∃ s ∈ L, On s e
theorem zSK (e : Ed) : ¬ Has [] e := fun ⟨_, h, _⟩ => nomatch h
theorem zEM {A B : List Sd} {e : Ed} : Has (A ++ B) e ↔ Has A e ∨ Has B e := by
  unfold Has
  constructor
  · rintro ⟨s, h1, h2⟩
    rcases List.mem_append.1 h1 with h1 | h1
    · exact .inl ⟨s, h1, h2⟩
    · exact .inr ⟨s, h1, h2⟩
  · rintro (⟨s, h1, h2⟩ | ⟨s, h1, h2⟩)
    · exact ⟨s, List.mem_append_left _ h1, h2⟩
    · exact ⟨s, List.mem_append_right _ h1, h2⟩
theorem zI3 : ∀ {l : List (Int × Int)} {lo : Int}, Can lo l → l.Pairwise fun p q => p.2 < q.1
  | [], _, _ => .nil
  | p :: l, lo, h => List.pairwise_cons.2 ⟨fun q hq => (h.2.2.mem q hq).1, zI3 h.2.2⟩
theorem zVJ {α : Type} {R : α → α → Prop} : ∀ {l : List α}, l.Pairwise R → ∀ a ∈ l, ∀ b ∈ l, a = b ∨ R a b ∨ R b a
  | x :: l, h, a, ha, b, hb => by
    obtain ⟨h1, h2⟩ := List.pairwise_cons.1 h
    rcases List.mem_cons.1 ha with ea | ea
    · rcases List.mem_cons.1 hb with eb | eb
      · left; rw [ea, eb]
      · right; left; rw [ea]; exact h1 b eb
    · rcases List.mem_cons.1 hb with eb | eb
      · right; right; rw [eb]; exact h1 a ea
      · exact zVJ h2 a ea b eb
theorem zdp {l : List (Int × Int)} (h : ∃ lo, Can lo l) {x : Int} : (∃ p ∈ l, x = p.2) ↔ InS (x - 1) l ∧ ¬ InS x l := by
  obtain ⟨lo, h⟩ := h
  constructor
  · rintro ⟨p, hp, rfl⟩
    have h1 := (h.mem p hp).2
    refine ⟨⟨p, hp, by omega, by omega⟩, ?_⟩
    rintro ⟨q, hq, g1, g2⟩
    have h2 := (h.mem q hq).2
    rcases zVJ (zI3 h) p hp q hq with e | e | e
    · subst e; omega
    · omega
    · omega
  · rintro ⟨⟨p, hp, g1, g2⟩, h2⟩
    refine ⟨p, hp, ?_⟩
    rcases Int.lt_or_le x p.2 with h3 | h3
    · exact absurd ⟨p, hp, by omega, h3⟩ h2
    · omega
theorem zdq {l : List (Int × Int)} (h : ∃ lo, Can lo l) {x : Int} : (∃ p ∈ l, x = p.1) ↔ InS x l ∧ ¬ InS (x - 1) l := by
  obtain ⟨lo, h⟩ := h
  constructor
  · rintro ⟨p, hp, rfl⟩
    have h1 := (h.mem p hp).2
    refine ⟨⟨p, hp, by omega, by omega⟩, ?_⟩
    rintro ⟨q, hq, g1, g2⟩
    have h2 := (h.mem q hq).2
    rcases zVJ (zI3 h) p hp q hq with e | e | e
    · subst e; omega
    · omega
    · omega
  · rintro ⟨⟨p, hp, g1, g2⟩, h2⟩
    refine ⟨p, hp, ?_⟩
    rcases Int.lt_or_le (x - 1) p.1 with h3 | h3
    · omega
    · exact absurd ⟨p, hp, by omega, by omega⟩ h2
def Ok1 (b : Bd) : Prop := b.1 < b.2.1 ∧ b.2.2.length ≤ 100000000 ∧ ∃ lo, Can lo b.2.2
theorem zF5 {A B : List (Int × Int)} (hA : ∃ lo, Can lo A) (hB : ∃ lo, Can lo B) (hl : A.length + B.length ≤ 1000000000) : zWX A B (zHh A B) := (zTT (Nat.le_refl _) hA hB hl).1
def zGw (A : List (Int × Int)) : Prop := (∃ lo, Can lo A) ∧ A.length ≤ 100000000
theorem zGw.nil : zGw [] := ⟨⟨0, trivial⟩, by simp⟩
theorem Ok1.row {b : Bd} (h : Ok1 b) : zGw b.2.2 := ⟨h.2.2, h.2.1⟩
theorem zSH {b : Bd} (h : Ok1 b) {e : Ed} : Has (vt b) e ↔ (e.d = .N ∧ (b.1 ≤ e.y ∧ e.y < b.2.1) ∧ InS (e.x - 1) b.2.2 ∧ ¬ InS e.x b.2.2) ∨ (e.d = .S ∧ (b.1 < e.y ∧ e.y ≤ b.2.1) ∧ InS e.x b.2.2 ∧ ¬ InS (e.x - 1) b.2.2) := by
  unfold Has vt
  rw [← zdp h.2.2, ← zdq h.2.2]
  constructor
  · rintro ⟨s, h1, h2⟩
    obtain ⟨p, hp, hs⟩ := List.mem_flatMap.1 h1
    simp only [List.mem_cons, List.not_mem_nil, or_false] at hs
    rcases hs with rfl | rfl
    · obtain ⟨g1, g2, g3, g4⟩ := zN7.1 h2
      exact .inr ⟨g1, ⟨g3, g4⟩, p, hp, g2⟩
    · obtain ⟨g1, g2, g3, g4⟩ := zPg.1 h2
      exact .inl ⟨g1, ⟨g3, g4⟩, p, hp, g2⟩
  · rintro (⟨g1, ⟨g3, g4⟩, p, hp, g2⟩ | ⟨g1, ⟨g3, g4⟩, p, hp, g2⟩)
    · exact ⟨_, List.mem_flatMap.2 ⟨p, hp, List.mem_cons_of_mem _ (List.mem_cons_self)⟩, zPg.2 ⟨g1, g2, g3, g4⟩⟩
    · exact ⟨_, List.mem_flatMap.2 ⟨p, hp, List.mem_cons_self⟩, zN7.2 ⟨g1, g2, g3, g4⟩⟩
theorem zOv {y : Int} {A B : List (Int × Int)} (hA : zGw A) (hB : zGw B) {e : Ed} : Has (hz y A B) e ↔ e.y = y ∧ ((e.d = .W ∧ InS (e.x - 1) A ∧ ¬ InS (e.x - 1) B) ∨ (e.d = .E ∧ InS e.x B ∧ ¬ InS e.x A)) := by
  have d1 := zF5 hA.1 hB.1 (by have := hA.2; have := hB.2; omega)
  have d2 := zF5 hB.1 hA.1 (by have := hA.2; have := hB.2; omega)
  unfold hz
  rw [zEM, ← d1.mem, ← d2.mem]
  unfold Has
  simp only [List.mem_map]
  constructor
  · rintro (⟨s, ⟨p, hp, rfl⟩, h2⟩ | ⟨s, ⟨p, hp, rfl⟩, h2⟩)
    · obtain ⟨g1, g2, g3, g4⟩ := zRx.1 h2
      exact ⟨g2, .inl ⟨g1, p, hp, by omega, by omega⟩⟩
    · obtain ⟨g1, g2, g3, g4⟩ := zVQ.1 h2
      exact ⟨g2, .inr ⟨g1, p, hp, by omega, by omega⟩⟩
  · rintro ⟨g2, (⟨g1, p, hp, g3, g4⟩ | ⟨g1, p, hp, g3, g4⟩)⟩
    · exact .inl ⟨_, ⟨p, hp, rfl⟩, zRx.2 ⟨g1, g2, by omega, by omega⟩⟩
    · exact .inr ⟨_, ⟨p, hp, rfl⟩, zVQ.2 ⟨g1, g2, by omega, by omega⟩⟩
def zWT (b : Bd) : List Bd → Prop
  | [] => True
  | c :: _ => b.2.1 < c.1
theorem zSI {b : Bd} {rest : List Bd} (h : Ok1 b) {e : Ed} : Has (zG8 b rest) e ↔ zWT b rest ∧ e.y = b.2.1 ∧ e.d = .W ∧ InS (e.x - 1) b.2.2 := by
  have h1 := zOv (y := b.2.1) h.row zGw.nil (e := e)
  have h2 : Has (hz b.2.1 b.2.2 []) e ↔ e.y = b.2.1 ∧ e.d = .W ∧ InS (e.x - 1) b.2.2 := by
    rw [h1]
    constructor
    · rintro ⟨g1, (⟨g2, g3, _⟩ | ⟨_, g3, _⟩)⟩
      · exact ⟨g1, g2, g3⟩
      · exact absurd g3 VF
    · rintro ⟨g1, g2, g3⟩
      exact ⟨g1, .inl ⟨g2, g3, VF⟩⟩
  cases rest with
  | nil => show Has (hz b.2.1 b.2.2 []) e ↔ _; rw [h2]; simp [zWT]
  | cons c rest =>
    unfold zG8 zWT
    by_cases hc : b.2.1 < c.1
    · simp only [if_pos hc]
      rw [h2]; simp [hc]
    · simp only [if_neg hc]
      exact ⟨fun hh => absurd hh (zSK e), fun hh => absurd hh.1 hc⟩
def gR (prev : Option Bd) : List Bd → Int → List (Int × Int)
  | [], _ => []
  | b :: rest, y => if y = b.1 - 1 then zHE prev b else rowAt (b :: rest) y
theorem zHL (prev : Option Bd) (b : Bd) (rest : List Bd) (y : Int) : gR prev (b :: rest) y = if y = b.1 - 1 then zHE prev b else rowAt (b :: rest) y := rfl
theorem zF0 (prev : Option Bd) (b : Bd) (rest : List Bd) : zBC prev (b :: rest) = vt b ++ hz b.1 (zHE prev b) b.2.2 ++ zG8 b rest ++ zBC (some b) rest := by rw [zBC]
theorem zeq {prev : Option Bd} {l : List Bd} {lo y : Int} (h : zD6 lo l) (hy : y < lo - 1) : gR prev l y = [] := by
  cases l with
  | nil => rfl
  | cons b rest =>
    rw [zHL, if_neg (by have := h.1; omega)]
    exact zBK h (by omega)
theorem zXV {b : Bd} {l : List Bd} (h : zD6 b.2.1 l) (hf : zWT b l) : gR (some b) l (b.2.1 - 1) = [] := by
  cases l with
  | nil => rfl
  | cons c rest =>
    have hf : b.2.1 < c.1 := hf
    rw [zHL, if_neg (by omega)]
    exact zBK h (by omega)
theorem zT5 {b : Bd} {l : List Bd} (h : zD6 b.2.1 l) (hf : ¬ zWT b l) : gR (some b) l (b.2.1 - 1) = b.2.2 := by
  cases l with
  | nil => exact absurd trivial hf
  | cons c rest =>
    have hf : ¬ b.2.1 < c.1 := hf
    have hc : c.1 = b.2.1 := by have := h.1; omega
    rw [zHL, if_pos (by omega)]
    exact if_neg hf
theorem zES {b : Bd} {rest : List Bd} {y : Int} (h1 : b.1 ≤ y) (h2 : y < b.2.1) : rowAt (b :: rest) y = b.2.2 := if_pos ⟨h1, h2⟩
theorem zKC {b : Bd} {rest : List Bd} {y : Int} (h2 : b.2.1 ≤ y) : rowAt (b :: rest) y = rowAt rest y := if_neg (by omega)
theorem zer {b : Bd} {l : List Bd} {y : Int} (h : zD6 b.2.1 l) (hy : b.2.1 ≤ y) : gR (some b) l y = rowAt l y := by
  cases l with
  | nil => rfl
  | cons c rest =>
    rw [zHL]
    by_cases hc : y = c.1 - 1
    · rw [if_pos hc]
      have hf : b.2.1 < c.1 := by omega
      have : rowAt (c :: rest) y = [] := zBK (lo := c.1) ⟨Int.le_refl _, h.2.1, h.2.2.1, h.2.2.2.1, h.2.2.2.2⟩ (by omega)
      rw [this]
      exact if_pos hf
    · rw [if_neg hc]
structure Prv (prev : Option Bd) : Prop where
  ok : ∀ c, prev = some c → Ok1 c
theorem Prv.low {prev : Option Bd} (h : Prv prev) (b : Bd) : zGw (zHE prev b) := by
  cases prev with
  | none => exact zGw.nil
  | some c =>
    unfold zHE
    by_cases hc : c.2.1 < b.1
    · simp only [if_pos hc]; exact zGw.nil
    · simp only [if_neg hc]; exact (h.ok c rfl).row
def QN (l : List Bd) (e : Ed) : Prop := InS (e.x - 1) (rowAt l e.y) ∧ ¬ InS e.x (rowAt l e.y)
def QS (l : List Bd) (e : Ed) : Prop := InS e.x (rowAt l (e.y - 1)) ∧ ¬ InS (e.x - 1) (rowAt l (e.y - 1))
def QE (prev : Option Bd) (l : List Bd) (e : Ed) : Prop := InS e.x (rowAt l e.y) ∧ ¬ InS e.x (gR prev l (e.y - 1))
def QW (prev : Option Bd) (l : List Bd) (e : Ed) : Prop := InS (e.x - 1) (gR prev l (e.y - 1)) ∧ ¬ InS (e.x - 1) (rowAt l e.y)
theorem zbU {prev : Option Bd} {b : Bd} {rest : List Bd} {e : Ed} : Has (zBC prev (b :: rest)) e ↔ Has (vt b) e ∨ Has (hz b.1 (zHE prev b) b.2.2) e ∨ Has (zG8 b rest) e ∨ Has (zBC (some b) rest) e := by
  rw [zF0, zEM, zEM, zEM]
  constructor
  · rintro (((h | h) | h) | h)
    · exact .inl h
    · exact .inr (.inl h)
    · exact .inr (.inr (.inl h))
    · exact .inr (.inr (.inr h))
  · rintro (h | h | h | h)
    · exact .inl (.inl (.inl h))
    · exact .inl (.inl (.inr h))
    · exact .inl (.inr h)
    · exact .inr h
theorem zLo : ∀ {l : List Bd} {prev : Option Bd} {lo : Int}, zD6 lo l → (∀ b ∈ l, Ok1 b) → Prv prev → ∀ e, Has (zBC prev l) e ↔ (e.d = .N ∧ QN l e) ∨ (e.d = .S ∧ QS l e) ∨ (e.d = .E ∧ QE prev l e) ∨ (e.d = .W ∧ QW prev l e)
  | [], prev, lo, _, _, _, e => by
    constructor
    · intro h; exact absurd h (zSK e)
    · rintro (⟨_, h, _⟩ | ⟨_, h, _⟩ | ⟨_, h, _⟩ | ⟨_, h, _⟩) <;> exact absurd h VF
  | b :: rest, prev, lo, hc, hok, hp, e => by
    obtain ⟨c1, c2, c3, c4, c5⟩ := hc
    have hb := hok b (by simp)
    have ih := zLo (prev := some b) c5 (fun c hc => hok c (by simp [hc])) ⟨fun c hc => by cases hc; exact hb⟩ e
    have hcan : zD6 b.1 (b :: rest) := ⟨Int.le_refl _, c2, c3, c4, c5⟩
    rw [zbU, zSH hb, zOv (hp.low b) hb.row, zSI hb, ih]
    have nil : ∀ {y : Int}, y < b.2.1 → rowAt rest y = [] := fun hy => zBK c5 hy
    have lo0 : ∀ {y : Int}, y < b.1 → rowAt (b :: rest) y = [] := fun hy => zBK hcan hy
    have glow : gR prev (b :: rest) (b.1 - 1) = zHE prev b := by rw [zHL, if_pos rfl]
    have gother : ∀ {y : Int}, y ≠ b.1 - 1 → gR prev (b :: rest) y = rowAt (b :: rest) y := fun hy => by rw [zHL, if_neg hy]
    have gnil : ∀ {y : Int}, y < b.2.1 - 1 → gR (some b) rest y = [] := fun hy => zeq c5 hy
    cases hd : e.d
    · -- east
      simp only [reduceCtorEq, false_and, false_or, or_false, true_and, and_false]
      unfold QE
      rcases Int.lt_or_le e.y b.1 with h1 | h1
      · rw [lo0 h1, nil (y := e.y) (by omega)]
        constructor
        · rintro (⟨h, _⟩ | ⟨h, _⟩)
          · omega
          · exact absurd h VF
        · rintro ⟨h, _⟩; exact absurd h VF
      · rcases Int.lt_or_le e.y b.2.1 with h2 | h2
        · rw [zES h1 h2, nil h2]
          by_cases h3 : e.y = b.1
          · rw [h3, glow]
            constructor
            · rintro (⟨_, g⟩ | ⟨h, _⟩)
              · exact g
              · exact absurd h VF
            · intro g; exact .inl ⟨rfl, g⟩
          · rw [gother (by omega), zES (by omega) (by omega)]
            constructor
            · rintro (⟨h, _⟩ | ⟨h, _⟩)
              · exact absurd h h3
              · exact absurd h VF
            · rintro ⟨g1, g2⟩; exact absurd g1 g2
        · rw [zKC h2, gother (y := e.y - 1) (by omega)]
          by_cases h3 : e.y = b.2.1
          · rw [zES (y := e.y - 1) (by omega) (by omega), h3]
            by_cases hf : zWT b rest
            · -- nothing begins there
              have hn : rowAt rest b.2.1 = [] := by
                cases rest with
                | nil => rfl
                | cons c r => exact zBK (lo := c.1) ⟨Int.le_refl _, c5.2.1, c5.2.2.1, c5.2.2.2.1, c5.2.2.2.2⟩ hf
              rw [hn]
              constructor
              · rintro (⟨h, _⟩ | ⟨h, _⟩)
                · omega
                · exact absurd h VF
              · rintro ⟨h, _⟩; exact absurd h VF
            · rw [zT5 c5 hf]
              constructor
              · rintro (⟨h, _⟩ | g)
                · omega
                · exact g
              · intro g; exact .inr g
          · rw [zKC (y := e.y - 1) (by omega), zer c5 (y := e.y - 1) (by omega)]
            constructor
            · rintro (⟨h, _⟩ | g)
              · omega
              · exact g
            · intro g; exact .inr g
    · -- north
      simp only [reduceCtorEq, false_and, false_or, or_false, true_and, and_false]
      unfold QN
      by_cases h1 : b.1 ≤ e.y ∧ e.y < b.2.1
      · rw [zES h1.1 h1.2, nil h1.2]
        constructor
        · rintro (⟨_, g⟩ | ⟨h, _⟩)
          · exact g
          · exact absurd h VF
        · intro g; exact .inl ⟨h1, g⟩
      · have : rowAt (b :: rest) e.y = rowAt rest e.y := if_neg h1
        rw [this]
        constructor
        · rintro (⟨h, _⟩ | g)
          · exact absurd h h1
          · exact g
        · intro g; exact .inr g
    · -- west
      simp only [reduceCtorEq, false_and, false_or, or_false, true_and, and_false]
      unfold QW
      rcases Int.lt_or_le e.y b.1 with h1 | h1
      · rw [gother (by omega), lo0 (y := e.y - 1) (by omega), gnil (by omega)]
        constructor
        · rintro (⟨h, _⟩ | ⟨_, h, _⟩ | ⟨h, _⟩)
          · omega
          · omega
          · exact absurd h VF
        · rintro ⟨h, _⟩; exact absurd h VF
      · rcases Int.lt_or_le e.y b.2.1 with h2 | h2
        · rw [zES h1 h2, nil h2, gnil (by omega)]
          by_cases h3 : e.y = b.1
          · rw [h3, glow]
            constructor
            · rintro (⟨_, g⟩ | ⟨_, h, _⟩ | ⟨h, _⟩)
              · exact g
              · omega
              · exact absurd h VF
            · intro g; exact .inl ⟨rfl, g⟩
          · rw [gother (by omega), zES (by omega) (by omega)]
            constructor
            · rintro (⟨h, _⟩ | ⟨_, h, _⟩ | ⟨h, _⟩)
              · exact absurd h h3
              · omega
              · exact absurd h VF
            · rintro ⟨g1, g2⟩; exact absurd g1 g2
        · rw [zKC h2, gother (y := e.y - 1) (by omega)]
          by_cases h3 : e.y = b.2.1
          · rw [zES (y := e.y - 1) (by omega) (by omega), h3]
            by_cases hf : zWT b rest
            · have hn : rowAt rest b.2.1 = [] := by
                cases rest with
                | nil => rfl
                | cons c r => exact zBK (lo := c.1) ⟨Int.le_refl _, c5.2.1, c5.2.2.1, c5.2.2.2.1, c5.2.2.2.2⟩ hf
              rw [hn, zXV c5 hf]
              constructor
              · rintro (⟨h, _⟩ | ⟨_, _, g⟩ | ⟨h, _⟩)
                · omega
                · exact ⟨g, VF⟩
                · exact absurd h VF
              · rintro ⟨g, _⟩; exact .inr (.inl ⟨hf, rfl, g⟩)
            · rw [zT5 c5 hf]
              constructor
              · rintro (⟨h, _⟩ | ⟨h, _⟩ | g)
                · omega
                · exact absurd h hf
                · exact g
              · intro g; exact .inr (.inr g)
          · rw [zKC (y := e.y - 1) (by omega), zer c5 (y := e.y - 1) (by omega)]
            constructor
            · rintro (⟨h, _⟩ | ⟨_, h, _⟩ | g)
              · omega
              · exact absurd h h3
              · exact g
            · intro g; exact .inr (.inr g)
    · -- south
      simp only [reduceCtorEq, false_and, false_or, or_false, true_and, and_false]
      unfold QS
      by_cases h1 : b.1 < e.y ∧ e.y ≤ b.2.1
      · rw [zES (by omega) (by omega), nil (y := e.y - 1) (by omega)]
        constructor
        · rintro (⟨_, g⟩ | ⟨h, _⟩)
          · exact g
          · exact absurd h VF
        · intro g; exact .inl ⟨h1, g⟩
      · have : rowAt (b :: rest) (e.y - 1) = rowAt rest (e.y - 1) := if_neg (by omega)
        rw [this]
        constructor
        · rintro (⟨h, _⟩ | g)
          · exact absurd h h1
          · exact g
        · intro g; exact .inr g
theorem zRt {A B : List Sd} (hA : A.Pairwise Dj) (hB : B.Pairwise Dj) (h : ∀ e, Has A e → ¬ Has B e) : (A ++ B).Pairwise Dj :=
  List.pairwise_append.2 ⟨hA, hB, fun s hs t ht e h1 h2 => h e ⟨s, hs, h1⟩ ⟨t, ht, h2⟩⟩
theorem zZj {y : Int} {A B : List (Int × Int)} (hA : zGw A) (hB : zGw B) : (hz y A B).Pairwise Dj := by
  obtain ⟨lo1, d1⟩ := (zF5 hA.1 hB.1 (by have := hA.2; have := hB.2; omega)).can
  obtain ⟨lo2, d2⟩ := (zF5 hB.1 hA.1 (by have := hA.2; have := hB.2; omega)).can
  unfold hz
  refine zRt ?_ ?_ ?_
  · rw [List.pairwise_map]
    exact (zI3 d1).imp fun {p q} h e h1 h2 => by
      obtain ⟨_, _, g1, g2⟩ := zRx.1 h1
      obtain ⟨_, _, g3, g4⟩ := zRx.1 h2
      omega
  · rw [List.pairwise_map]
    exact (zI3 d2).imp fun {p q} h e h1 h2 => by
      obtain ⟨_, _, g1, g2⟩ := zVQ.1 h1
      obtain ⟨_, _, g3, g4⟩ := zVQ.1 h2
      omega
  · rintro e ⟨s, hs, h1⟩ ⟨t, ht, h2⟩
    obtain ⟨p, _, rfl⟩ := List.mem_map.1 hs
    obtain ⟨q, _, rfl⟩ := List.mem_map.1 ht
    have g1 := (zRx.1 h1).1
    have g2 := (zVQ.1 h2).1
    rw [g1] at g2; cases g2
theorem zls {b : Bd} (h : Ok1 b) : (vt b).Pairwise Dj := by
  obtain ⟨lo, hc⟩ := h.2.2
  unfold vt
  rw [List.pairwise_flatMap]
  constructor
  · intro p hp
    refine List.pairwise_cons.2 ⟨fun t ht e h1 h2 => ?_, List.pairwise_cons.2 ⟨fun t ht => (nomatch ht), .nil⟩⟩
    rw [List.mem_singleton.1 ht] at h2
    have g1 := (zN7.1 h1).1
    have g2 := (zPg.1 h2).1
    rw [g1] at g2; cases g2
  · refine List.Pairwise.imp_of_mem (R := fun p q => p.2 < q.1) (fun {p q} hp hq hpq s hs t ht e h1 h2 => ?_) (zI3 hc)
    have p1 := (hc.mem p hp).2
    have q1 := (hc.mem q hq).2
    simp only [List.mem_cons, List.not_mem_nil, or_false] at hs ht
    rcases hs with rfl | rfl <;> rcases ht with rfl | rfl
    · have g1 := (zN7.1 h1).2.1
      have g2 := (zN7.1 h2).2.1
      omega
    · have g1 := (zN7.1 h1).2.1
      have g2 := (zPg.1 h2).2.1
      omega
    · have g1 := (zPg.1 h1).2.1
      have g2 := (zN7.1 h2).2.1
      omega
    · have g1 := (zPg.1 h1).2.1
      have g2 := (zPg.1 h2).2.1
      omega
theorem zfP {b : Bd} {rest : List Bd} (h : Ok1 b) : (zG8 b rest).Pairwise Dj := by
  cases rest with
  | nil => exact zZj h.row zGw.nil
  | cons c r =>
    unfold zG8
    by_cases hc : b.2.1 < c.1
    · simp only [if_pos hc]; exact zZj h.row zGw.nil
    · simp only [if_neg hc]; exact .nil
theorem zTJ : ∀ {l : List Bd} {prev : Option Bd} {lo : Int}, zD6 lo l → (∀ b ∈ l, Ok1 b) → Prv prev → (zBC prev l).Pairwise Dj
  | [], _, _, _, _, _ => .nil
  | b :: rest, prev, lo, ⟨c1, c2, c3, c4, c5⟩, hok, hp => by
    have hb := hok b (by simp)
    have hp' : Prv (some b) := ⟨fun c hc => by cases hc; exact hb⟩
    have ih := zTJ (prev := some b) c5 (fun c hc => hok c (by simp [hc])) hp'
    have hs := zLo (prev := some b) c5 (fun c hc => hok c (by simp [hc])) hp'
    rw [zF0]
    refine zRt (zRt (zRt (zls hb) (zZj (hp.low b) hb.row) ?_) (zfP hb) ?_) ih ?_
    · intro e h1 h2
      rw [zSH hb] at h1
      rw [zOv (hp.low b) hb.row] at h2
      rcases h1 with ⟨g, _⟩ | ⟨g, _⟩ <;> rcases h2 with ⟨_, (⟨g', _⟩ | ⟨g', _⟩)⟩ <;> rw [g] at g' <;> cases g'
    · intro e h1 h2
      rw [zSI hb] at h2
      obtain ⟨_, g1, g2, _⟩ := h2
      rcases zEM.1 h1 with h1 | h1
      · rw [zSH hb] at h1
        rcases h1 with ⟨g, _⟩ | ⟨g, _⟩ <;> rw [g2] at g <;> cases g
      · rw [zOv (hp.low b) hb.row] at h1
        omega
    · intro e h1 h2
      have nil : ∀ {y : Int}, y < b.2.1 → rowAt rest y = [] := fun hy => zBK c5 hy
      rw [hs e] at h2
      rw [zEM, zEM, zSH hb, zOv (hp.low b) hb.row, zSI hb] at h1
      rcases h2 with ⟨g, q1, _⟩ | ⟨g, q1, _⟩ | ⟨g, q1, _⟩ | ⟨g, q1, _⟩ <;> rw [g] at h1 <;> simp only [reduceCtorEq, false_and, false_or, or_false, true_and, and_false] at h1
      · rw [nil h1.1.2] at q1; exact VF q1
      · rw [nil (by omega)] at q1; exact VF q1
      · rw [nil (by omega)] at q1; exact VF q1
      · rcases h1 with ⟨h1, _⟩ | ⟨hf, h1, _⟩
        · rw [zeq c5 (by omega)] at q1; exact VF q1
        · rw [h1, zXV c5 hf] at q1; exact VF q1
theorem zdT {l : List Bd} {lo : Int} (h : zD6 lo l) (y : Int) : gR none l y = rowAt l y := by
  cases l with
  | nil => rfl
  | cons b rest =>
    rw [zHL]
    by_cases hy : y = b.1 - 1
    · rw [if_pos hy]
      exact (zBK (lo := b.1) (l := b :: rest) ⟨Int.le_refl _, h.2.1, h.2.2.1, h.2.2.2.1, h.2.2.2.2⟩ (by omega)).symm
    · rw [if_neg hy]
theorem zP5 : ∀ {l : List Bd} {prev : Option Bd}, (∀ b ∈ l, Ok1 b) → Prv prev → ∀ s ∈ zBC prev l, 0 < s.2
  | b :: rest, prev, hok, hp, s, hs => by
    have hb := hok b (by simp)
    have hz0 : ∀ {y : Int} {A B : List (Int × Int)}, zGw A → zGw B → ∀ s ∈ hz y A B, 0 < s.2 := fun {y A B} hA hB s hs => by
      have d1 := zNG (zF5 hA.1 hB.1 (by have := hA.2; have := hB.2; omega)).can
      have d2 := zNG (zF5 hB.1 hA.1 (by have := hA.2; have := hB.2; omega)).can
      unfold hz at hs
      rcases List.mem_append.1 hs with hs | hs
      · obtain ⟨p, hp, rfl⟩ := List.mem_map.1 hs
        have := d1 p hp
        show 0 < (p.2 - p.1).toNat; omega
      · obtain ⟨p, hp, rfl⟩ := List.mem_map.1 hs
        have := d2 p hp
        show 0 < (p.2 - p.1).toNat; omega
    rw [zF0] at hs
    rcases List.mem_append.1 hs with hs | hs
    · rcases List.mem_append.1 hs with hs | hs
      · rcases List.mem_append.1 hs with hs | hs
        · obtain ⟨p, hp, hs⟩ := List.mem_flatMap.1 hs
          have := hb.1
          simp only [List.mem_cons, List.not_mem_nil, or_false] at hs
          rcases hs with rfl | rfl <;> show 0 < (b.2.1 - b.1).toNat <;> omega
        · exact hz0 (hp.low b) hb.row s hs
      · cases rest with
        | nil => exact hz0 hb.row zGw.nil s hs
        | cons c r =>
          unfold zG8 at hs
          by_cases hc : b.2.1 < c.1
          · simp only [if_pos hc] at hs; exact hz0 hb.row zGw.nil s hs
          · simp only [if_neg hc] at hs; cases hs
    · exact zP5 (prev := some b) (fun c hc => hok c (by simp [hc])) ⟨fun c hc => by cases hc; exact hb⟩ s hs
theorem zVD {I : Sq} {l : List Bd} (h : BOk l) (hlen : ∀ b ∈ l, b.2.2.length ≤ 100000000) (hI : ∀ x y, I x y = true ↔ InS x (rowAt l y)) : zAR I (zBC none l) := by
  obtain ⟨lo, hc⟩ := h.can
  have hok : ∀ b ∈ l, Ok1 b := fun b hb => ⟨(hc.mem b hb).2.1, hlen b hb, h.row b hb⟩
  have hp : Prv none := ⟨fun c hc => nomatch hc⟩
  have hI' : ∀ x y, I x y = false ↔ ¬ InS x (rowAt l y) := fun x y => by
    rw [← hI]; cases I x y <;> simp
  refine zWh (zP5 hok hp) (fun e => ?_) (zTJ hc hok hp)
  refine (zLo hc hok hp e).trans ?_
  unfold QN QS QE QW isB
  rw [zdT hc]
  cases hd : e.d <;> simp only [reduceCtorEq, false_and, false_or, or_false, true_and, and_false, lq, Dir.right, hI, hI']
theorem zNq {n : Nat} (hn : n ≤ 100000000) : ∀ {l : List Bd} {prev : Option Bd}, (∀ b ∈ l, Ok1 b ∧ b.2.2.length ≤ n) → (∀ c, prev = some c → Ok1 c ∧ c.2.2.length ≤ n) → (zBC prev l).length ≤ l.length * (8 * n)
  | [], _, _, _ => by unfold zBC; simp
  | b :: rest, prev, hok, hp => by
    obtain ⟨hb, hbn⟩ := hok b (by simp)
    have ih := zNq hn (l := rest) (prev := some b) (fun c hc => hok c (by simp [hc])) (fun c hc => by cases hc; exact ⟨hb, hbn⟩)
    have hzl : ∀ {y : Int} {A B : List (Int × Int)}, zGw A → zGw B → (hz y A B).length ≤ 2 * (A.length + B.length) := fun {y A B} hA hB => by
      have d1 := (zF5 hA.1 hB.1 (by have := hA.2; have := hB.2; omega)).len
      have d2 := (zF5 hB.1 hA.1 (by have := hA.2; have := hB.2; omega)).len
      unfold hz
      simp only [List.length_append, List.length_map]; omega
    have hlow : (zHE prev b).length ≤ n := by
      cases prev with
      | none => exact Nat.zero_le _
      | some c =>
        unfold zHE
        by_cases hc : c.2.1 < b.1
        · simp only [if_pos hc]; exact Nat.zero_le _
        · simp only [if_neg hc]; exact (hp c rfl).2
    have h1 := hzl (y := b.1) (Prv.low ⟨fun c hc => (hp c hc).1⟩ b) hb.row
    have h2 : (zG8 b rest).length ≤ 2 * n := by
      have h3 := hzl (y := b.2.1) hb.row zGw.nil
      rw [List.length_nil] at h3
      cases rest with
      | nil => exact Nat.le_trans h3 (by omega)
      | cons c r =>
        unfold zG8
        by_cases hc : b.2.1 < c.1
        · simp only [if_pos hc]; omega
        · simp only [if_neg hc]; exact Nat.zero_le _
    have hvl : (vt b).length = 2 * b.2.2.length := by
      unfold vt
      rw [List.length_flatMap]
      simp only [List.length_cons, List.length_nil]
      rw [List.map_const', List.sum_replicate_nat]; omega
    rw [zF0]
    simp only [List.length_append, List.length_cons, hvl]
    rw [Nat.add_mul, Nat.one_mul]
    omega
def Ku (p : Int × Int) : KH := ⟨p.1, p.2⟩
def zAy (b : Bd) : zk := ⟨b.1, b.2.1, b.2.2.map Ku⟩
theorem zN2 {l : List Int} {x : Int} (hs : l.Pairwise fun a b => a < b) (hl : l.length ≤ 1000000000) : ∀ (n lo hi m : Nat), hi - lo ≤ n → n < m → lo ≤ hi → hi ≤ l.length → (∀ i, (h : i < l.length) → i < lo → l[i] < x) → (∀ i, (h : i < l.length) → hi ≤ i → x ≤ l[i]) →
    ∃ l', KC l x m lo hi = some l' ∧ (l'.Pairwise fun a b => a < b) ∧ (∀ z, z ∈ l' ↔ z = x ∨ z ∈ l) ∧ l'.length ≤ l.length + 1
  | n, lo, hi, 0, _, h, _, _, _, _ => absurd h (Nat.not_lt_zero _)
  | n, lo, hi, m + 1, h1, h2, h3, h4, h5, h6 => by
    by_cases hlt : lo < hi
    · have hmid : (lo + hi) / 2 < l.length := by omega
      have hw : w64 (Int.tdiv (w64 ((lo : Int) + hi)) 2) = (((lo + hi) / 2 : Nat) : Int) := by
        rw [Qg (x := (lo : Int) + hi) (by omega) (by omega), Int.tdiv_eq_ediv_of_nonneg (by omega), Qg (by omega) (by omega)]
        omega
      rw [KC.eq_2, if_pos (by simpa using hlt), hw, zDe hmid, Option.bind_some]
      obtain ⟨n, rfl⟩ : ∃ k, n = k + 1 := ⟨n - 1, by omega⟩
      have hord : ∀ i j, (hi : i < l.length) → (hj : j < l.length) → i ≤ j → l[i] ≤ l[j] := fun i j hi hj hij => by
        rcases Nat.lt_or_eq_of_le hij with h | h
        · exact Int.le_of_lt (List.pairwise_iff_getElem.1 hs i j hi hj h)
        · subst h; exact Int.le_refl _
      by_cases hc : l[(lo + hi) / 2] < x
      · rw [if_pos (by simpa using hc), Qg (by omega) (by omega)]
        have := zN2 hs hl n ((lo + hi) / 2 + 1) hi m (by omega) (by omega) (by omega) h4 (fun i hi' hlt' => by have := hord i _ hi' hmid (by omega); omega) h6
        simpa using this
      · rw [if_neg (by simpa using hc)]
        exact zN2 hs hl n lo ((lo + hi) / 2) m (by omega) (by omega) (by omega) (by omega) h5 (fun i hi' hle => by have := hord _ i hmid hi' hle; omega)
    · have heq : lo = hi := by omega
      subst heq
      rw [KC.eq_2, if_neg (by simp)]
      have hsplit : l = l.take lo ++ l.drop lo := (List.take_append_drop lo l).symm
      have hA : ∀ a ∈ l.take lo, a < x := fun a ha => by
        obtain ⟨i, hi, rfl⟩ := List.mem_iff_getElem.1 ha
        simp at hi
        have := h5 i (by omega) (by omega)
        simpa using this
      have hB : ∀ b ∈ l.drop lo, x ≤ b := fun b hb => by
        obtain ⟨i, hi, rfl⟩ := List.mem_iff_getElem.1 hb
        simp at hi
        have := h6 (lo + i) (by omega) (by omega)
        simpa using this
      by_cases hin : x ∈ l
      · have hxlo : lo < l.length ∧ ∀ h : lo < l.length, l[lo] = x := by
          rw [hsplit] at hin
          rcases List.mem_append.1 hin with h | h
          · have := hA x h; omega
          · have hne : lo < l.length := by
              have := List.length_pos_of_mem h
              simp at this; omega
            refine ⟨hne, fun _ => ?_⟩
            have hd : l.drop lo = l[lo] :: l.drop (lo + 1) := List.drop_eq_getElem_cons hne
            rw [hd] at h
            rcases List.mem_cons.1 h with h | h
            · exact h.symm
            · have a := hB l[lo] (by rw [hd]; exact List.mem_cons_self)
              have hs2 : (l[lo] :: l.drop (lo + 1)).Pairwise fun a b => a < b := by rw [← hd]; exact hs.sublist (List.drop_sublist _ _)
              have b := (List.pairwise_cons.1 hs2).1 x h
              omega
        rw [if_pos (by simpa using hxlo.1), zDe hxlo.1, Option.bind_some, hxlo.2 hxlo.1, Option.bind_some, if_pos (by simp)]
        exact ⟨l, rfl, hs, fun z => ⟨fun h => .inr h, fun h => by rcases h with rfl | h; exact hin; exact h⟩, by omega⟩
      · have hcond : ((if (decide ((lo : Int) < (l.length : Int))) then (idx l (lo : Int)).bind fun x113 => some (x113 == x) else some false).bind fun zYz => if zYz then some l else
            (pre l (lo : Int)).bind fun zLb => (apd ([] : List Int) zLb).bind fun zaF => (apd zaF [x]).bind fun zaE => (cut l (lo : Int) (l.length : Int)).bind fun zaD => (apd zaE zaD).bind fun zBj => some zBj) = some (l.take lo ++ [x] ++ l.drop lo) := by
          have e1 : (if (decide ((lo : Int) < (l.length : Int))) then (idx l (lo : Int)).bind fun x113 => some (x113 == x) else some false) = some false := by
            by_cases hlo : lo < l.length
            · rw [if_pos (by simpa using hlo), zDe hlo, Option.bind_some]
              have : l[lo] ≠ x := fun e => hin (e ▸ List.getElem_mem hlo)
              simp [this]
            · rw [if_neg (by simpa using hlo)]
          have e2 : pre l (lo : Int) = some (l.take lo) := by
            unfold pre
            rw [if_pos ⟨by omega, by omega⟩]; simp
          have e3 : cut l (lo : Int) (l.length : Int) = some (l.drop lo) := by
            unfold cut
            rw [if_pos ⟨by omega, by omega, by omega⟩]; simp
          rw [e1, Option.bind_some, if_neg (by simp), e2, Option.bind_some, Kl (by simp; omega), Option.bind_some, Kl (by simp; omega), Option.bind_some, e3, Option.bind_some, Kl (by simp; omega), Option.bind_some]
          simp
        rw [hcond]
        have hB' : ∀ b ∈ l.drop lo, x < b := fun b hb => by
          have := hB b hb
          have hne : b ≠ x := fun e => hin (by rw [hsplit]; exact List.mem_append_right _ (e ▸ hb))
          omega
        refine ⟨_, rfl, ?_, fun z => ?_, by simp; omega⟩
        · rw [List.append_assoc, List.pairwise_append]
          refine ⟨hs.sublist (List.take_sublist _ _), ?_, fun a ha b hb => ?_⟩
          · show (x :: l.drop lo).Pairwise _
            rw [List.pairwise_cons]
            exact ⟨hB', hs.sublist (List.drop_sublist _ _)⟩
          · have := hA a ha
            rcases List.mem_cons.1 (show b ∈ x :: l.drop lo from hb) with rfl | hb
            · exact this
            · have := hB' b hb; omega
        · rw [List.append_assoc, List.mem_append]
          show (z ∈ l.take lo ∨ z ∈ x :: l.drop lo) ↔ _
          rw [List.mem_cons]
          have : z ∈ l ↔ z ∈ l.take lo ∨ z ∈ l.drop lo := by
            rw [← List.mem_append, List.take_append_drop]
          rw [this]
          constructor
          · rintro (h | h | h)
            · exact .inr (.inl h)
            · exact .inl h
            · exact .inr (.inr h)
          · rintro (h | h | h)
            · exact .inr (.inl h)
            · exact .inl h
            · exact .inr (.inr h)
theorem zJl {N : Nat} {l : List Int} {x : Int} (hN : 10000000000 ≤ N) (hs : l.Pairwise fun a b => a < b) (hl : l.length ≤ 1000000000) : ∃ l', KS N l x = some l' ∧ (l'.Pairwise fun a b => a < b) ∧ (∀ z, z ∈ l' ↔ z = x ∨ z ∈ l) ∧ l'.length ≤ l.length + 1 :=
  zN2 hs hl l.length 0 l.length N (by omega) (by omega) (by omega) (by omega) (fun i _ h => by omega) (fun i h h' => by omega)
theorem zV9 {N : Nat} {l : List zJ} (hN : 10000000000 ≤ N) (hl : l.length ≤ 100000000) : zAZ N l = some (QP (QV l)) := by
  have key : ∀ (suf pre : List zJ) (m : Nat) (out : List Int), l = pre ++ suf → suf.length < m → out.Pairwise (fun a b => a < b) → (∀ z, z ∈ out ↔ z ∈ QV pre) → out.length ≤ 2 * pre.length → Jj N l m out pre.length = some (QP (QV l)) := by
    intro suf
    induction suf with
    | nil =>
      intro pre m out h1 h2 h3 h4 h5
      obtain ⟨m, rfl⟩ : ∃ k, m = k + 1 := ⟨m - 1, by omega⟩
      rw [List.append_nil] at h1
      subst h1
      rw [Jj.eq_2, if_neg (by simp)]
      congr 1
      exact zDC h3 (JG _) fun z => by rw [Vd, h4]
    | cons r suf ih =>
      intro pre m out h1 h2 h3 h4 h5
      obtain ⟨m, rfl⟩ : ∃ k, m = k + 1 := ⟨m - 1, by omega⟩
      have hpl : pre.length + 1 ≤ 100000000 := by rw [h1] at hl; simp at hl; omega
      have hid : idx l (pre.length : Int) = some r := by rw [h1]; exact Qn pre suf r
      obtain ⟨o1, p1, p2, p3, p4⟩ := zJl (x := r.Y0) hN h3 (by omega)
      obtain ⟨o2, q1, q2, q3, q4⟩ := zJl (x := r.Y1) hN p2 (by omega)
      rw [Jj.eq_2, if_pos (by rw [h1]; exact zBz pre suf r), hid, Option.bind_some, Option.bind_some, p1, Option.bind_some, q1, Option.bind_some, zAP pre r (by omega)]
      refine ih (pre ++ [r]) m o2 (by rw [h1]; simp) (by simp at h2; omega) q2 (fun z => ?_) (by simp; omega)
      rw [q3, p3, h4, zAG, zAG]
      constructor
      · rintro (h | h | ⟨s, hs, h⟩)
        · exact ⟨r, by simp, .inr h⟩
        · exact ⟨r, by simp, .inl h⟩
        · exact ⟨s, by simp [hs], h⟩
      · rintro ⟨s, hs, h⟩
        rcases List.mem_append.1 hs with hs | hs
        · exact .inr (.inr ⟨s, hs, h⟩)
        · simp at hs; subst hs
          rcases h with h | h
          · exact .inr (.inl h)
          · exact .inl h
  exact key l [] N [] rfl (by omega) .nil (fun z => by simp [QV]) (by simp)
theorem zJq {p0 pre : List (Int × Int)} (hl : p0.length ≤ 1000000000) (hpl : pre.length ≤ 1000000000) : ∀ (suf pre2 : List (Int × Int)) (m : Nat) (a b : Int), p0 = pre2 ++ suf → suf.length < m → Jt (p0.map Ku) (pre.map Ku) m a b pre2.length = some ((pre ++ zEm a b suf).map Ku)
  | [], pre2, m + 1, a, b, h1, _ => by
    have hc : cut (p0.map Ku) (pre2.length : Int) ((p0.map Ku).length : Int) = some [] := by
      unfold cut
      rw [h1, if_pos ⟨by omega, by simp, by omega⟩]; simp
    rw [Jt.eq_2, if_neg (by rw [h1]; simp), Option.bind_some, if_neg (by simp), Kl (by simp; omega), Option.bind_some, hc, Option.bind_some, Kl (by simp; omega), Option.bind_some]
    simp [zEm, Ku]
  | q :: suf, pre2, m + 1, a, b, h1, h2 => by
    have hp2 : pre2.length ≤ 1000000000 := by rw [h1] at hl; simp at hl; omega
    have hm : p0.map Ku = pre2.map Ku ++ Ku q :: suf.map Ku := by rw [h1]; simp
    have hlen : pre2.length = (pre2.map Ku).length := by simp
    have hid : idx (p0.map Ku) (pre2.length : Int) = some (Ku q) := by rw [hm, hlen]; exact Qn _ _ _
    rw [Jt.eq_2, if_pos (by rw [h1]; simp; omega), hid, Option.bind_some, Option.bind_some]
    unfold zEm
    by_cases hle : q.1 ≤ b
    · rw [if_pos (decide_eq_true (show (Ku q).from_ ≤ b from hle)), if_pos hle, Option.bind_some, Option.bind_some, zAP pre2 q (by omega)]
      exact zJq hl hpl suf (pre2 ++ [q]) m _ _ (by rw [h1]; simp) (by simp at h2; omega)
    · have hc : cut (p0.map Ku) (pre2.length : Int) ((p0.map Ku).length : Int) = some ((q :: suf).map Ku) := by
        unfold cut
        rw [h1, if_pos ⟨by omega, by simp; omega, by omega⟩, Int.toNat_natCast, Int.toNat_natCast, List.take_length, List.map_append, show pre2.length = (pre2.map Ku).length by simp, List.drop_left]
      have hsl : suf.length ≤ 1000000000 := by rw [h1] at hl; simp at hl; omega
      rw [if_neg (show ¬ decide ((Ku q).from_ ≤ b) = true from by rw [decide_eq_true_eq]; exact hle), if_neg hle, Kl (by simp; omega), Option.bind_some, hc, Option.bind_some, Kl (by simp; omega), Option.bind_some]
      simp [Ku]
theorem zQS {N : Nat} {p0 : List (Int × Int)} {p : Int × Int} (hN : 10000000000 ≤ N) (hl : p0.length ≤ 1000000000) : ∀ (suf pre : List (Int × Int)) (m : Nat), p0 = pre ++ suf → suf.length < m → Ju N (p0.map Ku) (Ku p) m (pre.map Ku) pre.length = some ((pre ++ zCY suf p).map Ku)
  | [], pre, m + 1, h1, _ => by
    have hp2 : pre.length ≤ 1000000000 := by rw [h1] at hl; simp at hl; omega
    rw [Ju.eq_2, if_neg (by rw [h1]; simp), Option.bind_some, if_neg (by simp)]
    exact zJq hl hp2 [] pre N p.1 p.2 h1 (by simp; omega)
  | q :: suf, pre, m + 1, h1, h2 => by
    have hp2 : pre.length ≤ 1000000000 := by rw [h1] at hl; simp at hl; omega
    have hm : p0.map Ku = pre.map Ku ++ Ku q :: suf.map Ku := by rw [h1]; simp
    have hlen : pre.length = (pre.map Ku).length := by simp
    have hid : idx (p0.map Ku) (pre.length : Int) = some (Ku q) := by rw [hm, hlen]; exact Qn _ _ _
    rw [Ju.eq_2, if_pos (by rw [h1]; simp; omega), hid, Option.bind_some, Option.bind_some]
    unfold zCY
    by_cases hlt : q.2 < p.1
    · rw [if_pos (decide_eq_true (show (Ku q).to_ < (Ku p).from_ from hlt)), if_pos hlt, Option.bind_some, Kl (by simp; omega), Option.bind_some, zAP pre q (by omega)]
      have := zQS (p := p) hN hl suf (pre ++ [q]) m (by rw [h1]; simp) (by simp at h2; omega)
      rw [show (pre.map Ku ++ [Ku q]) = (pre ++ [q]).map Ku by simp, this]
      simp
    · rw [if_neg (show ¬ decide ((Ku q).to_ < (Ku p).from_) = true from by rw [decide_eq_true_eq]; exact hlt), if_neg hlt]
      exact zJq hl hp2 (q :: suf) pre N p.1 p.2 h1 (by rw [h1] at hl; simp at hl ⊢; omega)
theorem zQR {N : Nat} {l : List (Int × Int)} {p : Int × Int} (hN : 10000000000 ≤ N) (hl : l.length ≤ 1000000000) : VV N (l.map Ku) (Ku p) = some ((zCY l p).map Ku) :=
  zQS hN hl l [] N rfl (by omega)
theorem zRr {N : Nat} {l : List zJ} {y : Int} (hN : 10000000000 ≤ N) (hl : l.length ≤ 100000000) : zAl N l y = some ((zC5 l y).map Ku) := by
  have key : ∀ (suf pre : List zJ) (m : Nat) (out : List (Int × Int)), l = pre ++ suf → suf.length < m → out.length ≤ pre.length → KA N l y m (out.map Ku) pre.length = some ((((suf.filter fun r => decide (r.Y0 ≤ y) && decide (y < r.Y1)).map xsR).foldl zCY out).map Ku) := by
    intro suf
    induction suf with
    | nil =>
      intro pre m out h1 h2 h3
      obtain ⟨m, rfl⟩ : ∃ k, m = k + 1 := ⟨m - 1, by omega⟩
      rw [KA.eq_2, if_neg (by rw [h1]; simp)]; rfl
    | cons r suf ih =>
      intro pre m out h1 h2 h3
      obtain ⟨m, rfl⟩ : ∃ k, m = k + 1 := ⟨m - 1, by omega⟩
      have hpl : pre.length + 1 ≤ 100000000 := by rw [h1] at hl; simp at hl; omega
      have hid : idx l (pre.length : Int) = some r := by rw [h1]; exact Qn pre suf r
      rw [KA.eq_2, if_pos (by rw [h1]; exact zBz pre suf r), hid, Option.bind_some, Option.bind_some, zAP pre r (by omega), List.filter_cons]
      cases hc : (decide (r.Y0 ≤ y) && decide (y < r.Y1))
      · have hg : (if (decide (r.Y0 ≤ y)) then some (decide (y < r.Y1)) else some false) = some false := by
          cases h1 : decide (r.Y0 ≤ y)
          · rfl
          · rw [h1, Bool.true_and] at hc; rw [if_pos rfl, hc]
        rw [hg, Option.bind_some, if_neg (by simp), if_neg (by simp)]
        exact ih (pre ++ [r]) m out (by rw [h1]; simp) (by simp at h2; omega) (by simp; omega)
      · have hg : (if (decide (r.Y0 ≤ y)) then some (decide (y < r.Y1)) else some false) = some true := by
          rw [Bool.and_eq_true] at hc
          rw [if_pos hc.1, hc.2]
        have hj := zQR (N := N) (l := out) (p := xsR r) hN (by omega)
        rw [hg, Option.bind_some, if_pos rfl, if_pos rfl, Option.bind_some, Option.bind_some]
        show (VV N (out.map Ku) (Ku (xsR r))).bind _ = _
        rw [hj, Option.bind_some, List.map_cons, List.foldl_cons]
        have := zGe out (xsR r)
        exact ih (pre ++ [r]) m _ (by rw [h1]; simp) (by simp at h2; omega) (by simp; omega)
  exact key l [] N [] rfl (by omega) (by simp)
theorem zRo {N : Nat} {l m : List (Int × Int)} (hN : 10000000000 ≤ N) (hl : l.length ≤ 1000000000) : VJ N (l.map Ku) (m.map Ku) = some (decide (l = m)) := by
  have key : ∀ (s1 s2 p1 p2 : List (Int × Int)) (n : Nat), l = p1 ++ s1 → m = p2 ++ s2 → p1.length = p2.length → s1.length = s2.length → s1.length < n → JN (l.map Ku) (m.map Ku) n p1.length = some (decide (s1 = s2)) := by
    intro s1
    induction s1 with
    | nil =>
      intro s2 p1 p2 n h1 h2 h3 h4 h5
      obtain ⟨n, rfl⟩ : ∃ k, n = k + 1 := ⟨n - 1, by omega⟩
      have : s2 = [] := List.eq_nil_of_length_eq_zero h4.symm
      subst this
      rw [JN.eq_2, if_neg (by rw [h1]; simp)]; rfl
    | cons q s1 ih =>
      intro s2 p1 p2 n h1 h2 h3 h4 h5
      obtain ⟨n, rfl⟩ : ∃ k, n = k + 1 := ⟨n - 1, by omega⟩
      cases s2 with
      | nil => simp at h4
      | cons q2 s2 =>
        have hp : p1.length ≤ 1000000000 := by rw [h1] at hl; simp at hl; omega
        have e1 : idx (l.map Ku) (p1.length : Int) = some (Ku q) := by
          rw [h1, List.map_append, List.map_cons, show p1.length = (p1.map Ku).length by simp]; exact Qn _ _ _
        have e2 : idx (m.map Ku) (p1.length : Int) = some (Ku q2) := by
          rw [h2, List.map_append, List.map_cons, h3, show p2.length = (p2.map Ku).length by simp]; exact Qn _ _ _
        rw [JN.eq_2, if_pos (by rw [h1]; simp; omega), e1, Option.bind_some, e2, Option.bind_some, zAP p1 q (by omega)]
        by_cases hq : q = q2
        · subst hq
          rw [zL9.2 rfl, if_neg (by simp), ih s2 (p1 ++ [q]) (p2 ++ [q]) n (by rw [h1]; simp) (by rw [h2]; simp) (by simp; omega) (by simpa using h4) (by simp at h5; omega)]
          simp
        · have : zHM (Ku q) (Ku q2) = false := by
            rw [Bool.eq_false_iff]
            intro h
            have := zL9.1 h
            unfold Ku at this
            injection this with a b
            exact hq (by obtain ⟨x, y⟩ := q; obtain ⟨z, w⟩ := q2; simp only at a b; rw [a, b])
          rw [this, if_pos (by simp)]
          simp [hq]
  unfold VJ
  by_cases h : l.length = m.length
  · rw [if_neg (by simp; omega)]
    exact key l m [] [] N rfl rfl rfl h (by omega)
  · rw [if_pos (by simp; omega)]
    have : l ≠ m := fun e => h (by rw [e])
    simp [this]
theorem zNk {N : Nat} {l : List Bd} {b : Bd} (hN : 10000000000 ≤ N) (hl : l.length ≤ 1000000000) (hs : ∀ c ∈ l, c.2.2.length ≤ 1000000000) : KQ N (l.map zAy) (zAy b) = some ((pushB l b).map zAy) := by
  unfold KQ
  by_cases he : b.2.2 = []
  · rw [if_pos (by show (((b.2.2.map Ku).length : Int) == 0) = true; rw [he]; rfl), zBL he]
  · have hpos : 0 < b.2.2.length := List.length_pos_iff.2 he
    rw [if_neg (by show ¬ (((b.2.2.map Ku).length : Int) == 0) = true; simp; exact he)]
    rcases List.eq_nil_or_concat l with rfl | ⟨j, c, h⟩
    · rw [zGZ he, if_neg (by simp), Option.bind_some, if_neg (by simp), Option.bind_some, if_neg (by simp)]
      rfl
    · rw [List.concat_eq_append] at h
      subst h
      simp only [List.length_append, List.length_singleton] at hl
      have hm : (j ++ [c]).map zAy = j.map zAy ++ zAy c :: [] := by simp
      have hw : w64 ((((j ++ [c]).map zAy).length : Int) - 1) = ((j.map zAy).length : Int) := by
        rw [Qg (by first | (simp; done) | (simp; omega)) (by first | (simp; done) | (simp; omega))]; simp
      have hid : idx ((j ++ [c]).map zAy) ((j.map zAy).length : Int) = some (zAy c) := by rw [hm]; exact Qn _ [] _
      have hss := zRo (N := N) (l := c.2.2) (m := b.2.2) hN (hs c (by simp))
      rw [zCX he, hw, if_pos (by first | (simp; done) | (simp; omega)), hid, Option.bind_some, Option.bind_some, Option.bind_some]
      by_cases h1 : c.2.1 = b.1
      · have e1 : ((zAy c).to_ == (zAy b).from_) = true := by simpa [zAy] using h1
        rw [e1, if_pos rfl]
        show (((VJ N (c.2.2.map Ku) (b.2.2.map Ku)).bind fun zI8 => some zI8).bind _) = _
        rw [hss, Option.bind_some, Option.bind_some]
        by_cases h2 : c.2.2 = b.2.2
        · rw [decide_eq_true h2, if_pos rfl, if_pos ⟨h1, h2⟩]
          have hset : sets ((j ++ [c]).map zAy) ((j.map zAy).length : Int) (zk.mk (zAy c).from_ (zAy b).to_ (zAy c).spans) = some ((j ++ [(c.1, b.2.1, c.2.2)]).map zAy) := by
            unfold sets
            rw [if_pos ⟨by omega, by simp⟩, hm]
            simp [zAy]
          rw [Option.bind_some, hset]; rfl
        · rw [decide_eq_false h2, if_neg (by simp), if_neg (fun h => h2 h.2), Kl (by simp; omega), Option.bind_some]
          simp
      · have e1 : ((zAy c).to_ == (zAy b).from_) = false := by simpa [zAy] using h1
        rw [e1, if_neg (by simp), Option.bind_some, if_neg (by simp), if_neg (fun h => h1 h.1), Kl (by simp; omega), Option.bind_some]
        simp
open PX
def zGg (l : List zJ) : Sq := fun x y => l.any fun r => (decide (r.X0 ≤ x) && decide (x < r.X1)) && (decide (r.Y0 ≤ y) && decide (y < r.Y1))
theorem zGf {l : List zJ} {x y : Int} : zGg l x y = true ↔ InR x y l := by
  unfold zGg InR
  rw [List.any_eq_true]
  simp only [Bool.and_eq_true, decide_eq_true_eq]
def Qy (l : List zJ) : List Int := l.flatMap fun r => [r.X0, r.X1]
theorem zEE {l : List zJ} {x : Int} : x ∈ Qy l ↔ ∃ r ∈ l, x = r.X0 ∨ x = r.X1 := by
  unfold Qy
  simp [List.mem_flatMap]
def gt (l : List Int) (i : Nat) : Int := l.getD i 0
theorem zLc {l : List Int} {i : Nat} (h : i < l.length) : idx l (i : Int) = some (gt l i) := by
  rw [zDe h]
  unfold gt
  rw [List.getD_eq_getElem?_getD, List.getElem?_eq_getElem h]; rfl
theorem zYs {N : Nat} {l : List (Int × Int)} {x : Int} (hN : 10000000000 ≤ N) (hl : l.length ≤ 1000000000) : ∃ b, zAs N (l.map Ku) x = some b ∧ (b = true ↔ InS x l) := by
  have key : ∀ (suf pre : List (Int × Int)) (m : Nat), l = pre ++ suf → suf.length < m → ∃ b, Jv (l.map Ku) x m pre.length = some b ∧ (b = true ↔ InS x suf) := by
    intro suf
    induction suf with
    | nil =>
      intro pre m h1 h2
      obtain ⟨m, rfl⟩ : ∃ k, m = k + 1 := ⟨m - 1, by omega⟩
      refine ⟨false, ?_, by simp [VF]⟩
      rw [Jv.eq_2, if_neg (by rw [h1]; simp)]
    | cons p suf ih =>
      intro pre m h1 h2
      obtain ⟨m, rfl⟩ : ∃ k, m = k + 1 := ⟨m - 1, by omega⟩
      have hpl : pre.length + 1 ≤ 1000000000 := by rw [h1] at hl; simp at hl; omega
      have hid : idx (l.map Ku) (pre.length : Int) = some (Ku p) := by
        have := Qn (pre.map Ku) (suf.map Ku) (Ku p)
        rw [List.length_map] at this
        rw [h1, List.map_append, List.map_cons]; exact this
      have e1 : (Ku p).from_ = p.1 := rfl
      have e2 : (Ku p).to_ = p.2 := rfl
      obtain ⟨b, b1, b2⟩ := ih (pre ++ [p]) m (by rw [h1]; simp) (by simp at h2; omega)
      rw [Jv.eq_2, if_pos (by rw [h1, List.length_map]; exact zBz pre suf p), hid, Option.bind_some, Option.bind_some, e1, e2]
      have hg : (if decide (p.1 ≤ x) = true then some (decide (x < p.2)) else some false) = some (decide (p.1 ≤ x ∧ x < p.2)) := by
        by_cases h3 : p.1 ≤ x <;> simp [h3]
      rw [hg, Option.bind_some]
      by_cases h3 : p.1 ≤ x ∧ x < p.2
      · rw [if_pos (by simpa using h3)]
        exact ⟨true, rfl, by simp [VX, h3]⟩
      · rw [if_neg (by simpa using h3), zAP pre p (by omega)]
        refine ⟨b, b1, ?_⟩
        rw [b2, VX]
        exact ⟨.inr, fun h => h.resolve_left h3⟩
  exact key l [] N rfl (by omega)
theorem zY4 {N : Nat} {l : List zJ} (hN : 10000000000 ≤ N) (hl : l.length ≤ 100000000) : Wd N l = QM N l (QP (Qy l)) (QP (QV l)) N [] 1 := by
  have key : ∀ (suf pre : List zJ) (m : Nat) (out out' : List Int), l = pre ++ suf → suf.length < m → out.Pairwise (fun a b => a < b) → (∀ z, z ∈ out ↔ z ∈ Qy pre) → out.length ≤ 2 * pre.length → out'.Pairwise (fun a b => a < b) → (∀ z, z ∈ out' ↔ z ∈ QV pre) → out'.length ≤ 2 * pre.length → Jl N l m out out' pre.length = QM N l (QP (Qy l)) (QP (QV l)) N [] 1 := by
    intro suf
    induction suf with
    | nil =>
      intro pre m out out' h1 h2 h3 h4 h5 h3' h4' h5'
      obtain ⟨m, rfl⟩ : ∃ k, m = k + 1 := ⟨m - 1, by omega⟩
      rw [List.append_nil] at h1
      subst h1
      rw [Jl.eq_2, if_neg (by simp)]
      rw [zDC h3 (JG (Qy l)) fun z => by rw [Vd, h4], zDC h3' (JG (QV l)) fun z => by rw [Vd, h4']]
    | cons r suf ih =>
      intro pre m out out' h1 h2 h3 h4 h5 h3' h4' h5'
      obtain ⟨m, rfl⟩ : ∃ k, m = k + 1 := ⟨m - 1, by omega⟩
      have hpl : pre.length + 1 ≤ 100000000 := by rw [h1] at hl; simp at hl; omega
      have hid : idx l (pre.length : Int) = some r := by rw [h1]; exact Qn pre suf r
      obtain ⟨o1, p1, p2, p3, p4⟩ := zJl (x := r.X0) hN h3 (by omega)
      obtain ⟨o2, q1, q2, q3, q4⟩ := zJl (x := r.X1) hN p2 (by omega)
      obtain ⟨o3, s1, s2, s3, s4⟩ := zJl (x := r.Y0) hN h3' (by omega)
      obtain ⟨o4, t1, t2, t3, t4⟩ := zJl (x := r.Y1) hN s2 (by omega)
      rw [Jl.eq_2, if_pos (by rw [h1]; exact zBz pre suf r), hid, Option.bind_some, Option.bind_some, p1, Option.bind_some, q1, Option.bind_some, Option.bind_some, Option.bind_some, s1, Option.bind_some, t1, Option.bind_some, zAP pre r (by omega)]
      refine ih (pre ++ [r]) m o2 o4 (by rw [h1]; simp) (by simp at h2; omega) q2 (fun z => ?_) (by simp; omega) t2 (fun z => ?_) (by simp; omega)
      · rw [q3, p3, h4, zEE, zEE]
        constructor
        · rintro (h | h | ⟨s, hs, h⟩)
          · exact ⟨r, by simp, .inr h⟩
          · exact ⟨r, by simp, .inl h⟩
          · exact ⟨s, by simp [hs], h⟩
        · rintro ⟨s, hs, h⟩
          rcases List.mem_append.1 hs with hs | hs
          · exact .inr (.inr ⟨s, hs, h⟩)
          · simp at hs; subst hs
            rcases h with h | h
            · exact .inr (.inl h)
            · exact .inl h
      · rw [t3, s3, h4', zAG, zAG]
        constructor
        · rintro (h | h | ⟨s, hs, h⟩)
          · exact ⟨r, by simp, .inr h⟩
          · exact ⟨r, by simp, .inl h⟩
          · exact ⟨s, by simp [hs], h⟩
        · rintro ⟨s, hs, h⟩
          rcases List.mem_append.1 hs with hs | hs
          · exact .inr (.inr ⟨s, hs, h⟩)
          · simp at hs; subst hs
            rcases h with h | h
            · exact .inr (.inl h)
            · exact .inl h
  exact key l [] N [] [] rfl (by omega) .nil (fun z => by simp [Qy]) (by simp) .nil (fun z => by simp [QV]) (by simp)
def zDm (l : List zJ) (xs : List Int) (y : Int) (k : Nat) : List Bool := (List.range xs.length).map fun i => decide (i < k) && zGg l (gt xs i) y
theorem zGt {l : List zJ} {xs : List Int} {y : Int} {k : Nat} : (zDm l xs y k).length = xs.length := by unfold zDm; simp
theorem zKs {l : List zJ} {xs : List Int} {y : Int} {k i : Nat} (h : i < xs.length) : (zDm l xs y k)[i]? = some (decide (i < k) && zGg l (gt xs i) y) := by
  unfold zDm
  rw [List.getElem?_map, List.getElem?_range h]; rfl
theorem zY5 {l : List zJ} {xs : List Int} {y : Int} {k : Nat} (h : k < xs.length) : (zDm l xs y k).set k (zGg l (gt xs k) y) = zDm l xs y (k + 1) := by
  apply List.ext_getElem?
  intro i
  rw [List.getElem?_set]
  by_cases hi : i < xs.length
  · by_cases hk : k = i
    · subst hk
      rw [if_pos rfl, if_pos (by rw [zGt]; exact hi), zKs hi]
      simp
    · rw [if_neg hk, zKs hi, zKs hi]
      have : decide (i < k) = decide (i < k + 1) := by rw [decide_eq_decide]; omega
      rw [this]
  · have h1 : (zDm l xs y k)[i]? = none := List.getElem?_eq_none (by rw [zGt]; omega)
    have h2 : (zDm l xs y (k + 1))[i]? = none := List.getElem?_eq_none (by rw [zGt]; omega)
    rw [h1, h2, if_neg (by omega)]
theorem zKr {N : Nat} {l : List zJ} {xs : List Int} {y : Int} {out : List (List Bool)} {j : Int} {K : List (List Bool) → Int → Option zCq} (hN : 10000000000 ≤ N) (hl : l.length ≤ 100000000) (hr : ∀ r ∈ l, r.X0 < r.X1) (hx : xs.length ≤ 1000000000) (ho : out.length < 1000000000) :
    ∀ (n k m : Nat), k + 1 + n = xs.length → n < m → JL N xs out j K ((zC5 l y).map Ku) m (zDm l xs y k) ((k + 1 : Nat) : Int) = K (out ++ [zDm l xs y (xs.length - 1)]) (w64 (j + 1))
  | _, _, 0, _, hm => absurd hm (Nat.not_lt_zero _)
  | 0, k, m + 1, hk, _ => by
    rw [JL.eq_2, if_neg (by simp; omega), Kl (by simp; omega), Option.bind_some, show xs.length - 1 = k from by omega]
  | n + 1, k, m + 1, hk, hm => by
    have e1 : w64 (((k + 1 : Nat) : Int) - 1) = (k : Int) := by rw [Qg (by omega) (by omega)]; omega
    have e2 : w64 (((k + 1 : Nat) : Int) + 1) = ((k + 1 + 1 : Nat) : Int) := by rw [Qg (by omega) (by omega)]; omega
    have hrl := zN0 l y
    obtain ⟨b, b1, b2⟩ := zYs (l := zC5 l y) (x := gt xs k) hN (by omega)
    have hb : b = zGg l (gt xs k) y := by rw [Bool.eq_iff_iff, b2, zGf]; exact (zIj hr y).2 _
    have hs : sets (zDm l xs y k) (k : Int) b = some (zDm l xs y (k + 1)) := by
      unfold sets
      rw [if_pos ⟨by omega, by rw [Int.toNat_natCast, zGt]; omega⟩, Int.toNat_natCast, hb, zY5 (by omega)]
    rw [JL.eq_2, if_pos (by simp; omega), e1, zLc (by omega), Option.bind_some, b1, Option.bind_some, zDe (l := zDm l xs y k) (i := k) (by rw [zGt]; omega), Option.bind_some, hs, Option.bind_some, e2]
    exact zKr hN hl hr hx ho n (k + 1) m (by omega) (by omega)
def zCd (l : List zJ) (xs ys : List Int) (k : Nat) : List (List Bool) := (List.range k).map fun j => zDm l xs (gt ys j) (xs.length - 1)
theorem zPC {N : Nat} {l : List zJ} {xs ys : List Int} (hN : 10000000000 ≤ N) (hl : l.length ≤ 100000000) (hr : ∀ r ∈ l, r.X0 < r.X1) (hx : 0 < xs.length ∧ xs.length ≤ 1000000000) (hy : ys.length ≤ 100000000) :
    ∀ (n k m : Nat), k + 1 + n = ys.length → n < m → QM N l xs ys m (zCd l xs ys k) ((k + 1 : Nat) : Int) = some ⟨xs, ys, zCd l xs ys (ys.length - 1)⟩
  | _, _, 0, _, hm => absurd hm (Nat.not_lt_zero _)
  | 0, k, m + 1, hk, _ => by
    rw [QM.eq_2, if_neg (by simp; omega), show ys.length - 1 = k from by omega]
  | n + 1, k, m + 1, hk, hm => by
    have e1 : w64 (((k + 1 : Nat) : Int) - 1) = (k : Int) := by rw [Qg (by omega) (by omega)]; omega
    have e2 : w64 (((k + 1 : Nat) : Int) + 1) = ((k + 1 + 1 : Nat) : Int) := by rw [Qg (by omega) (by omega)]; omega
    have hmk : (mkl false (xs.length : Int)) = some (zDm l xs (gt ys k) 0) := by
      unfold mkl zDm
      rw [if_pos (by omega)]
      simp
      rw [List.map_const', List.length_range]
    have hlen : (zCd l xs ys k).length = k := by unfold zCd; simp
    have := zKr (N := N) (l := l) (xs := xs) (y := gt ys k) (out := zCd l xs ys k) (j := ((k + 1 : Nat) : Int)) (K := QM N l xs ys m) hN hl hr hx.2 (by omega) (xs.length - 1) 0 N (by omega) (by omega)
    rw [QM.eq_2, if_pos (by simp; omega), e1, zLc (by omega), Option.bind_some, zRr hN hl, Option.bind_some, hmk, Option.bind_some]
    show JL N xs _ _ _ _ N _ ((0 + 1 : Nat) : Int) = _
    rw [this, e2]
    have e3 : zCd l xs ys k ++ [zDm l xs (gt ys k) (xs.length - 1)] = zCd l xs ys (k + 1) := by unfold zCd; rw [List.range_succ, List.map_append]; rfl
    rw [e3]
    exact zPC hN hl hr hx hy n (k + 1) m (by omega) (by omega)
theorem zcZ {l : List zJ} (h : l ≠ []) : 0 < (QP (Qy l)).length ∧ 0 < (QP (QV l)).length := by
  obtain ⟨r, l, rfl⟩ := List.exists_cons_of_ne_nil h
  exact ⟨List.length_pos_of_mem ((Vd _ r.X0).2 (zEE.2 ⟨r, by simp, .inl rfl⟩)), List.length_pos_of_mem ((Vd _ r.Y0).2 (zAG.2 ⟨r, by simp, .inl rfl⟩))⟩
theorem zIe : ∀ l : List zJ, (Qy l).length = 2 * l.length
  | [] => rfl
  | r :: l => by
    have : Qy (r :: l) = [r.X0, r.X1] ++ Qy l := rfl
    rw [this, List.length_append, zIe l]; simp; omega
theorem cells_ok {N : Nat} {l : List zJ} (hN : 10000000000 ≤ N) (hl : l.length ≤ 10000000) (hr : ∀ r ∈ l, r.X0 < r.X1) : Wd N l = some ⟨QP (Qy l), QP (QV l), zCd l (QP (Qy l)) (QP (QV l)) ((QP (QV l)).length - 1)⟩ := by
  rw [zY4 hN (by omega)]
  have h1 := zCV (Qy l)
  have h2 := zCV (QV l)
  rw [zIe] at h1
  rw [zD9] at h2
  by_cases hn : l = []
  · subst hn
    obtain ⟨m, rfl⟩ : ∃ k, N = k + 1 := ⟨N - 1, by omega⟩
    have e1 : QP (Qy []) = [] := List.eq_nil_of_length_eq_zero (by simp at h1; simpa using h1)
    have e2 : QP (QV []) = [] := List.eq_nil_of_length_eq_zero (by simp at h2; simpa using h2)
    rw [QM.eq_2, e1, e2]
    rfl
  · obtain ⟨p1, p2⟩ := zcZ hn
    exact zPC (N := N) hN (by omega) hr ⟨p1, by omega⟩ (by omega) ((QP (QV l)).length - 1) 0 N (by omega) (by omega)
def toR (s : Sd) : zM := ⟨Ke s.1.p, Ke (zBb s)⟩
theorem zWc {s : Sd} {a b : zG} (h : toS s = ⟨a, b⟩) : toR s = ⟨a, b⟩ := by
  have h1 := congrArg Qw.from_ h
  have h2 := congrArg Qw.to_ h
  show (⟨(toS s).from_, (toS s).to_⟩ : zM) = _
  rw [h1, h2]
def zCO (l : List zJ) (xs ys : List Int) (i j : Int) : Bool := decide (0 ≤ j ∧ j < (ys.length : Int) - 1 ∧ 0 ≤ i ∧ i < (xs.length : Int) - 1) && zGg l (gt xs i.toNat) (gt ys j.toNat)
def cellS (l : List zJ) (xs ys : List Int) (j i : Nat) : List Sd :=
  if zCO l xs ys i j = true then
    (if zCO l xs ys i (j - 1) = true then [] else [sdE (gt ys j) (gt xs i, gt xs (i + 1))]) ++ (if zCO l xs ys (i + 1) j = true then [] else [sdN (gt ys j) (gt ys (j + 1)) (gt xs i, gt xs (i + 1))])
    ++ (if zCO l xs ys i (j + 1) = true then [] else [sdW (gt ys (j + 1)) (gt xs i, gt xs (i + 1))]) ++ (if zCO l xs ys (i - 1) j = true then [] else [sdS (gt ys j) (gt ys (j + 1)) (gt xs i, gt xs (i + 1))])
  else []
theorem zUQ {l : List zJ} {xs ys : List Int} {j i : Nat} (h : zCO l xs ys i j = true) : cellS l xs ys j i = (if zCO l xs ys i (j - 1) = true then [] else [sdE (gt ys j) (gt xs i, gt xs (i + 1))]) ++ (if zCO l xs ys (i + 1) j = true then [] else [sdN (gt ys j) (gt ys (j + 1)) (gt xs i, gt xs (i + 1))])
    ++ (if zCO l xs ys i (j + 1) = true then [] else [sdW (gt ys (j + 1)) (gt xs i, gt xs (i + 1))]) ++ (if zCO l xs ys (i - 1) j = true then [] else [sdS (gt ys j) (gt ys (j + 1)) (gt xs i, gt xs (i + 1))]) := if_pos h
theorem zRJ {l : List zJ} {xs ys : List Int} {j i : Nat} (h : ¬ zCO l xs ys i j = true) : cellS l xs ys j i = [] := if_neg h
def zBF (l : List zJ) (xs ys : List Int) : zCq := ⟨xs, ys, zCd l xs ys (ys.length - 1)⟩
theorem zRH {l : List zJ} {xs ys : List Int} {k j : Nat} (h : j < k) : idx (zCd l xs ys k) (j : Int) = some (zDm l xs (gt ys j) (xs.length - 1)) := by
  unfold idx zCd
  rw [if_pos (by omega), Int.toNat_natCast, List.getElem?_map, List.getElem?_range h]; rfl
theorem zUR {l : List zJ} {xs : List Int} {y : Int} {i : Nat} (h : i < xs.length - 1) : idx (zDm l xs y (xs.length - 1)) (i : Int) = some (zGg l (gt xs i) y) := by
  unfold idx
  rw [if_pos (by omega), Int.toNat_natCast, zKs (by omega)]
  simp [h]
theorem zSJ {l : List zJ} {xs ys : List Int} (hx : xs.length ≤ 1000000000) (i j : Int) : Jk (zBF l xs ys) i j = some (zCO l xs ys i j) := by
  unfold Jk zCO
  have e1 : w64 (((zBF l xs ys).xs.length : Int) - 1) = (xs.length : Int) - 1 := by
    show w64 ((xs.length : Int) - 1) = _
    exact Qg (by omega) (by omega)
  have e2 : ((zBF l xs ys).in_.length : Int) = ((ys.length - 1 : Nat) : Int) := by unfold zBF zCd; simp
  rw [e1, e2]
  by_cases h : 0 ≤ j ∧ j < (ys.length : Int) - 1 ∧ 0 ≤ i ∧ i < (xs.length : Int) - 1
  · have hc : ((((decide (0 ≤ j)) && (decide (j < ((ys.length - 1 : Nat) : Int)))) && (decide (0 ≤ i))) && (decide (i < ((xs.length : Int) - 1)))) = true := by
      simp only [Bool.and_eq_true, decide_eq_true_eq]
      omega
    obtain ⟨i', rfl⟩ : ∃ n : Nat, i = (n : Int) := ⟨i.toNat, by omega⟩
    obtain ⟨j', rfl⟩ : ∃ n : Nat, j = (n : Int) := ⟨j.toNat, by omega⟩
    rw [if_pos hc]
    show ((idx (zCd l xs ys (ys.length - 1)) (j' : Int)).bind _).bind _ = _
    rw [zRH (by omega), Option.bind_some, zUR (by omega), Option.bind_some, Option.bind_some]
    simp [h]
  · have hc : ¬ ((((decide (0 ≤ j)) && (decide (j < ((ys.length - 1 : Nat) : Int)))) && (decide (0 ≤ i))) && (decide (i < ((xs.length : Int) - 1)))) = true := by
      simp only [Bool.and_eq_true, decide_eq_true_eq]
      omega
    rw [if_neg hc, Option.bind_some, decide_eq_false h, Bool.false_and]
theorem zlf {y a b : Int} (h : a < b) : toR (sdE y (a, b)) = ⟨⟨a, y⟩, ⟨b, y⟩⟩ := zWc (zd8 h)
theorem zld {y a b : Int} (h : a < b) : toR (sdW y (a, b)) = ⟨⟨b, y⟩, ⟨a, y⟩⟩ := zWc (zd5 h)
theorem zle {y0 y1 a b : Int} (h : y0 < y1) : toR (sdN y0 y1 (a, b)) = ⟨⟨b, y0⟩, ⟨b, y1⟩⟩ := zWc (zd7 h)
theorem zfE {y0 y1 a b : Int} (h : y0 < y1) : toR (sdS y0 y1 (a, b)) = ⟨⟨a, y1⟩, ⟨a, y0⟩⟩ := zWc (zd6 h)
theorem zEX {l : List Int} (h : l.Pairwise fun a b => a < b) {i j : Nat} (hij : i < j) (hj : j < l.length) : gt l i < gt l j := by
  unfold gt
  rw [List.getD_eq_getElem?_getD, List.getD_eq_getElem?_getD, List.getElem?_eq_getElem (by omega), List.getElem?_eq_getElem hj]
  exact List.pairwise_iff_getElem.1 h i j (by omega) hj hij
theorem zRK {l : List zJ} {xs ys : List Int} {j i : Nat} : (cellS l xs ys j i).length ≤ 4 := by
  unfold cellS
  split
  · simp only [List.length_append]
    have h : ∀ (c : Prop) [Decidable c] (s : Sd), (if c then [] else [s]).length ≤ 1 := fun c _ s => by split <;> simp
    have h1 := h (zCO l xs ys i (j - 1) = true) (sdE (gt ys j) (gt xs i, gt xs (i + 1)))
    have h2 := h (zCO l xs ys (i + 1) j = true) (sdN (gt ys j) (gt ys (j + 1)) (gt xs i, gt xs (i + 1)))
    have h3 := h (zCO l xs ys i (j + 1) = true) (sdW (gt ys (j + 1)) (gt xs i, gt xs (i + 1)))
    have h4 := h (zCO l xs ys (i - 1) j = true) (sdS (gt ys j) (gt ys (j + 1)) (gt xs i, gt xs (i + 1)))
    omega
  · simp
section
variable {l : List zJ} {xs ys : List Int} {K : List zM → Int → Option (List zM)}
theorem zds {out : List Sd} {s : Sd} {r : zM} (h : toR s = r) (ho : out.length < 1000000000) : apd (out.map toR) [r] = some ((out ++ [s]).map toR) := by
  rw [Kl (by simp; omega), List.map_append, ← h]; rfl
theorem zRI (hxs : xs.Pairwise fun a b => a < b) (hys : ys.Pairwise fun a b => a < b) (hx : xs.length ≤ 1000000000) (hy : ys.length ≤ 1000000000) {j : Nat} (hj : j + 1 < ys.length) :
    ∀ (n i m : Nat) (out : List Sd), i + n = xs.length - 1 → n < m → out.length + 4 * n ≤ 100000000 → zo (zBF l xs ys) (j : Int) K m (out.map toR) (i : Int) = K ((out ++ (List.range' i n).flatMap (cellS l xs ys j)).map toR) (((j + 1 : Nat)) : Int)
  | _, _, 0, _, _, hm, _ => absurd hm (Nat.not_lt_zero _)
  | 0, i, m + 1, out, hi, _, _ => by
    have e1 : w64 (((zBF l xs ys).xs.length : Int) - 1) = (xs.length : Int) - 1 := by
      show w64 ((xs.length : Int) - 1) = _
      exact Qg (by omega) (by omega)
    have e2 : w64 ((j : Int) + 1) = ((j + 1 : Nat) : Int) := by rw [Qg (by omega) (by omega)]; omega
    rw [zo.eq_2, e1, e2, if_neg (by simp; omega)]; simp
  | n + 1, i, m + 1, out, hi, hm, ho => by
    have e1 : w64 (((zBF l xs ys).xs.length : Int) - 1) = (xs.length : Int) - 1 := by
      show w64 ((xs.length : Int) - 1) = _
      exact Qg (by omega) (by omega)
    have e2 : w64 ((i : Int) + 1) = ((i + 1 : Nat) : Int) := by rw [Qg (by omega) (by omega)]; omega
    have e3 : w64 ((i : Int) - 1) = (i : Int) - 1 := Qg (by omega) (by omega)
    have e4 : w64 ((j : Int) + 1) = ((j + 1 : Nat) : Int) := by rw [Qg (by omega) (by omega)]; omega
    have e5 : w64 ((j : Int) - 1) = (j : Int) - 1 := Qg (by omega) (by omega)
    have hlx : gt xs i < gt xs (i + 1) := zEX hxs (by omega) (by omega)
    have hly : gt ys j < gt ys (j + 1) := zEX hys (by omega) (by omega)
    have hcl := zRK (l := l) (xs := xs) (ys := ys) (j := j) (i := i)
    have ih := zRI hxs hys hx hy hj n (i + 1) m (out ++ cellS l xs ys j i) (by omega) (by omega) (by simp; omega)
    rw [List.append_assoc, ← List.flatMap_cons, ← List.range'_succ] at ih
    rw [zo.eq_2, e1, if_pos (by simp; omega)]
    show (idx (zCd l xs ys (ys.length - 1)) (j : Int)).bind _ = _
    rw [zRH (by omega), Option.bind_some, zUR (by omega), Option.bind_some, e2]
    have hin : zCO l xs ys (i : Int) (j : Int) = zGg l (gt xs i) (gt ys j) := by
      unfold zCO
      rw [decide_eq_true (by omega), Bool.true_and, Int.toNat_natCast, Int.toNat_natCast]
    by_cases hc : zGg l (gt xs i) (gt ys j) = true
    · rw [if_neg (by simp [hc])]
      show (idx xs (i : Int)).bind _ = _
      rw [zLc (by omega), Option.bind_some]
      show (idx xs ((i + 1 : Nat) : Int)).bind _ = _
      rw [zLc (by omega), Option.bind_some]
      show (idx ys (j : Int)).bind _ = _
      rw [zLc (by omega), Option.bind_some, e4]
      show (idx ys ((j + 1 : Nat) : Int)).bind _ = _
      rw [zLc (by omega), Option.bind_some, e5, zSJ hx, Option.bind_some]
      rw [zUQ (by rw [hin]; exact hc)] at ih
      have a4 : ∀ o : List Sd, o.length + 1 ≤ 1000000000 → Ka (zBF l xs ys) (j : Int) (i : Int) (zo (zBF l xs ys) (j : Int) K m) (gt xs i) (gt ys j) (gt ys (j + 1)) (o.map toR) = zo (zBF l xs ys) (j : Int) K m ((o ++ (if zCO l xs ys ((i : Int) - 1) j = true then [] else [sdS (gt ys j) (gt ys (j + 1)) (gt xs i, gt xs (i + 1))])).map toR) ((i + 1 : Nat) : Int) := fun o ho => by
        unfold Ka
        rw [e3, e2, zSJ hx, Option.bind_some]
        cases zCO l xs ys ((i : Int) - 1) j
        · rw [if_pos (show (!false) = true from rfl), zds (zfE hly) (by omega), Option.bind_some, if_neg (show ¬ (false = true) from by simp)]
        · rw [if_neg (show ¬ (!true) = true from by simp), if_pos rfl, List.append_nil]
      have a3 : ∀ o : List Sd, o.length + 2 ≤ 1000000000 → KZ (zBF l xs ys) (j : Int) (i : Int) (zo (zBF l xs ys) (j : Int) K m) (gt xs i) (gt xs (i + 1)) (gt ys j) (gt ys (j + 1)) (o.map toR) = zo (zBF l xs ys) (j : Int) K m ((o ++ (if zCO l xs ys (i : Int) ((j : Int) + 1) = true then [] else [sdW (gt ys (j + 1)) (gt xs i, gt xs (i + 1))]) ++ (if zCO l xs ys ((i : Int) - 1) j = true then [] else [sdS (gt ys j) (gt ys (j + 1)) (gt xs i, gt xs (i + 1))])).map toR) ((i + 1 : Nat) : Int) := fun o ho => by
        unfold KZ
        have ec : ((j + 1 : Nat) : Int) = (j : Int) + 1 := by omega
        rw [e4, zSJ hx, Option.bind_some, ec]
        cases zCO l xs ys (i : Int) ((j : Int) + 1)
        · rw [if_pos (show (!false) = true from rfl), zds (zld hlx) (by omega), Option.bind_some, a4 _ (by simp; omega), if_neg (show ¬ (false = true) from by simp)]
        · rw [if_neg (show ¬ (!true) = true from by simp), a4 _ (by omega), if_pos rfl, List.append_nil]
      have a2 : ∀ o : List Sd, o.length + 3 ≤ 1000000000 → KY (zBF l xs ys) (j : Int) (i : Int) (zo (zBF l xs ys) (j : Int) K m) (gt xs i) (gt xs (i + 1)) (gt ys j) (gt ys (j + 1)) (o.map toR) = zo (zBF l xs ys) (j : Int) K m ((o ++ (if zCO l xs ys ((i : Int) + 1) j = true then [] else [sdN (gt ys j) (gt ys (j + 1)) (gt xs i, gt xs (i + 1))]) ++ (if zCO l xs ys (i : Int) ((j : Int) + 1) = true then [] else [sdW (gt ys (j + 1)) (gt xs i, gt xs (i + 1))]) ++ (if zCO l xs ys ((i : Int) - 1) j = true then [] else [sdS (gt ys j) (gt ys (j + 1)) (gt xs i, gt xs (i + 1))])).map toR) ((i + 1 : Nat) : Int) := fun o ho => by
        unfold KY
        have ec : ((i + 1 : Nat) : Int) = (i : Int) + 1 := by omega
        rw [e2, zSJ hx, Option.bind_some, ec]
        cases zCO l xs ys ((i : Int) + 1) j
        · rw [if_pos (show (!false) = true from rfl), zds (zle hly) (by omega), Option.bind_some, a3 _ (by simp; omega), if_neg (show ¬ (false = true) from by simp), ec]
        · rw [if_neg (show ¬ (!true) = true from by simp), a3 _ (by omega), if_pos rfl, List.append_nil, ec]
      have hol : out.length + 4 ≤ 1000000000 := by omega
      cases hd : zCO l xs ys (i : Int) ((j : Int) - 1)
      · rw [if_pos (show (!false) = true from rfl), zds (zlf hlx) (by omega), Option.bind_some, a2 _ (by simp; omega), ← ih, hd]
        simp only [List.append_assoc, Bool.false_eq_true, if_false]
      · rw [if_neg (show ¬ (!true) = true from by simp), a2 _ (by omega), ← ih, hd]
        simp only [List.append_assoc, if_true, List.nil_append]
    · rw [if_pos (by simpa using hc)]
      rw [zRJ (by rw [hin]; exact hc), List.append_nil] at ih
      exact ih
theorem zJU {j i n : Nat} : ((List.range' i n).flatMap (cellS l xs ys j)).length ≤ 4 * n := by
  induction n generalizing i with
  | zero => simp
  | succ n ih =>
    rw [List.range'_succ, List.flatMap_cons, List.length_append]
    have h1 := zRK (l := l) (xs := xs) (ys := ys) (j := j) (i := i)
    have h2 := ih (i := i + 1)
    omega
end
def zDZ (l : List zJ) (xs ys : List Int) (j : Nat) : List Sd := (List.range' 0 (xs.length - 1)).flatMap (cellS l xs ys j)
def zFR (l : List zJ) (xs ys : List Int) : List Sd := (List.range' 0 (ys.length - 1)).flatMap (zDZ l xs ys)
section
variable {l : List zJ} {xs ys : List Int}
theorem zLy {N : Nat} (hN : 10000000000 ≤ N) (hxs : xs.Pairwise fun a b => a < b) (hys : ys.Pairwise fun a b => a < b) (hx : xs.length ≤ 1000000000) (hy : ys.length ≤ 1000000000) :
    ∀ (n j m : Nat) (out : List Sd), j + n = ys.length - 1 → n < m → out.length + n * (4 * (xs.length - 1)) ≤ 100000000 → QD N (zBF l xs ys) m (out.map toR) (j : Int) = some ((out ++ (List.range' j n).flatMap (zDZ l xs ys)).map toR)
  | _, _, 0, _, _, hm, _ => absurd hm (Nat.not_lt_zero _)
  | 0, j, m + 1, out, hj, _, _ => by
    have e2 : ((zBF l xs ys).in_.length : Int) = ((ys.length - 1 : Nat) : Int) := by unfold zBF zCd; simp
    rw [QD.eq_2, e2, if_neg (by simp; omega)]; simp
  | n + 1, j, m + 1, out, hj, hm, ho => by
    have e2 : ((zBF l xs ys).in_.length : Int) = ((ys.length - 1 : Nat) : Int) := by unfold zBF zCd; simp
    have hrl : (zDZ l xs ys j).length ≤ 4 * (xs.length - 1) := zJU
    rw [Nat.add_mul, Nat.one_mul] at ho
    have hc := zRI (l := l) (K := QD N (zBF l xs ys) m) hxs hys hx hy (j := j) (by omega) (xs.length - 1) 0 N out (by omega) (by omega) (by omega)
    have ih := zLy hN hxs hys hx hy n (j + 1) m (out ++ zDZ l xs ys j) (by omega) (by omega) (by rw [List.length_append]; omega)
    rw [List.append_assoc, ← List.flatMap_cons, ← List.range'_succ] at ih
    rw [QD.eq_2, e2, if_pos (by simp; omega)]
    exact hc.trans ih
theorem zYc {N : Nat} {l : List zJ} (hN : 10000000000 ≤ N) (hl : l.length ≤ 2000) (hr : ∀ r ∈ l, r.X0 < r.X1) : zAB N l = some ((zFR l (QP (Qy l)) (QP (QV l))).map toR) := by
  have h1 := zCV (Qy l)
  have h2 := zCV (QV l)
  rw [zIe] at h1
  rw [zD9] at h2
  unfold zAB
  rw [cells_ok hN (by omega) hr, Option.bind_some]
  have hm : ((QP (QV l)).length - 1) * (4 * ((QP (Qy l)).length - 1)) ≤ 4000 * (4 * 4000) := Nat.mul_le_mul (by omega) (by omega)
  have := zLy (l := l) hN (JG (Qy l)) (JG (QV l)) (by omega) (by omega) ((QP (QV l)).length - 1) 0 N [] (by omega) (by omega) (by simp; omega)
  exact this
theorem zVE {l : List zJ} (hl : l.length ≤ 2000) : (zFR l (QP (Qy l)) (QP (QV l))).length ≤ 64000000 := by
  have h1 := zCV (Qy l)
  have h2 := zCV (QV l)
  rw [zIe] at h1
  rw [zD9] at h2
  have key : ∀ (n j : Nat), ((List.range' j n).flatMap (zDZ l (QP (Qy l)) (QP (QV l)))).length ≤ n * (4 * ((QP (Qy l)).length - 1)) := by
    intro n
    induction n with
    | zero => intro j; simp
    | succ n ih =>
      intro j
      rw [List.range'_succ, List.flatMap_cons, List.length_append, Nat.add_mul, Nat.one_mul]
      have h3 := ih (j + 1)
      have h4 : (zDZ l (QP (Qy l)) (QP (QV l)) j).length ≤ 4 * ((QP (Qy l)).length - 1) := zJU
      omega
  have hm : ((QP (QV l)).length - 1) * (4 * ((QP (Qy l)).length - 1)) ≤ 4000 * (4 * 4000) := Nat.mul_le_mul (by omega) (by omega)
  have := key ((QP (QV l)).length - 1) 0
  unfold zFR
  omega
end
open PX
def Col (xs : List Int) (i x : Int) : Prop := (0 ≤ i ∧ i < (xs.length : Int) - 1 ∧ gt xs i.toNat ≤ x ∧ x < gt xs (i.toNat + 1)) ∨ (¬ (0 ≤ i ∧ i < (xs.length : Int) - 1) ∧ ∀ k : Nat, k + 1 < xs.length → ¬ (gt xs k ≤ x ∧ x < gt xs (k + 1)))
section
variable {xs : List Int}
theorem zHK (h : xs.Pairwise fun a b => a < b) {i j : Nat} (hij : i ≤ j) (hj : j < xs.length) : gt xs i ≤ gt xs j := by
  rcases Nat.lt_or_ge i j with h1 | h1
  · exact Int.le_of_lt (zEX h h1 hj)
  · rw [Nat.le_antisymm hij h1]; exact Int.le_refl _
theorem zVR {z : Int} (h : z ∈ xs) : ∃ k, k < xs.length ∧ gt xs k = z := by
  obtain ⟨k, hk, e⟩ := List.getElem_of_mem h
  refine ⟨k, hk, ?_⟩
  unfold gt
  rw [List.getD_eq_getElem?_getD, List.getElem?_eq_getElem hk, e]; rfl
theorem zF4 (h : xs.Pairwise fun a b => a < b) {z : Int} (hz : z ∈ xs) {i : Nat} (hi : i + 1 < xs.length) : z ≤ gt xs i ∨ gt xs (i + 1) ≤ z := by
  obtain ⟨k, hk, rfl⟩ := zVR hz
  rcases Nat.lt_or_ge i k with h1 | h1
  · exact .inr (zHK h (by omega) hk)
  · exact .inl (zHK h h1 (by omega))
theorem zMm (h : xs.Pairwise fun a b => a < b) {a b x : Int} (ha : a ∈ xs) (hb : b ∈ xs) (h1 : a ≤ x) (h2 : x < b) : ∃ i, i + 1 < xs.length ∧ gt xs i ≤ x ∧ x < gt xs (i + 1) := by
  obtain ⟨k, hk, rfl⟩ := zVR ha
  obtain ⟨m, hm, rfl⟩ := zVR hb
  have key : ∀ n k : Nat, n = m - k → gt xs k ≤ x → k < m → ∃ i, i + 1 < xs.length ∧ gt xs i ≤ x ∧ x < gt xs (i + 1) := by
    intro n
    induction n with
    | zero => intro k h3 h4 h5; omega
    | succ n ih =>
      intro k h3 h4 h5
      rcases Int.lt_or_le x (gt xs (k + 1)) with h6 | h6
      · exact ⟨k, by omega, h4, h6⟩
      · refine ih (k + 1) (by omega) h6 ?_
        rcases Nat.lt_or_ge (k + 1) m with h7 | h7
        · exact h7
        · have : k + 1 = m := by omega
          rw [this] at h6; omega
  refine key (m - k) k rfl h1 ?_
  rcases Nat.lt_or_ge k m with h3 | h3
  · exact h3
  · have := zHK h h3 hk; omega
theorem Vh {i : Nat} {x : Int} (hi : i + 1 < xs.length) (h1 : gt xs i ≤ x) (h2 : x < gt xs (i + 1)) : Col xs i x := .inl ⟨by omega, by omega, by rw [Int.toNat_natCast]; exact h1, by rw [Int.toNat_natCast]; exact h2⟩
theorem zKn (h : xs.Pairwise fun a b => a < b) {i : Nat} (hi : i + 1 < xs.length) : Col xs ((i : Int) + 1) (gt xs (i + 1)) := by
  have e : (i : Int) + 1 = ((i + 1 : Nat) : Int) := by omega
  rcases Nat.lt_or_ge (i + 1 + 1) xs.length with h1 | h1
  · rw [e]
    exact Vh h1 (Int.le_refl _) (zEX h (by omega) h1)
  · refine .inr ⟨by omega, fun k hk ⟨g1, g2⟩ => ?_⟩
    have := zHK h (i := k + 1) (j := i + 1) (by omega) hi
    omega
theorem zKo (h : xs.Pairwise fun a b => a < b) {i : Nat} (hi : i + 1 < xs.length) : Col xs ((i : Int) - 1) (gt xs i - 1) := by
  rcases Nat.eq_zero_or_pos i with h1 | h1
  · subst h1
    refine .inr ⟨by omega, fun k hk ⟨g1, g2⟩ => ?_⟩
    have := zHK h (i := 0) (j := k) (by omega) (by omega)
    omega
  · have e : (i : Int) - 1 = ((i - 1 : Nat) : Int) := by omega
    have e2 : i - 1 + 1 = i := by omega
    have := zEX h (i := i - 1) (j := i) (by omega) (by omega)
    rw [e]
    exact Vh (by omega) (by omega) (by rw [e2]; omega)
end
section
variable {l : List zJ} (hl : ∀ r ∈ l, r.X0 < r.X1 ∧ r.Y0 < r.Y1)
theorem zBR {i j x y : Int} (h1 : Col (QP (Qy l)) i x) (h2 : Col (QP (QV l)) j y) : zGg l x y = zCO l (QP (Qy l)) (QP (QV l)) i j := by
  have hxm : ∀ r ∈ l, r.X0 ∈ (QP (Qy l)) ∧ r.X1 ∈ (QP (Qy l)) := fun r hr => ⟨(Vd _ _).2 (zEE.2 ⟨r, hr, .inl rfl⟩), (Vd _ _).2 (zEE.2 ⟨r, hr, .inr rfl⟩)⟩
  have hym : ∀ r ∈ l, r.Y0 ∈ (QP (QV l)) ∧ r.Y1 ∈ (QP (QV l)) := fun r hr => ⟨(Vd _ _).2 (zAG.2 ⟨r, hr, .inl rfl⟩), (Vd _ _).2 (zAG.2 ⟨r, hr, .inr rfl⟩)⟩
  have sx := JG (Qy l)
  have sy := JG (QV l)
  rw [Bool.eq_iff_iff, zGf]
  unfold zCO
  rw [Bool.and_eq_true, decide_eq_true_eq, zGf]
  rcases h1 with ⟨a1, a2, a3, a4⟩ | ⟨a1, a2⟩
  · rcases h2 with ⟨b1, b2, b3, b4⟩ | ⟨b1, b2⟩
    · constructor
      · rintro ⟨r, hr, ⟨g1, g2⟩, g3, g4⟩
        refine ⟨⟨b1, b2, a1, a2⟩, r, hr, ?_⟩
        have n1 := zF4 sx (hxm r hr).1 (i := i.toNat) (by omega)
        have n2 := zF4 sx (hxm r hr).2 (i := i.toNat) (by omega)
        have n3 := zF4 sy (hym r hr).1 (i := j.toNat) (by omega)
        have n4 := zF4 sy (hym r hr).2 (i := j.toNat) (by omega)
        omega
      · rintro ⟨_, r, hr, ⟨g1, g2⟩, g3, g4⟩
        refine ⟨r, hr, ?_⟩
        have n1 := zF4 sx (hxm r hr).1 (i := i.toNat) (by omega)
        have n2 := zF4 sx (hxm r hr).2 (i := i.toNat) (by omega)
        have n3 := zF4 sy (hym r hr).1 (i := j.toNat) (by omega)
        have n4 := zF4 sy (hym r hr).2 (i := j.toNat) (by omega)
        omega
    · constructor
      · rintro ⟨r, hr, _, g3, g4⟩
        obtain ⟨k, k1, k2, k3⟩ := zMm sy (hym r hr).1 (hym r hr).2 g3 g4
        exact absurd ⟨k2, k3⟩ (b2 k k1)
      · rintro ⟨⟨g1, g2, _⟩, _⟩
        exact absurd ⟨g1, g2⟩ b1
  · constructor
    · rintro ⟨r, hr, ⟨g1, g2⟩, _⟩
      obtain ⟨k, k1, k2, k3⟩ := zMm sx (hxm r hr).1 (hxm r hr).2 g1 g2
      exact absurd ⟨k2, k3⟩ (a2 k k1)
    · rintro ⟨⟨_, _, g1, g2⟩, _⟩
      exact absurd ⟨g1, g2⟩ a1
theorem zcb {x y : Int} (h : zGg l x y = true) : ∃ i j : Nat, i + 1 < (QP (Qy l)).length ∧ j + 1 < (QP (QV l)).length ∧ (gt (QP (Qy l)) i ≤ x ∧ x < gt (QP (Qy l)) (i + 1)) ∧ (gt (QP (QV l)) j ≤ y ∧ y < gt (QP (QV l)) (j + 1)) := by
  obtain ⟨r, hr, ⟨g1, g2⟩, g3, g4⟩ := zGf.1 h
  obtain ⟨i, i1, i2, i3⟩ := zMm (JG (Qy l)) ((Vd _ r.X0).2 (zEE.2 ⟨r, hr, .inl rfl⟩)) ((Vd _ r.X1).2 (zEE.2 ⟨r, hr, .inr rfl⟩)) g1 g2
  obtain ⟨j, j1, j2, j3⟩ := zMm (JG (QV l)) ((Vd _ r.Y0).2 (zAG.2 ⟨r, hr, .inl rfl⟩)) ((Vd _ r.Y1).2 (zAG.2 ⟨r, hr, .inr rfl⟩)) g3 g4
  exact ⟨i, j, i1, j1, ⟨i2, i3⟩, j2, j3⟩
theorem zMl {c : Prop} [Decidable c] {s : Sd} {e : Ed} : Has (if c then [] else [s]) e ↔ ¬ c ∧ On s e := by
  unfold Has
  by_cases h : c
  · simp [h]
  · simp [h]
theorem zOw {j i : Nat} {e : Ed} : Has (cellS l (QP (Qy l)) (QP (QV l)) j i) e ↔ zCO l (QP (Qy l)) (QP (QV l)) i j = true ∧ ((e.d = .E ∧ (e.y = gt (QP (QV l)) j ∧ gt (QP (Qy l)) i ≤ e.x ∧ e.x < gt (QP (Qy l)) (i + 1)) ∧ ¬ zCO l (QP (Qy l)) (QP (QV l)) i (j - 1) = true) ∨ (e.d = .N ∧ (e.x = gt (QP (Qy l)) (i + 1) ∧ gt (QP (QV l)) j ≤ e.y ∧ e.y < gt (QP (QV l)) (j + 1)) ∧ ¬ zCO l (QP (Qy l)) (QP (QV l)) (i + 1) j = true)
    ∨ (e.d = .W ∧ (e.y = gt (QP (QV l)) (j + 1) ∧ gt (QP (Qy l)) i < e.x ∧ e.x ≤ gt (QP (Qy l)) (i + 1)) ∧ ¬ zCO l (QP (Qy l)) (QP (QV l)) i (j + 1) = true) ∨ (e.d = .S ∧ (e.x = gt (QP (Qy l)) i ∧ gt (QP (QV l)) j < e.y ∧ e.y ≤ gt (QP (QV l)) (j + 1)) ∧ ¬ zCO l (QP (Qy l)) (QP (QV l)) (i - 1) j = true)) := by
  by_cases h : zCO l (QP (Qy l)) (QP (QV l)) i j = true
  · rw [zUQ h, zEM, zEM, zEM, zMl, zMl, zMl, zMl, zVQ, zPg, zRx, zN7]
    constructor
    · rintro (((⟨g1, g2, g3⟩ | ⟨g1, g2, g3⟩) | ⟨g1, g2, g3⟩) | ⟨g1, g2, g3⟩)
      · exact ⟨h, .inl ⟨g2, g3, g1⟩⟩
      · exact ⟨h, .inr (.inl ⟨g2, g3, g1⟩)⟩
      · exact ⟨h, .inr (.inr (.inl ⟨g2, g3, g1⟩))⟩
      · exact ⟨h, .inr (.inr (.inr ⟨g2, g3, g1⟩))⟩
    · rintro ⟨_, (⟨g2, g3, g1⟩ | ⟨g2, g3, g1⟩ | ⟨g2, g3, g1⟩ | ⟨g2, g3, g1⟩)⟩
      · exact .inl (.inl (.inl ⟨g1, g2, g3⟩))
      · exact .inl (.inl (.inr ⟨g1, g2, g3⟩))
      · exact .inl (.inr ⟨g1, g2, g3⟩)
      · exact .inr ⟨g1, g2, g3⟩
  · rw [zRJ h]
    exact ⟨fun hh => absurd hh (zSK e), fun hh => absurd hh.1 h⟩
theorem zWA {e : Ed} : Has (zFR l (QP (Qy l)) (QP (QV l))) e ↔ ∃ i j : Nat, i + 1 < (QP (Qy l)).length ∧ j + 1 < (QP (QV l)).length ∧ Has (cellS l (QP (Qy l)) (QP (QV l)) j i) e := by
  unfold Has zFR zDZ
  constructor
  · rintro ⟨s, h1, h2⟩
    obtain ⟨j, hj, h1⟩ := List.mem_flatMap.1 h1
    obtain ⟨i, hi, h1⟩ := List.mem_flatMap.1 h1
    rw [List.mem_range'_1] at hi hj
    exact ⟨i, j, by omega, by omega, s, h1, h2⟩
  · rintro ⟨i, j, hi, hj, s, h1, h2⟩
    exact ⟨s, List.mem_flatMap.2 ⟨j, by rw [List.mem_range'_1]; omega, List.mem_flatMap.2 ⟨i, by rw [List.mem_range'_1]; omega, h1⟩⟩, h2⟩
theorem zYe {e : Ed} : Has (zFR l (QP (Qy l)) (QP (QV l))) e ↔ isB (zGg l) e := by
  have sx := JG (Qy l)
  have sy := JG (QV l)
  rw [zWA]
  unfold isB
  constructor
  · rintro ⟨i, j, hi, hj, h⟩
    rw [zOw] at h
    obtain ⟨h0, (⟨g1, ⟨g2, g3, g4⟩, g5⟩ | ⟨g1, ⟨g2, g3, g4⟩, g5⟩ | ⟨g1, ⟨g2, g3, g4⟩, g5⟩ | ⟨g1, ⟨g2, g3, g4⟩, g5⟩)⟩ := h <;> rw [g1] <;> simp only [lq, Dir.right]
    · rw [zBR (i := i) (j := j) (y := e.y) (Vh hi g3 g4) (by rw [g2]; exact Vh hj (Int.le_refl _) (zEX sy (by omega) hj)), zBR (i := i) (j := (j : Int) - 1) (y := e.y - 1) (Vh hi g3 g4) (by rw [g2]; exact zKo sy hj)]
      exact ⟨h0, by simpa using g5⟩
    · have := zEX sx (i := i) (j := i + 1) (by omega) hi
      rw [zBR (i := i) (j := j) (Vh hi (by omega) (by omega)) (Vh hj g3 g4), zBR (i := (i : Int) + 1) (j := j) (x := e.x) (by rw [g2]; exact zKn sx hi) (Vh hj g3 g4)]
      exact ⟨h0, by simpa using g5⟩
    · have := zEX sy (i := j) (j := j + 1) (by omega) hj
      rw [zBR (i := i) (j := j) (Vh hi (by omega) (by omega)) (Vh hj (by omega) (by omega)), zBR (i := i) (j := (j : Int) + 1) (x := e.x - 1) (y := e.y) (Vh hi (by omega) (by omega)) (by rw [g2]; exact zKn sy hj)]
      exact ⟨h0, by simpa using g5⟩
    · have := zEX sx (i := i) (j := i + 1) (by omega) hi
      rw [zBR (i := i) (j := j) (Vh hi (by omega) (by omega)) (Vh hj (by omega) (by omega)), zBR (i := (i : Int) - 1) (j := j) (x := e.x - 1) (y := e.y - 1) (by rw [g2]; exact zKo sx hi) (Vh hj (by omega) (by omega))]
      exact ⟨h0, by simpa using g5⟩
  · rintro ⟨h1, h2⟩
    have ff : ∀ {b : Bool}, b = false → ¬ b = true := fun h hh => by rw [h] at hh; cases hh
    cases hd : e.d <;> rw [hd] at h1 h2 <;> simp only [lq, Dir.right] at h1 h2 <;> obtain ⟨i, j, hi, hj, ⟨c1, c2⟩, c3, c4⟩ := zcb h1 <;> refine ⟨i, j, hi, hj, zOw.2 ⟨(zBR (Vh hi c1 c2) (Vh hj c3 c4)).symm.trans h1, ?_⟩⟩
    · have hy : e.y = gt (QP (QV l)) j := by
        rcases Int.lt_or_le (gt (QP (QV l)) j) e.y with h3 | h3
        · exfalso
          rw [zBR (Vh hi c1 c2) (Vh hj (by omega) (by omega)), ← zBR (Vh hi c1 c2) (Vh hj c3 c4), h1] at h2
          cases h2
        · omega
      refine .inl ⟨hd, ⟨hy, c1, c2⟩, ff ?_⟩
      rw [hy, zBR (i := i) (j := (j : Int) - 1) (Vh hi c1 c2) (zKo sy hj)] at h2
      exact h2
    · have hx : e.x = gt (QP (Qy l)) (i + 1) := by
        rcases Int.lt_or_le e.x (gt (QP (Qy l)) (i + 1)) with h3 | h3
        · exfalso
          rw [zBR (Vh hi (by omega) h3) (Vh hj c3 c4), ← zBR (Vh hi c1 c2) (Vh hj c3 c4), h1] at h2
          cases h2
        · omega
      refine .inr (.inl ⟨hd, ⟨hx, c3, c4⟩, ff ?_⟩)
      rw [hx, zBR (i := (i : Int) + 1) (j := j) (zKn sx hi) (Vh hj c3 c4)] at h2
      exact h2
    · have hy : e.y = gt (QP (QV l)) (j + 1) := by
        rcases Int.lt_or_le e.y (gt (QP (QV l)) (j + 1)) with h3 | h3
        · exfalso
          rw [zBR (Vh hi c1 c2) (Vh hj (by omega) h3), ← zBR (Vh hi c1 c2) (Vh hj c3 c4), h1] at h2
          cases h2
        · omega
      refine .inr (.inr (.inl ⟨hd, ⟨hy, by omega, by omega⟩, ff ?_⟩))
      rw [hy, zBR (i := i) (j := (j : Int) + 1) (Vh hi c1 c2) (zKn sy hj)] at h2
      exact h2
    · have hx : e.x = gt (QP (Qy l)) i := by
        rcases Int.lt_or_le (gt (QP (Qy l)) i) e.x with h3 | h3
        · exfalso
          rw [zBR (Vh hi (by omega) (by omega)) (Vh hj c3 c4), ← zBR (Vh hi c1 c2) (Vh hj c3 c4), h1] at h2
          cases h2
        · omega
      refine .inr (.inr (.inr ⟨hd, ⟨hx, by omega, by omega⟩, ff ?_⟩))
      rw [hx, zBR (i := (i : Int) - 1) (j := j) (zKo sx hi) (Vh hj c3 c4)] at h2
      exact h2
end
open PX
def lsq (e : Ed) : Int × Int := match e.d with
  | .E => (e.x, e.y)
  | .N => (e.x - 1, e.y)
  | .W => (e.x - 1, e.y - 1)
  | .S => (e.x, e.y - 1)
def rk : Dir → Nat
  | .E => 0
  | .N => 1
  | .W => 2
  | .S => 3
def RO (s t : Sd) : Prop := ∀ e f, On s e → On t f → (lsq e = lsq f → rk e.d < rk f.d) ∧ ¬ (e.d = .E ∧ f.d = .W ∧ e.x = f.x ∧ e.y = f.y)
theorem RO.dj {s t : Sd} (h : RO s t) : Dj s t := fun e h1 h2 => absurd ((h e e h1 h2).1 rfl) (Nat.lt_irrefl _)
theorem cross {I : Sq} {e f : Ed} (he : isB I e) (hf : isB I f) (hx : f.x = e.x) (hy : f.y = e.y) (hne : f ≠ e) : f.d = e.d.left.left ∧ lq I e.x e.y e.d.left = false := by
  obtain ⟨e1, e2⟩ := he
  obtain ⟨f1, f2⟩ := hf
  rw [hx, hy] at f1 f2
  have hd : f.d ≠ e.d := fun h => hne (Ed.ext' hx hy h)
  generalize e.d = d at *
  generalize f.d = d' at *
  cases d <;> cases d' <;> simp only [Dir.left, Dir.right] at * <;> first | exact absurd rfl hd | exact ⟨trivial, f2⟩ | (rw [e1] at f2; cases f2) | (rw [e2] at f1; cases f1)
theorem zZZ {I : Sq} {L : List Sd} (h : zAR I L) (hR : L.Pairwise RO) {i c : Nat} (hi : i < L.length) (hc : c < L.length) (hic : i < c) (hp : (QB L c).1.p = (QB L i).1.p) : ∃ a, a < i ∧ Nx I L a i := by
  have gi := zBD hi
  have gc := zBD hc
  have mi := List.mem_of_getElem? gi
  have mc := List.mem_of_getElem? gc
  have be := h.fst mi
  have bf := h.fst mc
  have oi : On (QB L i) (QB L i).1 := ⟨0, h.pos _ mi, zBl _⟩
  have oc : On (QB L c) (QB L c).1 := ⟨0, h.pos _ mc, zBl _⟩
  have hx : (QB L c).1.x = (QB L i).1.x := congrArg Prod.fst hp
  have hy : (QB L c).1.y = (QB L i).1.y := congrArg Prod.snd hp
  have hne : (QB L c).1 ≠ (QB L i).1 := fun hh => by
    have := h.once c i _ _ gc gi 0 0 (h.pos _ mc) (h.pos _ mi) (by rw [zBl, zBl, hh])
    omega
  obtain ⟨hd, hl⟩ := cross be bf hx hy hne
  have hpw : ∀ a b, a < b → b < L.length → RO (QB L a) (QB L b) := fun a b hab hb => by
    have := List.pairwise_iff_getElem.1 hR a b (by omega) hb hab
    rwa [← Wl (List.getElem?_eq_getElem (by omega : a < L.length)), ← Wl (List.getElem?_eq_getElem hb)] at this
  have hE : (QB L i).1.d ≠ .E := fun hE => by
    rw [hE] at hd
    exact (hpw i c hic hc _ _ oi oc).2 ⟨hE, hd, hx.symm, hy.symm⟩
  have hpd := zfT hl
  have bpd := zVO be
  obtain ⟨s, hs, k, hk, hks⟩ := h.all _ bpd
  obtain ⟨a, ha⟩ := List.mem_iff_getElem?.1 hs
  have hpdd : (pd I (QB L i).1).d = (QB L i).1.d.right := by rw [hpd]
  have hsd : s.1.d = (QB L i).1.d.right := by rw [← hpdd, ← hks]; rfl
  have hrd : (QB L i).1.d.right ≠ (QB L i).1.d := by cases (QB L i).1.d <;> simp [Dir.right]
  have hlast : k = s.2 - 1 := by
    rcases Nat.lt_or_ge (k + 1) s.2 with h1 | h1
    · exfalso
      have h2 := zRn (h.bor s hs (k + 1) h1)
      rw [hks, zeD be] at h2
      have h3 : (QB L i).1.d = (adv s.1 (k + 1)).d := congrArg Ed.d h2
      have h3 : (QB L i).1.d = s.1.d := h3
      rw [hsd] at h3
      exact hrd h3.symm
    · omega
  have hn : Nx I L a i := ⟨s, _, ha, gi, by
    unfold zJC
    rw [← hlast, hks, zeD be]⟩
  refine ⟨a, ?_, hn⟩
  have has := Wl ha
  rcases Nat.lt_trichotomy a i with h1 | h1 | h1
  · exact h1
  · exfalso
    subst h1
    rw [has] at hrd hsd
    exact hrd hsd.symm
  · exfalso
    have hr := hpw i a h1 hn.lt.1 _ (pd I (QB L i).1) oi ⟨k, by rw [has]; exact hk, by rw [has]; exact hks⟩
    have hsq : lsq (QB L i).1 = lsq (pd I (QB L i).1) := by
      rw [hpd]
      unfold lsq
      cases hdd : (QB L i).1.d <;> simp only [Dir.right, Dir.dx, Dir.dy, Prod.mk.injEq, true_and, and_true] <;> omega
    have := hr.1 hsq
    rw [hpdd] at this
    cases hdd : (QB L i).1.d <;> rw [hdd] at this hE <;> first | exact hE rfl | exact absurd this (by decide)
section
variable {l : List zJ}
theorem zMi {c : Prop} [Decidable c] (s : Sd) : List.Sublist (if c then [] else [s]) [s] := by
  split
  · exact List.nil_sublist _
  · exact List.Sublist.refl _
theorem zUP {j i : Nat} : List.Sublist (cellS l (QP (Qy l)) (QP (QV l)) j i) [sdE (gt (QP (QV l)) j) (gt (QP (Qy l)) i, gt (QP (Qy l)) (i + 1)), sdN (gt (QP (QV l)) j) (gt (QP (QV l)) (j + 1)) (gt (QP (Qy l)) i, gt (QP (Qy l)) (i + 1)), sdW (gt (QP (QV l)) (j + 1)) (gt (QP (Qy l)) i, gt (QP (Qy l)) (i + 1)), sdS (gt (QP (QV l)) j) (gt (QP (QV l)) (j + 1)) (gt (QP (Qy l)) i, gt (QP (Qy l)) (i + 1))] := by
  unfold cellS
  split
  · exact (((zMi _).append (zMi _)).append (zMi _)).append (zMi _)
  · exact List.nil_sublist _
theorem zbx {j i : Nat} (hi : i + 1 < (QP (Qy l)).length) (hj : j + 1 < (QP (QV l)).length) : ∀ s ∈ cellS l (QP (Qy l)) (QP (QV l)) j i, 0 < s.2 := fun s hs => by
  have h1 := zEX (JG (Qy l)) (i := i) (j := i + 1) (by omega) hi
  have h2 := zEX (JG (QV l)) (i := j) (j := j + 1) (by omega) hj
  have := zUP.subset hs
  simp only [List.mem_cons, List.not_mem_nil, or_false] at this
  rcases this with rfl | rfl | rfl | rfl
  · show 0 < (gt (QP (Qy l)) (i + 1) - gt (QP (Qy l)) i).toNat; omega
  · show 0 < (gt (QP (QV l)) (j + 1) - gt (QP (QV l)) j).toNat; omega
  · show 0 < (gt (QP (Qy l)) (i + 1) - gt (QP (Qy l)) i).toNat; omega
  · show 0 < (gt (QP (QV l)) (j + 1) - gt (QP (QV l)) j).toNat; omega
theorem zdm {j i : Nat} (hj : j + 1 < (QP (QV l)).length) : (cellS l (QP (Qy l)) (QP (QV l)) j i).Pairwise RO := by
  have h2 := zEX (JG (QV l)) (i := j) (j := j + 1) (by omega) hj
  refine List.Pairwise.sublist zUP ?_
  refine List.pairwise_cons.2 ⟨fun t ht e f h1 h3 => ?_, List.pairwise_cons.2 ⟨fun t ht e f h1 h3 => ?_, List.pairwise_cons.2 ⟨fun t ht e f h1 h3 => ?_, List.pairwise_cons.2 ⟨fun t ht => (nomatch ht), .nil⟩⟩⟩⟩
  · have g1 := zVQ.1 h1
    simp only [List.mem_cons, List.not_mem_nil, or_false] at ht
    rcases ht with rfl | rfl | rfl
    · have g2 := zPg.1 h3
      rw [g1.1, g2.1]
      exact ⟨fun _ => by decide, fun hh => by cases hh.2.1⟩
    · have g2 := zRx.1 h3
      rw [g1.1, g2.1]
      exact ⟨fun _ => by decide, fun hh => by have := hh.2.2.2; omega⟩
    · have g2 := zN7.1 h3
      rw [g1.1, g2.1]
      exact ⟨fun _ => by decide, fun hh => by cases hh.2.1⟩
  · have g1 := zPg.1 h1
    simp only [List.mem_cons, List.not_mem_nil, or_false] at ht
    rcases ht with rfl | rfl
    · have g2 := zRx.1 h3
      rw [g1.1, g2.1]
      exact ⟨fun _ => by decide, fun hh => by cases hh.1⟩
    · have g2 := zN7.1 h3
      rw [g1.1, g2.1]
      exact ⟨fun _ => by decide, fun hh => by cases hh.1⟩
  · have g1 := zRx.1 h1
    simp only [List.mem_cons, List.not_mem_nil, or_false] at ht
    subst ht
    have g2 := zN7.1 h3
    rw [g1.1, g2.1]
    exact ⟨fun _ => by decide, fun hh => by cases hh.1⟩
theorem zNF {j i : Nat} (hi : i + 1 < (QP (Qy l)).length) (hj : j + 1 < (QP (QV l)).length) {s : Sd} {e : Ed} (hs : s ∈ cellS l (QP (Qy l)) (QP (QV l)) j i) (he : On s e) : ((gt (QP (Qy l)) i ≤ (lsq e).1 ∧ (lsq e).1 < gt (QP (Qy l)) (i + 1)) ∧ gt (QP (QV l)) j ≤ (lsq e).2 ∧ (lsq e).2 < gt (QP (QV l)) (j + 1)) ∧ (e.d = .E → e.y = gt (QP (QV l)) j) ∧ (e.d = .W → e.y = gt (QP (QV l)) (j + 1)) := by
  have h1 := zEX (JG (Qy l)) (i := i) (j := i + 1) (by omega) hi
  have h2 := zEX (JG (QV l)) (i := j) (j := j + 1) (by omega) hj
  have hc : Has (cellS l (QP (Qy l)) (QP (QV l)) j i) e := ⟨s, hs, he⟩
  rw [zOw] at hc
  unfold lsq
  obtain ⟨_, (⟨g1, ⟨g2, g3, g4⟩, _⟩ | ⟨g1, ⟨g2, g3, g4⟩, _⟩ | ⟨g1, ⟨g2, g3, g4⟩, _⟩ | ⟨g1, ⟨g2, g3, g4⟩, _⟩)⟩ := hc <;> rw [g1] <;> simp only [reduceCtorEq, false_implies, true_implies, and_true, true_and] <;> omega
theorem zP6 : (zFR l (QP (Qy l)) (QP (QV l))).Pairwise RO := by
  have sx := JG (Qy l)
  have sy := JG (QV l)
  unfold zFR
  rw [List.pairwise_flatMap]
  constructor
  · intro j hj
    rw [List.mem_range'_1] at hj
    unfold zDZ
    rw [List.pairwise_flatMap]
    refine ⟨fun i _ => zdm (by omega), ?_⟩
    refine List.Pairwise.imp_of_mem (R := fun a b => a < b) (fun {i i'} hi hi' hii s hs t ht e f h1 h2 => ?_) List.pairwise_lt_range'
    rw [List.mem_range'_1] at hi hi'
    obtain ⟨⟨a1, a2⟩, a3, a4⟩ := zNF (by omega) (by omega) hs h1
    obtain ⟨⟨b1, b2⟩, b3, b4⟩ := zNF (by omega) (by omega) ht h2
    have := zHK sx (i := i + 1) (j := i') (by omega) (by omega)
    refine ⟨fun hh => ?_, fun ⟨g1, g2, g3, g4⟩ => ?_⟩
    · have := congrArg Prod.fst hh
      omega
    · have g5 := a3 g1
      have g6 := b4 g2
      have := zEX sy (i := j) (j := j + 1) (by omega) (by omega)
      omega
  · refine List.Pairwise.imp_of_mem (R := fun a b => a < b) (fun {j j'} hj hj' hjj s hs t ht e f h1 h2 => ?_) List.pairwise_lt_range'
    rw [List.mem_range'_1] at hj hj'
    obtain ⟨i, hi, hs⟩ := List.mem_flatMap.1 hs
    obtain ⟨i', hi', ht⟩ := List.mem_flatMap.1 ht
    rw [List.mem_range'_1] at hi hi'
    obtain ⟨⟨a1, a2⟩, a3, a4⟩ := zNF (by omega) (by omega) hs h1
    obtain ⟨⟨b1, b2⟩, b3, b4⟩ := zNF (by omega) (by omega) ht h2
    have h6 := zHK sy (i := j + 1) (j := j') (by omega) (by omega)
    have h7 := zEX sy (i := j') (j := j' + 1) (by omega) (by omega)
    have h8 := zEX sy (i := j) (j := j + 1) (by omega) (by omega)
    refine ⟨fun hh => ?_, fun ⟨g1, g2, g3, g4⟩ => ?_⟩
    · have := congrArg Prod.snd hh
      omega
    · have g5 := a3 g1
      have g6 := b4 g2
      omega
theorem zNt : zAR (zGg l) (zFR l (QP (Qy l)) (QP (QV l))) := by
  refine zWh (fun s hs => ?_) (fun e => zYe) (zP6.imp fun h => h.dj)
  unfold zFR zDZ at hs
  obtain ⟨j, hj, h1⟩ := List.mem_flatMap.1 hs
  obtain ⟨i, hi, h1⟩ := List.mem_flatMap.1 h1
  rw [List.mem_range'_1] at hi hj
  exact zbx (by omega) (by omega) s h1
end
open PX
theorem zlo {n : Nat} (h : 0 < n) : Kk (n : Int) = some 1 := by
  unfold Kk
  rw [if_neg (by simp), if_pos (by simpa using h)]
theorem zln {n : Nat} (h : 0 < n) : Kk (-(n : Int)) = some (-1) := by
  unfold Kk
  rw [if_pos (by simp; omega)]
theorem zlp : Kk 0 = some 0 := rfl
theorem zVA {s : Sd} (h : 0 < s.2) (hl : Lim s.1.p ∧ Lim (zBb s)) : VB (toR s) = some (zEn s.1.d) := by
  obtain ⟨⟨l1, l2⟩, l3, l4⟩ := hl
  have ex : (zBb s).1 = s.1.x + s.2 * s.1.d.dx := rfl
  have ey : (zBb s).2 = s.1.y + s.2 * s.1.d.dy := rfl
  have e1 : (toR s).to_.X - (toR s).from_.X = s.2 * s.1.d.dx := by show (zBb s).1 - s.1.x = _; rw [ex]; omega
  have e2 : (toR s).to_.Y - (toR s).from_.Y = s.2 * s.1.d.dy := by show (zBb s).2 - s.1.y = _; rw [ey]; omega
  have hx : s.1.p.1 = s.1.x := rfl
  have hy : s.1.p.2 = s.1.y := rfl
  unfold VB
  rw [e1, e2, Qg (by omega) (by omega), Qg (by omega) (by omega)]
  unfold zEn
  have hneg : ∀ n : Nat, (n : Int) * -1 = -(n : Int) := fun n => by omega
  cases hd : s.1.d <;> simp only [Dir.dx, Dir.dy, Int.mul_zero, Int.mul_one, hneg, zlo h, zln h, zlp, Option.bind_some]
theorem zcX (d e : Dir) : decide (0 < (w64 ((w64 ((zEn d).X * (zEn e).Y)) - (w64 ((zEn d).Y * (zEn e).X))))) = decide (e = d.left) := by
  cases d <;> cases e <;> decide
section
variable {I : Sq} {L : List Sd}
theorem zmB {b : Nat} (h : b < L.length) : idx (L.map toR) (b : Int) = some (toR (QB L b)) := by
  unfold idx
  rw [if_pos (by omega), Int.toNat_natCast, List.getElem?_map, zBD h]; rfl
theorem zbr : ∀ {q : List Nat} {a : Nat}, Cn I L a q → ∀ p ∈ a :: q, p = q.getLastD a ∨ ∃ c ∈ q, Nx I L p c
  | [], a, _, p, hp => .inl (by simpa using hp)
  | b :: q, a, ⟨h1, h2⟩, p, hp => by
    rcases List.mem_cons.1 hp with rfl | hp
    · exact .inr ⟨b, by simp, h1⟩
    · have e : (b :: q).getLastD a = q.getLastD b := by cases q <;> rfl
      rw [e]
      rcases zbr h2 p hp with h3 | ⟨c, h3, h4⟩
      · exact .inl h3
      · exact .inr ⟨c, by simp [h3], h4⟩
theorem zZi (h : zAR I L) {r : List Nat} (hr : zMa I L r) {a b : Nat} (ha : a ∈ r) (hn : Nx I L a b) : b ∈ r := by
  obtain ⟨i, q, rfl, h1, h2, h3⟩ := hr
  rcases zbr h1 a ha with h4 | ⟨c, h4, h5⟩
  · subst h4
    rw [h.zYm hn h2]; simp
  · rw [h.zYm hn h5]; simp [h4]
def zUl (L : List Sd) (u : List Bool) (a k : Nat) : Prop := k < L.length ∧ u[k]? = some false ∧ (QB L k).1.p = zBb (QB L a)
theorem zLT (h : zAR I L) (hb : zHu L) {a : Nat} {u : List Bool} (hu : u.length = L.length) {p m : Nat} {best : Int} (hp : p < L.length) :
    (¬ zUl L u a p → QO (L.map toR) u (toR (QB L a)) (zEn (QB L a).1.d) (m + 1) best (p : Int) = QO (L.map toR) u (toR (QB L a)) (zEn (QB L a).1.d) m best ((p + 1 : Nat) : Int)) ∧
    (zUl L u a p → QO (L.map toR) u (toR (QB L a)) (zEn (QB L a).1.d) (m + 1) best (p : Int) = QO (L.map toR) u (toR (QB L a)) (zEn (QB L a).1.d) m (if best < 0 ∨ (QB L p).1.d = (QB L a).1.d.left then (p : Int) else best) ((p + 1 : Nat) : Int)) := by
  have hlen := hb.len
  have e1 : w64 ((p : Int) + 1) = ((p + 1 : Nat) : Int) := by rw [Qg (by omega) (by omega)]; omega
  have mp := List.mem_of_getElem? (zBD hp)
  rw [QO.eq_2, if_pos (by simp; omega), zDe (l := u) (i := p) (by omega), Option.bind_some, zmB hp, Option.bind_some, e1]
  have e2 : Vo (toR (QB L p)).from_ (toR (QB L a)).to_ = decide ((QB L p).1.p = zBb (QB L a)) := zdd _ _
  rw [e2]
  constructor
  · intro hc
    have hg : (if u[p] = true then some true else some (!decide ((QB L p).1.p = zBb (QB L a)))) = some true := by
      cases hup : u[p] with
      | true => rfl
      | false =>
        have : ¬ (QB L p).1.p = zBb (QB L a) := fun hh => hc ⟨hp, by rw [List.getElem?_eq_getElem (by omega), hup], hh⟩
        simp [this]
    rw [hg, Option.bind_some, if_pos rfl]
  · rintro ⟨_, c2, c3⟩
    have hup : u[p] = false := by
      rw [List.getElem?_eq_getElem (by omega)] at c2
      exact Option.some.inj c2
    rw [hup, if_neg (by simp), decide_eq_true c3, Option.bind_some, if_neg (by simp), Option.bind_some, zVA (h.pos _ mp) (hb.pts _ mp), Option.bind_some, zcX]
    by_cases hh : best < 0 ∨ (QB L p).1.d = (QB L a).1.d.left
    · rw [if_pos hh, if_pos (by rcases hh with hh | hh <;> simp [hh])]
    · rw [if_neg hh]
      have h1 : ¬ best < 0 := fun h => hh (.inl h)
      have h2 : ¬ (QB L p).1.d = (QB L a).1.d.left := fun h => hh (.inr h)
      rw [if_neg (by simp [h1, h2])]
theorem zTR {N : Nat} {u : List Bool} {s : zM} {d : zG} {m : Nat} {best : Int} : QO (L.map toR) u s d (m + 1) best (L.length : Int) = some best := by
  rw [QO.eq_2, if_neg (by simp)]
theorem zQK (h : zAR I L) (hb : zHu L) {a : Nat} {u : List Bool} (hu : u.length = L.length) (hno : ∀ k, ¬ zUl L u a k) : ∀ (n p m : Nat), p + n = L.length → n < m → QO (L.map toR) u (toR (QB L a)) (zEn (QB L a).1.d) m (-1) (p : Int) = some (-1)
  | _, _, 0, _, hm => absurd hm (Nat.not_lt_zero _)
  | 0, p, m + 1, hp, _ => by
    have : p = L.length := by omega
    subst this
    exact zTR (N := 0)
  | n + 1, p, m + 1, hp, hm => by
    rw [(zLT h hb hu (by omega)).1 (hno p)]
    exact zQK h hb hu hno n (p + 1) m (by omega) (by omega)
theorem zLU (h : zAR I L) (hb : zHu L) {a c : Nat} (ha : a < L.length) {u : List Bool} (hu : u.length = L.length) (hn : Nx I L a c) (hc : u[c]? = some false) : ∀ (n p m : Nat) (best : Int), p + n = L.length → n < m → (p ≤ c → best = -1 ∨ ∃ k : Nat, best = (k : Int) ∧ k ≠ c ∧ zUl L u a k) → (c < p → best = (c : Int)) →
    QO (L.map toR) u (toR (QB L a)) (zEn (QB L a).1.d) m best (p : Int) = some (c : Int)
  | _, _, 0, _, _, hm, _, _ => absurd hm (Nat.not_lt_zero _)
  | 0, p, m + 1, best, hp, _, _, h2 => by
    have : p = L.length := by omega
    subst this
    rw [zTR (N := 0), h2 hn.lt.2]
  | n + 1, p, m + 1, best, hp, hm, h1, h2 => by
    have hcc : zUl L u a c := ⟨hn.lt.2, hc, zKM h hn⟩
    have ga := zBD ha
    have gc := zBD hn.lt.2
    have ma := List.mem_of_getElem? ga
    obtain ⟨t1, t2, t3⟩ := zOA (h.pos _ ma)
    have hl := (h.last ma).1
    have hsc : (QB L c).1 = sc I (zJC (QB L a)) := by
      obtain ⟨s, t, k1, k2, k3⟩ := hn
      rw [ga] at k1; rw [gc] at k2
      have k1 := Option.some.inj k1
      have k2 := Option.some.inj k2
      subst k1; subst k2
      exact k3
    have hoth : ∀ k, k ≠ c → zUl L u a k → (QB L c).1.d = (QB L a).1.d.left ∧ (QB L k).1.d ≠ (QB L a).1.d.left := fun k hk ⟨k1, k2, k3⟩ => by
      have gk := zBD k1
      have bk := h.fst (List.mem_of_getElem? gk)
      have hx : (QB L k).1.x = (zJC (QB L a)).tx := (congrArg Prod.fst k3).trans t1.symm
      have hy : (QB L k).1.y = (zJC (QB L a)).ty := (congrArg Prod.snd k3).trans t2.symm
      have hne : (QB L k).1 ≠ sc I (zJC (QB L a)) := fun hh => hk (h.zYm ⟨_, _, ga, gk, hh⟩ hn)
      have := zWa hl bk hx hy hne
      rw [← hsc, t3] at this
      exact ⟨this, fun hh => hne (zW2 bk hx hy (by rw [t3]; exact hh))⟩
    by_cases hcd : zUl L u a p
    · rw [(zLT h hb hu (by omega)).2 hcd]
      refine zLU h hb ha hu hn hc n (p + 1) m _ (by omega) (by omega) (fun hpc => ?_) (fun hcp => ?_)
      · have hpne : p ≠ c := by omega
        obtain ⟨o1, o2⟩ := hoth p hpne hcd
        rcases h1 (by omega) with rfl | ⟨k, rfl, k2, k3⟩
        · rw [if_pos (.inl (by decide))]
          exact .inr ⟨p, rfl, hpne, hcd⟩
        · rw [if_neg (by rintro (hh | hh); · omega
                         · exact o2 hh)]
          exact .inr ⟨k, rfl, k2, k3⟩
      · rcases Nat.lt_or_ge c p with h3 | h3
        · rw [h2 h3]
          obtain ⟨o1, o2⟩ := hoth p (by omega) hcd
          rw [if_neg (by rintro (hh | hh); · omega
                         · exact o2 hh)]
        · have : p = c := by omega
          subst this
          rcases h1 (Nat.le_refl _) with rfl | ⟨k, rfl, k2, k3⟩
          · rw [if_pos (.inl (by decide))]
          · rw [if_pos (.inr (hoth k k2 k3).1)]
    · rw [(zLT h hb hu (by omega)).1 hcd]
      have hpc : p ≠ c := fun e => hcd (e ▸ hcc)
      exact zLU h hb ha hu hn hc n (p + 1) m best (by omega) (by omega) (fun h3 => h1 (by omega)) (fun h3 => h2 (by omega))
theorem zP9 (h : zAR I L) (hR : L.Pairwise RO) (hb : zHu L) {N : Nat} (hN : L.length < N) {i : Nat} {rs : List (List Nat)} (hrs : ∀ r ∈ rs, zMa I L r) (hir : ∀ r ∈ rs, i ∉ r) (hlow : ∀ a, a < i → ∃ r ∈ rs, a ∈ r) (out : List (List zG)) (x : Int) (k : List Bool → List (List zG) → Int → Option (List (List zG))) :
    ∀ (fuel : Nat) (q : List Nat) (b : Nat) (u : List Bool) (t : List Nat), q ++ [b] = i :: t → Cn I L i t → (i :: t).Nodup → (∀ a ∈ i :: t, ∀ r ∈ rs, a ∉ r) → b < L.length → (∀ a ∈ q, a < L.length) → u.length = L.length → (∀ a, u[a]? = some true ↔ (∃ r ∈ rs, a ∈ r) ∨ a ∈ q) → u.count false < fuel →
    ∃ (r : List Nat) (u' : List Bool), zMa I L r ∧ i ∈ r ∧ (∀ a ∈ r, ∀ r' ∈ rs, a ∉ r') ∧ (∀ a ∈ r, a < L.length) ∧ u'.length = L.length ∧ (∀ a, u'[a]? = some true ↔ (∃ r' ∈ rs, a ∈ r') ∨ a ∈ r) ∧ r.length ≤ L.length ∧
      JI N (L.map toR) out x k fuel u (q.map fun a => toR (QB L a)) (b : Int) = (Vj N (r.map fun a => toR (QB L a))).bind fun zC2 => Qu out x k u' zC2 N (out.length : Int)
  | 0, _, _, u, _, _, _, _, _, _, _, _, _, hf => absurd hf (Nat.not_lt_zero _)
  | fuel + 1, q, b, u, t, ht, hcn, hnd, hfree, hbl, hql, hu, huse, hf => by
    have hlast : t.getLastD i = b := by
      have e1 : (q ++ [b]).getLastD 0 = b := by simp
      rw [ht] at e1
      have e2 : (i :: t).getLastD 0 = t.getLastD i := by cases t <;> rfl
      rw [← e2, e1]
    have hbm : b ∈ i :: t := by rw [← ht]; simp
    have him : i ∈ q ++ [b] := by rw [ht]; simp
    have hil : i < L.length := by
      rcases List.mem_append.1 him with h1 | h1
      · exact hql i h1
      · rw [List.mem_singleton.1 h1]; exact hbl
    have hbq : b ∉ q := by
      rw [← ht] at hnd
      intro hh
      exact (List.nodup_append.1 hnd).2.2 b hh b (by simp) rfl
    have hub : u[b]? = some false := not_true (by omega) fun hh => by
      rcases (huse b).1 hh with ⟨r, h1, h2⟩ | h1
      · exact hfree b hbm r h1 h2
      · exact hbq h1
    have hid : idx u (b : Int) = some false := by
      unfold idx
      rw [if_pos (by omega), Int.toNat_natCast, hub]
    have hset : sets u (b : Int) true = some (u.set b true) := by
      unfold sets
      rw [if_pos (by omega), Int.toNat_natCast]
    have huse' : ∀ a, (u.set b true)[a]? = some true ↔ (∃ r ∈ rs, a ∈ r) ∨ a ∈ q ++ [b] := fun a => by
      rw [List.getElem?_set]
      by_cases hab : b = a
      · subst hab
        rw [if_pos rfl, if_pos (by omega)]
        simp
      · rw [if_neg hab, huse a]
        have : a ∈ q ++ [b] ↔ a ∈ q := by simp; exact fun hh => absurd hh.symm hab
        rw [this]
    have hql' : ∀ a ∈ q ++ [b], a < L.length := fun a ha => by
      rcases List.mem_append.1 ha with h1 | h1
      · exact hql a h1
      · rw [List.mem_singleton.1 h1]; exact hbl
    have hqn : q.length ≤ L.length := zGb (by rw [← ht] at hnd; exact (List.nodup_append.1 hnd).1) hql
    have hqn' : (q ++ [b]).length ≤ L.length := zGb (by rw [ht]; exact hnd) hql'
    have hlen := hb.len
    have hcnt := zLp hub
    have mb := List.mem_of_getElem? (zBD hbl)
    have hmapq : (q.map fun a => toR (QB L a)) ++ [toR (QB L b)] = (q ++ [b]).map fun a => toR (QB L a) := by simp
    have hul : (u.set b true).length = L.length := by rw [List.length_set]; exact hu
    rw [JI.eq_2, if_pos (by simp), hid, Option.bind_some, hset, Option.bind_some, zmB hbl, Option.bind_some, Kl (by rw [List.length_map]; simp; omega), Option.bind_some, Option.bind_some, hmapq]
    unfold zBQ
    rw [zVA (h.pos _ mb) (hb.pts _ mb), Option.bind_some]
    obtain ⟨c, hc, hn⟩ := h.next hbl
    by_cases hci : c = i
    · subst hci
      have hno : ∀ k, ¬ zUl L (u.set b true) b k := fun k ⟨k1, k2, k3⟩ => by
        have hkc : k ≠ c := fun e => by
          subst e
          have := (huse' k).2 (.inr him)
          rw [k2] at this; cases this
        have hkl : c < k := by
          rcases Nat.lt_trichotomy k c with h1 | h1 | h1
          · obtain ⟨r, r1, r2⟩ := hlow k h1
            have := (huse' k).2 (.inl ⟨r, r1, r2⟩)
            rw [k2] at this; cases this
          · exact absurd h1 hkc
          · exact h1
        obtain ⟨a, a1, a2⟩ := zZZ h hR hc k1 hkl (k3.trans (zKM h hn).symm)
        obtain ⟨r, r1, r2⟩ := hlow a a1
        exact hir r r1 (zZi h (hrs r r1) r2 a2)
      have e0 : ((0 : Nat) : Int) = 0 := rfl
      have hnx := zQK h hb hul hno L.length 0 N (by omega) hN
      rw [e0] at hnx
      obtain ⟨fuel, rfl⟩ : ∃ f, fuel = f + 1 := ⟨fuel - 1, by omega⟩
      rw [hnx, Option.bind_some, JI.eq_2, if_neg (by simp)]
      refine ⟨q ++ [b], u.set b true, ?_, him, fun a ha => hfree a (by rw [← ht]; exact ha), hql', hul, huse', hqn', rfl⟩
      rw [ht]
      exact ⟨c, t, rfl, hcn, by rw [hlast]; exact hn, hnd⟩
    · have hcr : ∀ r ∈ rs, c ∉ r := fun r hr hh => hfree b hbm r hr (zQB h (hrs r hr) hh hn)
      have hcq : c ∉ i :: t := fun hh => by
        rcases List.mem_cons.1 hh with hh | hh
        · exact hci hh
        · obtain ⟨p, p1, p2, p3⟩ := zND hcn hnd c hh
          rw [hlast] at p3
          exact p3 (h.zcq p2 hn)
      have huc : (u.set b true)[c]? = some false := not_true (by rw [List.length_set]; omega) fun hh => by
        rcases (huse' c).1 hh with ⟨r, h1, h2⟩ | h1
        · exact hcr r h1 h2
        · rw [ht] at h1; exact hcq h1
      have e0 : ((0 : Nat) : Int) = 0 := rfl
      have hnx := zLU h hb hbl hul hn huc L.length 0 N (-1) (by omega) hN (fun _ => .inl rfl) (fun hh => absurd hh (Nat.not_lt_zero _))
      rw [e0] at hnx
      rw [hnx, Option.bind_some]
      exact zP9 h hR hb hN hrs hir hlow out x k fuel (q ++ [b]) c (u.set b true) (t ++ [c]) (by rw [ht]; rfl) (zSa hcn (by rw [hlast]; exact hn))
        (by rw [← List.cons_append]; exact List.nodup_append.2 ⟨hnd, by simp, fun x hx y hy => by rw [List.mem_singleton.1 hy]; exact fun e => hcq (e ▸ hx)⟩)
        (fun a ha r hr hh => by
          rw [← List.cons_append] at ha
          rcases List.mem_append.1 ha with h1 | h1
          · exact hfree a h1 r hr hh
          · rw [List.mem_singleton.1 h1] at hh; exact hcr r hr hh) hc hql' hul huse' (by omega)
end
open PX
theorem zTU (p q : Int × Int) : Vq (Ke p) (Ke q) = some (decide (pl p q)) := by
  unfold Vq
  congr 1
  rw [Bool.eq_iff_iff, decide_eq_true_eq]
  unfold pl Ke
  simp
def zfN (c : List zG) (k : Nat) : Option (List zG) :=
  (cut c (k : Int) (c.length : Int)).bind fun zaC => (apd ([] : List zG) zaC).bind fun zA7 => (Proofs.YtacapjleiadkkaaGreat.pre c (k : Int)).bind fun zSA => (apd zA7 zSA).bind fun zR9 => some zR9
theorem zci {c : List zG} {k : Nat} (hc : c.length ≤ 100000000) (hk : k ≤ c.length) : zfN c k = some (c.drop k ++ c.take k) := by
  unfold zfN
  have e1 : cut c (k : Int) (c.length : Int) = some (c.drop k) := by
    unfold cut
    rw [if_pos (by omega)]
    simp
  have e2 : Proofs.YtacapjleiadkkaaGreat.pre c (k : Int) = some (c.take k) := by
    unfold Proofs.YtacapjleiadkkaaGreat.pre
    rw [if_pos (by omega)]
    simp
  rw [e1, e2, Option.bind_some, Kl (by simp; omega), Option.bind_some, Option.bind_some, Kl (by simp; omega)]; rfl
theorem zID (c : List (Int × Int)) (hc : c.length ≤ 100000000) : ∀ (suf q : List (Int × Int)) (m f : Nat) (p : Int × Int), c = q ++ suf → c[m]? = some p → suf.length < f → Qv (c.map Ke) f (m : Int) (q.length : Int) = zfN (c.map Ke) (fl suf (m, p) q.length)
  | _, _, _, 0, _, _, _, hf => absurd hf (Nat.not_lt_zero _)
  | [], q, m, f + 1, p, h, hm, _ => by
    rw [Qv.eq_2, if_neg (by rw [h]; simp)]; rfl
  | x :: suf, q, m, f + 1, p, h, hm, hf => by
    have hid : idx (c.map Ke) (m : Int) = some (Ke p) := by
      unfold idx
      rw [if_pos (by omega), Int.toNat_natCast, List.getElem?_map, hm]; rfl
    have hx : c[q.length]? = some x := by rw [h]; simp
    have hidx : idx (c.map Ke) (q.length : Int) = some (Ke x) := by
      unfold idx
      rw [if_pos (by omega), Int.toNat_natCast, List.getElem?_map, hx]; rfl
    have hql : q.length + 1 ≤ 100000000 := by rw [h] at hc; simp at hc; omega
    have e1 := zID c hc suf (q ++ [x]) q.length f x (by rw [h]; simp) hx (by simp at hf; omega)
    have e2 := zID c hc suf (q ++ [x]) m f p (by rw [h]; simp) hm (by simp at hf; omega)
    rw [Qv.eq_2, if_pos (by rw [h, List.length_map]; exact zBz q suf x), hidx, Option.bind_some, hid, Option.bind_some, zTU, Option.bind_some, zAP q x (by omega)]
    rw [show fl suf (q.length, x) (q ++ [x]).length = fl suf (q.length, x) (q.length + 1) by simp] at e1
    rw [show fl suf (m, p) (q ++ [x]).length = fl suf (m, p) (q.length + 1) by simp] at e2
    unfold fl
    by_cases hp : pl x p
    · rw [if_pos (by simpa using hp), if_pos hp]; exact e1
    · rw [if_neg (by simpa using hp), if_neg hp]; exact e2
section
variable {I : Sq} {L : List Sd}
theorem zLv (hL : zAR I L) (hb : zHu L) {N : Nat} (row : List Nat) (hr : ∀ a ∈ row, a < L.length) (hlen : row.length ≤ 100000000) : ∀ (suf q : List Nat) (f : Nat), row = q ++ suf → suf.length < f →
    JK N (row.map fun a => toR (QB L a)) f ((cns L (QB L (row.getLastD 0)).1.d q).map Ke) (q.length : Int) = Qv ((cns L (QB L (row.getLastD 0)).1.d row).map Ke) N 0 0
  | _, _, 0, _, hf => absurd hf (Nat.not_lt_zero _)
  | [], q, f + 1, h, _ => by
    rw [List.append_nil] at h
    subst h
    rw [JK.eq_2, if_neg (by simp)]
  | a :: suf, q, f + 1, h, hf => by
    have hdir : ∀ b ∈ row, VB (toR (QB L b)) = some (zEn (QB L b).1.d) := fun b hb' => by
      have hg := zBD (hr b hb')
      have hm := List.mem_of_getElem? hg
      exact zVA (hL.pos _ hm) (hb.pts _ hm)
    have hql : q.length + 1 ≤ 100000000 := by rw [h] at hlen; simp at hlen; omega
    have hn : 0 < row.length := by rw [h]; simp; omega
    have hid : idx (row.map fun a => toR (QB L a)) (q.length : Int) = some (toR (QB L a)) := by
      have := Qn (q.map fun a => toR (QB L a)) (suf.map fun a => toR (QB L a)) (toR (QB L a))
      rw [List.length_map] at this
      rw [h, List.map_append, List.map_cons]; exact this
    have hprev : ∃ b ∈ row, (md (w64 ((w64 ((q.length : Int) + ((row.map fun a => toR (QB L a)).length : Int))) - 1)) ((row.map fun a => toR (QB L a)).length : Int)).bind (fun q150 => idx (row.map fun a => toR (QB L a)) q150) = some (toR (QB L b)) ∧ (QB L b).1.d = (q.map fun a => (QB L a).1.d).getLastD (QB L (row.getLastD 0)).1.d := by
      rw [List.length_map, Qg (x := (q.length : Int) + row.length) (by omega) (by omega), Qg (by omega) (by omega)]
      have hmd : md ((q.length : Int) + row.length - 1) row.length = some (Int.tmod ((q.length : Int) + row.length - 1) row.length) := by unfold md; rw [if_neg (by omega)]
      rw [hmd, Option.bind_some]
      rcases List.eq_nil_or_concat q with hq | ⟨q', b, hq⟩
      · subst hq
        have e1 : Int.tmod ((([] : List Nat).length : Int) + row.length - 1) row.length = ((row.length - 1 : Nat) : Int) := by
          rw [Int.tmod_eq_emod_of_nonneg (by simp; omega), List.length_nil, Int.emod_eq_of_lt (by omega) (by omega)]; omega
        have hne : row ≠ [] := by rw [h]; simp
        have hlast : row[row.length - 1]? = some (row.getLastD 0) := by
          rw [List.getLastD_eq_getLast?, List.getLast?_eq_getElem?]
          rw [List.getElem?_eq_getElem (by omega)]; rfl
        refine ⟨row.getLastD 0, List.mem_of_getElem? hlast, ?_, rfl⟩
        rw [e1]
        unfold idx
        rw [if_pos (by omega), Int.toNat_natCast, List.getElem?_map, hlast]; rfl
      · rw [List.concat_eq_append] at hq
        subst hq
        have e1 : Int.tmod (((q' ++ [b]).length : Int) + row.length - 1) row.length = (q'.length : Int) := by
          have : ((q' ++ [b]).length : Int) + row.length - 1 = (q'.length : Int) + row.length := by simp; omega
          rw [this, Int.tmod_eq_emod_of_nonneg (by omega), Int.add_emod_right, Int.emod_eq_of_lt (by omega) (by rw [h]; simp; omega)]
        have hb2 : row[q'.length]? = some b := by rw [h]; simp
        refine ⟨b, List.mem_of_getElem? hb2, ?_, by simp⟩
        rw [e1]
        unfold idx
        rw [if_pos (by omega), Int.toNat_natCast, List.getElem?_map, hb2]; rfl
    obtain ⟨b, hb1, hb2, hb3⟩ := hprev
    have ih := zLv hL hb (N := N) row hr hlen suf (q ++ [a]) f (by rw [h]; simp) (by simp at hf; omega)
    rw [zUI] at ih
    obtain ⟨q150, hq1, hq2⟩ := Option.bind_eq_some_iff.1 hb2
    rw [JK.eq_2, if_pos (by rw [h, List.length_map]; exact zBz q suf a), hq1, Option.bind_some, hq2, Option.bind_some, hdir b hb1, Option.bind_some, hid, Option.bind_some, hdir a (by rw [h]; simp), Option.bind_some, zbj, hb3, Option.bind_some, zAP q a (by omega)]
    have hcl := zKp L q (QB L (row.getLastD 0)).1.d
    generalize (q.map fun a => (QB L a).1.d).getLastD (QB L (row.getLastD 0)).1.d = dp at ih ⊢
    generalize cns L (QB L (row.getLastD 0)).1.d q = cq at ih hcl ⊢
    by_cases hd : dp = (QB L a).1.d
    · rw [if_neg (by simp [hd])]
      rw [if_neg (by simpa using hd), List.append_nil] at ih
      exact ih
    · rw [if_pos (by simpa using hd)]
      rw [if_pos hd, List.map_append] at ih
      rw [Kl (by rw [List.length_map]; simp; omega), Option.bind_some]
      exact ih
theorem zUF (hL : zAR I L) (hb : zHu L) {N : Nat} (hN : 100000000 < N) {row : List Nat} (hr : ∀ a ∈ row, a < L.length) (hlen : row.length ≤ 100000000) (hne : cns L (QB L (row.getLastD 0)).1.d row ≠ []) : Vj N (row.map fun a => toR (QB L a)) = some ((zAz L row).map Ke) := by
  unfold Vj
  have h1 := zLv hL hb (N := N) row hr hlen row [] N rfl (by omega)
  have h0 : (cns L (QB L (row.getLastD 0)).1.d []).map Ke = [] := rfl
  rw [h0] at h1
  have e0 : ((([] : List Nat).length : Nat) : Int) = 0 := rfl
  rw [e0] at h1
  rw [h1]
  unfold zAz lr
  have hcl := zKp L row (QB L (row.getLastD 0)).1.d
  generalize cns L (QB L (row.getLastD 0)).1.d row = c at hne hcl
  obtain ⟨p, r, rfl⟩ := List.exists_cons_of_ne_nil hne
  have h2 := zID (p :: r) (by omega) (p :: r) [] 0 N p rfl rfl (by omega)
  have e0 : ((0 : Nat) : Int) = 0 := rfl
  have e1 : ((([] : List (Int × Int)).length : Nat) : Int) = 0 := rfl
  rw [e0, e1] at h2
  rw [h2]
  have hk := zXa (p :: r) (0, p) 0 (p :: r).length (by simp) (by simp)
  rw [List.length_nil, zci (by rw [List.length_map]; omega) (by rw [List.length_map]; omega)]
  simp only [List.headD_cons, List.map_append, List.map_drop, List.map_take]
end
theorem zaH {out : List (List (Int × Int))} {l : List (Int × Int)} {x : Int} {u : List Bool} {k : List Bool → List (List zG) → Int → Option (List (List zG))} (hlen : out.length ≤ 100000000) (h4 : ∀ m ∈ out, 4 ≤ m.length) (hl : 4 ≤ l.length)
    (hs : out.Pairwise fun a b => pl (a.headD (0, 0)) (b.headD (0, 0))) (hne : ∀ m ∈ out, m.headD (0, 0) ≠ l.headD (0, 0)) : ∀ (n f : Nat), n ≤ out.length → n < f → (∀ m ∈ out.drop n, pl (l.headD (0, 0)) (m.headD (0, 0))) →
    ∃ out' : List (List (Int × Int)), out'.Perm (out ++ [l]) ∧ (out'.Pairwise fun a b => pl (a.headD (0, 0)) (b.headD (0, 0))) ∧ Qu (out.map (List.map Ke)) x k u (l.map Ke) f (n : Int) = k u (out'.map (List.map Ke)) (w64 (x + 1))
  | _, 0, _, hf, _ => absurd hf (Nat.not_lt_zero _)
  | n, f + 1, hn, hf, hd => by
    obtain ⟨q, r, e1⟩ := zRg hl
    have i0 : ∀ (l : List (Int × Int)), 4 ≤ l.length → idx (l.map Ke) 0 = some (Ke (l.headD (0, 0))) := fun l hl => by
      obtain ⟨q, r, e1⟩ := zRg hl
      rw [e1]
      unfold idx; simp
    have hput : (Proofs.YtacapjleiadkkaaGreat.pre (out.map (List.map Ke)) (n : Int)).bind (fun zZ3 => (apd ([] : List (List zG)) zZ3).bind fun zZ2 => (apd zZ2 [l.map Ke]).bind fun zZ1 => (cut (out.map (List.map Ke)) (n : Int) ((out.map (List.map Ke)).length : Int)).bind fun zZ0 => (apd zZ1 zZ0).bind fun zZz => k u zZz (w64 (x + 1))) = k u ((out.take n ++ [l] ++ out.drop n).map (List.map Ke)) (w64 (x + 1)) := by
      have e2 : Proofs.YtacapjleiadkkaaGreat.pre (out.map (List.map Ke)) (n : Int) = some ((out.take n).map (List.map Ke)) := by
        unfold Proofs.YtacapjleiadkkaaGreat.pre
        rw [if_pos (by simp; omega)]
        simp
      have e3 : cut (out.map (List.map Ke)) (n : Int) ((out.map (List.map Ke)).length : Int) = some ((out.drop n).map (List.map Ke)) := by
        unfold cut
        rw [if_pos (by simp; omega)]
        rw [Int.toNat_natCast, Int.toNat_natCast, List.take_length, List.map_drop]
      rw [e2, Option.bind_some, Kl (by simp; omega), Option.bind_some, List.nil_append, Kl (by simp; omega), Option.bind_some, e3, Option.bind_some, Kl (by simp; omega), Option.bind_some]
      simp only [List.map_append, List.map_cons, List.map_nil]
    have hperm : (out.take n ++ [l] ++ out.drop n).Perm (out ++ [l]) := by
      have h1 : (out.take n ++ [l] ++ out.drop n).Perm (out.take n ++ (out.drop n ++ [l])) := by
        rw [List.append_assoc]
        exact List.Perm.append_left _ List.perm_append_comm
      rw [← List.append_assoc, List.take_append_drop] at h1
      exact h1
    have hsplit := hs
    rw [← List.take_append_drop n out] at hsplit
    obtain ⟨s1, s2, s3⟩ := List.pairwise_append.1 hsplit
    cases n with
    | zero =>
      refine ⟨_, hperm, ?_, ?_⟩
      · simp only [List.take_zero, List.drop_zero, List.nil_append, List.singleton_append] at hd ⊢
        exact List.pairwise_cons.2 ⟨hd, hs⟩
      · rw [Qu.eq_2, if_neg (by simp), Option.bind_some, if_neg (by simp)]
        exact hput
    | succ n =>
      have hnl : n < out.length := by omega
      have hmem : out[n] ∈ out := List.getElem_mem hnl
      have ex : w64 (((n + 1 : Nat) : Int) - 1) = (n : Int) := by rw [Qg (by omega) (by omega)]; omega
      have hidx : idx (out.map (List.map Ke)) (n : Int) = some (out[n].map Ke) := by
        unfold idx
        rw [if_pos (by omega), Int.toNat_natCast, List.getElem?_map, List.getElem?_eq_getElem hnl]; rfl
      rw [Qu.eq_2, if_pos (by simp), i0 l hl, Option.bind_some, ex, hidx, Option.bind_some, i0 _ (h4 _ hmem), Option.bind_some, zTU, Option.bind_some]
      by_cases hp : pl (l.headD (0, 0)) (out[n].headD (0, 0))
      · rw [if_pos (by simpa using hp), Option.bind_some, Option.bind_some, if_pos rfl]
        refine zaH hlen h4 hl hs hne n f (by omega) (by omega) fun m hm => ?_
        rw [List.drop_eq_getElem_cons hnl] at hm
        rcases List.mem_cons.1 hm with rfl | hm
        · exact hp
        · exact hd m hm
      · rw [if_neg (by simpa using hp), Option.bind_some, Option.bind_some, i0 _ (h4 _ hmem), Option.bind_some, zdd, if_neg (fun hh => hne _ hmem (of_decide_eq_true hh).symm), Option.bind_some, Option.bind_some, Option.bind_some, if_neg (by simp)]
        have hlast : pl (out[n].headD (0, 0)) (l.headD (0, 0)) := by
          rcases zGa (out[n].headD (0, 0)) (l.headD (0, 0)) with h5 | h5 | h5
          · exact h5
          · exact absurd h5 (hne _ hmem)
          · exact absurd h5 hp
        refine ⟨_, hperm, ?_, hput⟩
        rw [List.append_assoc, List.singleton_append]
        refine List.pairwise_append.2 ⟨s1, List.pairwise_cons.2 ⟨hd, s2⟩, fun a ha b hb => ?_⟩
        rcases List.mem_cons.1 hb with rfl | hb
        · rw [List.take_add_one, List.getElem?_eq_getElem hnl] at ha s1
          rcases List.mem_append.1 ha with ha | ha
          · have := (List.pairwise_append.1 s1).2.2 a ha out[n] (by simp)
            exact zH9 this hlast
          · have : a = out[n] := by simpa using ha
            rw [this]; exact hlast
        · exact s3 a ha b hb
section
variable {I : Sq} {L : List Sd}
theorem zLR (h : zAR I L) (hR : L.Pairwise RO) (hb : zHu L) {N : Nat} (hN : 10000000000 ≤ N) : ∀ (n i m : Nat) (u : List Bool) (rs : List (List Nat)) (ls : List (List (Int × Int))), i + n = L.length → n < m → zk0 I L u rs → (∀ a, a < i → ∃ r ∈ rs, a ∈ r) → rs.length ≤ i → ls.Perm (rs.map (zAz L)) → (ls.Pairwise fun a b => pl (a.headD (0, 0)) (b.headD (0, 0))) →
    ∃ ls', zPs I ls' ∧ zt N (L.map toR) m u (ls.map (List.map Ke)) (i : Int) = some (ls'.map (List.map Ke))
  | _, _, 0, _, _, _, _, hm, _, _, _, _, _ => absurd hm (Nat.not_lt_zero _)
  | 0, i, m + 1, u, rs, ls, hi, _, inv, hall, _, hp, ho => by
    refine ⟨ls, zIX.outs h (rs := rs) ⟨inv.row, fun a ha => hall a (by omega), inv.once⟩ hp ho, ?_⟩
    rw [zt.eq_2, if_neg (by simp; omega)]
  | n + 1, i, m + 1, u, rs, ls, hi, hm, inv, hall, hrs, hp, ho => by
    have hil : i < L.length := by omega
    have hlen := hb.len
    have hu := inv.len
    have e1 : w64 ((i : Int) + 1) = ((i + 1 : Nat) : Int) := by rw [Qg (by omega) (by omega)]; omega
    rw [zt.eq_2, if_pos (by simp; omega), zDe (l := u) (i := i) (by omega), Option.bind_some]
    by_cases hx : u[i] = true
    · rw [if_pos hx, e1]
      refine zLR h hR hb hN n (i + 1) m u rs ls (by omega) (by omega) inv (fun a ha => ?_) (by omega) hp ho
      rcases Nat.lt_or_ge a i with h3 | h3
      · exact hall a h3
      · have : a = i := by omega
        subst this
        exact (inv.use _).1 (by rw [List.getElem?_eq_getElem (by omega), hx])
    · rw [if_neg hx]
      have hir : ∀ r ∈ rs, i ∉ r := fun r hr hh => by
        have := (inv.use i).2 ⟨r, hr, hh⟩
        rw [List.getElem?_eq_getElem (by omega)] at this
        exact hx (Option.some.inj this)
      have hcl : u.count false ≤ u.length := List.count_le_length
      obtain ⟨r, u', r1, r2, r3, r4, r5, r6, r7, r8⟩ := zP9 h hR hb (N := N) (by omega) inv.row hir hall (ls.map (List.map Ke)) (i : Int) (zt N (L.map toR) m) N [] i u [] rfl trivial (by simp) (fun a ha r hr => by
        rw [List.mem_singleton.1 ha]; exact hir r hr) hil (fun a ha => (nomatch ha)) hu (fun a => by rw [inv.use a]; simp) (by omega)
      rw [List.map_nil] at r8
      have hl4 := zPy h (rs := rs ++ [r]) (fun r' hr' => by
        rcases List.mem_append.1 hr' with g1 | g1
        · exact inv.row r' g1
        · rw [List.mem_singleton.1 g1]; exact r1)
      have inv' : zk0 I L u' (rs ++ [r]) := ⟨r5, fun a => by
          rw [r6 a]
          constructor
          · rintro (⟨r', g1, g2⟩ | g1)
            · exact ⟨r', by simp [g1], g2⟩
            · exact ⟨r, by simp, g1⟩
          · rintro ⟨r', g1, g2⟩
            rcases List.mem_append.1 g1 with g1 | g1
            · exact .inl ⟨r', g1, g2⟩
            · rw [List.mem_singleton.1 g1] at g2; exact .inr g2, fun r' hr' => by
          rcases List.mem_append.1 hr' with g1 | g1
          · exact inv.row r' g1
          · rw [List.mem_singleton.1 g1]; exact r1, List.pairwise_append.2 ⟨inv.once, by simp, fun x hx y hy a ha hh => by
          rw [List.mem_singleton.1 hy] at hh
          exact r3 a hh x hx ha⟩⟩
      have hhd : ((rs ++ [r]).map (zAz L)).Pairwise fun a b => a.headD (0, 0) ≠ b.headD (0, 0) := by
        obtain ⟨B, hB⟩ := h.fin
        rw [List.pairwise_map]
        refine List.Pairwise.imp_of_mem (R := fun r r' => ∀ a ∈ r, a ∉ r') (fun {r r'} hr hr' hd heq => ?_) inv'.once
        obtain ⟨e, e1, e2, b, b1, i, b2, b3⟩ := zDD h (inv'.row r hr)
        obtain ⟨f, f1, f2, c, c1, j, c2, c3⟩ := zDD h (inv'.row r' hr')
        rw [e2.headD hB e1, f2.headD hB f1] at heq
        have := Lst.uniq hB e1 f1 heq
        subst this
        rw [b3] at c3
        have := h.once b c _ _ (zBD (zWl b2)) (zBD (zWl c2)) i j b2 c2 c3
        subst this
        exact hd b b1 c1
      rw [List.map_append] at hhd hl4
      have hne : ∀ m ∈ ls, m.headD (0, 0) ≠ (zAz L r).headD (0, 0) := fun m hm => (List.pairwise_append.1 hhd).2.2 m (hp.mem_iff.1 hm) _ (by simp)
      have hll : ls.length = rs.length := by rw [hp.length_eq, List.length_map]
      obtain ⟨ls2, p1, p2, p3⟩ := zaH (out := ls) (l := zAz L r) (x := (i : Int)) (u := u') (k := zt N (L.map toR) m) (by omega) (fun m hm => hl4 m (List.mem_append_left _ (hp.mem_iff.1 hm))) (hl4 _ (by simp)) ho hne ls.length N (Nat.le_refl _) (by omega) (by rw [List.drop_length]; intro m hm; cases hm)
      rw [r8, zUF h hb (by omega) r4 (by omega) (zUH h r1), Option.bind_some, List.length_map, p3, e1]
      refine zLR h hR hb hN n (i + 1) m u' (rs ++ [r]) ls2 (by omega) (by omega) inv' (fun a ha => ?_) (by simp; omega) (p1.trans (by rw [List.map_append]; exact hp.append_right _)) p2
      rcases Nat.lt_or_ge a i with h3 | h3
      · obtain ⟨r', g1, g2⟩ := hall a h3
        exact ⟨r', by simp [g1], g2⟩
      · have : a = i := by omega
        subst this
        exact ⟨r, by simp, r2⟩
theorem zcn (h : zAR I L) (hR : L.Pairwise RO) (hb : zHu L) {N : Nat} (hN : 10000000000 ≤ N) : ∃ ls, zPs I ls ∧ ((mkl false ((L.map toR).length : Int)).bind fun zMW => zt N (L.map toR) N zMW ([] : List (List zG)) 0) = some (ls.map (List.map Ke)) := by
  have hlen := hb.len
  have hmk : (mkl false ((L.map toR).length : Int)) = some (List.replicate L.length false) := by
    unfold mkl
    rw [if_pos (by simp; omega)]
    simp
  rw [hmk, Option.bind_some]
  obtain ⟨ls, l1, l2⟩ := zLR h hR hb hN L.length 0 N (List.replicate L.length false) [] [] (by omega) (by omega) ⟨by simp, fun a => by simp [List.getElem?_replicate], fun r hr => (nomatch hr), .nil⟩ (fun a ha => absurd ha (Nat.not_lt_zero _)) (Nat.le_refl _) (List.Perm.refl _) .nil
  exact ⟨ls, l1, l2⟩
end
section
variable {N : Nat} (hN : 10000000000 ≤ N)
include hN
omit hN in
theorem zWb {l : List Bd} {b : Bd} {K : List zJ → Int → Option (List zJ)} {i : Int} (hi0 : 0 ≤ i ∧ i ≤ 1000000000) (hi : idx (l.map zAy) i = some (zAy b)) (hb : b.2.2.length ≤ 100000000) : ∀ (suf pre : List (Int × Int)) (m : Nat) (out : List zJ), b.2.2 = pre ++ suf → suf.length < m → out.length + suf.length ≤ 4294967296 →
    KP (l.map zAy) i K m out pre.length = K (out ++ suf.map fun s => ⟨s.1, b.1, s.2, b.2.1⟩) (i + 1)
  | [], pre, m + 1, out, h1, _, _ => by
    rw [KP.eq_2, hi, Option.bind_some, if_neg (by show ¬ decide ((pre.length : Int) < ((b.2.2.map Ku).length : Int)) = true; rw [h1]; simp), Qg (by omega) (by omega)]
    simp
  | s :: suf, pre, m + 1, out, h1, h2, h3 => by
    have hpl : pre.length ≤ 100000000 := by rw [h1] at hb; simp at hb; omega
    have hid : idx (zAy b).spans (pre.length : Int) = some (Ku s) := by
      show idx (b.2.2.map Ku) _ = _
      rw [h1, List.map_append, List.map_cons, show pre.length = (pre.map Ku).length by simp]; exact Qn _ _ _
    simp only [List.length_cons] at h2 h3
    rw [KP.eq_2, hi, Option.bind_some, if_pos (by show decide ((pre.length : Int) < ((b.2.2.map Ku).length : Int)) = true; rw [h1]; simp; omega)]
    simp only [Option.bind_some, hid]
    rw [Kl (by simp; omega), Option.bind_some, zAP pre s (by omega), zWb hi0 hi hb suf (pre ++ [s]) m _ (by rw [h1]; simp) (by omega) (by simp; omega)]
    simp [Ku, zAy]
theorem zMf {l : List Bd} (h : Small l) : Vp N (l.map zAy) = some (KR l) := by
  have key : ∀ (suf pre : List Bd) (m : Nat), l = pre ++ suf → suf.length < m → JB N (l.map zAy) m (KR pre) pre.length = some (KR l) := by
    intro suf
    induction suf with
    | nil =>
      intro pre m h1 h2
      obtain ⟨m, rfl⟩ : ∃ k, m = k + 1 := ⟨m - 1, by omega⟩
      rw [JB.eq_2, if_neg (by rw [h1]; simp), h1, List.append_nil]
    | cons b suf ih =>
      intro pre m h1 h2
      obtain ⟨m, rfl⟩ : ∃ k, m = k + 1 := ⟨m - 1, by omega⟩
      have hlen := h.len
      have hpl : pre.length + 1 ≤ 200000000 := by rw [h1] at hlen; simp at hlen; omega
      have hid : idx (l.map zAy) (pre.length : Int) = some (zAy b) := by
        rw [h1, List.map_append, List.map_cons, show pre.length = (pre.map zAy).length by simp]; exact Qn _ _ _
      have hr := h.tot
      rw [h1, zJL, zBu, List.length_append, List.length_append, zCW] at hr
      have hb := h.row b (by rw [h1]; simp)
      rw [JB.eq_2, if_pos (by rw [h1]; simp; omega)]
      have := zWb (K := JB N (l.map zAy) m) (i := (pre.length : Int)) ⟨by omega, by omega⟩ hid hb b.2.2 [] N (KR pre) rfl (by omega) (by omega)
      rw [show ((([] : List (Int × Int)).length : Nat) : Int) = 0 from rfl] at this
      rw [this, show KR pre ++ (b.2.2.map fun s => (⟨s.1, b.1, s.2, b.2.1⟩ : zJ)) = KR (pre ++ [b]) by unfold KR; simp [zKG], show ((pre.length : Int) + 1) = ((pre ++ [b]).length : Int) by simp]
      exact ih (pre ++ [b]) m (by rw [h1]; simp) (by simp at h2; omega)
  exact key l [] N rfl (by have := h.len; omega)
theorem zSj {l : List zJ} (hl : l.length ≤ 100000000) (ht : (KR (zCp l)).length ≤ 4000000000) : VL N l = some (KR (zCp l)) := by
  have hyl : (QP (QV l)).length ≤ 200000000 := Nat.le_trans (zCV _) (by rw [zD9]; omega)
  have hsm := zL0 hl ht
  have key : ∀ (hsuf hpre : List Int) (a : Int) (m : Nat) (bands : List Bd), QP (QV l) = hpre ++ a :: hsuf → hsuf.length < m → bands.length ≤ hpre.length → (∀ c ∈ bands, c.2.2.length ≤ 100000000) → zDn l (a :: hsuf) bands = zCp l →
      QU N l (QP (QV l)) m (bands.map zAy) ((hpre.length : Int) + 1) = some (KR (zCp l)) := by
    intro hsuf
    induction hsuf with
    | nil =>
      intro hpre a m bands h1 h2 h3 h4 h5
      obtain ⟨m, rfl⟩ : ∃ k, m = k + 1 := ⟨m - 1, by omega⟩
      rw [QU.eq_2, if_neg (by rw [h1]; simp)]
      have e : bands = zCp l := h5
      rw [e, zMf hN hsm]; rfl
    | cons b hsuf ih =>
      intro hpre a m bands h1 h2 h3 h4 h5
      obtain ⟨m, rfl⟩ : ∃ k, m = k + 1 := ⟨m - 1, by omega⟩
      have hpl : hpre.length + 2 ≤ 200000000 := by rw [h1] at hyl; simp at hyl; omega
      have ha : idx (QP (QV l)) (hpre.length : Int) = some a := by rw [h1]; exact Qn hpre _ a
      have hb : idx (QP (QV l)) ((hpre.length : Int) + 1) = some b := by
        rw [h1, show hpre ++ a :: b :: hsuf = (hpre ++ [a]) ++ b :: hsuf by simp, show ((hpre.length : Int) + 1) = ((hpre ++ [a]).length : Int) by simp]
        exact Qn (hpre ++ [a]) _ b
      have hst := zNk (N := N) (l := bands) (b := (a, b, zC5 l a)) hN (by omega) (fun c hc => by have := h4 c hc; omega)
      have hr := zN0 l a
      have hpb := zFF bands (a, b, zC5 l a)
      rw [QU.eq_2, if_pos (by rw [h1]; simp; omega), Qg (x := (hpre.length : Int) + 1 - 1) (by omega) (by omega), show ((hpre.length : Int) + 1 - 1) = (hpre.length : Int) by omega, ha, Option.bind_some, hb, Option.bind_some, Option.bind_some, zRr hN hl, Option.bind_some]
      show (KQ N (bands.map zAy) (zAy (a, b, zC5 l a))).bind _ = _
      rw [hst, Option.bind_some, Qg (by omega) (by omega)]
      have := ih (hpre ++ [a]) b m (pushB bands (a, b, zC5 l a)) (by rw [h1]; simp) (by simp at h2; omega) (by simp; omega) (zIk h4 (by show (zC5 l a).length ≤ 100000000; omega)) h5
      rw [show ((hpre ++ [a]).length : Int) = (hpre.length : Int) + 1 by simp] at this
      exact this
  unfold VL
  rw [zV9 hN hl, Option.bind_some]
  cases hy : QP (QV l) with
  | nil =>
    obtain ⟨m, hm⟩ : ∃ k, N = k + 1 := ⟨N - 1, by omega⟩
    have e : zCp l = [] := by unfold zCp; rw [hy]; rfl
    have hf : QU N l [] N [] 1 = QU N l [] (m + 1) [] 1 := congrArg (fun z => QU N l [] z [] 1) hm
    rw [hf, QU.eq_2, if_neg (by simp)]
    have := zMf hN hsm
    rw [e] at this ⊢
    rw [List.map_nil] at this
    rw [this]; rfl
  | cons a hsuf =>
    have := key hsuf [] a N [] hy (by rw [hy] at hyl; simp at hyl; omega) (by simp) (by simp) (by unfold zCp; rw [hy])
    rw [hy] at this
    exact this
end
theorem zPL {N : Nat} (hN : 10000000000 ≤ N) (l : List zJ) : Vs N l = some (zB8 l) := by
  unfold Vs zB8
  by_cases h : 2000 < l.length
  · rw [if_pos (by simp; omega), if_pos h]
  · rw [if_neg (by simp; omega), if_neg h]
    have key : ∀ (suf pre : List zJ) (m : Nat), l = pre ++ suf → suf.length < m → JJ l m pre.length = some (zJK suf) := by
      intro suf
      induction suf with
      | nil =>
        intro pre m h1 h2
        obtain ⟨m, rfl⟩ : ∃ k, m = k + 1 := ⟨m - 1, by omega⟩
        rw [JJ.eq_2, if_neg (by rw [h1]; simp)]; rfl
      | cons r suf ih =>
        intro pre m h1 h2
        obtain ⟨m, rfl⟩ : ∃ k, m = k + 1 := ⟨m - 1, by omega⟩
        have hpl : pre.length ≤ 2000 := by rw [h1] at h; simp at h; omega
        have hid : idx l (pre.length : Int) = some r := by rw [h1]; exact Qn pre suf r
        have hat : ∀ x, Kq x = some (within x (-1000000) 1000000) := fun x => rfl
        rw [JJ.eq_2, if_pos (by rw [h1]; exact zBz pre suf r), hid, Option.bind_some, hat, hat, hat, hat, zAP pre r (by omega), ih (pre ++ [r]) m (by rw [h1]; simp) (by simp at h2; omega)]
        show _ = some (if zPf r = 0 then zJK suf else zPf r)
        generalize zJK suf = z
        unfold zPf
        cases within r.X0 (-1000000) 1000000 <;> cases within r.Y0 (-1000000) 1000000 <;> cases within r.X1 (-1000000) 1000000 <;> cases within r.Y1 (-1000000) 1000000 <;> cases (decide (r.X1 ≤ r.X0) || decide (r.Y1 ≤ r.Y0)) <;> simp
    exact key l [] N rfl (by omega)
theorem zSg {N : Nat} {l m : List zJ} (hN : 10000000000 ≤ N) (hl : l.length ≤ 1000000000) : ∃ b : Bool, VK N l m = some b ∧ (b = true ↔ l = m) := by
  have key : ∀ (s1 s2 p1 p2 : List zJ) (n : Nat), l = p1 ++ s1 → m = p2 ++ s2 → p1.length = p2.length → s1.length = s2.length → s1.length < n → ∃ b : Bool, JO l m n p1.length = some b ∧ (b = true ↔ s1 = s2) := by
    intro s1
    induction s1 with
    | nil =>
      intro s2 p1 p2 n h1 h2 h3 h4 h5
      obtain ⟨n, rfl⟩ : ∃ k, n = k + 1 := ⟨n - 1, by omega⟩
      have : s2 = [] := List.eq_nil_of_length_eq_zero h4.symm
      subst this
      rw [JO.eq_2, if_neg (by rw [h1]; simp)]; exact ⟨true, rfl, by simp⟩
    | cons q s1 ih =>
      intro s2 p1 p2 n h1 h2 h3 h4 h5
      obtain ⟨n, rfl⟩ : ∃ k, n = k + 1 := ⟨n - 1, by omega⟩
      cases s2 with
      | nil => simp at h4
      | cons q2 s2 =>
        have hp : p1.length ≤ 1000000000 := by rw [h1] at hl; simp at hl; omega
        have e1 : idx l (p1.length : Int) = some q := by rw [h1]; exact Qn _ _ _
        have e2 : idx m (p1.length : Int) = some q2 := by rw [h2, h3]; exact Qn _ _ _
        rw [JO.eq_2, if_pos (by rw [h1]; simp; omega), e1, Option.bind_some, e2, Option.bind_some, zAP p1 q (by omega)]
        by_cases hq : q = q2
        · subst hq
          obtain ⟨b, b1, b2⟩ := ih s2 (p1 ++ [q]) (p2 ++ [q]) n (by rw [h1]; simp) (by rw [h2]; simp) (by simp; omega) (by simpa using h4) (by simp at h5; omega)
          rw [zEY.2 rfl, if_neg (by simp), b1]
          exact ⟨b, rfl, by simp [b2]⟩
        · have : zE3 q q2 = false := by rw [Bool.eq_false_iff]; exact fun h => hq (zEY.1 h)
          rw [this, if_pos (by simp)]
          exact ⟨false, rfl, by simp [hq]⟩
  unfold VK
  by_cases h : l.length = m.length
  · rw [if_neg (by simp; omega)]
    exact key l m [] [] N rfl rfl rfl h (by omega)
  · rw [if_pos (by simp; omega)]
    exact ⟨false, rfl, by simp; exact fun e => h (by rw [e])⟩
theorem zMd {N : Nat} (hN : 10000000000 ≤ N) (l : List zJ) : Vg N l = some (zBG l) := by
  unfold Vg zBG
  rw [zPL hN, Option.bind_some]
  by_cases he : zB8 l = 0
  · obtain ⟨hl, hok⟩ := zH8 he
    rw [if_neg (by simpa using he), if_pos he]
    have hend : (VL N l).bind (fun y114 => (VK N l y114).bind fun zGJ => if (!zGJ) then some 3 else some 0) = some (if KR (zCp l) = l then (0 : Int) else 3) := by
      rw [zSj hN (by omega) (zNu (by omega)).tot, Option.bind_some]
      obtain ⟨b, h1, h2⟩ := zSg (N := N) (l := l) (m := KR (zCp l)) hN (by omega)
      rw [h1, Option.bind_some]
      cases b
      · rw [if_pos (by simp), if_neg (fun h => by have := h2.2 h.symm; cases this)]
      · rw [if_neg (by simp), if_pos (h2.1 rfl).symm]
    have key : ∀ (suf pre : List zJ) (a : zJ) (m : Nat), l = pre ++ a :: suf → suf.length < m → QL N l m ((pre.length : Int) + 1) = some (if zTQ (a :: suf) = true then if KR (zCp l) = l then 0 else 3 else 8) := by
      intro suf
      induction suf with
      | nil =>
        intro pre a m h1 h2
        obtain ⟨m, rfl⟩ : ∃ k, m = k + 1 := ⟨m - 1, by omega⟩
        rw [QL.eq_2, if_neg (by rw [h1]; simp), hend]
        rfl
      | cons b suf ih =>
        intro pre a m h1 h2
        obtain ⟨m, rfl⟩ : ∃ k, m = k + 1 := ⟨m - 1, by omega⟩
        have hpl : pre.length ≤ 2000 := by rw [h1] at hl; simp at hl; omega
        have ha : idx l (pre.length : Int) = some a := by rw [h1]; exact Qn pre _ a
        have hb : idx l ((pre.length : Int) + 1) = some b := by
          rw [h1, show pre ++ a :: b :: suf = (pre ++ [a]) ++ b :: suf by simp, show ((pre.length : Int) + 1) = ((pre ++ [a]).length : Int) by simp]
          exact Qn (pre ++ [a]) _ b
        have hbf : Wu a b = some (ltR a b) := by
          unfold Wu ltR
          congr 1
        rw [QL.eq_2, if_pos (by rw [h1]; simp; omega), Qg (x := (pre.length : Int) + 1 - 1) (by omega) (by omega), show ((pre.length : Int) + 1 - 1) = (pre.length : Int) by omega, ha, Option.bind_some, hb, Option.bind_some, hbf, Option.bind_some, Qg (by omega) (by omega)]
        have hor : zTQ (a :: b :: suf) = (ltR a b && zTQ (b :: suf)) := rfl
        rw [hor]
        cases ltR a b
        · simp
        · have := ih (pre ++ [a]) b m (by rw [h1]; simp) (by simp at h2; omega)
          rw [show (((pre ++ [a]).length : Int) + 1) = (pre.length : Int) + 1 + 1 by simp] at this
          rw [this]
          simp
    cases l with
    | nil =>
      obtain ⟨m, hm⟩ : ∃ k, N = k + 1 := ⟨N - 1, by omega⟩
      have hf : QL N ([] : List zJ) N 1 = QL N ([] : List zJ) (m + 1) 1 := congrArg (fun z => QL N ([] : List zJ) z 1) hm
      rw [hf, QL.eq_2, if_neg (by simp), hend]
      rfl
    | cons a suf =>
      exact key suf [] a N rfl (by simp at hl; omega)
  · rw [if_pos (by simpa using he), if_neg he]
section
variable {N : Nat} (hN : 10000000000 ≤ N)
include hN
theorem zdu {l : List Bd} (hl : l.length ≤ 200000000) (h : (KR l).length ≤ 1000000000000000000) : Wt N (l.map toP) = some (zS2 l) := by
  unfold Wt zS2
  rw [zdv h, Option.bind_some]
  by_cases h2 : 2000 < (KR l).length
  · rw [if_pos (by simp; omega), if_pos h2]
  · rw [if_neg (by simp; omega), if_neg h2, zUf hN ⟨hl, fun b hb => by have := zVI hb; omega, by omega⟩, Option.bind_some]
end
open PX
def zkz (I : Sq) : Prop := ∀ x y, I x y = true → (-1000000 ≤ x ∧ x < 1000000) ∧ (-1000000 ≤ y ∧ y < 1000000)
theorem zS6 {I : Sq} (hI : zkz I) {e : Ed} (h : isB I e) : ((-1000000 ≤ e.x ∧ e.x ≤ 1000000) ∧ (-1000000 ≤ e.y ∧ e.y ≤ 1000000)) ∧ ((-1000000 ≤ e.tx ∧ e.tx ≤ 1000000) ∧ (-1000000 ≤ e.ty ∧ e.ty ≤ 1000000)) := by
  obtain ⟨h1, _⟩ := h
  unfold Ed.tx Ed.ty
  cases hd : e.d <;> rw [hd] at h1 <;> simp only [lq, Dir.dx, Dir.dy] at * <;> have := hI _ _ h1 <;> omega
theorem zW0 {I : Sq} {L : List Sd} (h : zAR I L) (hI : zkz I) (hl : L.length ≤ 100000000) : zHu L := by
  refine ⟨hl, fun s hs => ?_⟩
  obtain ⟨a1, _⟩ := zS6 hI (h.fst hs)
  obtain ⟨_, a2⟩ := zS6 hI (h.last hs).1
  obtain ⟨t1, t2, _⟩ := zOA (h.pos s hs)
  rw [t1, t2] at a2
  refine ⟨⟨?_, ?_⟩, ?_, ?_⟩
  · show -1000000000 ≤ s.1.x ∧ s.1.x ≤ 1000000000; omega
  · show -1000000000 ≤ s.1.y ∧ s.1.y ≤ 1000000000; omega
  · omega
  · omega
def zIS : List (List zG) → Int → Int
  | [], n => n
  | p :: l, n => zIS l (w64 (n + (p.length : Int)))
theorem zXt (y : List (List zG)) : ∀ (suf : List (List zG)) (i : Nat) (n : Int), VA y suf i n = some (if 2000 < zIS suf n then ([], 2) else (y, 0))
  | [], i, n => by
    rw [VA.eq_1]
    unfold zIS
    by_cases h : 2000 < n
    · rw [if_pos (by simpa using h), if_pos h]
    · rw [if_neg (by simpa using h), if_neg h]
  | p :: suf, i, n => by rw [VA.eq_2, zXt y suf]; rfl
theorem zXu (y : List (List zG)) (hl : y.length ≤ 1000000000) : ∀ (suf pre : List (List zG)) (m : Nat) (n : Int), y = pre ++ suf → suf.length < m → JW y m n (pre.length : Int) = some (if 2000 < zIS suf n then ([], 2) else (y, 0))
  | _, _, 0, _, _, hm => absurd hm (Nat.not_lt_zero _)
  | [], pre, m + 1, n, h, _ => by
    rw [JW.eq_2, if_neg (by rw [h]; simp)]
    unfold zIS
    by_cases h : 2000 < n
    · rw [if_pos (by simpa using h), if_pos h]
    · rw [if_neg (by simpa using h), if_neg h]
  | p :: suf, pre, m + 1, n, h, hm => by
    have hpl : pre.length + 1 ≤ 1000000000 := by rw [h] at hl; simp at hl; omega
    have hid : idx y (pre.length : Int) = some p := by rw [h]; exact Qn pre suf p
    rw [JW.eq_2, if_pos (by rw [h]; exact zBz pre suf p), hid, Option.bind_some, zAP pre p (by omega)]
    rw [zXu y hl suf (pre ++ [p]) m _ (by rw [h]; simp) (by simp at hm; omega)]; rfl
theorem zL2 {l : List zJ} (h : ∀ r ∈ l, ROk r) : zkz (zGg l) := fun _ _ hx => zdx h (zGf.1 hx)
theorem zY6 {l : List Bd} (h : ∀ b ∈ l, b.2.2 ≠ []) : l.length ≤ (KR l).length ∧ ∀ b ∈ l, b.2.2.length ≤ (KR l).length := by
  induction l with
  | nil => exact ⟨Nat.le_refl _, fun b hb => nomatch hb⟩
  | cons b l ih =>
    obtain ⟨i1, i2⟩ := ih fun c hc => h c (by simp [hc])
    have hb := List.length_pos_iff.2 (h b (by simp))
    rw [zBu, List.length_append, zCW]
    refine ⟨by simp only [List.length_cons]; omega, fun c hc => ?_⟩
    rcases List.mem_cons.1 hc with rfl | hc
    · omega
    · have := i2 c hc; omega
def zlv (l : List zJ) (ls : List (List (Int × Int))) : List (List zG) × Int := if 2000 < zIS (ls.map (List.map Ke)) 0 then ([], 2) else (ls.map (List.map Ke), 0)
theorem zUZ {N : Nat} (hN : 10000000000 ≤ N) {l : List zJ} (h : zBG l = 0) : ∃ ls, zPs (zGg l) ls ∧ ls.length ≤ 100000000 ∧ (Wj N l).bind (fun y101 => zAT N y101) = some (ls.map (List.map Ke)) := by
  obtain ⟨_, h2, h3, h4⟩ := zKF h
  have hne := ROk.ne h3
  obtain ⟨b1, b2⟩ := zce hne
  obtain ⟨lo, hc⟩ := b1.can
  obtain ⟨f1, f2⟩ := zY6 (l := zCp l) fun b hb => (hc.mem b hb).2.2
  rw [h4] at f1 f2
  have hrow : ∀ b ∈ zCp l, b.2.2.length ≤ 2000 := fun b hb => by have := f2 b hb; omega
  have hok : ∀ b ∈ zCp l, Ok1 b := fun b hb => ⟨(hc.mem b hb).2.1, by have := hrow b hb; omega, b1.row b hb⟩
  have hI : ∀ x y, zGg l x y = true ↔ InS x (rowAt (zCp l) y) := fun x y => zGf.trans (b2 x y).symm
  have sys := zVD (I := zGg l) b1 (fun b hb => by have := hrow b hb; omega) hI
  have hlen := zNq (n := 2000) (by omega) (l := zCp l) (prev := none) (fun b hb => ⟨hok b hb, hrow b hb⟩) (fun c hc => nomatch hc)
  have hlim := zW0 sys (zL2 h3) (by omega)
  obtain ⟨ls, l1, l2, l3⟩ := zWN sys hlim (N := N) (by omega)
  refine ⟨ls, l1, by omega, ?_⟩
  rw [zUe hN (by omega) (fun r hr => (h3 r hr).r9), Option.bind_some]
  unfold zAT
  rw [zYd hN (by omega) (fun b hb => hok b hb) (by omega), Option.bind_some]
  exact l3
theorem zRw {N : Nat} (hN : 10000000000 ≤ N) {l : List zJ} (h : zBG l = 0) : ∃ ls, zPs (zGg l) ls ∧ Vr N l = some (ls.map (List.map Ke)) := by
  obtain ⟨_, h2, h3, h4⟩ := zKF h
  have hne := ROk.ne h3
  have hl := zVE h2
  have hlim := zW0 zNt (zL2 h3) (L := zFR l (QP (Qy l)) (QP (QV l))) (by omega)
  obtain ⟨ls, l1, l2⟩ := zcn zNt zP6 hlim hN
  refine ⟨ls, l1, ?_⟩
  unfold Vr
  rw [zYc hN h2 (fun r hr => (hne r hr).1), Option.bind_some]
  exact l2
theorem zPt {N : Nat} (hN : 10000000000 ≤ N) (l : List zJ) : ∃ y, zBm N l = some y ∧ WM N l = some y ∧ (zBG l ≠ 0 → y = ([], zBG l)) ∧ (zBG l = 0 → ∃ ls, zPs (zGg l) ls ∧ y = zlv l ls) := by
  unfold zBm WM
  rw [zPK hN, zMd hN, Option.bind_some, Option.bind_some]
  by_cases h : zBG l = 0
  · rw [if_neg (by simpa using h), if_neg (by simpa using h)]
    obtain ⟨ls, l1, l2, l3⟩ := zUZ hN h
    obtain ⟨ls', m1, m2⟩ := zRw hN h
    have := m1.uniq l1
    subst this
    refine ⟨zlv l ls', ?_, ?_, fun hh => absurd h hh, fun _ => ⟨ls', l1, rfl⟩⟩
    · obtain ⟨y, y1, y2⟩ := Option.bind_eq_some_iff.1 l3
      rw [y1, Option.bind_some, y2, Option.bind_some, zXt]; rfl
    · have e0 : ((([] : List (List zG)).length : Nat) : Int) = 0 := rfl
      have := zXu (ls'.map (List.map Ke)) (by simp; omega) (ls'.map (List.map Ke)) [] N 0 rfl (by simp; omega)
      rw [e0] at this
      rw [m2, Option.bind_some, this]; rfl
  · rw [if_pos (by simpa using h), if_pos (by simpa using h)]
    exact ⟨_, rfl, rfl, fun _ => rfl, fun hh => absurd hh h⟩
def stk (xs : List Int) (x : Int) : List Int := if xs.getLast? = some x then xs.dropLast else xs ++ [x]
def zUU (l : List Int) : List Int := l.foldl stk []
def cle (x : Int) (l : List Int) : Nat := (l.filter fun z => decide (z ≤ x)).length
theorem zCb (x : Int) (l m : List Int) : cle x (l ++ m) = cle x l + cle x m := by unfold cle; rw [List.filter_append, List.length_append]
theorem zNE (x z : Int) : cle x [z] = if z ≤ x then 1 else 0 := by
  unfold cle
  by_cases h : z ≤ x <;> simp [h]
structure zUd (xs done : List Int) : Prop where
  inc : xs.Pairwise fun a b => a < b
  par : ∀ x, cle x xs % 2 = cle x done % 2
  len : xs.length % 2 = done.length % 2
  sub : ∀ x ∈ xs, x ∈ done
theorem zfH {xs done : List Int} {x : Int} (h : zUd xs done) (hx : ∀ z ∈ done, z ≤ x) : zUd (stk xs x) (done ++ [x]) := by
  obtain ⟨h1, h2, h3, h4⟩ := h
  unfold stk
  by_cases hl : xs.getLast? = some x
  · rw [if_pos hl]
    obtain ⟨ys, rfl⟩ := List.getLast?_eq_some_iff.1 hl
    rw [List.dropLast_concat]
    rw [List.pairwise_append] at h1
    refine ⟨h1.1, fun z => ?_, ?_, fun z hz => List.mem_append_left _ (h4 z (List.mem_append_left _ hz))⟩
    · have := h2 z
      rw [zCb] at this
      rw [zCb]; omega
    · rw [List.length_append] at h3 ⊢
      simp only [List.length_singleton] at h3 ⊢
      omega
  · rw [if_neg hl]
    refine ⟨?_, fun z => ?_, ?_, fun z hz => ?_⟩
    · rw [List.pairwise_append]
      refine ⟨h1, by simp, fun a ha b hb => ?_⟩
      simp at hb; subst hb
      have hle := hx a (h4 a ha)
      rcases Int.lt_or_eq_of_le hle with h | h
      · exact h
      · subst h
        exfalso
        apply hl
        rcases List.eq_nil_or_concat xs with e | ⟨ys, y, e⟩
        · subst e; cases ha
        · rw [List.concat_eq_append] at e
          subst e
          have hy := hx y (h4 y (by simp))
          rw [List.pairwise_append] at h1
          rcases List.mem_append.1 ha with ha | ha
          · have := h1.2.2 a ha y (by simp)
            omega
          · simp at ha; subst ha; simp
    · have := h2 z
      rw [zCb, zCb]; omega
    · rw [List.length_append, List.length_append]
      simp only [List.length_singleton]; omega
    · rcases List.mem_append.1 hz with hz | hz
      · exact List.mem_append_left _ (h4 z hz)
      · exact List.mem_append_right _ hz
theorem zX0 : ∀ (suf done xs : List Int), zUd xs done → (∀ z ∈ done, ∀ y ∈ suf, z ≤ y) → suf.Pairwise (fun a b => a ≤ b) → zUd (suf.foldl stk xs) (done ++ suf)
  | [], done, xs, h, _, _ => by simpa using h
  | x :: l, done, xs, h, hd, hs => by
    obtain ⟨s1, s2⟩ := List.pairwise_cons.1 hs
    have := zX0 l (done ++ [x]) (stk xs x) (zfH h fun z hz => hd z hz x List.mem_cons_self) (fun z hz y hy => by
      rcases List.mem_append.1 hz with hz | hz
      · exact hd z hz y (List.mem_cons_of_mem _ hy)
      · simp at hz; subst hz; exact s1 y hy) s2
    rw [List.foldl_cons]
    simpa using this
theorem zdn {l : List Int} (hs : l.Pairwise fun a b => a ≤ b) : zUd (zUU l) l := by
  have := zX0 l [] [] ⟨.nil, fun _ => rfl, rfl, fun _ h => (by cases h)⟩ (fun _ h => by cases h) hs
  unfold zUU
  simpa using this
def prs : List Int → List (Int × Int)
  | a :: b :: l => (a, b) :: prs l
  | _ => []
theorem zZk : ∀ {xs : List Int} {lo : Int}, xs.Pairwise (fun a b => a < b) → xs.length % 2 = 0 → (∀ x ∈ xs, lo < x) → Qf (prs xs) = xs ∧ Can lo (prs xs) ∧ ∀ x, InS x (prs xs) ↔ cle x xs % 2 = 1
  | [], lo, _, _, _ => ⟨rfl, trivial, fun x => ⟨fun h => absurd h VF, fun h => by simp [cle] at h⟩⟩
  | [a], lo, _, h, _ => by simp at h
  | a :: b :: l, lo, hp, hl, hlo => by
    obtain ⟨p1, p2⟩ := List.pairwise_cons.1 hp
    obtain ⟨p3, p4⟩ := List.pairwise_cons.1 p2
    have hab := p1 b List.mem_cons_self
    obtain ⟨i1, i2, i3⟩ := zZk (xs := l) (lo := b) p4 (by simp at hl; omega) p3
    refine ⟨by rw [prs, zA2, i1], ⟨hlo a List.mem_cons_self, hab, i2⟩, fun x => ?_⟩
    rw [prs, VX, i3]
    have e : cle x (a :: b :: l) = (if a ≤ x then 1 else 0) + ((if b ≤ x then 1 else 0) + cle x l) := by
      rw [show a :: b :: l = [a] ++ ([b] ++ l) from rfl, zCb, zCb, zNE, zNE]
    rw [e]
    have h0 : x < b → cle x l = 0 := fun h => by
      unfold cle
      rw [List.length_eq_zero_iff, List.filter_eq_nil_iff]
      intro z hz
      have := p3 z hz
      simp; omega
    by_cases ha : a ≤ x <;> by_cases hb : b ≤ x <;> simp only [ha, hb, if_true, if_false, true_and, false_and, and_false, false_or, true_or, iff_true] <;> first | omega | (have := h0 (by omega); omega)
def nxt (p0 : zG) : List zG → List (zG × zG)
  | [] => []
  | [x] => [(x, p0)]
  | x :: y :: r => (x, y) :: nxt p0 (y :: r)
def zBi : List zG → List (zG × zG)
  | [] => []
  | x :: r => nxt x (x :: r)
def axS (l : List (zG × zG)) : Prop := ∀ s ∈ l, (s.1.X = s.2.X) ≠ (s.1.Y = s.2.Y)
def Vw (y : Int) (l : List (zG × zG)) : List (zG × zG) := l.filter fun s => decide (s.1.X = s.2.X) && (decide (min s.1.Y s.2.Y ≤ y) && decide (y < max s.1.Y s.2.Y))
theorem zQ8 {y : Int} {s : zG × zG} (h : s.1.X ≠ s.2.X → s.1.Y = s.2.Y) : (decide (s.1.X = s.2.X) && (decide (min s.1.Y s.2.Y ≤ y) && decide (y < max s.1.Y s.2.Y))) = (decide (s.1.Y ≤ y) != decide (s.2.Y ≤ y)) := by
  by_cases hx : s.1.X = s.2.X
  · rw [decide_eq_true hx, Bool.true_and, Bool.eq_iff_iff]
    simp only [Bool.and_eq_true, decide_eq_true_eq, bne_iff_ne, ne_eq, decide_eq_decide]
    omega
  · have hy := h hx
    rw [decide_eq_false hx, Bool.false_and, hy]; simp
theorem zWu (y : Int) (p0 : zG) : ∀ (r : List zG) (x : zG), axS (nxt p0 (x :: r)) → (Vw y (nxt p0 (x :: r))).length % 2 = (if (decide (x.Y ≤ y) != decide (p0.Y ≤ y)) then 1 else 0)
  | [], x, h => by
    have hs := h (x, p0) (by simp [nxt])
    have := zQ8 (y := y) (s := (x, p0)) (fun hx => by
      by_cases hy : x.Y = p0.Y
      · exact hy
      · exact absurd (propext ⟨fun h => absurd h hx, fun h => absurd h hy⟩) hs)
    unfold Vw
    rw [nxt, List.filter_cons, List.filter_nil, this]
    split <;> rfl
  | z :: r, x, h => by
    have hs := h (x, z) (by simp [nxt])
    have hc := zQ8 (y := y) (s := (x, z)) (fun hx => by
      by_cases hy : x.Y = z.Y
      · exact hy
      · exact absurd (propext ⟨fun h => absurd h hx, fun h => absurd h hy⟩) hs)
    have ih := zWu y p0 r z (fun s hs => h s (by rw [nxt]; exact List.mem_cons_of_mem _ hs))
    unfold Vw at ih ⊢
    rw [nxt, List.filter_cons, hc]
    simp only at hc ⊢
    cases h1 : decide (x.Y ≤ y) <;> cases h2 : decide (z.Y ≤ y) <;> cases h3 : decide (p0.Y ≤ y) <;> rw [h2, h3] at ih <;> simp at ih ⊢ <;> omega
theorem zWF (y : Int) {l : List zG} (h : axS (zBi l)) : (Vw y (zBi l)).length % 2 = 0 := by
  cases l with
  | nil => rfl
  | cons x r =>
    have := zWu y x r x h
    rw [zBi, this]; simp
def zC3 (up : List zJ) (y : Int) : List Int := (up.filter fun s => decide (s.Y0 ≤ y) && decide (y < s.Y1)).map (·.X0)
def fA (up : List zJ) (y : Int) : List (Int × Int) := prs (zUU (zC3 up y))
theorem zR1 : ∀ (l : List Int), ∃ lo, ∀ x ∈ l, lo < x
  | [] => ⟨0, fun _ h => by cases h⟩
  | a :: l => by
    obtain ⟨lo, h⟩ := zR1 l
    refine ⟨min lo (a - 1), fun x hx => ?_⟩
    rcases List.mem_cons.1 hx with rfl | hx
    · omega
    · have := h x hx; omega
theorem zXd {up : List zJ} (hs : up.Pairwise fun a b => a.X0 ≤ b.X0) (hev : ∀ y, (zC3 up y).length % 2 = 0) (y : Int) : Qf (fA up y) = zUU (zC3 up y) ∧ (∃ lo, Can lo (fA up y)) ∧ (∀ x, InS x (fA up y) ↔ cle x (zC3 up y) % 2 = 1) ∧ ∀ z ∈ zUU (zC3 up y), z ∈ zC3 up y := by
  have hp : (zC3 up y).Pairwise fun a b => a ≤ b := by
    unfold zC3
    rw [List.pairwise_map]
    exact hs.filter _
  have hc := zdn hp
  obtain ⟨lo, hlo⟩ := zR1 (zUU (zC3 up y))
  obtain ⟨a1, a2, a3⟩ := zZk (lo := lo) hc.inc (by rw [hc.len, hev]) hlo
  exact ⟨a1, ⟨lo, a2⟩, fun x => by unfold fA; rw [a3, hc.par], hc.sub⟩
theorem zUx {up : List zJ} {ys : List Int} (hm : ∀ s ∈ up, s.Y0 ∈ ys ∧ s.Y1 ∈ ys) {a y : Int} (hay : a ≤ y) (h : ∀ z ∈ ys, z ≤ a ∨ y < z) : zC3 up y = zC3 up a := by
  unfold zC3
  congr 1
  apply List.filter_congr
  intro s hs
  obtain ⟨h1, h2⟩ := hm s hs
  have k1 := h _ h1
  have k2 := h _ h2
  rw [Bool.eq_iff_iff]
  simp only [Bool.and_eq_true, decide_eq_true_eq]
  omega
theorem zbf {up : List zJ} {ys : List Int} (hy : ys.Pairwise fun x y => x < y) (hs : up.Pairwise fun a b => a.X0 ≤ b.X0) (hev : ∀ y, (zC3 up y).length % 2 = 0) (hm : ∀ s ∈ up, s.Y0 ∈ ys ∧ s.Y1 ∈ ys) : BOk (zAc (fA up) ys []) ∧ ∀ x y, InB x y (zAc (fA up) ys []) ↔ cle x (zC3 up y) % 2 = 1 := by
  have hnil : ∀ y, (∀ s ∈ up, ¬ (s.Y0 ≤ y ∧ y < s.Y1)) → fA up y = [] := fun y h => by
    have : zC3 up y = [] := by
      unfold zC3
      rw [List.map_eq_nil_iff, List.filter_eq_nil_iff]
      intro s hs
      have := h s hs
      simpa using this
    unfold fA; rw [this]; rfl
  obtain ⟨b1, b2⟩ := zJx (f := fA up) hy (fun y => (zXd hs hev y).2.1) (fun a y hay h => by unfold fA; rw [zUx hm hay h])
    (fun y h => hnil y fun s hs hh => by have := h _ (hm s hs).1; omega) (fun y h => hnil y fun s hs hh => by have := h _ (hm s hs).2; omega)
  refine ⟨b1, fun x y => ?_⟩
  unfold InB
  rw [b2, (zXd hs hev y).2.2.1]
theorem zMe {α : Type} (pre : List α) (x : α) (h : pre.length < 9223372036854775807) : w64 ((pre.length : Int) + 1) = ((pre ++ [x]).length : Int) := by
  rw [zRe (by omega) (by omega)]; simp
def zMU (l : List zG) : List zG → Nat → Bool
  | [], _ => true
  | x :: r, i => if ((x.X == (l.getD ((i + 1) % l.length) ⟨0, 0⟩).X) == (x.Y == (l.getD ((i + 1) % l.length) ⟨0, 0⟩).Y)) then false else zMU l r (i + 1)
theorem zcr {l : List zG} {i : Nat} (h : i < l.length) (hl : l.length ≤ 9223372036854775807) : ((md (w64 ((i : Int) + 1)) (l.length : Int)).bind fun q => idx l q) = some (l.getD ((i + 1) % l.length) ⟨0, 0⟩) := by
  have hm : (i + 1) % l.length < l.length := Nat.mod_lt _ (by omega)
  unfold md
  rw [zRe (by omega) (by omega), if_neg (by omega), Option.bind_some, Int.tmod_eq_emod_of_nonneg (by omega)]
  rw [show ((i : Int) + 1) % (l.length : Int) = (((i + 1) % l.length : Nat) : Int) by simp]
  rw [zDe hm]
  simp [List.getD, hm]
theorem zKN {β : Type} {l : List zG} {i : Nat} (h : i < l.length) (hl : l.length ≤ 9223372036854775807) (k : zG → Option β) :
    ((md (w64 ((i : Int) + 1)) (l.length : Int)).bind fun q => (idx l q).bind k) = k (l.getD ((i + 1) % l.length) ⟨0, 0⟩) := by
  have := zcr h hl
  cases hq : md (w64 ((i : Int) + 1)) (l.length : Int) with
  | none => rw [hq] at this; simp at this
  | some q =>
    rw [hq] at this
    simp only [Option.bind_some] at this ⊢
    rw [this, Option.bind_some]
theorem zPJ {l : List zG} (hl : l.length ≤ 9223372036854775807) : ∀ (suf : List zG) (i : Nat), i + suf.length = l.length → WZ l suf i = some (zMU l suf i)
  | [], _, _ => rfl
  | x :: r, i, h => by
    simp at h
    rw [WZ, zMU, zKN (by omega) hl, zPJ hl r (i + 1) (by omega)]
    split <;> rfl
theorem zb5 {l : List zG} (hl : l.length ≤ 9223372036854775807) : zCx l = some (if (l.length : Int) < 4 then false else zMU l l 0) := by
  unfold zCx
  rw [zPJ hl l 0 (by omega)]
  split
  · rename_i h; rw [if_pos (by simpa using h)]
  · rename_i h; rw [if_neg (by simpa using h)]
def ptB (q : zG) : Bool := (decide (-1000000 ≤ q.X) && decide (q.X ≤ 1000000)) && (decide (-1000000 ≤ q.Y) && decide (q.Y ≤ 1000000))
theorem zcl {q : zG} : ptB q = true ↔ (-1000000 ≤ q.X ∧ q.X ≤ 1000000) ∧ (-1000000 ≤ q.Y ∧ q.Y ≤ 1000000) := by unfold ptB; simp
theorem zfQ (q : zG) : zCH q = some (ptB q) := by
  have h : ∀ x : Int, zAN x = some (decide (-1000000 ≤ x) && decide (x ≤ 1000000)) := fun x => rfl
  unfold zCH ptB
  rw [h, h, Option.bind_some, Option.bind_some]
  cases (decide (-1000000 ≤ q.X) && decide (q.X ≤ 1000000)) <;> simp
theorem zfR (q : zG) : We q = some (ptB q) := by
  have h : ∀ x : Int, Kq x = some (decide (-1000000 ≤ x) && decide (x ≤ 1000000)) := fun x => rfl
  unfold We ptB
  rw [h, h, Option.bind_some, Option.bind_some]
  cases (decide (-1000000 ≤ q.X) && decide (q.X ≤ 1000000)) <;> simp
def zC6 (l : List zG) : Int := if (l.length : Int) < 4 then 3 else if (l.any fun q => !ptB q) = true then 1 else if zMU l l 0 = true then 0 else 3
def zAn : List (List zG) → Int
  | [] => 0
  | l :: r => if zC6 l = 0 then zAn r else zC6 l
theorem zF1 {l : List zG} {r : List (List zG)} {k : Int} (h : zC6 l = k) (hk : k ≠ 0) : zAn (l :: r) = k := by
  rw [zAn, h, if_neg hk]
theorem zKB {l : List zG} {r : List (List zG)} (h : zC6 l = 0) : zAn (l :: r) = zAn r := by
  rw [zAn, if_pos h]
theorem zL1 : zAn [] = 0 := rfl
theorem zco (l : List zG) : Kt l WA = some (l.any fun q => !ptB q) := by
  have key : ∀ (l : List zG) (i : Nat), JU WA l i = some (zOL (fun q => !ptB q) l (i : Int)) := by
    intro l
    induction l with
    | nil => intro i; rfl
    | cons x r ih =>
      intro i
      rw [JU, zOL, ih]
      have e : WA x = some (!ptB x) := by
        unfold WA
        rw [zfQ]; rfl
      rw [e, Option.bind_some]
      split <;> rfl
  unfold Kt zAM
  rw [key, Option.bind_some]
  exact congrArg some (zTc _ l 0 (by omega))
theorem zO0 {N : Nat} {p0 : List (List zG)} : ∀ (suf : List (List zG)) (i : Nat), (∀ l ∈ suf, l.length ≤ 9223372036854775807) → VH N p0 suf i = if zAn suf = 0 then (zA6 N p0).bind fun zGJ => (Wt N zGJ).bind fun zGU => some (zGU.1, zGU.2) else some ([], zAn suf)
  | [], i, _ => by
    rw [VH.eq_1, if_pos zL1]
  | l :: suf, i, hl => by
    have hll := hl l (by simp)
    rw [VH.eq_2]
    by_cases h4 : (l.length : Int) < 4
    · have e : zC6 l = 3 := if_pos h4
      rw [if_pos (by simpa using h4), zF1 e (by decide), if_neg (by decide)]
    · rw [if_neg (by simpa using h4)]
      show (Kt l WA).bind _ = _
      rw [zco, Option.bind_some]
      by_cases hp : (l.any fun q => !ptB q) = true
      · have e : zC6 l = 1 := (if_neg h4).trans (if_pos hp)
        rw [if_pos hp, zF1 e (by decide), if_neg (by decide)]
      · rw [if_neg hp, zb5 hll, Option.bind_some, if_neg h4]
        by_cases hr : zMU l l 0 = true
        · have e : zC6 l = 0 := (if_neg h4).trans ((if_neg hp).trans (if_pos hr))
          rw [if_neg (by simp [hr]), zKB e]
          exact zO0 suf (i + 1) fun m hm => hl m (by simp [hm])
        · have e : zC6 l = 3 := (if_neg h4).trans ((if_neg hp).trans (if_neg hr))
          rw [if_pos (by simpa using hr), zF1 e (by decide), if_neg (by decide)]
theorem zO1 {N : Nat} {p0 : List (List zG)} : ∀ (suf : List (List zG)) (i : Nat) (n : Int), Vf N p0 suf i n = if 2000 < zIS suf n then some ([], 2) else VH N p0 p0 0
  | [], i, n => by
    rw [Vf.eq_1]
    unfold zIS
    by_cases h : 2000 < n
    · rw [if_pos (by simpa using h), if_pos h]
    · rw [if_neg (by simpa using h), if_neg h]
  | p :: suf, i, n => by rw [Vf.eq_2, zO1 suf]; rfl
theorem zWV {N : Nat} {p0 : List (List zG)} (hl : ∀ l ∈ p0, l.length ≤ 9223372036854775807) : zBn N p0 = if 2000 < zIS p0 0 then some ([], 2) else if zAn p0 = 0 then (zA6 N p0).bind fun zGJ => (Wt N zGJ).bind fun zGU => some (zGU.1, zGU.2) else some ([], zAn p0) := by
  unfold zBn
  rw [zO1, zO0 p0 0 hl]
theorem zWq {l : List zG} (hl : l.length ≤ 1000000000) : ∀ (suf pre : List zG) (m : Nat), l = pre ++ suf → suf.length < m → JY l m (pre.length : Int) = some (if zMU l suf pre.length = true then 0 else 3)
  | _, _, 0, _, hm => absurd hm (Nat.not_lt_zero _)
  | [], pre, m + 1, h, _ => by
    rw [JY.eq_2, if_neg (by rw [h]; simp)]; rfl
  | x :: r, pre, m + 1, h, hm => by
    have hlen : l.length = pre.length + (r.length + 1) := by rw [h]; simp
    have hid : idx l (pre.length : Int) = some x := by rw [h]; exact Qn _ _ _
    rw [JY.eq_2, if_pos (by rw [h]; exact zBz pre r x), hid, Option.bind_some, zKN (by omega) (by omega), zMU]
    split
    · simp
    · rw [zMe pre x (by omega), zWq hl r (pre ++ [x]) m (by rw [h]; simp) (by simp at hm; omega)]
      simp
theorem zWr {N : Nat} (hN : 10000000000 ≤ N) {l : List zG} (hl : l.length ≤ 1000000000) : ∀ (suf pre : List zG) (m : Nat), l = pre ++ suf → suf.length < m → JZ N l m (pre.length : Int) = some (if (suf.any fun q => !ptB q) = true then 1 else if zMU l l 0 = true then 0 else 3)
  | _, _, 0, _, hm => absurd hm (Nat.not_lt_zero _)
  | [], pre, m + 1, h, _ => by
    rw [JZ.eq_2, if_neg (by rw [h]; simp), if_neg (by simp)]
    exact zWq hl l [] N rfl (by omega)
  | x :: r, pre, m + 1, h, hm => by
    have hlen : l.length = pre.length + (r.length + 1) := by rw [h]; simp
    have hid : idx l (pre.length : Int) = some x := by rw [h]; exact Qn _ _ _
    rw [JZ.eq_2, if_pos (by rw [h]; exact zBz pre r x), hid, Option.bind_some, zfR, Option.bind_some, List.any_cons]
    cases hp : ptB x
    · simp
    · rw [if_neg (by simp), zMe pre x (by omega), zWr hN hl r (pre ++ [x]) m (by rw [h]; simp) (by simp at hm; omega)]
      simp
theorem zUk {N : Nat} (hN : 10000000000 ≤ N) {l : List zG} (hl : l.length ≤ 1000000000) : WN N l = some (zC6 l) := by
  unfold WN zC6
  by_cases h4 : (l.length : Int) < 4
  · rw [if_pos (by simpa using h4), if_pos h4]
  · rw [if_neg (by simpa using h4), if_neg h4]
    exact zWr hN hl l [] N rfl (by omega)
theorem zL7 {N : Nat} (hN : 10000000000 ≤ N) {p0 : List (List zG)} (hp : p0.length ≤ 1000000000) (hl : ∀ l ∈ p0, l.length ≤ 1000000000) : ∀ (suf pre : List (List zG)) (m : Nat), p0 = pre ++ suf → suf.length < m → JQ N p0 m (pre.length : Int) = if zAn suf = 0 then (Ko N p0).bind fun zDO => (Vi zDO).bind fun zHn => some (zHn.1, zHn.2) else some ([], zAn suf)
  | _, _, 0, _, hm => absurd hm (Nat.not_lt_zero _)
  | [], pre, m + 1, h, _ => by
    rw [JQ.eq_2, if_neg (by rw [h]; simp), if_pos zL1]
  | l :: suf, pre, m + 1, h, hm => by
    have hpl : pre.length + 1 ≤ 1000000000 := by rw [h] at hp; simp at hp; omega
    have hid : idx p0 (pre.length : Int) = some l := by rw [h]; exact Qn _ _ _
    rw [JQ.eq_2, if_pos (by rw [h]; exact zBz pre suf l), hid, Option.bind_some, zUk hN (hl l (by rw [h]; simp)), Option.bind_some]
    by_cases he : zC6 l = 0
    · rw [if_neg (by simpa using he), zKB he, zAP pre l (by omega), zL7 hN hp hl suf (pre ++ [l]) m (by rw [h]; simp) (by simp at hm; omega)]
    · rw [if_pos (by simpa using he), zF1 rfl he, if_neg he]
theorem zL8 {N : Nat} {p0 : List (List zG)} (hp : p0.length ≤ 1000000000) : ∀ (suf pre : List (List zG)) (m : Nat) (n : Int), p0 = pre ++ suf → suf.length < m → Jw N p0 m n (pre.length : Int) = if 2000 < zIS suf n then some ([], 2) else JQ N p0 N 0
  | _, _, 0, _, _, hm => absurd hm (Nat.not_lt_zero _)
  | [], pre, m + 1, n, h, _ => by
    rw [Jw.eq_2, if_neg (by rw [h]; simp)]
    unfold zIS
    by_cases h : 2000 < n
    · rw [if_pos (by simpa using h), if_pos h]
    · rw [if_neg (by simpa using h), if_neg h]
  | p :: suf, pre, m + 1, n, h, hm => by
    have hpl : pre.length + 1 ≤ 1000000000 := by rw [h] at hp; simp at hp; omega
    have hid : idx p0 (pre.length : Int) = some p := by rw [h]; exact Qn pre suf p
    rw [Jw.eq_2, if_pos (by rw [h]; exact zBz pre suf p), hid, Option.bind_some, zAP pre p (by omega)]
    rw [zL8 hp suf (pre ++ [p]) m _ (by rw [h]; simp) (by simp at hm; omega)]; rfl
theorem zWU {N : Nat} (hN : 10000000000 ≤ N) {p0 : List (List zG)} (hp : p0.length ≤ 1000000000) (hl : ∀ l ∈ p0, l.length ≤ 1000000000) : WB N p0 = if 2000 < zIS p0 0 then some ([], 2) else if zAn p0 = 0 then (Ko N p0).bind fun zDO => (Vi zDO).bind fun zHn => some (zHn.1, zHn.2) else some ([], zAn p0) := by
  unfold WB
  have h1 := zL8 (N := N) hp p0 [] N 0 rfl (by omega)
  have h2 := zL7 hN hp hl p0 [] N rfl (by omega)
  have e0 : ((([] : List (List zG)).length : Nat) : Int) = 0 := rfl
  rw [e0] at h1 h2
  rw [h1, h2]
end Go.Proofs.YtacapjleiadkkaaGreat
