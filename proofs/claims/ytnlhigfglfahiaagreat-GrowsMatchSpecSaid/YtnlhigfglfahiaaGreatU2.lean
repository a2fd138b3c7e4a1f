/- Two lists of stretches, and two sets, combined: the reference. Plain Lean about the plain functions. -/
import Derived.Test.YtnlhigfglfahiaaGreatS5
import Derived.Test.YtnlhigfglfahiaaGreatU1
namespace Go.Proofs.YtnlhigfglfahiaaGreat
theorem inside_ok {N : Nat} {l : List (Int × Int)} {x : Int} (hN : 10000000000 ≤ N) (hl : l.length ≤ 1000000000) : ∃ b : Bool, F_etchhouseref1_inside N (l.map toSp) x = some b ∧ (b = true ↔ InS x l) := by
  have key : ∀ (suf pre : List (Int × Int)) (m : Nat), l = pre ++ suf → suf.length < m → ∃ b : Bool, F_etchhouseref1_inside_L1 (l.map toSp) x m pre.length = some b ∧ (b = true ↔ InS x suf) := by
    intro suf
    induction suf with
    | nil =>
      intro pre m h1 h2
      obtain ⟨m, rfl⟩ : ∃ k, m = k + 1 := ⟨m - 1, by omega⟩
      rw [F_etchhouseref1_inside_L1.eq_2, if_neg (by rw [h1]; simp)]
      exact ⟨false, rfl, by simp [InS_nil]⟩
    | cons p suf ih =>
      intro pre m h1 h2
      obtain ⟨m, rfl⟩ : ∃ k, m = k + 1 := ⟨m - 1, by omega⟩
      have hpl : pre.length ≤ 1000000000 := by rw [h1] at hl; simp at hl; omega
      have hid : idx (l.map toSp) (pre.length : Int) = some (toSp p) := by
        rw [h1, List.map_append, List.map_cons, show pre.length = (pre.map toSp).length by simp]; exact idx_mid _ _ _
      obtain ⟨b, b1, b2⟩ := ih (pre ++ [p]) m (by rw [h1]; simp) (by simp at h2; omega)
      rw [F_etchhouseref1_inside_L1.eq_2, if_pos (by rw [h1]; simp; omega), hid, Option.bind_some, Option.bind_some, up_mid pre p (by omega), b1]
      by_cases c1 : p.1 ≤ x
      · rw [if_pos (decide_eq_true (show (toSp p).from_ ≤ x from c1)), Option.bind_some]
        by_cases c2 : x < p.2
        · rw [if_pos (decide_eq_true (show x < (toSp p).to_ from c2))]
          exact ⟨true, rfl, by simp [InS_cons, c1, c2]⟩
        · rw [if_neg (show ¬ decide (x < (toSp p).to_) = true from by rw [decide_eq_true_eq]; exact c2)]
          exact ⟨b, rfl, by rw [InS_cons, b2]; simp [c2]⟩
      · rw [if_neg (show ¬ decide ((toSp p).from_ ≤ x) = true from by rw [decide_eq_true_eq]; exact c1), Option.bind_some, if_neg (by simp)]
        exact ⟨b, rfl, by rw [InS_cons, b2]; simp [c1]⟩
  exact key l [] N rfl (by omega)
/-- The ways of combining. -/
def wayK (w : Int) (p q : Bool) : Bool := (((w == 1) && (p || q)) || (((w == 2) && p) && q)) || (((w == 3) && p) && !q)
theorem wayK_ff (w : Int) : wayK w false false = false := by unfold wayK; simp
/-- Between ends nothing changes. -/
theorem InS_between {l : List (Int × Int)} {a x : Int} (hax : a ≤ x) (h : ∀ p ∈ l, (p.1 ≤ a ∨ x < p.1) ∧ (p.2 ≤ a ∨ x < p.2)) : InS x l ↔ InS a l := by
  unfold InS
  constructor
  · rintro ⟨p, hp, h1, h2⟩; have := h p hp; exact ⟨p, hp, by omega, by omega⟩
  · rintro ⟨p, hp, h1, h2⟩; have := h p hp; exact ⟨p, hp, by omega, by omega⟩
/-- A number is kept, by whether it is in the one and in the other one. -/
def KeptS (k : Bool → Bool → Bool) (l m : List (Int × Int)) (x : Int) : Prop := ∃ p q, (p = true ↔ InS x l) ∧ (q = true ↔ InS x m) ∧ k p q = true
theorem KeptS_iff {k : Bool → Bool → Bool} {l m : List (Int × Int)} {x : Int} {p q : Bool} (hp : p = true ↔ InS x l) (hq : q = true ↔ InS x m) : KeptS k l m x ↔ k p q = true := by
  constructor
  · rintro ⟨p', q', h1, h2, h⟩
    have e1 : p' = p := by rw [Bool.eq_iff_iff, h1, hp]
    have e2 : q' = q := by rw [Bool.eq_iff_iff, h2, hq]
    rw [← e1, ← e2]; exact h
  · exact fun h => ⟨p, q, hp, hq, h⟩
theorem mem_flatS {l : List (Int × Int)} {z : Int} : z ∈ flatS l ↔ ∃ p ∈ l, z = p.1 ∨ z = p.2 := by unfold flatS; simp [List.mem_flatMap]
theorem mixed_ok {N : Nat} {l m : List (Int × Int)} {w : Int} (hN : 10000000000 ≤ N) (hl : l.length ≤ 100000000) (hm : m.length ≤ 100000000) (hlm : ∀ p ∈ l ++ m, p.1 < p.2) : ∃ C, F_etchhouseref1_mixed N (l.map toSp) (m.map toSp) w = some (C.map toSp) ∧ (∃ lo, Can lo C) ∧ C.length ≤ 2 * l.length + 2 * m.length ∧ ∀ x, InS x C ↔ KeptS (wayK w) l m x := by
  -- the last loop
  have L3 : ∀ (xs : List Int), xs.Pairwise (fun a b => a < b) → (∀ z, z ∈ xs ↔ z ∈ flatS (l ++ m)) → xs.length ≤ 2 * l.length + 2 * m.length → ∃ C, F_etchhouseref1_mixed_L3 N (l.map toSp) (m.map toSp) w xs N [] 1 = some (C.map toSp) ∧ (∃ lo, Can lo C) ∧ C.length ≤ 2 * l.length + 2 * m.length ∧ ∀ x, InS x C ↔ KeptS (wayK w) l m x := by
    intro xs hs hmem hxl
    have hends : ∀ p ∈ l ++ m, p.1 ∈ xs ∧ p.2 ∈ xs := fun p hp => ⟨(hmem _).2 (mem_flatS.2 ⟨p, hp, .inl rfl⟩), (hmem _).2 (mem_flatS.2 ⟨p, hp, .inr rfl⟩)⟩
    have hout : ∀ x, (∀ z ∈ xs, x < z) ∨ (∀ z ∈ xs, z ≤ x) → ¬ KeptS (wayK w) l m x := fun x hx => by
      have no : ∀ {l' : List (Int × Int)}, (∀ p ∈ l', p ∈ l ++ m) → ¬ InS x l' := fun h ⟨p, hp, h1, h2⟩ => by
        have e := hends p (h p hp)
        rcases hx with hx | hx
        · have := hx _ e.1; omega
        · have := hx _ e.2; omega
      rw [KeptS_iff (p := false) (q := false) (by simp [no (l' := l) (fun p hp => List.mem_append_left _ hp)]) (by simp [no (l' := m) (fun p hp => List.mem_append_right _ hp)]), wayK_ff]
      simp
    obtain ⟨lo, hlo⟩ := lo_ex xs
    have key : ∀ (suf pre : List Int) (a : Int) (k : Nat) (out : List (Int × Int)), xs = pre ++ a :: suf → suf.length < k → out.length ≤ pre.length → Can lo out → (∀ x, InS x out ↔ x < a ∧ KeptS (wayK w) l m x) →
        ∃ C, F_etchhouseref1_mixed_L3 N (l.map toSp) (m.map toSp) w xs k (out.map toSp) ((pre.length : Int) + 1) = some (C.map toSp) ∧ (∃ lo, Can lo C) ∧ C.length ≤ xs.length ∧ ∀ x, InS x C ↔ KeptS (wayK w) l m x := by
      intro suf
      induction suf with
      | nil =>
        intro pre a k out h1 h2 h3 h4 h5
        obtain ⟨k, rfl⟩ : ∃ j, k = j + 1 := ⟨k - 1, by omega⟩
        rw [F_etchhouseref1_mixed_L3.eq_2, if_neg (by rw [h1]; simp)]
        refine ⟨out, rfl, ⟨lo, h4⟩, by rw [h1]; simp; omega, fun x => (h5 x).trans ⟨fun h => h.2, fun h => ⟨?_, h⟩⟩⟩
        rcases Int.lt_or_le x a with hx | hx
        · exact hx
        · refine absurd h (hout x (.inr fun z hz => ?_))
          rw [h1] at hz hs
          rcases List.mem_append.1 hz with hz | hz
          · have := (List.pairwise_append.1 hs).2.2 z hz a (by simp); omega
          · simp at hz; omega
      | cons b suf ih =>
        intro pre a k out h1 h2 h3 h4 h5
        obtain ⟨k, rfl⟩ : ∃ j, k = j + 1 := ⟨k - 1, by omega⟩
        have hpl : pre.length + 2 ≤ 400000000 := by rw [h1] at hxl; simp at hxl; omega
        have hw : w64 ((pre.length : Int) + 1 - 1) = (pre.length : Int) := by rw [w64_id (by omega) (by omega)]; omega
        have ha : idx xs (pre.length : Int) = some a := by rw [h1]; exact idx_mid pre _ a
        have hb : idx xs ((pre.length : Int) + 1) = some b := by
          rw [h1, show pre ++ a :: b :: suf = (pre ++ [a]) ++ b :: suf by simp, show ((pre.length : Int) + 1) = ((pre ++ [a]).length : Int) by simp]
          exact idx_mid (pre ++ [a]) _ b
        obtain ⟨p, p1, p2⟩ := inside_ok (x := a) hN (show l.length ≤ 1000000000 by omega)
        obtain ⟨q, q1, q2⟩ := inside_ok (x := a) hN (show m.length ≤ 1000000000 by omega)
        have hs1 : (a :: b :: suf).Pairwise (fun a b => a < b) := by rw [h1] at hs; exact (List.pairwise_append.1 hs).2.1
        have hab : a < b := (List.pairwise_cons.1 hs1).1 b (by simp)
        have hgap : ∀ x, a ≤ x → x < b → ∀ z ∈ xs, z ≤ a ∨ x < z := fun x x1 x2 z hz => by
          rw [h1] at hz hs
          rcases List.mem_append.1 hz with hz | hz
          · have := (List.pairwise_append.1 hs).2.2 z hz a (by simp); exact .inl (by omega)
          · rcases List.mem_cons.1 hz with rfl | hz
            · exact .inl (Int.le_refl _)
            · rcases List.mem_cons.1 hz with rfl | hz
              · exact .inr x2
              · have := (List.pairwise_cons.1 (List.pairwise_cons.1 hs1).2).1 z hz; exact .inr (by omega)
        have hkept : ∀ x, a ≤ x → x < b → (KeptS (wayK w) l m x ↔ wayK w p q = true) := fun x x1 x2 => by
          have g := hgap x x1 x2
          refine KeptS_iff (p2.trans (InS_between x1 fun r hr => ?_).symm) (q2.trans (InS_between x1 fun r hr => ?_).symm)
          · have := hends r (List.mem_append_left _ hr); exact ⟨g _ this.1, g _ this.2⟩
          · have := hends r (List.mem_append_right _ hr); exact ⟨g _ this.1, g _ this.2⟩
        rw [F_etchhouseref1_mixed_L3.eq_2, if_pos (by rw [h1]; simp; omega), hw, ha, Option.bind_some, p1, Option.bind_some, Option.bind_some, q1, Option.bind_some, Option.bind_some, hb, Option.bind_some, w64_id (x := (pre.length : Int) + 1 + 1) (by omega) (by omega)]
        have hup : (pre.length : Int) + 1 + 1 = ((pre ++ [a]).length : Int) + 1 := by simp
        have hwk : ((((w == 1) && (p || q)) || (((w == 2) && p) && q)) || (((w == 3) && p) && !q)) = wayK w p q := rfl
        rw [hwk]
        by_cases hkpq : wayK w p q = true
        · rw [if_pos hkpq]
          have hj := joined_ok (N := N) (l := out) (p := (a, b)) hN (by omega)
          have hj' : F_etchhouseref1_joined N (out.map toSp) (TSpan.mk a b) = some ((join1 out (a, b)).map toSp) := hj
          rw [hj', Option.bind_some, hup]
          obtain ⟨j1, j2⟩ := join1_ok h4 (show lo < (a, b).1 from hlo a (by rw [h1]; simp)) hab
          have hjl := join1_len out (a, b)
          refine ih (pre ++ [a]) b k (join1 out (a, b)) (by rw [h1]; simp) (by simp at h2; omega) (by simp; omega) j1 fun x => ?_
          rw [j2, InS_append, h5]
          have e1 : InS x [(a, b)] ↔ (a ≤ x ∧ x < b) := by unfold InS; simp
          rw [e1]
          constructor
          · rintro (h | h)
            · exact ⟨by omega, h.2⟩
            · exact ⟨h.2, (hkept x h.1 h.2).2 hkpq⟩
          · rintro ⟨h, h'⟩
            rcases Int.lt_or_le x a with hx | hx
            · exact .inl ⟨hx, h'⟩
            · exact .inr ⟨hx, h⟩
        · rw [if_neg hkpq, hup]
          refine ih (pre ++ [a]) b k out (by rw [h1]; simp) (by simp at h2; omega) (by simp; omega) h4 fun x => ?_
          rw [h5]
          constructor
          · rintro ⟨h, h'⟩; exact ⟨by omega, h'⟩
          · rintro ⟨h, h'⟩
            rcases Int.lt_or_le x a with hx | hx
            · exact ⟨hx, h'⟩
            · exact absurd ((hkept x hx h).1 h') hkpq
    cases xs with
    | nil =>
      obtain ⟨k, hk⟩ : ∃ k, N = k + 1 := ⟨N - 1, by omega⟩
      have hf : F_etchhouseref1_mixed_L3 N (l.map toSp) (m.map toSp) w [] N [] 1 = F_etchhouseref1_mixed_L3 N (l.map toSp) (m.map toSp) w [] (k + 1) [] 1 := congrArg (fun z => F_etchhouseref1_mixed_L3 N (l.map toSp) (m.map toSp) w [] z [] 1) hk
      rw [hf, F_etchhouseref1_mixed_L3.eq_2, if_neg (by simp)]
      exact ⟨[], rfl, ⟨0, trivial⟩, by simp, fun x => ⟨fun h => absurd h InS_nil, fun h => absurd h (hout x (.inl (by simp)))⟩⟩
    | cons a suf =>
      obtain ⟨C, c1, c2, c3, c4⟩ := key suf [] a N [] rfl (by simp at hxl; omega) (by simp) trivial (fun x => by
        constructor
        · intro h; exact absurd h InS_nil
        · rintro ⟨hx, h⟩
          refine absurd h (hout x (.inl fun z hz => ?_))
          rcases List.mem_cons.1 hz with rfl | hz
          · exact hx
          · have := (List.pairwise_cons.1 hs).1 z hz; omega)
      exact ⟨C, c1, c2, by omega, c4⟩
  -- the ends of both
  have L2 : ∀ (suf pre : List (Int × Int)) (k : Nat) (out : List Int), m = pre ++ suf → suf.length < k → out.Pairwise (fun a b => a < b) → (∀ z, z ∈ out ↔ z ∈ flatS (l ++ pre)) → out.length ≤ 2 * l.length + 2 * pre.length →
      ∃ C, F_etchhouseref1_mixed_L2 N (l.map toSp) (m.map toSp) w k out pre.length = some (C.map toSp) ∧ (∃ lo, Can lo C) ∧ C.length ≤ 2 * l.length + 2 * m.length ∧ ∀ x, InS x C ↔ KeptS (wayK w) l m x := by
    intro suf
    induction suf with
    | nil =>
      intro pre k out h1 h2 h3 h4 h5
      obtain ⟨k, rfl⟩ : ∃ j, k = j + 1 := ⟨k - 1, by omega⟩
      rw [List.append_nil] at h1
      rw [F_etchhouseref1_mixed_L2.eq_2, if_neg (by rw [h1]; simp)]
      exact L3 out h3 (by rw [h1]; exact h4) (by rw [h1]; exact h5)
    | cons p suf ih =>
      intro pre k out h1 h2 h3 h4 h5
      obtain ⟨k, rfl⟩ : ∃ j, k = j + 1 := ⟨k - 1, by omega⟩
      have hpl : pre.length + 1 ≤ 100000000 := by rw [h1] at hm; simp at hm; omega
      have hid : idx (m.map toSp) (pre.length : Int) = some (toSp p) := by
        rw [h1, List.map_append, List.map_cons, show pre.length = (pre.map toSp).length by simp]; exact idx_mid _ _ _
      obtain ⟨o1, p1, p2, p3, p4⟩ := put_ok (x := p.1) hN h3 (by omega)
      obtain ⟨o2, q1, q2, q3, q4⟩ := put_ok (x := p.2) hN p2 (by omega)
      rw [F_etchhouseref1_mixed_L2.eq_2, if_pos (by rw [h1]; simp; omega), hid, Option.bind_some, Option.bind_some]
      have e1 : F_etchhouseref1_put N out (toSp p).from_ = some o1 := p1
      have e2 : F_etchhouseref1_put N o1 (toSp p).to_ = some o2 := q1
      rw [e1, Option.bind_some, e2, Option.bind_some, up_mid pre p (by omega)]
      refine ih (pre ++ [p]) k o2 (by rw [h1]; simp) (by simp at h2; omega) q2 (fun z => ?_) (by simp; omega)
      rw [q3, p3, h4, ← List.append_assoc, flatS_append (l ++ pre)]
      simp [flatS]
      constructor
      · rintro (h | h | h)
        · exact .inr (.inr (.inr h))
        · exact .inr (.inr (.inl h))
        · rcases h with h | h
          · exact .inl h
          · exact .inr (.inl h)
      · rintro (h | h | h | h)
        · exact .inr (.inr (.inl h))
        · exact .inr (.inr (.inr h))
        · exact .inr (.inl h)
        · exact .inl h
  have L1 : ∀ (suf pre : List (Int × Int)) (k : Nat) (out : List Int), l = pre ++ suf → suf.length < k → out.Pairwise (fun a b => a < b) → (∀ z, z ∈ out ↔ z ∈ flatS pre) → out.length ≤ 2 * pre.length →
      ∃ C, F_etchhouseref1_mixed_L1 N (l.map toSp) (m.map toSp) w k out pre.length = some (C.map toSp) ∧ (∃ lo, Can lo C) ∧ C.length ≤ 2 * l.length + 2 * m.length ∧ ∀ x, InS x C ↔ KeptS (wayK w) l m x := by
    intro suf
    induction suf with
    | nil =>
      intro pre k out h1 h2 h3 h4 h5
      obtain ⟨k, rfl⟩ : ∃ j, k = j + 1 := ⟨k - 1, by omega⟩
      rw [List.append_nil] at h1
      rw [F_etchhouseref1_mixed_L1.eq_2, if_neg (by rw [h1]; simp)]
      exact L2 m [] N out rfl (by omega) h3 (by rw [List.append_nil, h1]; exact h4) (by rw [h1]; simpa using h5)
    | cons p suf ih =>
      intro pre k out h1 h2 h3 h4 h5
      obtain ⟨k, rfl⟩ : ∃ j, k = j + 1 := ⟨k - 1, by omega⟩
      have hpl : pre.length + 1 ≤ 100000000 := by rw [h1] at hl; simp at hl; omega
      have hid : idx (l.map toSp) (pre.length : Int) = some (toSp p) := by
        rw [h1, List.map_append, List.map_cons, show pre.length = (pre.map toSp).length by simp]; exact idx_mid _ _ _
      obtain ⟨o1, p1, p2, p3, p4⟩ := put_ok (x := p.1) hN h3 (by omega)
      obtain ⟨o2, q1, q2, q3, q4⟩ := put_ok (x := p.2) hN p2 (by omega)
      rw [F_etchhouseref1_mixed_L1.eq_2, if_pos (by rw [h1]; simp; omega), hid, Option.bind_some, Option.bind_some]
      have e1 : F_etchhouseref1_put N out (toSp p).from_ = some o1 := p1
      have e2 : F_etchhouseref1_put N o1 (toSp p).to_ = some o2 := q1
      rw [e1, Option.bind_some, e2, Option.bind_some, up_mid pre p (by omega)]
      refine ih (pre ++ [p]) k o2 (by rw [h1]; simp) (by simp at h2; omega) q2 (fun z => ?_) (by simp; omega)
      rw [q3, p3, h4, flatS_append pre]
      simp [flatS]
      constructor
      · rintro (h | h | h)
        · exact .inr (.inr h)
        · exact .inr (.inl h)
        · exact .inl h
      · rintro (h | h | h)
        · exact .inr (.inr h)
        · exact .inr (.inl h)
        · exact .inl h
  exact L1 l [] N [] rfl (by omega) .nil (fun z => by simp [flatS]) (by simp)
end Go.Proofs.YtnlhigfglfahiaaGreat
