/- Sets of squares: what grows, what shrinks; how many rectangles they can have. Plain Lean. -/
import Derived.Test.YtnlhigfglfahiaaU1
namespace Go.Proofs.Ytnlhigfglfahiaa
/-- Squares so near to a set; squares so deep in it. -/
def Nr (n : Int) (S : Int → Int → Prop) (x y : Int) : Prop := ∃ u v, S u v ∧ (x - n ≤ u ∧ u ≤ x + n) ∧ (y - n ≤ v ∧ v ≤ y + n)
def Deep (n : Int) (S : Int → Int → Prop) (x y : Int) : Prop := ∀ u v, (x - n ≤ u ∧ u ≤ x + n) → (y - n ≤ v ∧ v ≤ y + n) → S u v
def widen (n : Int) (r : TRect) : TRect := ⟨r.X0 - n, r.Y0 - n, r.X1 + n, r.Y1 + n⟩
theorem widen_ne {n : Int} (hn : 0 ≤ n) {l : List TRect} (h : ∀ r ∈ l, r.X0 < r.X1 ∧ r.Y0 < r.Y1) : ∀ r ∈ l.map (widen n), r.X0 < r.X1 ∧ r.Y0 < r.Y1 := fun r hr => by
  obtain ⟨q, hq, rfl⟩ := List.mem_map.1 hr
  have := h q hq
  show q.X0 - n < q.X1 + n ∧ q.Y0 - n < q.Y1 + n
  omega
theorem InR_widen {n : Int} (hn : 0 ≤ n) {l : List TRect} (h : ∀ r ∈ l, r.X0 < r.X1 ∧ r.Y0 < r.Y1) (x y : Int) : InR x y (l.map (widen n)) ↔ Nr n (fun u v => InR u v l) x y := by
  unfold InR Nr
  constructor
  · rintro ⟨r, hr, hx, hy⟩
    obtain ⟨q, hq, rfl⟩ := List.mem_map.1 hr
    have := h q hq
    have hx : q.X0 - n ≤ x ∧ x < q.X1 + n := hx
    have hy : q.Y0 - n ≤ y ∧ y < q.Y1 + n := hy
    refine ⟨max q.X0 (min x (q.X1 - 1)), max q.Y0 (min y (q.Y1 - 1)), ⟨q, hq, ⟨by omega, by omega⟩, by omega, by omega⟩, ⟨by omega, by omega⟩, by omega, by omega⟩
  · rintro ⟨u, v, ⟨q, hq, hu, hv⟩, h1, h2⟩
    refine ⟨widen n q, List.mem_map.2 ⟨q, hq, rfl⟩, ?_, ?_⟩
    · show q.X0 - n ≤ x ∧ x < q.X1 + n; omega
    · show q.Y0 - n ≤ y ∧ y < q.Y1 + n; omega
/-- What is not near to what lies around is deep. -/
theorem core_pts {n : Int} (hn : 0 ≤ n) {S B : Int → Int → Prop} (hB : ∀ x y, S x y → ∀ u v, (x - n ≤ u ∧ u ≤ x + n) → (y - n ≤ v ∧ v ≤ y + n) → B u v) (x y : Int) : (S x y ∧ ¬ Nr n (fun u v => B u v ∧ ¬ S u v) x y) ↔ (S x y ∧ Deep n S x y) := by
  constructor
  · rintro ⟨h1, h2⟩
    refine ⟨h1, fun u v hu hv => Classical.byContradiction fun hs => h2 ⟨u, v, ⟨hB x y h1 u v hu hv, hs⟩, hu, hv⟩⟩
  · rintro ⟨h1, h2⟩
    exact ⟨h1, fun ⟨u, v, ⟨_, hs⟩, hu, hv⟩ => hs (h2 u v hu hv)⟩
theorem deep_in {n : Int} (hn : 0 ≤ n) {S : Int → Int → Prop} {x y : Int} (h : Deep n S x y) : S x y := h x y (by omega) (by omega)
theorem Nr_congr {n : Int} {S T : Int → Int → Prop} (h : ∀ x y, S x y ↔ T x y) (x y : Int) : Nr n S x y ↔ Nr n T x y := by
  unfold Nr
  constructor
  · rintro ⟨u, v, h1, h2⟩; exact ⟨u, v, (h u v).1 h1, h2⟩
  · rintro ⟨u, v, h1, h2⟩; exact ⟨u, v, (h u v).2 h1, h2⟩
theorem Nr_add {n m : Int} (hn : 0 ≤ n) (hm : 0 ≤ m) {S : Int → Int → Prop} (x y : Int) : Nr m (Nr n S) x y ↔ Nr (n + m) S x y := by
  unfold Nr
  constructor
  · rintro ⟨u, v, ⟨a, b, h1, h2, h3⟩, h4, h5⟩
    exact ⟨a, b, h1, by omega, by omega⟩
  · rintro ⟨a, b, h1, h2, h3⟩
    refine ⟨max (x - m) (min (x + m) a), max (y - m) (min (y + m) b), ⟨a, b, h1, by omega, by omega⟩, by omega, by omega⟩
/-- Ascending numbers of a list are no more than it has. -/
theorem strict_aft {ys : List Int} : ∀ {l : List Int} {a : Int}, l.Pairwise (fun x y => x < y) → (∀ z ∈ l, z ∈ ys ∧ a < z) → l.length ≤ aft ys a
  | [], _, _, _ => Nat.zero_le _
  | b :: l, a, h, hm => by
    have hb := hm b (by simp)
    have h2 := List.pairwise_cons.1 h
    have i := strict_aft (ys := ys) (a := b) h2.2 fun z hz => ⟨(hm z (by simp [hz])).1, h2.1 z hz⟩
    have := aft_lt hb.2 hb.1
    rw [List.length_cons]
    omega
theorem strict_len {ys l : List Int} (h : l.Pairwise fun x y => x < y) (hm : ∀ z ∈ l, z ∈ ys) : l.length ≤ ys.length := by
  obtain ⟨a, ha⟩ := lo_ex l
  exact Nat.le_trans (strict_aft (a := a) h fun z hz => ⟨hm z hz, ha z hz⟩) (aft_len _ _)
/-- Where a set begins and ends along X; where it changes along Y. -/
def XL (xs : List Int) (P : Int → Int → Prop) : Prop := ∀ x y, P x y → ¬ P (x - 1) y → x ∈ xs
def XR (xs : List Int) (P : Int → Int → Prop) : Prop := ∀ x y, ¬ P x y → P (x - 1) y → x ∈ xs
def YY (ys : List Int) (P : Int → Int → Prop) : Prop := ∀ x y, ¬ (P x y ↔ P x (y - 1)) → y ∈ ys
theorem Can.starts : ∀ {l : List (Int × Int)} {lo : Int}, Can lo l → (l.map (·.1)).Pairwise (fun x y => x < y) ∧ ∀ p ∈ l, InS p.1 l ∧ ¬ InS (p.1 - 1) l
  | [], _, _ => ⟨List.Pairwise.nil, by simp⟩
  | q :: l, lo, h => by
    obtain ⟨h1, h2, h3⟩ := h
    obtain ⟨i1, i2⟩ := h3.starts
    refine ⟨List.pairwise_cons.2 ⟨fun z hz => ?_, i1⟩, fun p hp => ?_⟩
    · obtain ⟨p, hp, rfl⟩ := List.mem_map.1 hz
      have := h3.mem p hp
      show q.1 < p.1; omega
    · rcases List.mem_cons.1 hp with rfl | hp
      · refine ⟨InS_cons.2 (.inl ⟨Int.le_refl _, h2⟩), fun h => ?_⟩
        rcases InS_cons.1 h with h | h
        · omega
        · have := h3.lt h; omega
      · obtain ⟨k1, k2⟩ := i2 p hp
        refine ⟨InS_cons.2 (.inr k1), fun h => ?_⟩
        rcases InS_cons.1 h with h | h
        · have := h3.mem p hp; omega
        · exact k2 h
theorem CanB.starts : ∀ {l : List Bd} {lo : Int}, CanB lo l → (l.map (·.1)).Pairwise (fun x y => x < y) ∧ ∀ b ∈ l, rowAt l (b.1 - 1) ≠ b.2.2
  | [], _, _ => ⟨List.Pairwise.nil, by simp⟩
  | c :: l, lo, h => by
    obtain ⟨h1, h2, h3, h4, h5⟩ := h
    obtain ⟨i1, i2⟩ := h5.starts
    refine ⟨List.pairwise_cons.2 ⟨fun z hz => ?_, i1⟩, fun b hb => ?_⟩
    · obtain ⟨p, hp, rfl⟩ := List.mem_map.1 hz
      have := h5.mem p hp
      show c.1 < p.1; omega
    · rcases List.mem_cons.1 hb with rfl | hb
      · have e : rowAt (b :: l) (b.1 - 1) = [] := by
          show (if b.1 ≤ b.1 - 1 ∧ b.1 - 1 < b.2.1 then b.2.2 else rowAt l (b.1 - 1)) = []
          rw [if_neg (by omega)]
          exact rowAt_lo h5 (by omega)
        rw [e]
        exact fun h => h3 h.symm
      · have hbm := h5.mem b hb
        show (if c.1 ≤ b.1 - 1 ∧ b.1 - 1 < c.2.1 then c.2.2 else rowAt l (b.1 - 1)) ≠ b.2.2
        split
        · cases l with
          | nil => simp at hb
          | cons d l =>
            have hd : b = d := by
              rcases List.mem_cons.1 hb with h | h
              · exact h
              · have := h5.2.2.2.2.mem b h; have := h5.1; have := h5.2.1; omega
            subst hd
            exact fun h => h4 b rfl (by omega) h.symm
        · exact i2 b hb
/-- How many rectangles a set has at most. -/
theorem tot_edges {C : List Bd} (h : BOk C) {xs ys : List Int} (hx : XL xs fun x y => InB x y C) (hy : YY ys fun x y => InB x y C) : C.length ≤ ys.length ∧ (∀ b ∈ C, b.2.2.length ≤ xs.length) ∧ (rectsB C).length ≤ xs.length * ys.length := by
  obtain ⟨lo, hc⟩ := h.can
  obtain ⟨s1, s2⟩ := hc.starts
  have k1 : C.length ≤ ys.length := by
    have := strict_len (ys := ys) s1 fun z hz => by
      obtain ⟨b, hb, rfl⟩ := List.mem_map.1 hz
      refine Classical.byContradiction fun hn => ?_
      have hall : ∀ x, InB x b.1 C ↔ InB x (b.1 - 1) C := fun x => Classical.byContradiction fun hne => hn (hy x b.1 hne)
      refine s2 b hb ?_
      have hbm := hc.mem b hb
      rw [← rowAt_of hc hb (Int.le_refl _) hbm.2.1]
      exact can_eq (h.at _) (h.at _) fun x => (hall x).symm
    simpa using this
  have k2 : ∀ b ∈ C, b.2.2.length ≤ xs.length := fun b hb => by
    obtain ⟨lo', hr⟩ := h.row b hb
    obtain ⟨r1, r2⟩ := hr.starts
    have hbm := hc.mem b hb
    have := strict_len (ys := xs) r1 fun z hz => by
      obtain ⟨p, hp, rfl⟩ := List.mem_map.1 hz
      obtain ⟨a1, a2⟩ := r2 p hp
      have e := rowAt_of hc hb (Int.le_refl _) hbm.2.1
      refine hx p.1 b.1 ?_ ?_
      · show InS p.1 (rowAt C b.1); rw [e]; exact a1
      · show ¬ InS (p.1 - 1) (rowAt C b.1); rw [e]; exact a2
    simpa using this
  exact ⟨k1, k2, Nat.le_trans (rectsB_len k2) (Nat.mul_le_mul_left _ k1)⟩
theorem edges_R (l : List TRect) : XL (l.map (·.X0)) (fun x y => InR x y l) ∧ XR (l.map (·.X1)) (fun x y => InR x y l) ∧ YY (ysOfR l) (fun x y => InR x y l) := by
  refine ⟨fun x y ⟨r, hr, h1, h2⟩ hn => ?_, fun x y hn ⟨r, hr, h1, h2⟩ => ?_, fun x y hn => ?_⟩
  · refine List.mem_map.2 ⟨r, hr, ?_⟩
    have : ¬ r.X0 ≤ x - 1 := fun h => hn ⟨r, hr, ⟨h, by omega⟩, h2⟩
    show r.X0 = x; omega
  · refine List.mem_map.2 ⟨r, hr, ?_⟩
    have : ¬ x < r.X1 := fun h => hn ⟨r, hr, ⟨by omega, h⟩, h2⟩
    show r.X1 = x; omega
  · refine Classical.byContradiction fun hm => hn ?_
    have hne : ∀ r ∈ l, r.Y0 ≠ y ∧ r.Y1 ≠ y := fun r hr => ⟨fun e => hm (mem_ysOfR.2 ⟨r, hr, .inl e.symm⟩), fun e => hm (mem_ysOfR.2 ⟨r, hr, .inr e.symm⟩)⟩
    unfold InR
    constructor
    · rintro ⟨r, hr, h1, h2⟩; have := hne r hr; exact ⟨r, hr, h1, by omega, by omega⟩
    · rintro ⟨r, hr, h1, h2⟩; have := hne r hr; exact ⟨r, hr, h1, by omega, by omega⟩
theorem edges_less {P Q : Int → Int → Prop} {xl xr yp xl' xr' yq : List Int} (a1 : XL xl P) (a2 : XR xr P) (a3 : YY yp P) (b1 : XL xl' Q) (b2 : XR xr' Q) (b3 : YY yq Q) : XL (xl ++ xr') (fun x y => P x y ∧ ¬ Q x y) ∧ XR (xr ++ xl') (fun x y => P x y ∧ ¬ Q x y) ∧ YY (yp ++ yq) (fun x y => P x y ∧ ¬ Q x y) := by
  refine ⟨fun x y ⟨h1, h2⟩ hn => ?_, fun x y hn ⟨h1, h2⟩ => ?_, fun x y hn => ?_⟩
  · by_cases hp : P (x - 1) y
    · have hq : Q (x - 1) y := Classical.byContradiction fun hq => hn ⟨hp, hq⟩
      exact List.mem_append_right _ (b2 x y h2 hq)
    · exact List.mem_append_left _ (a1 x y h1 hp)
  · by_cases hp : P x y
    · have hq : Q x y := Classical.byContradiction fun hq => hn ⟨hp, hq⟩
      exact List.mem_append_right _ (b1 x y hq h2)
    · exact List.mem_append_left _ (a2 x y hp h1)
  · by_cases hp : P x y ↔ P x (y - 1)
    · by_cases hq : Q x y ↔ Q x (y - 1)
      · exact absurd (show (P x y ∧ ¬ Q x y) ↔ (P x (y - 1) ∧ ¬ Q x (y - 1)) by rw [hp, hq]) hn
      · exact List.mem_append_right _ (b3 x y hq)
    · exact List.mem_append_left _ (a3 x y hp)
theorem edges_near {n : Int} {P : Int → Int → Prop} {xl xr ys : List Int} (a1 : XL xl P) (a2 : XR xr P) (a3 : YY ys P) : XL (xl.map (· - n)) (Nr n P) ∧ XR (xr.map (· + n)) (Nr n P) ∧ YY (ys.map (· - n) ++ ys.map (· + n)) (Nr n P) := by
  refine ⟨fun x y ⟨u, v, h1, h2, h3⟩ hn => ?_, fun x y hn ⟨u, v, h1, h2, h3⟩ => ?_, fun x y hn => ?_⟩
  · have h4 : ¬ u ≤ x - 1 + n := fun h => hn ⟨u, v, h1, by omega, h3⟩
    have h5 : ¬ P (u - 1) v := fun h => hn ⟨u - 1, v, h, by omega, h3⟩
    exact List.mem_map.2 ⟨u, a1 u v h1 h5, by omega⟩
  · have h4 : ¬ x - n ≤ u := fun h => hn ⟨u, v, h1, by omega, h3⟩
    have h5 : ¬ P (u + 1) v := fun h => hn ⟨u + 1, v, h, by omega, h3⟩
    exact List.mem_map.2 ⟨u + 1, a2 (u + 1) v h5 (by rw [Int.add_sub_cancel]; exact h1), by omega⟩
  · by_cases hp : Nr n P x y
    · have hq : ¬ Nr n P x (y - 1) := fun hq => hn ⟨fun _ => hq, fun _ => hp⟩
      obtain ⟨u, v, h1, h2, h3⟩ := hp
      have h4 : ¬ v ≤ y - 1 + n := fun h => hq ⟨u, v, h1, h2, by omega, by omega⟩
      have h5 : ¬ P u (v - 1) := fun h => hq ⟨u, v - 1, h, h2, by omega, by omega⟩
      exact List.mem_append_left _ (List.mem_map.2 ⟨v, a3 u v (fun h => h5 (h.1 h1)), by omega⟩)
    · have hq : Nr n P x (y - 1) := Classical.byContradiction fun hq => hn ⟨fun h => absurd h hp, fun h => absurd h hq⟩
      obtain ⟨u, v, h1, h2, h3⟩ := hq
      have h4 : ¬ y - n ≤ v := fun h => hp ⟨u, v, h1, h2, by omega, by omega⟩
      have h5 : ¬ P u (v + 1) := fun h => hp ⟨u, v + 1, h, h2, by omega, by omega⟩
      exact List.mem_append_right _ (List.mem_map.2 ⟨v + 1, a3 u (v + 1) (fun h => h5 (h.2 (by rw [Int.add_sub_cancel]; exact h1))), by omega⟩)
end Go.Proofs.Ytnlhigfglfahiaa
