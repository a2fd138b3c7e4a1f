/- Rules of the walks, or plain laws about the plain functions. Conditions: none beyond each theorem's own. -/
import Derived.Test.YtcjeebkoafonpaaGreatDoorJ5
import Derived.Test.YtcjeebkoafonpaaGreatDoorJ4
namespace Go.Proofs.YtcjeebkoafonpaaGreatDoor
open PX
def SE (xs : List Int) (i x : Int) : Prop := (0 ≤ i ∧ i < (xs.length : Int) - 1 ∧ gt xs i.toNat ≤ x ∧ x < gt xs (i.toNat + 1)) ∨ (¬ (0 ≤ i ∧ i < (xs.length : Int) - 1) ∧ ∀ k : Nat, k + 1 < xs.length → ¬ (gt xs k ≤ x ∧ x < gt xs (k + 1)))
section
variable {xs : List Int}
theorem x8 (h : xs.Pairwise fun a b => a < b) {i j : Nat} (hij : i ≤ j) (hj : j < xs.length) : gt xs i ≤ gt xs j := by
 rcases Nat.lt_or_ge i j with h1 | h1
 ·exact Int.le_of_lt (uu h h1 hj)
 ·rw [Nat.le_antisymm hij h1]; exact Int.le_refl _
theorem Kc {z : Int} (h : z ∈ xs) : ∃ k, k < xs.length ∧ gt xs k = z := by
 obtain ⟨k, hk, e⟩ := List.getElem_of_mem h
 refine ⟨k, hk, ?_⟩
 unfold gt
 rw [List.getD_eq_getElem?_getD, List.getElem?_eq_getElem hk, e]; rfl
theorem wR (h : xs.Pairwise fun a b => a < b) {z : Int} (hz : z ∈ xs) {i : Nat} (hi : i + 1 < xs.length) : z ≤ gt xs i ∨ gt xs (i + 1) ≤ z := by
 obtain ⟨k, hk, rfl⟩ := Kc hz
 rcases Nat.lt_or_ge i k with h1 | h1
 ·exact .inr (x8 h (by omega) hk)
 ·exact .inl (x8 h h1 (by omega))
theorem Df (h : xs.Pairwise fun a b => a < b) {a b x : Int} (ha : a ∈ xs) (hb : b ∈ xs) (h1 : a ≤ x) (h2 : x < b) : ∃ i, i + 1 < xs.length ∧ gt xs i ≤ x ∧ x < gt xs (i + 1) := by
 obtain ⟨k, hk, rfl⟩ := Kc ha
 obtain ⟨m, hm, rfl⟩ := Kc hb
 have key : ∀ n k : Nat, n = m - k → gt xs k ≤ x → k < m → ∃ i, i + 1 < xs.length ∧ gt xs i ≤ x ∧ x < gt xs (i + 1) := by
  intro n
  induction n with
  | zero => intro k h3 h4 h5; omega
  | succ n ih =>
   intro k h3 h4 h5
   rcases Int.lt_or_le x (gt xs (k + 1)) with h6 | h6
   ·exact ⟨k, by omega, h4, h6⟩
   ·refine ih (k + 1) (by omega) h6 ?_
    rcases Nat.lt_or_ge (k + 1) m with h7 | h7
    ·exact h7
    ·have : k + 1 = m := by omega
     rw [this] at h6; omega
 refine key (m - k) k rfl h1 ?_
 rcases Nat.lt_or_ge k m with h3 | h3
 ·exact h3
 ·have := x8 h h3 hk; omega
theorem ku {i : Nat} {x : Int} (hi : i + 1 < xs.length) (h1 : gt xs i ≤ x) (h2 : x < gt xs (i + 1)) : SE xs i x := .inl ⟨by omega, by omega, by rw [Int.toNat_natCast]; exact h1, by rw [Int.toNat_natCast]; exact h2⟩
theorem Bl (h : xs.Pairwise fun a b => a < b) {i : Nat} (hi : i + 1 < xs.length) : SE xs ((i : Int) + 1) (gt xs (i + 1)) := by
 have e : (i : Int) + 1 = ((i + 1 : Nat) : Int) := by omega
 rcases Nat.lt_or_ge (i + 1 + 1) xs.length with h1 | h1
 ·rw [e]
  exact ku h1 (Int.le_refl _) (uu h (by omega) h1)
 ·refine .inr ⟨by omega, fun k hk ⟨g1, g2⟩ => ?_⟩
  have := x8 h (i := k + 1) (j := i + 1) (by omega) hi
  omega
theorem Bn (h : xs.Pairwise fun a b => a < b) {i : Nat} (hi : i + 1 < xs.length) : SE xs ((i : Int) - 1) (gt xs i - 1) := by
 rcases Nat.eq_zero_or_pos i with h1 | h1
 ·subst h1
  refine .inr ⟨by omega, fun k hk ⟨g1, g2⟩ => ?_⟩
  have := x8 h (i := 0) (j := k) (by omega) (by omega)
  omega
 ·have e : (i : Int) - 1 = ((i - 1 : Nat) : Int) := by omega
  have e2 : i - 1 + 1 = i := by omega
  have := uu h (i := i - 1) (j := i) (by omega) (by omega)
  rw [e]
  exact ku (by omega) (by omega) (by rw [e2]; omega)
end
section
variable {l : List aI} (hl : ∀ r ∈ l, r.X0 < r.X1 ∧ r.Y0 < r.Y1)
theorem pq {i j x y : Int} (h1 : SE (dH (fD l)) i x) (h2 : SE (dH (dF l)) j y) : ve l x y = qI l (dH (fD l)) (dH (dF l)) i j := by
 have hxm : ∀ r ∈ l, r.X0 ∈ (dH (fD l)) ∧ r.X1 ∈ (dH (fD l)) := fun r hr => ⟨(lU _ _).2 (tJ.2 ⟨r, hr, .inl rfl⟩), (lU _ _).2 (tJ.2 ⟨r, hr, .inr rfl⟩)⟩
 have hym : ∀ r ∈ l, r.Y0 ∈ (dH (dF l)) ∧ r.Y1 ∈ (dH (dF l)) := fun r hr => ⟨(lU _ _).2 (mP.2 ⟨r, hr, .inl rfl⟩), (lU _ _).2 (mP.2 ⟨r, hr, .inr rfl⟩)⟩
 have sx := gZ (fD l)
 have sy := gZ (dF l)
 rw [Bool.eq_iff_iff, xz]
 unfold qI
 rw [Bool.and_eq_true, decide_eq_true_eq, xz]
 rcases h1 with ⟨a1, a2, a3, a4⟩ | ⟨a1, a2⟩
 ·rcases h2 with ⟨b1, b2, b3, b4⟩ | ⟨b1, b2⟩
  ·constructor
   ·rintro ⟨r, hr, ⟨g1, g2⟩, g3, g4⟩
    refine ⟨⟨b1, b2, a1, a2⟩, r, hr, ?_⟩
    have n1 := wR sx (hxm r hr).1 (i := i.toNat) (by omega)
    have n2 := wR sx (hxm r hr).2 (i := i.toNat) (by omega)
    have n3 := wR sy (hym r hr).1 (i := j.toNat) (by omega)
    have n4 := wR sy (hym r hr).2 (i := j.toNat) (by omega)
    omega
   ·rintro ⟨_, r, hr, ⟨g1, g2⟩, g3, g4⟩
    refine ⟨r, hr, ?_⟩
    have n1 := wR sx (hxm r hr).1 (i := i.toNat) (by omega)
    have n2 := wR sx (hxm r hr).2 (i := i.toNat) (by omega)
    have n3 := wR sy (hym r hr).1 (i := j.toNat) (by omega)
    have n4 := wR sy (hym r hr).2 (i := j.toNat) (by omega)
    omega
  ·constructor
   ·rintro ⟨r, hr, _, g3, g4⟩
    obtain ⟨k, k1, k2, k3⟩ := Df sy (hym r hr).1 (hym r hr).2 g3 g4
    exact absurd ⟨k2, k3⟩ (b2 k k1)
   ·rintro ⟨⟨g1, g2, _⟩, _⟩
    exact absurd ⟨g1, g2⟩ b1
 ·constructor
  ·rintro ⟨r, hr, ⟨g1, g2⟩, _⟩
   obtain ⟨k, k1, k2, k3⟩ := Df sx (hxm r hr).1 (hxm r hr).2 g1 g2
   exact absurd ⟨k2, k3⟩ (a2 k k1)
  ·rintro ⟨⟨_, _, g1, g2⟩, _⟩
   exact absurd ⟨g1, g2⟩ a1
theorem O7 {x y : Int} (h : ve l x y = true) : ∃ i j : Nat, i + 1 < (dH (fD l)).length ∧ j + 1 < (dH (dF l)).length ∧ (gt (dH (fD l)) i ≤ x ∧ x < gt (dH (fD l)) (i + 1)) ∧ (gt (dH (dF l)) j ≤ y ∧ y < gt (dH (dF l)) (j + 1)) := by
 obtain ⟨r, hr, ⟨g1, g2⟩, g3, g4⟩ := xz.1 h
 obtain ⟨i, i1, i2, i3⟩ := Df (gZ (fD l)) ((lU _ r.X0).2 (tJ.2 ⟨r, hr, .inl rfl⟩)) ((lU _ r.X1).2 (tJ.2 ⟨r, hr, .inr rfl⟩)) g1 g2
 obtain ⟨j, j1, j2, j3⟩ := Df (gZ (dF l)) ((lU _ r.Y0).2 (mP.2 ⟨r, hr, .inl rfl⟩)) ((lU _ r.Y1).2 (mP.2 ⟨r, hr, .inr rfl⟩)) g3 g4
 exact ⟨i, j, i1, j1, ⟨i2, i3⟩, j2, j3⟩
theorem De {c : Prop} [Decidable c] {s : Sd} {e : Ed} : Has (if c then [] else [s]) e ↔ ¬ c ∧ On s e := by
 unfold Has
 by_cases h : c
 ·simp [h]
 ·simp [h]
theorem Ez {j i : Nat} {e : Ed} : Has (cellS l (dH (fD l)) (dH (dF l)) j i) e ↔ qI l (dH (fD l)) (dH (dF l)) i j = true ∧ ((e.d = .E ∧ (e.y = gt (dH (dF l)) j ∧ gt (dH (fD l)) i ≤ e.x ∧ e.x < gt (dH (fD l)) (i + 1)) ∧ ¬ qI l (dH (fD l)) (dH (dF l)) i (j - 1) = true) ∨ (e.d = .N ∧ (e.x = gt (dH (fD l)) (i + 1) ∧ gt (dH (dF l)) j ≤ e.y ∧ e.y < gt (dH (dF l)) (j + 1)) ∧ ¬ qI l (dH (fD l)) (dH (dF l)) (i + 1) j = true)
  ∨ (e.d = .W ∧ (e.y = gt (dH (dF l)) (j + 1) ∧ gt (dH (fD l)) i < e.x ∧ e.x ≤ gt (dH (fD l)) (i + 1)) ∧ ¬ qI l (dH (fD l)) (dH (dF l)) i (j + 1) = true) ∨ (e.d = .S ∧ (e.x = gt (dH (fD l)) i ∧ gt (dH (dF l)) j < e.y ∧ e.y ≤ gt (dH (dF l)) (j + 1)) ∧ ¬ qI l (dH (fD l)) (dH (dF l)) (i - 1) j = true)) := by
 by_cases h : qI l (dH (fD l)) (dH (dF l)) i j = true
 ·rw [Jf h, ug, ug, ug, De, De, De, De, Kb, Ff, GR, En]
  constructor
  ·rintro (((⟨g1, g2, g3⟩ | ⟨g1, g2, g3⟩) | ⟨g1, g2, g3⟩) | ⟨g1, g2, g3⟩)
   ·exact ⟨h, .inl ⟨g2, g3, g1⟩⟩
   ·exact ⟨h, .inr (.inl ⟨g2, g3, g1⟩)⟩
   ·exact ⟨h, .inr (.inr (.inl ⟨g2, g3, g1⟩))⟩
   ·exact ⟨h, .inr (.inr (.inr ⟨g2, g3, g1⟩))⟩
  ·rintro ⟨_, (⟨g2, g3, g1⟩ | ⟨g2, g3, g1⟩ | ⟨g2, g3, g1⟩ | ⟨g2, g3, g1⟩)⟩
   ·exact .inl (.inl (.inl ⟨g1, g2, g3⟩))
   ·exact .inl (.inl (.inr ⟨g1, g2, g3⟩))
   ·exact .inl (.inr ⟨g1, g2, g3⟩)
   ·exact .inr ⟨g1, g2, g3⟩
 ·rw [Gi h]
  exact ⟨fun hh => absurd hh (G8 e), fun hh => absurd hh.1 h⟩
theorem Ki {e : Ed} : Has (vO l (dH (fD l)) (dH (dF l))) e ↔ ∃ i j : Nat, i + 1 < (dH (fD l)).length ∧ j + 1 < (dH (dF l)).length ∧ Has (cellS l (dH (fD l)) (dH (dF l)) j i) e := by
 unfold Has vO sG
 constructor
 ·rintro ⟨s, h1, h2⟩
  obtain ⟨j, hj, h1⟩ := List.mem_flatMap.1 h1
  obtain ⟨i, hi, h1⟩ := List.mem_flatMap.1 h1
  rw [List.mem_range'_1] at hi hj
  exact ⟨i, j, by omega, by omega, s, h1, h2⟩
 ·rintro ⟨i, j, hi, hj, s, h1, h2⟩
  exact ⟨s, List.mem_flatMap.2 ⟨j, by rw [List.mem_range'_1]; omega, List.mem_flatMap.2 ⟨i, by rw [List.mem_range'_1]; omega, h1⟩⟩, h2⟩
theorem Mt {e : Ed} : Has (vO l (dH (fD l)) (dH (dF l))) e ↔ xk (ve l) e := by
 have sx := gZ (fD l)
 have sy := gZ (dF l)
 rw [Ki]
 unfold xk
 constructor
 ·rintro ⟨i, j, hi, hj, h⟩
  rw [Ez] at h
  obtain ⟨h0, (⟨g1, ⟨g2, g3, g4⟩, g5⟩ | ⟨g1, ⟨g2, g3, g4⟩, g5⟩ | ⟨g1, ⟨g2, g3, g4⟩, g5⟩ | ⟨g1, ⟨g2, g3, g4⟩, g5⟩)⟩ := h <;> rw [g1] <;> simp only [lq, Dir.right]
  ·rw [pq (i := i) (j := j) (y := e.y) (ku hi g3 g4) (by rw [g2]; exact ku hj (Int.le_refl _) (uu sy (by omega) hj)), pq (i := i) (j := (j : Int) - 1) (y := e.y - 1) (ku hi g3 g4) (by rw [g2]; exact Bn sy hj)]
   exact ⟨h0, by simpa using g5⟩
  ·have := uu sx (i := i) (j := i + 1) (by omega) hi
   rw [pq (i := i) (j := j) (ku hi (by omega) (by omega)) (ku hj g3 g4), pq (i := (i : Int) + 1) (j := j) (x := e.x) (by rw [g2]; exact Bl sx hi) (ku hj g3 g4)]
   exact ⟨h0, by simpa using g5⟩
  ·have := uu sy (i := j) (j := j + 1) (by omega) hj
   rw [pq (i := i) (j := j) (ku hi (by omega) (by omega)) (ku hj (by omega) (by omega)), pq (i := i) (j := (j : Int) + 1) (x := e.x - 1) (y := e.y) (ku hi (by omega) (by omega)) (by rw [g2]; exact Bl sy hj)]
   exact ⟨h0, by simpa using g5⟩
  ·have := uu sx (i := i) (j := i + 1) (by omega) hi
   rw [pq (i := i) (j := j) (ku hi (by omega) (by omega)) (ku hj (by omega) (by omega)), pq (i := (i : Int) - 1) (j := j) (x := e.x - 1) (y := e.y - 1) (by rw [g2]; exact Bn sx hi) (ku hj (by omega) (by omega))]
   exact ⟨h0, by simpa using g5⟩
 ·rintro ⟨h1, h2⟩
  have ff : ∀ {b : Bool}, b = false → ¬ b = true := fun h hh => by rw [h] at hh; cases hh
  cases hd : e.d <;> rw [hd] at h1 h2 <;> simp only [lq, Dir.right] at h1 h2 <;> obtain ⟨i, j, hi, hj, ⟨c1, c2⟩, c3, c4⟩ := O7 h1 <;> refine ⟨i, j, hi, hj, Ez.2 ⟨(pq (ku hi c1 c2) (ku hj c3 c4)).symm.trans h1, ?_⟩⟩
  ·have hy : e.y = gt (dH (dF l)) j := by
    rcases Int.lt_or_le (gt (dH (dF l)) j) e.y with h3 | h3
    ·exfalso
     rw [pq (ku hi c1 c2) (ku hj (by omega) (by omega)), ← pq (ku hi c1 c2) (ku hj c3 c4), h1] at h2
     cases h2
    ·omega
   refine .inl ⟨hd, ⟨hy, c1, c2⟩, ff ?_⟩
   rw [hy, pq (i := i) (j := (j : Int) - 1) (ku hi c1 c2) (Bn sy hj)] at h2
   exact h2
  ·have hx : e.x = gt (dH (fD l)) (i + 1) := by
    rcases Int.lt_or_le e.x (gt (dH (fD l)) (i + 1)) with h3 | h3
    ·exfalso
     rw [pq (ku hi (by omega) h3) (ku hj c3 c4), ← pq (ku hi c1 c2) (ku hj c3 c4), h1] at h2
     cases h2
    ·omega
   refine .inr (.inl ⟨hd, ⟨hx, c3, c4⟩, ff ?_⟩)
   rw [hx, pq (i := (i : Int) + 1) (j := j) (Bl sx hi) (ku hj c3 c4)] at h2
   exact h2
  ·have hy : e.y = gt (dH (dF l)) (j + 1) := by
    rcases Int.lt_or_le e.y (gt (dH (dF l)) (j + 1)) with h3 | h3
    ·exfalso
     rw [pq (ku hi c1 c2) (ku hj (by omega) h3), ← pq (ku hi c1 c2) (ku hj c3 c4), h1] at h2
     cases h2
    ·omega
   refine .inr (.inr (.inl ⟨hd, ⟨hy, by omega, by omega⟩, ff ?_⟩))
   rw [hy, pq (i := i) (j := (j : Int) + 1) (ku hi c1 c2) (Bl sy hj)] at h2
   exact h2
  ·have hx : e.x = gt (dH (fD l)) i := by
    rcases Int.lt_or_le (gt (dH (fD l)) i) e.x with h3 | h3
    ·exfalso
     rw [pq (ku hi (by omega) (by omega)) (ku hj c3 c4), ← pq (ku hi c1 c2) (ku hj c3 c4), h1] at h2
     cases h2
    ·omega
   refine .inr (.inr (.inr ⟨hd, ⟨hx, by omega, by omega⟩, ff ?_⟩))
   rw [hx, pq (i := (i : Int) - 1) (j := j) (Bn sx hi) (ku hj c3 c4)] at h2
   exact h2
end
open PX
def OV (e : Ed) : Int × Int := match e.d with
 | .E => (e.x, e.y)
 | .N => (e.x - 1, e.y)
 | .W => (e.x - 1, e.y - 1)
 | .S => (e.x, e.y - 1)
def rk : Dir → Nat
 | .E => 0
 | .N => 1
 | .W => 2
 | .S => 3
def RO (s t : Sd) : Prop := ∀ e f, On s e → On t f → (OV e = OV f → rk e.d < rk f.d) ∧ ¬ (e.d = .E ∧ f.d = .W ∧ e.x = f.x ∧ e.y = f.y)
theorem RO.dj {s t : Sd} (h : RO s t) : Dj s t := fun e h1 h2 => absurd ((h e e h1 h2).1 rfl) (Nat.lt_irrefl _)
theorem cross {I : Sq} {e f : Ed} (he : xk I e) (hf : xk I f) (hx : f.x = e.x) (hy : f.y = e.y) (hne : f ≠ e) : f.d = e.d.left.left ∧ lq I e.x e.y e.d.left = false := by
 obtain ⟨e1, e2⟩ := he
 obtain ⟨f1, f2⟩ := hf
 rw [hx, hy] at f1 f2
 have hd : f.d ≠ e.d := fun h => hne (Ed.ext' hx hy h)
 generalize e.d = d at *
 generalize f.d = d' at *
 cases d <;> cases d' <;> simp only [Dir.left, Dir.right] at * <;> first | exact absurd rfl hd | exact ⟨trivial, f2⟩ | (rw [e1] at f2; cases f2) | (rw [e2] at f1; cases f1)
theorem Nn {I : Sq} {L : List Sd} (h : mV I L) (hR : L.Pairwise RO) {i c : Nat} (hi : i < L.length) (hc : c < L.length) (hic : i < c) (hp : (bP L c).1.p = (bP L i).1.p) : ∃ a, a < i ∧ Nx I L a i := by
 have gi := oC hi
 have gc := oC hc
 have mi := List.mem_of_getElem? gi
 have mc := List.mem_of_getElem? gc
 have be := h.fst mi
 have bf := h.fst mc
 have oi : On (bP L i) (bP L i).1 := ⟨0, h.pos _ mi, pK _⟩
 have oc : On (bP L c) (bP L c).1 := ⟨0, h.pos _ mc, pK _⟩
 have hx : (bP L c).1.x = (bP L i).1.x := congrArg Prod.fst hp
 have hy : (bP L c).1.y = (bP L i).1.y := congrArg Prod.snd hp
 have hne : (bP L c).1 ≠ (bP L i).1 := fun hh => by
  have := h.once c i _ _ gc gi 0 0 (h.pos _ mc) (h.pos _ mi) (by rw [pK, pK, hh])
  omega
 obtain ⟨hd, hl⟩ := cross be bf hx hy hne
 have hpw : ∀ a b, a < b → b < L.length → RO (bP L a) (bP L b) := fun a b hab hb => by
  have := List.pairwise_iff_getElem.1 hR a b (by omega) hb hab
  rwa [← lV (List.getElem?_eq_getElem (by omega : a < L.length)), ← lV (List.getElem?_eq_getElem hb)] at this
 have hE : (bP L i).1.d ≠ .E := fun hE => by
  rw [hE] at hd
  exact (hpw i c hic hc _ _ oi oc).2 ⟨hE, hd, hx.symm, hy.symm⟩
 have hpd := Q3 hl
 have bpd := J9 be
 obtain ⟨s, hs, k, hk, hks⟩ := h.all _ bpd
 obtain ⟨a, ha⟩ := List.mem_iff_getElem?.1 hs
 have hpdd : (pd I (bP L i).1).d = (bP L i).1.d.right := by rw [hpd]
 have hsd : s.1.d = (bP L i).1.d.right := by rw [← hpdd, ← hks]; rfl
 have hrd : (bP L i).1.d.right ≠ (bP L i).1.d := by cases (bP L i).1.d <;> simp [Dir.right]
 have hlast : k = s.2 - 1 := by
  rcases Nat.lt_or_ge (k + 1) s.2 with h1 | h1
  ·exfalso
   have h2 := GG (h.bor s hs (k + 1) h1)
   rw [hks, Ql be] at h2
   have h3 : (bP L i).1.d = (rA s.1 (k + 1)).d := congrArg Ed.d h2
   have h3 : (bP L i).1.d = s.1.d := h3
   rw [hsd] at h3
   exact hrd h3.symm
  ·omega
 have hn : Nx I L a i := ⟨s, _, ha, gi, by
  unfold zS
  rw [← hlast, hks, Ql be]⟩
 refine ⟨a, ?_, hn⟩
 have has := lV ha
 rcases Nat.lt_trichotomy a i with h1 | h1 | h1
 ·exact h1
 ·exfalso
  subst h1
  rw [has] at hrd hsd
  exact hrd hsd.symm
 ·exfalso
  have hr := hpw i a h1 hn.lt.1 _ (pd I (bP L i).1) oi ⟨k, by rw [has]; exact hk, by rw [has]; exact hks⟩
  have hsq : OV (bP L i).1 = OV (pd I (bP L i).1) := by
   rw [hpd]
   unfold OV
   cases hdd : (bP L i).1.d <;> simp only [Dir.right, Dir.dx, Dir.dy, Prod.mk.injEq, true_and, and_true] <;> omega
  have := hr.1 hsq
  rw [hpdd] at this
  cases hdd : (bP L i).1.d <;> rw [hdd] at this hE <;> first | exact hE rfl | exact absurd this (by decide)
section
variable {l : List aI}
theorem Da {c : Prop} [Decidable c] (s : Sd) : List.Sublist (if c then [] else [s]) [s] := by
 split
 ·exact List.nil_sublist _
 ·exact List.Sublist.refl _
theorem Je {j i : Nat} : List.Sublist (cellS l (dH (fD l)) (dH (dF l)) j i) [M8 (gt (dH (dF l)) j) (gt (dH (fD l)) i, gt (dH (fD l)) (i + 1)), K8 (gt (dH (dF l)) j) (gt (dH (dF l)) (j + 1)) (gt (dH (fD l)) i, gt (dH (fD l)) (i + 1)), JU (gt (dH (dF l)) (j + 1)) (gt (dH (fD l)) i, gt (dH (fD l)) (i + 1)), JA (gt (dH (dF l)) j) (gt (dH (dF l)) (j + 1)) (gt (dH (fD l)) i, gt (dH (fD l)) (i + 1))] := by
 unfold cellS
 split
 ·exact (((Da _).append (Da _)).append (Da _)).append (Da _)
 ·exact List.nil_sublist _
theorem Om {j i : Nat} (hi : i + 1 < (dH (fD l)).length) (hj : j + 1 < (dH (dF l)).length) : ∀ s ∈ cellS l (dH (fD l)) (dH (dF l)) j i, 0 < s.2 := fun s hs => by
 have h1 := uu (gZ (fD l)) (i := i) (j := i + 1) (by omega) hi
 have h2 := uu (gZ (dF l)) (i := j) (j := j + 1) (by omega) hj
 have := Je.subset hs
 simp only [List.mem_cons, List.not_mem_nil, or_false] at this
 rcases this with rfl | rfl | rfl | rfl
 ·show 0 < (gt (dH (fD l)) (i + 1) - gt (dH (fD l)) i).toNat; omega
 ·show 0 < (gt (dH (dF l)) (j + 1) - gt (dH (dF l)) j).toNat; omega
 ·show 0 < (gt (dH (fD l)) (i + 1) - gt (dH (fD l)) i).toNat; omega
 ·show 0 < (gt (dH (dF l)) (j + 1) - gt (dH (dF l)) j).toNat; omega
theorem PS {j i : Nat} (hj : j + 1 < (dH (dF l)).length) : (cellS l (dH (fD l)) (dH (dF l)) j i).Pairwise RO := by
 have h2 := uu (gZ (dF l)) (i := j) (j := j + 1) (by omega) hj
 refine List.Pairwise.sublist Je ?_
 refine List.pairwise_cons.2 ⟨fun t ht e f h1 h3 => ?_, List.pairwise_cons.2 ⟨fun t ht e f h1 h3 => ?_, List.pairwise_cons.2 ⟨fun t ht e f h1 h3 => ?_, List.pairwise_cons.2 ⟨fun t ht => (nomatch ht), .nil⟩⟩⟩⟩
 ·have g1 := Kb.1 h1
  simp only [List.mem_cons, List.not_mem_nil, or_false] at ht
  rcases ht with rfl | rfl | rfl
  ·have g2 := Ff.1 h3
   rw [g1.1, g2.1]
   exact ⟨fun _ => by decide, fun hh => by cases hh.2.1⟩
  ·have g2 := GR.1 h3
   rw [g1.1, g2.1]
   exact ⟨fun _ => by decide, fun hh => by have := hh.2.2.2; omega⟩
  ·have g2 := En.1 h3
   rw [g1.1, g2.1]
   exact ⟨fun _ => by decide, fun hh => by cases hh.2.1⟩
 ·have g1 := Ff.1 h1
  simp only [List.mem_cons, List.not_mem_nil, or_false] at ht
  rcases ht with rfl | rfl
  ·have g2 := GR.1 h3
   rw [g1.1, g2.1]
   exact ⟨fun _ => by decide, fun hh => by cases hh.1⟩
  ·have g2 := En.1 h3
   rw [g1.1, g2.1]
   exact ⟨fun _ => by decide, fun hh => by cases hh.1⟩
 ·have g1 := GR.1 h1
  simp only [List.mem_cons, List.not_mem_nil, or_false] at ht
  subst ht
  have g2 := En.1 h3
  rw [g1.1, g2.1]
  exact ⟨fun _ => by decide, fun hh => by cases hh.1⟩
theorem Du {j i : Nat} (hi : i + 1 < (dH (fD l)).length) (hj : j + 1 < (dH (dF l)).length) {s : Sd} {e : Ed} (hs : s ∈ cellS l (dH (fD l)) (dH (dF l)) j i) (he : On s e) : ((gt (dH (fD l)) i ≤ (OV e).1 ∧ (OV e).1 < gt (dH (fD l)) (i + 1)) ∧ gt (dH (dF l)) j ≤ (OV e).2 ∧ (OV e).2 < gt (dH (dF l)) (j + 1)) ∧ (e.d = .E → e.y = gt (dH (dF l)) j) ∧ (e.d = .W → e.y = gt (dH (dF l)) (j + 1)) := by
 have h1 := uu (gZ (fD l)) (i := i) (j := i + 1) (by omega) hi
 have h2 := uu (gZ (dF l)) (i := j) (j := j + 1) (by omega) hj
 have hc : Has (cellS l (dH (fD l)) (dH (dF l)) j i) e := ⟨s, hs, he⟩
 rw [Ez] at hc
 unfold OV
 obtain ⟨_, (⟨g1, ⟨g2, g3, g4⟩, _⟩ | ⟨g1, ⟨g2, g3, g4⟩, _⟩ | ⟨g1, ⟨g2, g3, g4⟩, _⟩ | ⟨g1, ⟨g2, g3, g4⟩, _⟩)⟩ := hc <;> rw [g1] <;> simp only [reduceCtorEq, false_implies, true_implies, and_true, true_and] <;> omega
theorem FH : (vO l (dH (fD l)) (dH (dF l))).Pairwise RO := by
 have sx := gZ (fD l)
 have sy := gZ (dF l)
 unfold vO
 rw [List.pairwise_flatMap]
 constructor
 ·intro j hj
  rw [List.mem_range'_1] at hj
  unfold sG
  rw [List.pairwise_flatMap]
  refine ⟨fun i _ => PS (by omega), ?_⟩
  refine List.Pairwise.imp_of_mem (R := fun a b => a < b) (fun {i i'} hi hi' hii s hs t ht e f h1 h2 => ?_) List.pairwise_lt_range'
  rw [List.mem_range'_1] at hi hi'
  obtain ⟨⟨a1, a2⟩, a3, a4⟩ := Du (by omega) (by omega) hs h1
  obtain ⟨⟨b1, b2⟩, b3, b4⟩ := Du (by omega) (by omega) ht h2
  have := x8 sx (i := i + 1) (j := i') (by omega) (by omega)
  refine ⟨fun hh => ?_, fun ⟨g1, g2, g3, g4⟩ => ?_⟩
  ·have := congrArg Prod.fst hh
   omega
  ·have g5 := a3 g1
   have g6 := b4 g2
   have := uu sy (i := j) (j := j + 1) (by omega) (by omega)
   omega
 ·refine List.Pairwise.imp_of_mem (R := fun a b => a < b) (fun {j j'} hj hj' hjj s hs t ht e f h1 h2 => ?_) List.pairwise_lt_range'
  rw [List.mem_range'_1] at hj hj'
  obtain ⟨i, hi, hs⟩ := List.mem_flatMap.1 hs
  obtain ⟨i', hi', ht⟩ := List.mem_flatMap.1 ht
  rw [List.mem_range'_1] at hi hi'
  obtain ⟨⟨a1, a2⟩, a3, a4⟩ := Du (by omega) (by omega) hs h1
  obtain ⟨⟨b1, b2⟩, b3, b4⟩ := Du (by omega) (by omega) ht h2
  have h6 := x8 sy (i := j + 1) (j := j') (by omega) (by omega)
  have h7 := uu sy (i := j') (j := j' + 1) (by omega) (by omega)
  have h8 := uu sy (i := j) (j := j + 1) (by omega) (by omega)
  refine ⟨fun hh => ?_, fun ⟨g1, g2, g3, g4⟩ => ?_⟩
  ·have := congrArg Prod.snd hh
   omega
  ·have g5 := a3 g1
   have g6 := b4 g2
   omega
theorem D5 : mV (ve l) (vO l (dH (fD l)) (dH (dF l))) := by
 refine KZ (fun s hs => ?_) (fun e => Mt) (FH.imp fun h => h.dj)
 unfold vO sG at hs
 obtain ⟨j, hj, h1⟩ := List.mem_flatMap.1 hs
 obtain ⟨i, hi, h1⟩ := List.mem_flatMap.1 h1
 rw [List.mem_range'_1] at hi hj
 exact Om (by omega) (by omega) s h1
end
open PX
theorem R3 {n : Nat} (h : 0 < n) : jd (n : Int) = some 1 := by
 unfold jd
 rw [if_neg (by simp), if_pos (by simpa using h)]
theorem RZ {n : Nat} (h : 0 < n) : jd (-(n : Int)) = some (-1) := by
 unfold jd
 rw [if_pos (by simp; omega)]
theorem R4 : jd 0 = some 0 := rfl
theorem JH {s : Sd} (h : 0 < s.2) (hl : OY s.1.p ∧ OY (pG s)) : jq (toR s) = some (uK s.1.d) := by
 obtain ⟨⟨l1, l2⟩, l3, l4⟩ := hl
 have ex : (pG s).1 = s.1.x + s.2 * s.1.d.dx := rfl
 have ey : (pG s).2 = s.1.y + s.2 * s.1.d.dy := rfl
 have e1 : (toR s).to_.X - (toR s).from_.X = s.2 * s.1.d.dx := by show (pG s).1 - s.1.x = _; rw [ex]; omega
 have e2 : (toR s).to_.Y - (toR s).from_.Y = s.2 * s.1.d.dy := by show (pG s).2 - s.1.y = _; rw [ey]; omega
 have hx : s.1.p.1 = s.1.x := rfl
 have hy : s.1.p.2 = s.1.y := rfl
 unfold jq
 rw [e1, e2, bR (by omega) (by omega), bR (by omega) (by omega)]
 unfold uK
 have hneg : ∀ n : Nat, (n : Int) * -1 = -(n : Int) := fun n => by omega
 cases hd : s.1.d <;> simp only [Dir.dx, Dir.dy, Int.mul_zero, Int.mul_one, hneg, R3 h, RZ h, R4, Option.bind_some]
theorem O1 (d e : Dir) : decide (0 < (bn ((bn ((uK d).X * (uK e).Y)) - (bn ((uK d).Y * (uK e).X))))) = decide (e = d.left) := by
 cases d <;> cases e <;> decide
section
variable {I : Sq} {L : List Sd}
theorem Sb {b : Nat} (h : b < L.length) : idx (L.map toR) (b : Int) = some (toR (bP L b)) := by
 unfold idx
 rw [if_pos (by omega), Int.toNat_natCast, List.getElem?_map, oC h]; rfl
theorem NF (h : mV I L) {r : List Nat} (hr : CV I L r) {a b : Nat} (ha : a ∈ r) (hn : Nx I L a b) : b ∈ r := by
 obtain ⟨i, q, rfl, h1, h2, h3⟩ := hr
 rcases Kt h1 a ha with h4 | ⟨c, h4, h5⟩
 ·subst h4
  rw [h.MH hn h2]; simp
 ·rw [h.MH hn h5]; simp [h4]
def Jz (L : List Sd) (u : List Bool) (a k : Nat) : Prop := k < L.length ∧ u[k]? = some false ∧ (bP L k).1.p = pG (bP L a)
theorem Cb (h : mV I L) (hb : yF L) {a : Nat} {u : List Bool} (hu : u.length = L.length) {p m : Nat} {best : Int} (hp : p < L.length) :
  (¬ Jz L u a p → dz (L.map toR) u (toR (bP L a)) (uK (bP L a).1.d) (m + 1) best (p : Int) = dz (L.map toR) u (toR (bP L a)) (uK (bP L a).1.d) m best ((p + 1 : Nat) : Int)) ∧
  (Jz L u a p → dz (L.map toR) u (toR (bP L a)) (uK (bP L a).1.d) (m + 1) best (p : Int) = dz (L.map toR) u (toR (bP L a)) (uK (bP L a).1.d) m (if best < 0 ∨ (bP L p).1.d = (bP L a).1.d.left then (p : Int) else best) ((p + 1 : Nat) : Int)) := by
 have hlen := hb.len
 have e1 : bn ((p : Int) + 1) = ((p + 1 : Nat) : Int) := by rw [bR (by omega) (by omega)]; omega
 have mp := List.mem_of_getElem? (oC hp)
 rw [dz.eq_2, if_pos (by simp; omega), sI (l := u) (i := p) (by omega), Option.bind_some, Sb hp, Option.bind_some, e1]
 have e2 : fB (toR (bP L p)).from_ (toR (bP L a)).to_ = decide ((bP L p).1.p = pG (bP L a)) := PN _ _
 rw [e2]
 constructor
 ·intro hc
  have hg : (if u[p] = true then some true else some (!decide ((bP L p).1.p = pG (bP L a)))) = some true := by
   cases hup : u[p] with
   | true => rfl
   | false =>
    have : ¬ (bP L p).1.p = pG (bP L a) := fun hh => hc ⟨hp, by rw [List.getElem?_eq_getElem (by omega), hup], hh⟩
    simp [this]
  rw [hg, Option.bind_some, if_pos rfl]
 ·rintro ⟨_, c2, c3⟩
  have hup : u[p] = false := by
   rw [List.getElem?_eq_getElem (by omega)] at c2
   exact Option.some.inj c2
  rw [hup, if_neg (by simp), decide_eq_true c3, Option.bind_some, if_neg (by simp), Option.bind_some, JH (h.pos _ mp) (hb.pts _ mp), Option.bind_some, O1]
  by_cases hh : best < 0 ∨ (bP L p).1.d = (bP L a).1.d.left
  ·rw [if_pos hh, if_pos (by rcases hh with hh | hh <;> simp [hh])]
  ·rw [if_neg hh]
   have h1 : ¬ best < 0 := fun h => hh (.inl h)
   have h2 : ¬ (bP L p).1.d = (bP L a).1.d.left := fun h => hh (.inr h)
   rw [if_neg (by simp [h1, h2])]
theorem IK {N : Nat} {u : List Bool} {s : aG} {d : aA} {m : Nat} {best : Int} : dz (L.map toR) u s d (m + 1) best (L.length : Int) = some best := by
 rw [dz.eq_2, if_neg (by simp)]
theorem FU (h : mV I L) (hb : yF L) {a : Nat} {u : List Bool} (hu : u.length = L.length) (hno : ∀ k, ¬ Jz L u a k) : ∀ (n p m : Nat), p + n = L.length → n < m → dz (L.map toR) u (toR (bP L a)) (uK (bP L a).1.d) m (-1) (p : Int) = some (-1)
 | _, _, 0, _, hm => absurd hm (Nat.not_lt_zero _)
 | 0, p, m + 1, hp, _ => by
  have : p = L.length := by omega
  subst this
  exact IK (N := 0)
 | n + 1, p, m + 1, hp, hm => by
  rw [(Cb h hb hu (by omega)).1 (hno p)]
  exact FU h hb hu hno n (p + 1) m (by omega) (by omega)
theorem Cc (h : mV I L) (hb : yF L) {a c : Nat} (ha : a < L.length) {u : List Bool} (hu : u.length = L.length) (hn : Nx I L a c) (hc : u[c]? = some false) : ∀ (n p m : Nat) (best : Int), p + n = L.length → n < m → (p ≤ c → best = -1 ∨ ∃ k : Nat, best = (k : Int) ∧ k ≠ c ∧ Jz L u a k) → (c < p → best = (c : Int)) →
    dz (L.map toR) u (toR (bP L a)) (uK (bP L a).1.d) m best (p : Int) = some (c : Int)
  | _, _, 0, _, _, hm, _, _ => absurd hm (Nat.not_lt_zero _)
  | 0, p, m + 1, best, hp, _, _, h2 => by
    have : p = L.length := by omega
    subst this
    rw [IK (N := 0), h2 hn.lt.2]
  | n + 1, p, m + 1, best, hp, hm, h1, h2 => by
    have hcc : Jz L u a c := ⟨hn.lt.2, hc, Bc h hn⟩
    have ga := oC ha
    have gc := oC hn.lt.2
    have ma := List.mem_of_getElem? ga
    obtain ⟨t1, t2, t3⟩ := Ep (h.pos _ ma)
    have hl := (h.last ma).1
    have hsc : (bP L c).1 = sc I (zS (bP L a)) := by
      obtain ⟨s, t, k1, k2, k3⟩ := hn
      rw [ga] at k1; rw [gc] at k2
      have k1 := Option.some.inj k1
      have k2 := Option.some.inj k2
      subst k1; subst k2
      exact k3
    have hoth : ∀ k, k ≠ c → Jz L u a k → (bP L c).1.d = (bP L a).1.d.left ∧ (bP L k).1.d ≠ (bP L a).1.d.left := fun k hk ⟨k1, k2, k3⟩ => by
      have gk := oC k1
      have bk := h.fst (List.mem_of_getElem? gk)
      have hx : (bP L k).1.x = (zS (bP L a)).tx := (congrArg Prod.fst k3).trans t1.symm
      have hy : (bP L k).1.y = (zS (bP L a)).ty := (congrArg Prod.snd k3).trans t2.symm
      have hne : (bP L k).1 ≠ sc I (zS (bP L a)) := fun hh => hk (h.MH ⟨_, _, ga, gk, hh⟩ hn)
      have := KS hl bk hx hy hne
      rw [← hsc, t3] at this
      exact ⟨this, fun hh => hne (Lu bk hx hy (by rw [t3]; exact hh))⟩
    by_cases hcd : Jz L u a p
    · rw [(Cb h hb hu (by omega)).2 hcd]
      refine Cc h hb ha hu hn hc n (p + 1) m _ (by omega) (by omega) (fun hpc => ?_) (fun hcp => ?_)
      · have hpne : p ≠ c := by omega
        obtain ⟨o1, o2⟩ := hoth p hpne hcd
        rcases h1 (by omega) with rfl | ⟨k, rfl, k2, k3⟩
        · rw [if_pos (.inl (by decide))]
          exact .inr ⟨p, rfl, hpne, hcd⟩
        · rw [if_neg (by rintro (hh | hh); · omega
                         · exact o2 hh)]
          exact .inr ⟨k, rfl, k2, k3⟩
      · rcases Nat.lt_or_ge c p with h3 | h3
        · rw [h2 h3]
          obtain ⟨o1, o2⟩ := hoth p (by omega) hcd
          rw [if_neg (by rintro (hh | hh); · omega
                         · exact o2 hh)]
        · have : p = c := by omega
          subst this
          rcases h1 (Nat.le_refl _) with rfl | ⟨k, rfl, k2, k3⟩
          · rw [if_pos (.inl (by decide))]
          · rw [if_pos (.inr (hoth k k2 k3).1)]
    · rw [(Cb h hb hu (by omega)).1 hcd]
      have hpc : p ≠ c := fun e => hcd (e ▸ hcc)
      exact Cc h hb ha hu hn hc n (p + 1) m best (by omega) (by omega) (fun h3 => h1 (by omega)) (fun h3 => h2 (by omega))
theorem FJ (h : mV I L) (hR : L.Pairwise RO) (hb : yF L) {N : Nat} (hN : L.length < N) {i : Nat} {rs : List (List Nat)} (hrs : ∀ r ∈ rs, CV I L r) (hir : ∀ r ∈ rs, i ∉ r) (hlow : ∀ a, a < i → ∃ r ∈ rs, a ∈ r) (out : List (List aA)) (x : Int) (k : List Bool → List (List aA) → Int → Option (List (List aA))) :
  ∀ (fuel : Nat) (q : List Nat) (b : Nat) (u : List Bool) (t : List Nat), q ++ [b] = i :: t → Cn I L i t → (i :: t).Nodup → (∀ a ∈ i :: t, ∀ r ∈ rs, a ∉ r) → b < L.length → (∀ a ∈ q, a < L.length) → u.length = L.length → (∀ a, u[a]? = some true ↔ (∃ r ∈ rs, a ∈ r) ∨ a ∈ q) → u.count false < fuel →
  ∃ (r : List Nat) (u' : List Bool), CV I L r ∧ i ∈ r ∧ (∀ a ∈ r, ∀ r' ∈ rs, a ∉ r') ∧ (∀ a ∈ r, a < L.length) ∧ u'.length = L.length ∧ (∀ a, u'[a]? = some true ↔ (∃ r' ∈ rs, a ∈ r') ∨ a ∈ r) ∧ r.length ≤ L.length ∧
   fQ N (L.map toR) out x k fuel u (q.map fun a => toR (bP L a)) (b : Int) = (kz N (r.map fun a => toR (bP L a))).bind fun S9 => eY out x k u' S9 N (out.length : Int)
 | 0, _, _, u, _, _, _, _, _, _, _, _, _, hf => absurd hf (Nat.not_lt_zero _)
 | fuel + 1, q, b, u, t, ht, hcn, hnd, hfree, hbl, hql, hu, huse, hf => by
  have hlast : t.getLastD i = b := by
   have e1 : (q ++ [b]).getLastD 0 = b := by simp
   rw [ht] at e1
   have e2 : (i :: t).getLastD 0 = t.getLastD i := by cases t <;> rfl
   rw [← e2, e1]
  have hbm : b ∈ i :: t := by rw [← ht]; simp
  have him : i ∈ q ++ [b] := by rw [ht]; simp
  have hil : i < L.length := by
   rcases List.mem_append.1 him with h1 | h1
   ·exact hql i h1
   ·rw [List.mem_singleton.1 h1]; exact hbl
  have hbq : b ∉ q := by
   rw [← ht] at hnd
   intro hh
   exact (List.nodup_append.1 hnd).2.2 b hh b (by simp) rfl
  have hub : u[b]? = some false := not_true (by omega) fun hh => by
   rcases (huse b).1 hh with ⟨r, h1, h2⟩ | h1
   ·exact hfree b hbm r h1 h2
   ·exact hbq h1
  have hid : idx u (b : Int) = some false := by
   unfold idx
   rw [if_pos (by omega), Int.toNat_natCast, hub]
  have hset : sets u (b : Int) true = some (u.set b true) := by
   unfold sets
   rw [if_pos (by omega), Int.toNat_natCast]
  have huse' : ∀ a, (u.set b true)[a]? = some true ↔ (∃ r ∈ rs, a ∈ r) ∨ a ∈ q ++ [b] := fun a => by
   rw [List.getElem?_set]
   by_cases hab : b = a
   ·subst hab
    rw [if_pos rfl, if_pos (by omega)]
    simp
   ·rw [if_neg hab, huse a]
    have : a ∈ q ++ [b] ↔ a ∈ q := by simp; exact fun hh => absurd hh.symm hab
    rw [this]
  have hql' : ∀ a ∈ q ++ [b], a < L.length := fun a ha => by
   rcases List.mem_append.1 ha with h1 | h1
   ·exact hql a h1
   ·rw [List.mem_singleton.1 h1]; exact hbl
  have hqn : q.length ≤ L.length := vS (by rw [← ht] at hnd; exact (List.nodup_append.1 hnd).1) hql
  have hqn' : (q ++ [b]).length ≤ L.length := vS (by rw [ht]; exact hnd) hql'
  have hlen := hb.len
  have hcnt := Cj hub
  have mb := List.mem_of_getElem? (oC hbl)
  have hmapq : (q.map fun a => toR (bP L a)) ++ [toR (bP L b)] = (q ++ [b]).map fun a => toR (bP L a) := by simp
  have hul : (u.set b true).length = L.length := by rw [List.length_set]; exact hu
  rw [fQ.eq_2, if_pos (by simp), hid, Option.bind_some, hset, Option.bind_some, Sb hbl, Option.bind_some, iO (by rw [List.length_map]; simp; omega), Option.bind_some, Option.bind_some, hmapq]
  unfold pg
  rw [JH (h.pos _ mb) (hb.pts _ mb), Option.bind_some]
  obtain ⟨c, hc, hn⟩ := h.next hbl
  by_cases hci : c = i
  ·subst hci
   have hno : ∀ k, ¬ Jz L (u.set b true) b k := fun k ⟨k1, k2, k3⟩ => by
    have hkc : k ≠ c := fun e => by
     subst e
     have := (huse' k).2 (.inr him)
     rw [k2] at this; cases this
    have hkl : c < k := by
     rcases Nat.lt_trichotomy k c with h1 | h1 | h1
     ·obtain ⟨r, r1, r2⟩ := hlow k h1
      have := (huse' k).2 (.inl ⟨r, r1, r2⟩)
      rw [k2] at this; cases this
     ·exact absurd h1 hkc
     ·exact h1
    obtain ⟨a, a1, a2⟩ := Nn h hR hc k1 hkl (k3.trans (Bc h hn).symm)
    obtain ⟨r, r1, r2⟩ := hlow a a1
    exact hir r r1 (NF h (hrs r r1) r2 a2)
   have e0 : ((0 : Nat) : Int) = 0 := rfl
   have hnx := FU h hb hul hno L.length 0 N (by omega) hN
   rw [e0] at hnx
   obtain ⟨fuel, rfl⟩ : ∃ f, fuel = f + 1 := ⟨fuel - 1, by omega⟩
   rw [hnx, Option.bind_some, fQ.eq_2, if_neg (by simp)]
   refine ⟨q ++ [b], u.set b true, ?_, him, fun a ha => hfree a (by rw [← ht]; exact ha), hql', hul, huse', hqn', rfl⟩
   rw [ht]
   exact ⟨c, t, rfl, hcn, by rw [hlast]; exact hn, hnd⟩
  ·have hcr : ∀ r ∈ rs, c ∉ r := fun r hr hh => hfree b hbm r hr (FK h (hrs r hr) hh hn)
   have hcq : c ∉ i :: t := fun hh => by
    rcases List.mem_cons.1 hh with hh | hh
    ·exact hci hh
    ·obtain ⟨p, p1, p2, p3⟩ := Dt hcn hnd c hh
     rw [hlast] at p3
     exact p3 (h.Pq p2 hn)
   have huc : (u.set b true)[c]? = some false := not_true (by rw [List.length_set]; omega) fun hh => by
    rcases (huse' c).1 hh with ⟨r, h1, h2⟩ | h1
    ·exact hcr r h1 h2
    ·rw [ht] at h1; exact hcq h1
   have e0 : ((0 : Nat) : Int) = 0 := rfl
   have hnx := Cc h hb hbl hul hn huc L.length 0 N (-1) (by omega) hN (fun _ => .inl rfl) (fun hh => absurd hh (Nat.not_lt_zero _))
   rw [e0] at hnx
   rw [hnx, Option.bind_some]
   exact FJ h hR hb hN hrs hir hlow out x k fuel (q ++ [b]) c (u.set b true) (t ++ [c]) (by rw [ht]; rfl) (Hm hcn (by rw [hlast]; exact hn))
    (by rw [← List.cons_append]; exact List.nodup_append.2 ⟨hnd, by simp, fun x hx y hy => by rw [List.mem_singleton.1 hy]; exact fun e => hcq (e ▸ hx)⟩)
    (fun a ha r hr hh => by
     rw [← List.cons_append] at ha
     rcases List.mem_append.1 ha with h1 | h1
     ·exact hfree a h1 r hr hh
     ·rw [List.mem_singleton.1 h1] at hh; exact hcr r hr hh) hc hql' hul huse' (by omega)
end
open PX
theorem IQ (p q : Int × Int) : kE (iw p) (iw q) = some (decide (pl p q)) := by
 unfold kE
 congr 1
 rw [Bool.eq_iff_iff, decide_eq_true_eq]
 unfold pl iw
 simp
def QX (c : List aA) (k : Nat) : Option (List aA) :=
 (cut c (k : Int) (c.length : Int)).bind fun TQ => (sj ([] : List aA) TQ).bind fun TP => (Proofs.YtcjeebkoafonpaaGreatDoor.pre c (k : Int)).bind fun TN => (sj TP TN).bind fun TM => some TM
theorem Ph {c : List aA} {k : Nat} (hc : c.length ≤ 100000000) (hk : k ≤ c.length) : QX c k = some (c.drop k ++ c.take k) := by
 unfold QX
 have e1 : cut c (k : Int) (c.length : Int) = some (c.drop k) := by
  unfold cut
  rw [if_pos (by omega)]
  simp
 have e2 : Proofs.YtcjeebkoafonpaaGreatDoor.pre c (k : Int) = some (c.take k) := by
  unfold Proofs.YtcjeebkoafonpaaGreatDoor.pre
  rw [if_pos (by omega)]
  simp
 rw [e1, e2, Option.bind_some, iO (by simp; omega), Option.bind_some, Option.bind_some, iO (by simp; omega)]; rfl
theorem y7 (c : List (Int × Int)) (hc : c.length ≤ 100000000) : ∀ (suf q : List (Int × Int)) (m f : Nat) (p : Int × Int), c = q ++ suf → c[m]? = some p → suf.length < f → fe (c.map iw) f (m : Int) (q.length : Int) = QX (c.map iw) (fl suf (m, p) q.length)
 | _, _, _, 0, _, _, _, hf => absurd hf (Nat.not_lt_zero _)
 | [], q, m, f + 1, p, h, hm, _ => by
  rw [fe.eq_2, if_neg (by rw [h]; simp)]; rfl
 | x :: suf, q, m, f + 1, p, h, hm, hf => by
  have hid : idx (c.map iw) (m : Int) = some (iw p) := by
   unfold idx
   rw [if_pos (by omega), Int.toNat_natCast, List.getElem?_map, hm]; rfl
  have hx : c[q.length]? = some x := by rw [h]; simp
  have hidx : idx (c.map iw) (q.length : Int) = some (iw x) := by
   unfold idx
   rw [if_pos (by omega), Int.toNat_natCast, List.getElem?_map, hx]; rfl
  have hql : q.length + 1 ≤ 100000000 := by rw [h] at hc; simp at hc; omega
  have e1 := y7 c hc suf (q ++ [x]) q.length f x (by rw [h]; simp) hx (by simp at hf; omega)
  have e2 := y7 c hc suf (q ++ [x]) m f p (by rw [h]; simp) hm (by simp at hf; omega)
  rw [fe.eq_2, if_pos (by rw [h, List.length_map]; exact uH q suf x), hidx, Option.bind_some, hid, Option.bind_some, IQ, Option.bind_some, qO q x (by omega)]
  rw [show fl suf (q.length, x) (q ++ [x]).length = fl suf (q.length, x) (q.length + 1) by simp] at e1
  rw [show fl suf (m, p) (q ++ [x]).length = fl suf (m, p) (q.length + 1) by simp] at e2
  unfold fl
  by_cases hp : pl x p
  ·rw [if_pos (by simpa using hp), if_pos hp]; exact e1
  ·rw [if_neg (by simpa using hp), if_neg hp]; exact e2
section
variable {I : Sq} {L : List Sd}
theorem Cw (hL : mV I L) (hb : yF L) {N : Nat} (row : List Nat) (hr : ∀ a ∈ row, a < L.length) (hlen : row.length ≤ 100000000) : ∀ (suf q : List Nat) (f : Nat), row = q ++ suf → suf.length < f →
  fZ N (row.map fun a => toR (bP L a)) f ((AJ L (bP L (row.getLastD 0)).1.d q).map iw) (q.length : Int) = fe ((AJ L (bP L (row.getLastD 0)).1.d row).map iw) N 0 0
 | _, _, 0, _, hf => absurd hf (Nat.not_lt_zero _)
 | [], q, f + 1, h, _ => by
  rw [List.append_nil] at h
  subst h
  rw [fZ.eq_2, if_neg (by simp)]
 | a :: suf, q, f + 1, h, hf => by
  have hdir : ∀ b ∈ row, jq (toR (bP L b)) = some (uK (bP L b).1.d) := fun b hb' => by
   have hg := oC (hr b hb')
   have hm := List.mem_of_getElem? hg
   exact JH (hL.pos _ hm) (hb.pts _ hm)
  have hql : q.length + 1 ≤ 100000000 := by rw [h] at hlen; simp at hlen; omega
  have hn : 0 < row.length := by rw [h]; simp; omega
  have hid : idx (row.map fun a => toR (bP L a)) (q.length : Int) = some (toR (bP L a)) := by
   have := gG (q.map fun a => toR (bP L a)) (suf.map fun a => toR (bP L a)) (toR (bP L a))
   rw [List.length_map] at this
   rw [h, List.map_append, List.map_cons]; exact this
  have hprev : ∃ b ∈ row, (md (bn ((bn ((q.length : Int) + ((row.map fun a => toR (bP L a)).length : Int))) - 1)) ((row.map fun a => toR (bP L a)).length : Int)).bind (fun q150 => idx (row.map fun a => toR (bP L a)) q150) = some (toR (bP L b)) ∧ (bP L b).1.d = (q.map fun a => (bP L a).1.d).getLastD (bP L (row.getLastD 0)).1.d := by
   rw [List.length_map, bR (x := (q.length : Int) + row.length) (by omega) (by omega), bR (by omega) (by omega)]
   have hmd : md ((q.length : Int) + row.length - 1) row.length = some (Int.tmod ((q.length : Int) + row.length - 1) row.length) := by unfold md; rw [if_neg (by omega)]
   rw [hmd, Option.bind_some]
   rcases List.eq_nil_or_concat q with hq | ⟨q', b, hq⟩
   ·subst hq
    have e1 : Int.tmod ((([] : List Nat).length : Int) + row.length - 1) row.length = ((row.length - 1 : Nat) : Int) := by
     rw [Int.tmod_eq_emod_of_nonneg (by simp; omega), List.length_nil, Int.emod_eq_of_lt (by omega) (by omega)]; omega
    have hne : row ≠ [] := by rw [h]; simp
    have hlast : row[row.length - 1]? = some (row.getLastD 0) := by
     rw [List.getLastD_eq_getLast?, List.getLast?_eq_getElem?]
     rw [List.getElem?_eq_getElem (by omega)]; rfl
    refine ⟨row.getLastD 0, List.mem_of_getElem? hlast, ?_, rfl⟩
    rw [e1]
    unfold idx
    rw [if_pos (by omega), Int.toNat_natCast, List.getElem?_map, hlast]; rfl
   ·rw [List.concat_eq_append] at hq
    subst hq
    have e1 : Int.tmod (((q' ++ [b]).length : Int) + row.length - 1) row.length = (q'.length : Int) := by
     have : ((q' ++ [b]).length : Int) + row.length - 1 = (q'.length : Int) + row.length := by simp; omega
     rw [this, Int.tmod_eq_emod_of_nonneg (by omega), Int.add_emod_right, Int.emod_eq_of_lt (by omega) (by rw [h]; simp; omega)]
    have hb2 : row[q'.length]? = some b := by rw [h]; simp
    refine ⟨b, List.mem_of_getElem? hb2, ?_, by simp⟩
    rw [e1]
    unfold idx
    rw [if_pos (by omega), Int.toNat_natCast, List.getElem?_map, hb2]; rfl
  obtain ⟨b, hb1, hb2, hb3⟩ := hprev
  have ih := Cw hL hb (N := N) row hr hlen suf (q ++ [a]) f (by rw [h]; simp) (by simp at hf; omega)
  rw [Jd] at ih
  obtain ⟨q150, hq1, hq2⟩ := Option.bind_eq_some_iff.1 hb2
  rw [fZ.eq_2, if_pos (by rw [h, List.length_map]; exact uH q suf a), hq1, Option.bind_some, hq2, Option.bind_some, hdir b hb1, Option.bind_some, hid, Option.bind_some, hdir a (by rw [h]; simp), Option.bind_some, Ob, hb3, Option.bind_some, qO q a (by omega)]
  have hcl := zN L q (bP L (row.getLastD 0)).1.d
  generalize (q.map fun a => (bP L a).1.d).getLastD (bP L (row.getLastD 0)).1.d = dp at ih ⊢
  generalize AJ L (bP L (row.getLastD 0)).1.d q = cq at ih hcl ⊢
  by_cases hd : dp = (bP L a).1.d
  ·rw [if_neg (by simp [hd])]
   rw [if_neg (by simpa using hd), List.append_nil] at ih
   exact ih
  ·rw [if_pos (by simpa using hd)]
   rw [if_pos hd, List.map_append] at ih
   rw [iO (by rw [List.length_map]; simp; omega), Option.bind_some]
   exact ih
theorem I9 (hL : mV I L) (hb : yF L) {N : Nat} (hN : 100000000 < N) {row : List Nat} (hr : ∀ a ∈ row, a < L.length) (hlen : row.length ≤ 100000000) (hne : AJ L (bP L (row.getLastD 0)).1.d row ≠ []) : kz N (row.map fun a => toR (bP L a)) = some ((mM L row).map iw) := by
 unfold kz
 have h1 := Cw hL hb (N := N) row hr hlen row [] N rfl (by omega)
 have h0 : (AJ L (bP L (row.getLastD 0)).1.d []).map iw = [] := rfl
 rw [h0] at h1
 have e0 : ((([] : List Nat).length : Nat) : Int) = 0 := rfl
 rw [e0] at h1
 rw [h1]
 unfold mM lr
 have hcl := zN L row (bP L (row.getLastD 0)).1.d
 generalize AJ L (bP L (row.getLastD 0)).1.d row = c at hne hcl
 obtain ⟨p, r, rfl⟩ := List.exists_cons_of_ne_nil hne
 have h2 := y7 (p :: r) (by omega) (p :: r) [] 0 N p rfl rfl (by omega)
 have e0 : ((0 : Nat) : Int) = 0 := rfl
 have e1 : ((([] : List (Int × Int)).length : Nat) : Int) = 0 := rfl
 rw [e0, e1] at h2
 rw [h2]
 have hk := LK (p :: r) (0, p) 0 (p :: r).length (by simp) (by simp)
 rw [List.length_nil, Ph (by rw [List.length_map]; omega) (by rw [List.length_map]; omega)]
 simp only [List.headD_cons, List.map_append, List.map_drop, List.map_take]
end
theorem Ex {out : List (List (Int × Int))} {l : List (Int × Int)} {x : Int} {u : List Bool} {k : List Bool → List (List aA) → Int → Option (List (List aA))} (hlen : out.length ≤ 100000000) (h4 : ∀ m ∈ out, 4 ≤ m.length) (hl : 4 ≤ l.length)
  (hs : out.Pairwise fun a b => pl (a.headD (0, 0)) (b.headD (0, 0))) (hne : ∀ m ∈ out, m.headD (0, 0) ≠ l.headD (0, 0)) : ∀ (n f : Nat), n ≤ out.length → n < f → (∀ m ∈ out.drop n, pl (l.headD (0, 0)) (m.headD (0, 0))) →
  ∃ out' : List (List (Int × Int)), out'.Perm (out ++ [l]) ∧ (out'.Pairwise fun a b => pl (a.headD (0, 0)) (b.headD (0, 0))) ∧ eY (out.map (List.map iw)) x k u (l.map iw) f (n : Int) = k u (out'.map (List.map iw)) (bn (x + 1))
 | _, 0, _, hf, _ => absurd hf (Nat.not_lt_zero _)
 | n, f + 1, hn, hf, hd => by
  obtain ⟨q, r, e1⟩ := Gu hl
  have i0 : ∀ (l : List (Int × Int)), 4 ≤ l.length → idx (l.map iw) 0 = some (iw (l.headD (0, 0))) := fun l hl => by
   obtain ⟨q, r, e1⟩ := Gu hl
   rw [e1]
   unfold idx; simp
  have hput : (Proofs.YtcjeebkoafonpaaGreatDoor.pre (out.map (List.map iw)) (n : Int)).bind (fun TG => (sj ([] : List (List aA)) TG).bind fun TF => (sj TF [l.map iw]).bind fun TE => (cut (out.map (List.map iw)) (n : Int) ((out.map (List.map iw)).length : Int)).bind fun TD => (sj TE TD).bind fun TC => k u TC (bn (x + 1))) = k u ((out.take n ++ [l] ++ out.drop n).map (List.map iw)) (bn (x + 1)) := by
   have e2 : Proofs.YtcjeebkoafonpaaGreatDoor.pre (out.map (List.map iw)) (n : Int) = some ((out.take n).map (List.map iw)) := by
    unfold Proofs.YtcjeebkoafonpaaGreatDoor.pre
    rw [if_pos (by simp; omega)]
    simp
   have e3 : cut (out.map (List.map iw)) (n : Int) ((out.map (List.map iw)).length : Int) = some ((out.drop n).map (List.map iw)) := by
    unfold cut
    rw [if_pos (by simp; omega)]
    rw [Int.toNat_natCast, Int.toNat_natCast, List.take_length, List.map_drop]
   rw [e2, Option.bind_some, iO (by simp; omega), Option.bind_some, List.nil_append, iO (by simp; omega), Option.bind_some, e3, Option.bind_some, iO (by simp; omega), Option.bind_some]
   simp only [List.map_append, List.map_cons, List.map_nil]
  have hperm : (out.take n ++ [l] ++ out.drop n).Perm (out ++ [l]) := by
   have h1 : (out.take n ++ [l] ++ out.drop n).Perm (out.take n ++ (out.drop n ++ [l])) := by
    rw [List.append_assoc]
    exact List.Perm.append_left _ List.perm_append_comm
   rw [← List.append_assoc, List.take_append_drop] at h1
   exact h1
  have hsplit := hs
  rw [← List.take_append_drop n out] at hsplit
  obtain ⟨s1, s2, s3⟩ := List.pairwise_append.1 hsplit
  cases n with
  | zero =>
   refine ⟨_, hperm, ?_, ?_⟩
   ·simp only [List.take_zero, List.drop_zero, List.nil_append, List.singleton_append] at hd ⊢
    exact List.pairwise_cons.2 ⟨hd, hs⟩
   ·rw [eY.eq_2, if_neg (by simp), Option.bind_some, if_neg (by simp)]
    exact hput
  | succ n =>
   have hnl : n < out.length := by omega
   have hmem : out[n] ∈ out := List.getElem_mem hnl
   have ex : bn (((n + 1 : Nat) : Int) - 1) = (n : Int) := by rw [bR (by omega) (by omega)]; omega
   have hidx : idx (out.map (List.map iw)) (n : Int) = some (out[n].map iw) := by
    unfold idx
    rw [if_pos (by omega), Int.toNat_natCast, List.getElem?_map, List.getElem?_eq_getElem hnl]; rfl
   rw [eY.eq_2, if_pos (by simp), i0 l hl, Option.bind_some, ex, hidx, Option.bind_some, i0 _ (h4 _ hmem), Option.bind_some, IQ, Option.bind_some]
   by_cases hp : pl (l.headD (0, 0)) (out[n].headD (0, 0))
   ·rw [if_pos (by simpa using hp), Option.bind_some, Option.bind_some, if_pos rfl]
    refine Ex hlen h4 hl hs hne n f (by omega) (by omega) fun m hm => ?_
    rw [List.drop_eq_getElem_cons hnl] at hm
    rcases List.mem_cons.1 hm with rfl | hm
    ·exact hp
    ·exact hd m hm
   ·rw [if_neg (by simpa using hp), Option.bind_some, Option.bind_some, i0 _ (h4 _ hmem), Option.bind_some, PN, if_neg (fun hh => hne _ hmem (of_decide_eq_true hh).symm), Option.bind_some, Option.bind_some, Option.bind_some, if_neg (by simp)]
    have hlast : pl (out[n].headD (0, 0)) (l.headD (0, 0)) := by
     rcases xx (out[n].headD (0, 0)) (l.headD (0, 0)) with h5 | h5 | h5
     ·exact h5
     ·exact absurd h5 (hne _ hmem)
     ·exact absurd h5 hp
    refine ⟨_, hperm, ?_, hput⟩
    rw [List.append_assoc, List.singleton_append]
    refine List.pairwise_append.2 ⟨s1, List.pairwise_cons.2 ⟨hd, s2⟩, fun a ha b hb => ?_⟩
    rcases List.mem_cons.1 hb with rfl | hb
    ·rw [List.take_add_one, List.getElem?_eq_getElem hnl] at ha s1
     rcases List.mem_append.1 ha with ha | ha
     ·have := (List.pairwise_append.1 s1).2.2 a ha out[n] (by simp)
      exact yX this hlast
     ·have : a = out[n] := by simpa using ha
      rw [this]; exact hlast
    ·exact s3 a ha b hb
section
variable {I : Sq} {L : List Sd}
theorem BZ (h : mV I L) (hR : L.Pairwise RO) (hb : yF L) {N : Nat} (hN : 10000000000 ≤ N) : ∀ (n i m : Nat) (u : List Bool) (rs : List (List Nat)) (ls : List (List (Int × Int))), i + n = L.length → n < m → Rx I L u rs → (∀ a, a < i → ∃ r ∈ rs, a ∈ r) → rs.length ≤ i → ls.Perm (rs.map (mM L)) → (ls.Pairwise fun a b => pl (a.headD (0, 0)) (b.headD (0, 0))) →
  ∃ ls', CW I ls' ∧ bM N (L.map toR) m u (ls.map (List.map iw)) (i : Int) = some (ls'.map (List.map iw))
 | _, _, 0, _, _, _, _, hm, _, _, _, _, _ => absurd hm (Nat.not_lt_zero _)
 | 0, i, m + 1, u, rs, ls, hi, _, inv, hall, _, hp, ho => by
  refine ⟨ls, yz.outs h (rs := rs) ⟨inv.row, fun a ha => hall a (by omega), inv.once⟩ hp ho, ?_⟩
  rw [bM.eq_2, if_neg (by simp; omega)]
 | n + 1, i, m + 1, u, rs, ls, hi, hm, inv, hall, hrs, hp, ho => by
  have hil : i < L.length := by omega
  have hlen := hb.len
  have hu := inv.len
  have e1 : bn ((i : Int) + 1) = ((i + 1 : Nat) : Int) := by rw [bR (by omega) (by omega)]; omega
  rw [bM.eq_2, if_pos (by simp; omega), sI (l := u) (i := i) (by omega), Option.bind_some]
  by_cases hx : u[i] = true
  ·rw [if_pos hx, e1]
   refine BZ h hR hb hN n (i + 1) m u rs ls (by omega) (by omega) inv (fun a ha => ?_) (by omega) hp ho
   rcases Nat.lt_or_ge a i with h3 | h3
   ·exact hall a h3
   ·have : a = i := by omega
    subst this
    exact (inv.use _).1 (by rw [List.getElem?_eq_getElem (by omega), hx])
  ·rw [if_neg hx]
   have hir : ∀ r ∈ rs, i ∉ r := fun r hr hh => by
    have := (inv.use i).2 ⟨r, hr, hh⟩
    rw [List.getElem?_eq_getElem (by omega)] at this
    exact hx (Option.some.inj this)
   have hcl : u.count false ≤ u.length := List.count_le_length
   obtain ⟨r, u', r1, r2, r3, r4, r5, r6, r7, r8⟩ := FJ h hR hb (N := N) (by omega) inv.row hir hall (ls.map (List.map iw)) (i : Int) (bM N (L.map toR) m) N [] i u [] rfl trivial (by simp) (fun a ha r hr => by
    rw [List.mem_singleton.1 ha]; exact hir r hr) hil (fun a ha => (nomatch ha)) hu (fun a => by rw [inv.use a]; simp) (by omega)
   rw [List.map_nil] at r8
   have hl4 := Fx h (rs := rs ++ [r]) (fun r' hr' => by
    rcases List.mem_append.1 hr' with g1 | g1
    ·exact inv.row r' g1
    ·rw [List.mem_singleton.1 g1]; exact r1)
   have inv' : Rx I L u' (rs ++ [r]) := ⟨r5, fun a => by
     rw [r6 a]
     constructor
     ·rintro (⟨r', g1, g2⟩ | g1)
      ·exact ⟨r', by simp [g1], g2⟩
      ·exact ⟨r, by simp, g1⟩
     ·rintro ⟨r', g1, g2⟩
      rcases List.mem_append.1 g1 with g1 | g1
      ·exact .inl ⟨r', g1, g2⟩
      ·rw [List.mem_singleton.1 g1] at g2; exact .inr g2, fun r' hr' => by
     rcases List.mem_append.1 hr' with g1 | g1
     ·exact inv.row r' g1
     ·rw [List.mem_singleton.1 g1]; exact r1, List.pairwise_append.2 ⟨inv.once, by simp, fun x hx y hy a ha hh => by
     rw [List.mem_singleton.1 hy] at hh
     exact r3 a hh x hx ha⟩⟩
   have hhd : ((rs ++ [r]).map (mM L)).Pairwise fun a b => a.headD (0, 0) ≠ b.headD (0, 0) := by
    obtain ⟨B, hB⟩ := h.fin
    rw [List.pairwise_map]
    refine List.Pairwise.imp_of_mem (R := fun r r' => ∀ a ∈ r, a ∉ r') (fun {r r'} hr hr' hd heq => ?_) inv'.once
    obtain ⟨e, e1, e2, b, b1, i, b2, b3⟩ := rU h (inv'.row r hr)
    obtain ⟨f, f1, f2, c, c1, j, c2, c3⟩ := rU h (inv'.row r' hr')
    rw [e2.headD hB e1, f2.headD hB f1] at heq
    have := CR.uniq hB e1 f1 heq
    subst this
    rw [b3] at c3
    have := h.once b c _ _ (oC (K7 b2)) (oC (K7 c2)) i j b2 c2 c3
    subst this
    exact hd b b1 c1
   rw [List.map_append] at hhd hl4
   have hne : ∀ m ∈ ls, m.headD (0, 0) ≠ (mM L r).headD (0, 0) := fun m hm => (List.pairwise_append.1 hhd).2.2 m (hp.mem_iff.1 hm) _ (by simp)
   have hll : ls.length = rs.length := by rw [hp.length_eq, List.length_map]
   obtain ⟨ls2, p1, p2, p3⟩ := Ex (out := ls) (l := mM L r) (x := (i : Int)) (u := u') (k := bM N (L.map toR) m) (by omega) (fun m hm => hl4 m (List.mem_append_left _ (hp.mem_iff.1 hm))) (hl4 _ (by simp)) ho hne ls.length N (Nat.le_refl _) (by omega) (by rw [List.drop_length]; intro m hm; cases hm)
   rw [r8, I9 h hb (by omega) r4 (by omega) (Jc h r1), Option.bind_some, List.length_map, p3, e1]
   refine BZ h hR hb hN n (i + 1) m u' (rs ++ [r]) ls2 (by omega) (by omega) inv' (fun a ha => ?_) (by simp; omega) (p1.trans (by rw [List.map_append]; exact hp.append_right _)) p2
   rcases Nat.lt_or_ge a i with h3 | h3
   ·obtain ⟨r', g1, g2⟩ := hall a h3
    exact ⟨r', by simp [g1], g2⟩
   ·have : a = i := by omega
    subst this
    exact ⟨r, by simp, r2⟩
theorem Pn (h : mV I L) (hR : L.Pairwise RO) (hb : yF L) {N : Nat} (hN : 10000000000 ≤ N) : ∃ ls, CW I ls ∧ ((MI false ((L.map toR).length : Int)).bind fun T9 => bM N (L.map toR) N T9 ([] : List (List aA)) 0) = some (ls.map (List.map iw)) := by
 have hlen := hb.len
 have hmk : (MI false ((L.map toR).length : Int)) = some (List.replicate L.length false) := by
  unfold MI
  rw [if_pos (by simp; omega)]
  simp
 rw [hmk, Option.bind_some]
 obtain ⟨ls, l1, l2⟩ := BZ h hR hb hN L.length 0 N (List.replicate L.length false) [] [] (by omega) (by omega) ⟨by simp, fun a => by simp [List.getElem?_replicate], fun r hr => (nomatch hr), .nil⟩ (fun a ha => absurd ha (Nat.not_lt_zero _)) (Nat.le_refl _) (List.Perm.refl _) .nil
 exact ⟨ls, l1, l2⟩
end
section
variable {N : Nat} (hN : 10000000000 ≤ N)
include hN
omit hN in
theorem KV {l : List Bd} {b : Bd} {K : List aI → Int → Option (List aI)} {i : Int} (hi0 : 0 ≤ i ∧ i ≤ 1000000000) (hi : idx (l.map qm) i = some (qm b)) (hb : b.2.2.length ≤ 100000000) : ∀ (suf pre : List (Int × Int)) (m : Nat) (out : List aI), b.2.2 = pre ++ suf → suf.length < m → out.length + suf.length ≤ 4294967296 →
  iI (l.map qm) i K m out pre.length = K (out ++ suf.map fun s => ⟨s.1, b.1, s.2, b.2.1⟩) (i + 1)
 | [], pre, m + 1, out, h1, _, _ => by
  rw [iI.eq_2, hi, Option.bind_some, if_neg (by show ¬ decide ((pre.length : Int) < ((b.2.2.map jy).length : Int)) = true; rw [h1]; simp), bR (by omega) (by omega)]
  simp
 | s :: suf, pre, m + 1, out, h1, h2, h3 => by
  have hpl : pre.length ≤ 100000000 := by rw [h1] at hb; simp at hb; omega
  have hid : idx (qm b).spans (pre.length : Int) = some (jy s) := by
   show idx (b.2.2.map jy) _ = _
   rw [h1, List.map_append, List.map_cons, show pre.length = (pre.map jy).length by simp]; exact gG _ _ _
  simp only [List.length_cons] at h2 h3
  rw [iI.eq_2, hi, Option.bind_some, if_pos (by show decide ((pre.length : Int) < ((b.2.2.map jy).length : Int)) = true; rw [h1]; simp; omega)]
  simp only [Option.bind_some, hid]
  rw [iO (by simp; omega), Option.bind_some, qO pre s (by omega), KV hi0 hi hb suf (pre ++ [s]) m _ (by rw [h1]; simp) (by omega) (by simp; omega)]
  simp [jy, qm]
theorem KU {l : List Bd} (h : Small l) : oZ N (l.map qm) = some (kI l) := by
 have key : ∀ (suf pre : List Bd) (m : Nat), l = pre ++ suf → suf.length < m → fG N (l.map qm) m (kI pre) pre.length = some (kI l) := by
  intro suf
  induction suf with
  | nil =>
   intro pre m h1 h2
   obtain ⟨m, rfl⟩ : ∃ k, m = k + 1 := ⟨m - 1, by omega⟩
   rw [fG.eq_2, if_neg (by rw [h1]; simp), h1, List.append_nil]
  | cons b suf ih =>
   intro pre m h1 h2
   obtain ⟨m, rfl⟩ : ∃ k, m = k + 1 := ⟨m - 1, by omega⟩
   have hlen := h.len
   have hpl : pre.length + 1 ≤ 200000000 := by rw [h1] at hlen; simp at hlen; omega
   have hid : idx (l.map qm) (pre.length : Int) = some (qm b) := by
    rw [h1, List.map_append, List.map_cons, show pre.length = (pre.map qm).length by simp]; exact gG _ _ _
   have hr := h.tot
   rw [h1, Fb, um, List.length_append, List.length_append, wM] at hr
   have hb := h.row b (by rw [h1]; simp)
   rw [fG.eq_2, if_pos (by rw [h1]; simp; omega)]
   have := KV (K := fG N (l.map qm) m) (i := (pre.length : Int)) ⟨by omega, by omega⟩ hid hb b.2.2 [] N (kI pre) rfl (by omega) (by omega)
   rw [show ((([] : List (Int × Int)).length : Nat) : Int) = 0 from rfl] at this
   rw [this, show kI pre ++ (b.2.2.map fun s => (⟨s.1, b.1, s.2, b.2.1⟩ : aI)) = kI (pre ++ [b]) by unfold kI; simp [AZ], show ((pre.length : Int) + 1) = ((pre ++ [b]).length : Int) by simp]
   exact ih (pre ++ [b]) m (by rw [h1]; simp) (by simp at h2; omega)
 exact key l [] N rfl (by have := h.len; omega)
theorem HY {l : List aI} (hl : l.length ≤ 100000000) (ht : (kI (rC l)).length ≤ 4000000000) : jH N l = some (kI (rC l)) := by
 have hyl : (dH (dF l)).length ≤ 200000000 := Nat.le_trans (sD _) (by rw [tC]; omega)
 have hsm := CE hl ht
 have key : ∀ (hsuf hpre : List Int) (a : Int) (m : Nat) (bands : List Bd), dH (dF l) = hpre ++ a :: hsuf → hsuf.length < m → bands.length ≤ hpre.length → (∀ c ∈ bands, c.2.2.length ≤ 100000000) → sO l (a :: hsuf) bands = rC l →
   dD N l (dH (dF l)) m (bands.map qm) ((hpre.length : Int) + 1) = some (kI (rC l)) := by
  intro hsuf
  induction hsuf with
  | nil =>
   intro hpre a m bands h1 h2 h3 h4 h5
   obtain ⟨m, rfl⟩ : ∃ k, m = k + 1 := ⟨m - 1, by omega⟩
   rw [dD.eq_2, if_neg (by rw [h1]; simp)]
   have e : bands = rC l := h5
   rw [e, KU hN hsm]; rfl
  | cons b hsuf ih =>
   intro hpre a m bands h1 h2 h3 h4 h5
   obtain ⟨m, rfl⟩ : ∃ k, m = k + 1 := ⟨m - 1, by omega⟩
   have hpl : hpre.length + 2 ≤ 200000000 := by rw [h1] at hyl; simp at hyl; omega
   have ha : idx (dH (dF l)) (hpre.length : Int) = some a := by rw [h1]; exact gG hpre _ a
   have hb : idx (dH (dF l)) ((hpre.length : Int) + 1) = some b := by
    rw [h1, show hpre ++ a :: b :: hsuf = (hpre ++ [a]) ++ b :: hsuf by simp, show ((hpre.length : Int) + 1) = ((hpre ++ [a]).length : Int) by simp]
    exact gG (hpre ++ [a]) _ b
   have hst := JN (N := N) (l := bands) (b := (a, b, rR l a)) hN (by omega) (fun c hc => by have := h4 c hc; omega)
   have hr := Ef l a
   have hpb := BV bands (a, b, rR l a)
   rw [dD.eq_2, if_pos (by rw [h1]; simp; omega), bR (x := (hpre.length : Int) + 1 - 1) (by omega) (by omega), show ((hpre.length : Int) + 1 - 1) = (hpre.length : Int) by omega, ha, Option.bind_some, hb, Option.bind_some, Option.bind_some, Ee hN hl, Option.bind_some]
   show (ky N (bands.map qm) (qm (a, b, rR l a))).bind _ = _
   rw [hst, Option.bind_some, bR (by omega) (by omega)]
   have := ih (hpre ++ [a]) b m (pushB bands (a, b, rR l a)) (by rw [h1]; simp) (by simp at h2; omega) (by simp; omega) (FQ h4 (by show (rR l a).length ≤ 100000000; omega)) h5
   rw [show ((hpre ++ [a]).length : Int) = (hpre.length : Int) + 1 by simp] at this
   exact this
 unfold jH
 rw [Kh hN hl, Option.bind_some]
 cases hy : dH (dF l) with
 | nil =>
  obtain ⟨m, hm⟩ : ∃ k, N = k + 1 := ⟨N - 1, by omega⟩
  have e : rC l = [] := by unfold rC; rw [hy]; rfl
  have hf : dD N l [] N [] 1 = dD N l [] (m + 1) [] 1 := congrArg (fun z => dD N l [] z [] 1) hm
  rw [hf, dD.eq_2, if_neg (by simp)]
  have := KU hN hsm
  rw [e] at this ⊢
  rw [List.map_nil] at this
  rw [this]; rfl
 | cons a hsuf =>
  have := key hsuf [] a N [] hy (by rw [hy] at hyl; simp at hyl; omega) (by simp) (by simp) (by unfold rC; rw [hy])
  rw [hy] at this
  exact this
end
theorem E8 {N : Nat} (hN : 10000000000 ≤ N) (l : List aI) : kG N l = some (qo l) := by
 unfold kG qo
 by_cases h : 2000 < l.length
 ·rw [if_pos (by simp; omega), if_pos h]
 ·rw [if_neg (by simp; omega), if_neg h]
  have key : ∀ (suf pre : List aI) (m : Nat), l = pre ++ suf → suf.length < m → fT l m pre.length = some (z8 suf) := by
   intro suf
   induction suf with
   | nil =>
    intro pre m h1 h2
    obtain ⟨m, rfl⟩ : ∃ k, m = k + 1 := ⟨m - 1, by omega⟩
    rw [fT.eq_2, if_neg (by rw [h1]; simp)]; rfl
   | cons r suf ih =>
    intro pre m h1 h2
    obtain ⟨m, rfl⟩ : ∃ k, m = k + 1 := ⟨m - 1, by omega⟩
    have hpl : pre.length ≤ 2000 := by rw [h1] at h; simp at h; omega
    have hid : idx l (pre.length : Int) = some r := by rw [h1]; exact gG pre suf r
    have hat : ∀ x, jh x = some (within x (-1000000) 1000000) := fun x => rfl
    rw [fT.eq_2, if_pos (by rw [h1]; exact uH pre suf r), hid, Option.bind_some, hat, hat, hat, hat, qO pre r (by omega), ih (pre ++ [r]) m (by rw [h1]; simp) (by simp at h2; omega)]
    show _ = some (if Fe r = 0 then z8 suf else Fe r)
    generalize z8 suf = z
    unfold Fe
    cases within r.X0 (-1000000) 1000000 <;> cases within r.Y0 (-1000000) 1000000 <;> cases within r.X1 (-1000000) 1000000 <;> cases within r.Y1 (-1000000) 1000000 <;> cases (decide (r.X1 ≤ r.X0) || decide (r.Y1 ≤ r.Y0)) <;> simp
  exact key l [] N rfl (by omega)
theorem Hy {N : Nat} {l m : List aI} (hN : 10000000000 ≤ N) (hl : l.length ≤ 1000000000) : ∃ b : Bool, jG N l m = some b ∧ (b = true ↔ l = m) := by
 have key : ∀ (s1 s2 p1 p2 : List aI) (n : Nat), l = p1 ++ s1 → m = p2 ++ s2 → p1.length = p2.length → s1.length = s2.length → s1.length < n → ∃ b : Bool, gz l m n p1.length = some b ∧ (b = true ↔ s1 = s2) := by
  intro s1
  induction s1 with
  | nil =>
   intro s2 p1 p2 n h1 h2 h3 h4 h5
   obtain ⟨n, rfl⟩ : ∃ k, n = k + 1 := ⟨n - 1, by omega⟩
   have : s2 = [] := List.eq_nil_of_length_eq_zero h4.symm
   subst this
   rw [gz.eq_2, if_neg (by rw [h1]; simp)]; exact ⟨true, rfl, by simp⟩
  | cons q s1 ih =>
   intro s2 p1 p2 n h1 h2 h3 h4 h5
   obtain ⟨n, rfl⟩ : ∃ k, n = k + 1 := ⟨n - 1, by omega⟩
   cases s2 with
   | nil => simp at h4
   | cons q2 s2 =>
    have hp : p1.length ≤ 1000000000 := by rw [h1] at hl; simp at hl; omega
    have e1 : idx l (p1.length : Int) = some q := by rw [h1]; exact gG _ _ _
    have e2 : idx m (p1.length : Int) = some q2 := by rw [h2, h3]; exact gG _ _ _
    rw [gz.eq_2, if_pos (by rw [h1]; simp; omega), e1, Option.bind_some, e2, Option.bind_some, qO p1 q (by omega)]
    by_cases hq : q = q2
    ·subst hq
     obtain ⟨b, b1, b2⟩ := ih s2 (p1 ++ [q]) (p2 ++ [q]) n (by rw [h1]; simp) (by rw [h2]; simp) (by simp; omega) (by simpa using h4) (by simp at h5; omega)
     rw [uw.2 rfl, if_neg (by simp), b1]
     exact ⟨b, rfl, by simp [b2]⟩
    ·have : vo q q2 = false := by rw [Bool.eq_false_iff]; exact fun h => hq (uw.1 h)
     rw [this, if_pos (by simp)]
     exact ⟨false, rfl, by simp [hq]⟩
 unfold jG
 by_cases h : l.length = m.length
 ·rw [if_neg (by simp; omega)]
  exact key l m [] [] N rfl rfl rfl h (by omega)
 ·rw [if_pos (by simp; omega)]
  exact ⟨false, rfl, by simp; exact fun e => h (by rw [e])⟩
theorem CX {N : Nat} (hN : 10000000000 ≤ N) (l : List aI) : kr N l = some (mO l) := by
 unfold kr mO
 rw [E8 hN, Option.bind_some]
 by_cases he : qo l = 0
 ·obtain ⟨hl, hok⟩ := yV he
  rw [if_neg (by simpa using he), if_pos he]
  have hend : (jH N l).bind (fun y114 => (jG N l y114).bind fun Tj => if (!Tj) then some 3 else some 0) = some (if kI (rC l) = l then (0 : Int) else 3) := by
   rw [HY hN (by omega) (D6 (by omega)).tot, Option.bind_some]
   obtain ⟨b, h1, h2⟩ := Hy (N := N) (l := l) (m := kI (rC l)) hN (by omega)
   rw [h1, Option.bind_some]
   cases b
   ·rw [if_pos (by simp), if_neg (fun h => by have := h2.2 h.symm; cases this)]
   ·rw [if_neg (by simp), if_pos (h2.1 rfl).symm]
  have key : ∀ (suf pre : List aI) (a : aI) (m : Nat), l = pre ++ a :: suf → suf.length < m → di N l m ((pre.length : Int) + 1) = some (if IG (a :: suf) = true then if kI (rC l) = l then 0 else 3 else 8) := by
   intro suf
   induction suf with
   | nil =>
    intro pre a m h1 h2
    obtain ⟨m, rfl⟩ : ∃ k, m = k + 1 := ⟨m - 1, by omega⟩
    rw [di.eq_2, if_neg (by rw [h1]; simp), hend]
    rfl
   | cons b suf ih =>
    intro pre a m h1 h2
    obtain ⟨m, rfl⟩ : ∃ k, m = k + 1 := ⟨m - 1, by omega⟩
    have hpl : pre.length ≤ 2000 := by rw [h1] at hl; simp at hl; omega
    have ha : idx l (pre.length : Int) = some a := by rw [h1]; exact gG pre _ a
    have hb : idx l ((pre.length : Int) + 1) = some b := by
     rw [h1, show pre ++ a :: b :: suf = (pre ++ [a]) ++ b :: suf by simp, show ((pre.length : Int) + 1) = ((pre ++ [a]).length : Int) by simp]
     exact gG (pre ++ [a]) _ b
    have hbf : mD a b = some (Pw a b) := by
     unfold mD Pw
     congr 1
    rw [di.eq_2, if_pos (by rw [h1]; simp; omega), bR (x := (pre.length : Int) + 1 - 1) (by omega) (by omega), show ((pre.length : Int) + 1 - 1) = (pre.length : Int) by omega, ha, Option.bind_some, hb, Option.bind_some, hbf, Option.bind_some, bR (by omega) (by omega)]
    have hor : IG (a :: b :: suf) = (Pw a b && IG (b :: suf)) := rfl
    rw [hor]
    cases Pw a b
    ·simp
    ·have := ih (pre ++ [a]) b m (by rw [h1]; simp) (by simp at h2; omega)
     rw [show (((pre ++ [a]).length : Int) + 1) = (pre.length : Int) + 1 + 1 by simp] at this
     rw [this]
     simp
  cases l with
  | nil =>
   obtain ⟨m, hm⟩ : ∃ k, N = k + 1 := ⟨N - 1, by omega⟩
   have hf : di N ([] : List aI) N 1 = di N ([] : List aI) (m + 1) 1 := congrArg (fun z => di N ([] : List aI) z 1) hm
   rw [hf, di.eq_2, if_neg (by simp), hend]
   rfl
  | cons a suf =>
   exact key suf [] a N rfl (by simp at hl; omega)
 ·rw [if_pos (by simpa using he), if_neg he]
open PX
theorem LY (y : List (List aA)) (hl : y.length ≤ 1000000000) : ∀ (suf pre : List (List aA)) (m : Nat) (n : Int), y = pre ++ suf → suf.length < m → gI y m n (pre.length : Int) = some (if 2000 < Fj suf n then ([], 2) else (y, 0))
 | _, _, 0, _, _, hm => absurd hm (Nat.not_lt_zero _)
 | [], pre, m + 1, n, h, _ => by
  rw [gI.eq_2, if_neg (by rw [h]; simp)]
  unfold Fj
  by_cases h : 2000 < n
  ·rw [if_pos (by simpa using h), if_pos h]
  ·rw [if_neg (by simpa using h), if_neg h]
 | p :: suf, pre, m + 1, n, h, hm => by
  have hpl : pre.length + 1 ≤ 1000000000 := by rw [h] at hl; simp at hl; omega
  have hid : idx y (pre.length : Int) = some p := by rw [h]; exact gG pre suf p
  rw [gI.eq_2, if_pos (by rw [h]; exact uH pre suf p), hid, Option.bind_some, qO pre p (by omega)]
  rw [LY y hl suf (pre ++ [p]) m _ (by rw [h]; simp) (by simp at hm; omega)]; rfl
theorem GQ {N : Nat} (hN : 10000000000 ≤ N) {l : List aI} (h : mO l = 0) : ∃ ls, CW (ve l) ls ∧ kF N l = some (ls.map (List.map iw)) := by
 obtain ⟨_, h2, h3, h4⟩ := xS h
 have hne := Na.ne h3
 have hl := JS h2
 have hlim := Lr D5 (yU h3) (L := vO l (dH (fD l)) (dH (dF l))) (by omega)
 obtain ⟨ls, l1, l2⟩ := Pn D5 FH hlim hN
 refine ⟨ls, l1, ?_⟩
 unfold kF
 rw [Mr hN h2 (fun r hr => (hne r hr).1), Option.bind_some]
 exact l2
theorem Fq {N : Nat} (hN : 10000000000 ≤ N) (l : List aI) : ∃ y, mR N l = some y ∧ lC N l = some y := by
 obtain ⟨y, y1, y2, y3⟩ := Bv hN l
 refine ⟨y, y1, ?_⟩
 unfold lC
 rw [CX hN, Option.bind_some]
 by_cases h : mO l = 0
 ·rw [if_neg (by simpa using h)]
  obtain ⟨ls, l1, _, l2, _, rfl⟩ := y3 h
  obtain ⟨ls', m1, m2⟩ := GQ hN h
  have := m1.uniq l1
  subst this
  have e0 : ((([] : List (List aA)).length : Nat) : Int) = 0 := rfl
  have := LY (ls'.map (List.map iw)) (by simp; omega) (ls'.map (List.map iw)) [] N 0 rfl (by simp; omega)
  rw [e0] at this
  rw [m2, Option.bind_some, this]; rfl
 ·rw [if_pos (by simpa using h), y2 h]
theorem AR : ∀ (suf pre : List aA) (m : Nat), suf.length < m → (pre ++ suf).length ≤ 9223372036854775807 → fO (pre ++ suf) (pre ++ suf) m (pre.length : Int) = some true
 | [], pre, m, hm, hl => by
  obtain ⟨m, rfl⟩ : ∃ k, m = k + 1 := ⟨m - 1, by omega⟩
  rw [fO, NK, if_neg (by simp)]
 | q :: l, pre, m, hm, hl => by
  obtain ⟨m, rfl⟩ : ∃ k, m = k + 1 := ⟨m - 1, by simp at hm; omega⟩
  simp at hm hl
  rw [fO, uH, if_pos rfl, gG, Option.bind_some, Option.bind_some, show fB q q = true from sM.2 rfl, if_neg (by simp), CY _ q (by omega), Ih, AR l (pre ++ [q]) m (by omega) (by simp; omega)]
theorem JW {N : Nat} {l : List aA} (hN : l.length < N) (hl : l.length ≤ 9223372036854775807) : kD N l l = some true := by
 unfold kD
 rw [if_neg (by simp)]
 exact AR l [] N hN hl
theorem AQ {N : Nat} {rec : List aJ → List aJ → Option Bool} : ∀ (suf pre : List aJ) (m : Nat), suf.length < m → (pre ++ suf).length ≤ 9223372036854775807 → (∀ x ∈ suf, x.Points.length < N ∧ x.Points.length ≤ 9223372036854775807 ∧ rec x.Steps x.Steps = some true) → gp N (pre ++ suf) (pre ++ suf) rec m (pre.length : Int) = some true
 | [], pre, m, hm, hl, h => by
  obtain ⟨m, rfl⟩ : ∃ k, m = k + 1 := ⟨m - 1, by omega⟩
  rw [gp, NK, if_neg (by simp)]
 | x :: l, pre, m, hm, hl, h => by
  obtain ⟨m, rfl⟩ : ∃ k, m = k + 1 := ⟨m - 1, by simp at hm; omega⟩
  simp at hm hl
  obtain ⟨h1, h2, h3⟩ := h x List.mem_cons_self
  rw [gp, uH, if_pos rfl, gG, Option.bind_some, Option.bind_some]
  simp only [bne_self_eq_false, AU.2 rfl, sM.2 rfl, Bool.not_true, Bool.or_self, Bool.false_eq_true, if_false, JW h1 h2, h3, Option.bind_some]
  rw [CY _ x (by omega), Ih, AQ l (pre ++ [x]) m (by omega) (by simp; omega) (fun y hy => h y (List.mem_cons_of_mem _ hy))]
theorem D7 : ∀ (k : Nat) (l : List aJ) (N : Nat), oo l ≤ k → k + 5 ≤ N → l.length ≤ 9223372036854775807 → Ao l → kU N l l = some true
 | k, l, N, hk, hN, hl, hA => by
  obtain ⟨N, rfl⟩ : ∃ n, N = n + 1 := ⟨N - 1, by omega⟩
  have hlen := Cy l
  show kg N _ l l = _
  unfold kg
  rw [if_neg (by simp)]
  exact AQ l [] N (by omega) (by simpa using hl) (fun s hs => by
   have h1 := Cx hs
   have h2 := zD s
   have h3 := (Lt s).1 (IR hA hs)
   cases k with
   | zero => omega
   | succ k => exact ⟨by omega, h3.2.2.1.1, D7 k s.Steps N (by omega) (by omega) h3.2.2.2.2.1 h3.2.2.2.2.2⟩)
theorem Ha {x : aJ} (hk : x.Kind = 1 ∨ x.Kind = 2 ∨ x.Kind = 7) (hn : x.Name = ⟨#[]⟩) (ha : x.At = ⟨0, 0⟩) (hp : x.Kind ≠ 7 → x.Points = []) (h1 : x.NX = 0) (h2 : x.NY = 0) (h3 : x.Steps = []) : jc x = some true := by
 have en : yL x.Name ByteArray.empty = true := by rw [hn]; exact Ik _
 have ea : fB x.At (aA.mk 0 0) = true := by rw [ha]; exact sM.2 rfl
 unfold jc iP iQ
 rcases hk with hk | hk | hk
 ·simp [hk, en, ea, hp (by omega), h1, h2, h3]
 ·simp [hk, en, ea, hp (by omega), h1, h2, h3]
 ·simp [hk, en, ea, h1, h2, h3]
theorem Rm {N : Nat} (hN : 10000000000 ≤ N) {o : List (List aA)} {l : List aA} (hg : Bw l) (hl : l.length ≤ 2000) (d : Int) : gB N (nN o) (AO l) d = some 0 := by
 have h1 : fV (AO l).Kind 1 8 = some true := rfl
 have h2 : jc (AO l) = some true := Ha (.inr (.inr rfl)) rfl rfl (fun h => absurd rfl h) rfl rfl rfl
 have h3 : ic (AO l).At (nN o).Unit = some true := by rw [xV ⟨by show (1 : Int) ≤ 1; decide, by show (1 : Int) ≤ 1000; decide⟩]; rfl
 have h4 : jE N (AO l).Points (nN o).Unit = some 0 := by
  show jE N l 1 = some 0
  rw [PW ⟨by decide, by decide⟩ (by omega) (by omega) (by omega), if_neg]
  ·unfold L8
   rw [if_neg (by omega), if_neg (by have := hg.1; omega), if_pos hg.2.2]
  ·rw [List.any_eq_true]
   rintro ⟨q, hq, h⟩
   have := hg.2.1 q hq
   unfold Ga Km at h
   simp only [Bool.not_eq_true', Bool.and_eq_false_iff, decide_eq_false_iff_not] at h
   omega
 unfold gB
 rw [h1, Option.bind_some, if_neg (by decide), h2, Option.bind_some, if_neg (by decide), if_neg (by show ¬ ((7 : Int) == 3) = true; decide), Option.bind_some, if_neg (by decide), h3, Option.bind_some, if_neg (by decide), if_pos (by show ((7 : Int) == 7) = true; decide), h4]
 rfl
theorem Ol {N : Nat} {o : List (List aA)} {k : Int} (hk : k = 1 ∨ k = 2) (d : Int) : gB N (nN o) (yT k) d = some 0 := by
 have h3 : ∀ s : aA, s = ⟨0, 0⟩ → ic s (nN o).Unit = some true := fun s hs => by rw [xV ⟨by show (1 : Int) ≤ 1; decide, by show (1 : Int) ≤ 1000; decide⟩, hs]; rfl
 rcases hk with rfl | rfl
 ·have h1 : fV (yT 1).Kind 1 8 = some true := rfl
  have h4 := h3 (yT 1).At rfl
  have h2 : jc (yT 1) = some true := Ha (.inl rfl) rfl rfl (fun _ => rfl) rfl rfl rfl
  unfold gB
  rw [h1, Option.bind_some, if_neg (by decide), h2, Option.bind_some, if_neg (by decide), if_neg (by show ¬ ((1 : Int) == 3) = true; decide), Option.bind_some, if_neg (by decide), h4, Option.bind_some, if_neg (by decide), if_neg (by show ¬ ((1 : Int) == 7) = true; decide), if_neg (by show ¬ ((1 : Int) == 8) = true; decide)]
  rfl
 ·have h1 : fV (yT 2).Kind 1 8 = some true := rfl
  have h4 := h3 (yT 2).At rfl
  have h2 : jc (yT 2) = some true := Ha (.inr (.inl rfl)) rfl rfl (fun _ => rfl) rfl rfl rfl
  unfold gB
  rw [h1, Option.bind_some, if_neg (by decide), h2, Option.bind_some, if_neg (by decide), if_neg (by show ¬ ((2 : Int) == 3) = true; decide), Option.bind_some, if_neg (by decide), h4, Option.bind_some, if_neg (by decide), if_neg (by show ¬ ((2 : Int) == 7) = true; decide), if_neg (by show ¬ ((2 : Int) == 8) = true; decide)]
  rfl
theorem Oh {N : Nat} (hN : 10 ≤ N) : ∀ (suf pre : List aJ) (m : Nat), (∀ x ∈ pre ++ suf, x.Steps = [] ∧ x.NX = 0 ∧ x.NY = 0) → (pre ++ suf).length ≤ 1000 → suf.length < m →
  eF (pre ++ suf) (jS N) m (pre.length : Int) (pre.length : Int) = some ((pre ++ suf).length : Int)
 | [], pre, m, _, hl, hm => by
  obtain ⟨m, rfl⟩ : ∃ k, m = k + 1 := ⟨m - 1, by omega⟩
  rw [List.append_nil] at hl ⊢
  rw [eF, if_neg (by simp), show min (pre.length : Int) 3001 = (pre.length : Int) by omega]
 | x :: t, pre, m, h, hl, hm => by
  obtain ⟨m, rfl⟩ : ∃ k, m = k + 1 := ⟨m - 1, by simp at hm; omega⟩
  simp at hm
  have hlen : (pre ++ x :: t).length = pre.length + (t.length + 1) := by simp
  obtain ⟨x1, x2, x3⟩ := h x (by simp)
  obtain ⟨N, rfl⟩ : ∃ n, N = n + 2 := ⟨N - 2, by omega⟩
  have hz : jS (N + 2) [] = some 0 := rfl
  have hw : fV 0 1 100 = some false := rfl
  have ih := Oh hN t (pre ++ [x]) m (by rw [List.append_assoc]; exact h) (by rw [List.append_assoc]; exact hl) (by omega)
  rw [List.length_append, List.length_singleton, List.append_assoc, List.singleton_append] at ih
  rw [eF, if_pos (by simp; omega), gG, Option.bind_some, x2, hw, Option.bind_some, if_neg (by decide)]
  unfold lu lv
  rw [gG, Option.bind_some, x3, hw, Option.bind_some, if_neg (by decide), Option.bind_some, x1, hz, Option.bind_some]
  rw [show bn (bn ((pre.length : Int) + 1) + bn (bn (1 * 1) * 0)) = ((pre.length + 1 : Nat) : Int) by
   rw [show bn (1 * 1) = 1 from rfl, show bn (1 * 0) = 0 from rfl, bR (x := (pre.length : Int) + 1) (by omega) (by omega), bR (by omega) (by omega)]; omega,
   show bn ((pre.length : Int) + 1) = ((pre.length + 1 : Nat) : Int) by rw [bR (by omega) (by omega)]; omega]
  exact ih
theorem Oj {N : Nat} (hN : 10 ≤ N) {M : Nat} {p : gK} {d : Int} : ∀ (suf pre : List aJ) (m : Nat), (∀ x ∈ suf, x.Steps = [] ∧ gB M p x d = some 0) → (pre ++ suf).length ≤ 1000 → suf.length < m →
  fP M p (pre ++ suf) d (iE N) m (pre.length : Int) = some 0
 | [], pre, m, _, _, hm => by
  obtain ⟨m, rfl⟩ : ∃ k, m = k + 1 := ⟨m - 1, by omega⟩
  rw [List.append_nil, fP, if_neg (by simp)]
 | x :: t, pre, m, h, hl, hm => by
  obtain ⟨m, rfl⟩ : ∃ k, m = k + 1 := ⟨m - 1, by simp at hm; omega⟩
  simp at hm
  have hlen : (pre ++ x :: t).length = pre.length + (t.length + 1) := by simp
  obtain ⟨x1, x2⟩ := h x List.mem_cons_self
  obtain ⟨N, rfl⟩ : ∃ n, N = n + 2 := ⟨N - 2, by omega⟩
  have hz : ∀ e, iE (N + 2) p [] e = some 0 := fun e => rfl
  have ih := Oj hN t (pre ++ [x]) m (fun y hy => h y (List.mem_cons_of_mem _ hy)) (by rw [List.append_assoc]; exact hl) (by omega)
  rw [List.length_append, List.length_singleton, List.append_assoc, List.singleton_append] at ih
  rw [fP, if_pos (by simp; omega), gG, Option.bind_some, x2, Option.bind_some, if_neg (by decide), Option.bind_some, x1, hz, Option.bind_some, if_neg (by decide),
   show bn ((pre.length : Int) + 1) = ((pre.length + 1 : Nat) : Int) by rw [bR (by omega) (by omega)]; omega]
  exact ih
theorem NG {N : Nat} {o : List (List aA)} (hN : 20000000000 ≤ N) (hg : ∀ l ∈ o, Bw l) (hf : o.flatten.length ≤ 2000) : gF N (nN o) = some (nN o, 0) := by
 have h4 := Dh (fun l hl => (hg l hl).1)
 have h2 := wO o 1
 have hs : (nN o).Steps.length ≤ 1000 := by show (lD o 1).length ≤ _; omega
 obtain ⟨M, rfl⟩ : ∃ n, N = n + 2 := ⟨N - 2, by omega⟩
 have hw : fV (nN o).Unit 1 1000 = some true := rfl
 have hc : jS (M + 2) (nN o).Steps = some ((nN o).Steps.length : Int) :=
  Oh (N := M + 1) (by omega) (nN o).Steps [] (M + 1) (fun x hx => by obtain ⟨h1, h2, h3, _⟩ := of_steps (o := o) (show x ∈ (nN o).Steps from hx); exact ⟨h1, h2, h3⟩) hs (by omega)
 have hk : iE (M + 2) (nN o) (nN o).Steps 0 = some 0 :=
  Oj (N := M + 1) (by omega) (M := M + 1) (p := nN o) (d := 0) (nN o).Steps [] (M + 1) (fun x hx => ⟨(of_steps (o := o) hx).1, by
   rcases wN hx with ⟨l, hl, rfl⟩ | rfl | rfl
   ·exact Rm (by omega) (hg l hl) (by have := y5 hl; omega) 0
   ·exact Ol (.inl rfl) 0
   ·exact Ol (.inr rfl) 0⟩) hs (by omega)
 have hC : kV (M + 2) (nN o) = some 0 := by
  unfold kV
  rw [hw, Option.bind_some, if_neg (by decide), if_neg (by show ¬ decide (200 < ((0 : Nat) : Int)) = true; decide)]
  rw [jO, if_neg (by show ¬ decide (0 < ((0 : Nat) : Int)) = true; decide), hc, Option.bind_some, if_neg (by rw [decide_eq_true_eq]; omega), hk]
  rfl
 unfold gF
 rw [hC, Option.bind_some, if_neg (by simp)]
theorem Ra : Eu 7 = some ⟨#[55]⟩ := by
 unfold Eu
 rw [if_pos (by decide)]
 have : Lib.decDigits (7 : Int).toNat = [55] := by
  unfold Lib.decDigits
  rw [dif_pos (by decide)]
  rfl
 rw [this]
theorem Gp {N : Nat} (hN : 10 ≤ N) : mK N = some true := by
 obtain ⟨N, rfl⟩ : ∃ n, N = n + 1 := ⟨N - 1, by omega⟩
 have h1 : rz (N + 1) ⟨7, [], []⟩ = some 0 := rfl
 have h2 : uC (N + 1) ⟨7, [], []⟩ = some (⟨#[117, 110, 105, 116, 32, 55, 10]⟩, 0) := by
  unfold uC
  rw [h1, Option.bind_some, if_neg (by decide)]
  show (Eu 7).bind _ = _
  rw [Ra]
  rfl
 unfold mK
 rw [h2, Option.bind_some]
 simp [Ik]
theorem K9 {N : Nat} {p : gK} (hN : oo p.Steps + 10 ≤ N) (ht : p.Tools = []) (hL : Ao p.Steps) (hl : p.Steps.length ≤ 100000) : lw N p p = some true := by
 obtain ⟨M, rfl⟩ : ∃ n, N = n + 1 := ⟨N - 1, by omega⟩
 unfold lw
 rw [if_neg (by simp), D7 _ p.Steps (M + 1) (Nat.le_refl _) (by omega) (by omega) hL]
 simp only [Option.bind_some, Bool.not_true, Bool.false_eq_true, if_false]
 rw [ko, ht, if_neg (by decide)]
theorem Jv {N : Nat} (hN : 20000000000 ≤ N) (r : List aI) : je N r = some true := by
 obtain ⟨y, y1, y2, y3⟩ := Rw hN r
 obtain ⟨y', z1, z2⟩ := Fq (N := N) (by omega) r
 rw [y1] at z1
 cases z1
 unfold je
 have hR : y.2 ≠ 0 → lM N r = some (⟨0, [], []⟩, y.2) := fun h => by
  unfold lM
  rw [z2, Option.bind_some, if_pos (by simpa using h)]
 by_cases h : y.2 = 0
 ·obtain ⟨_, ls, o, _, _, _, o1, o2, o3, o4⟩ := y3 h
  have hy : y.1.flatten.length ≤ 2000 := by rw [← o1.len.flatten.length_eq]; exact o3
  have hyl : y.1.length ≤ 100000000 := by
   have := Dh (o := y.1) (fun l hl => (o2 l ((o1.mem l).2 hl)).1)
   omega
  obtain ⟨o', p1, p2⟩ := OG (N := N) (by omega) (y := y) hyl (fun l hl => by have := y5 hl; omega)
  have := o1.uniq p1
  subst this
  have hR2 : lM N r = some (nN o', 0) := by
   unfold lM
   rw [z2, Option.bind_some, if_neg (by simpa using h), p2]
   show (gF N (nN o')).bind _ = _
   rw [NG hN o2 o3, Option.bind_some]
  have h4 := Dh (fun l hl => (o2 l hl).1)
  have h5 := wO o' 1
  have h6 := Am o' 1
  rw [o4, hR2, Option.bind_some, Option.bind_some, K9 (p := nN o') (by show oo (lD o' 1) + 10 ≤ N; omega) rfl (Pp o2 o3) (by show (lD o' 1).length ≤ _; omega), Option.bind_some]
  simp only [beq_self_eq_true, Bool.and_self, if_true, Gp (by omega : 10 ≤ N), Option.bind_some]
 ·rw [y2 h, hR h, Option.bind_some, Option.bind_some, K9 (p := ⟨0, [], []⟩) (by show oo [] + 10 ≤ N; rw [wJ]; omega) rfl (by show Ao []; rw [Ao]; trivial) (by simp), Option.bind_some]
  simp only [beq_self_eq_true, Bool.and_self, if_true, Gp (by omega : 10 ≤ N), Option.bind_some]
theorem Fp (l : List aI) {X : Prop} (_ : X) : ∃ N, je N l = some true := ⟨20000000000, Jv (Nat.le_refl _) l⟩
end Go.Proofs.YtcjeebkoafonpaaGreatDoor
