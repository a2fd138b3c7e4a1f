/- Rules of the walks, or plain laws about the plain functions. Conditions: none beyond each theorem's own. -/
import Derived.Test.YtcjeebkoafonpaaGreatDoorJ4
import Derived.Test.YtcjeebkoafonpaaGreatDoorXF
namespace Go.Proofs.YtcjeebkoafonpaaGreatDoor
def Can : Int → List (Int × Int) → Prop
 | _, [] => True
 | lo, p :: l => lo < p.1 ∧ p.1 < p.2 ∧ Can p.2 l
def nI (x : Int) (l : List (Int × Int)) : Prop := ∃ p ∈ l, p.1 ≤ x ∧ x < p.2
theorem kC {x : Int} {p : Int × Int} {l : List (Int × Int)} : nI x (p :: l) ↔ (p.1 ≤ x ∧ x < p.2) ∨ nI x l := by unfold nI; simp
theorem jZ {x : Int} : ¬ nI x [] := by unfold nI; simp
theorem qc {x : Int} {l m : List (Int × Int)} : nI x (l ++ m) ↔ nI x l ∨ nI x m := by
 unfold nI
 constructor
 ·rintro ⟨p, hp, h⟩
  rcases List.mem_append.1 hp with hp | hp
  ·exact .inl ⟨p, hp, h⟩
  ·exact .inr ⟨p, hp, h⟩
 ·rintro (⟨p, hp, h⟩ | ⟨p, hp, h⟩)
  ·exact ⟨p, List.mem_append_left _ hp, h⟩
  ·exact ⟨p, List.mem_append_right _ hp, h⟩
theorem Can.lt : ∀ {l : List (Int × Int)} {lo x : Int}, Can lo l → nI x l → lo < x
 | [], _, _, _, h => absurd h jZ
 | p :: l, lo, x, h, hx => by
  obtain ⟨h1, h2, h3⟩ := h
  rcases kC.1 hx with hx | hx
  ·omega
  ·have := h3.lt hx; omega
theorem Can.mono {l : List (Int × Int)} {lo lo' : Int} (h : Can lo l) (hl : lo' ≤ lo) : Can lo' l := by
 cases l with
 | nil => trivial
 | cons p l => exact ⟨by have := h.1; omega, h.2⟩
theorem Can.uniq : ∀ {l m : List (Int × Int)} {lo lo' : Int}, Can lo l → Can lo' m → (∀ x, nI x l ↔ nI x m) → l = m
 | [], [], _, _, _, _, _ => rfl
 | [], p :: m, _, _, _, h2, h => absurd ((h p.1).2 (kC.2 (.inl ⟨Int.le_refl _, h2.2.1⟩))) jZ
 | p :: l, [], _, _, h1, _, h => absurd ((h p.1).1 (kC.2 (.inl ⟨Int.le_refl _, h1.2.1⟩))) jZ
 | p :: l, q :: m, lo, lo', h1, h2, h => by
  obtain ⟨a1, a2, a3⟩ := h1
  obtain ⟨b1, b2, b3⟩ := h2
  have c1 : q.1 ≤ p.1 := by
   rcases kC.1 ((h p.1).1 (kC.2 (.inl ⟨Int.le_refl _, a2⟩))) with hx | hx
   ·exact hx.1
   ·have := b3.lt hx; omega
  have c2 : p.1 ≤ q.1 := by
   rcases kC.1 ((h q.1).2 (kC.2 (.inl ⟨Int.le_refl _, b2⟩))) with hx | hx
   ·exact hx.1
   ·have := a3.lt hx; omega
  have c3 : ¬ p.2 < q.2 := fun hlt => by
   rcases kC.1 ((h p.2).2 (kC.2 (.inl ⟨by omega, hlt⟩))) with hx | hx
   ·omega
   ·have := a3.lt hx; omega
  have c4 : ¬ q.2 < p.2 := fun hlt => by
   rcases kC.1 ((h q.2).1 (kC.2 (.inl ⟨by omega, hlt⟩))) with hx | hx
   ·omega
   ·have := b3.lt hx; omega
  have hpq : p = q := by obtain ⟨a, b⟩ := p; obtain ⟨c, d⟩ := q; simp only at *; congr 1 <;> omega
  subst hpq
  have hlm : l = m := a3.uniq b3 fun x => by
   constructor
   ·intro hx
    have hlt := a3.lt hx
    rcases kC.1 ((h x).1 (kC.2 (.inr hx))) with h' | h'
    ·omega
    ·exact h'
   ·intro hx
    have hlt := b3.lt hx
    rcases kC.1 ((h x).2 (kC.2 (.inr hx))) with h' | h'
    ·omega
    ·exact h'
  rw [hlm]
theorem Can.snoc : ∀ {l : List (Int × Int)} {lo : Int} {p : Int × Int}, Can lo l → (∀ q ∈ l, q.2 < p.1) → lo < p.1 → p.1 < p.2 → Can lo (l ++ [p])
 | [], _, _, _, _, h1, h2 => ⟨h1, h2, trivial⟩
 | q :: l, lo, p, h, hq, h1, h2 => ⟨h.1, h.2.1, h.2.2.snoc (fun r hr => hq r (by simp [hr])) (hq q (by simp)) h2⟩
theorem Can.init : ∀ {l : List (Int × Int)} {lo : Int} {p : Int × Int}, Can lo (l ++ [p]) → Can lo l ∧ (∀ q ∈ l, q.2 < p.1) ∧ lo < p.1 ∧ p.1 < p.2
 | [], _, _, h => ⟨trivial, by simp, h.1, h.2.1⟩
 | q :: l, lo, p, h => by
  obtain ⟨i1, i2, i3, i4⟩ := Can.init (l := l) h.2.2
  have := h.1; have := h.2.1
  refine ⟨⟨h.1, h.2.1, i1⟩, fun r hr => ?_, by omega, i4⟩
  rcases List.mem_cons.1 hr with rfl | hr
  ·exact i3
  ·exact i2 r hr
def eH (l : List (Int × Int)) : List Int := l.flatMap fun p => [p.1, p.2]
theorem vH : eH [] = [] := rfl
theorem pu (p : Int × Int) (l : List (Int × Int)) : eH (p :: l) = p.1 :: p.2 :: eH l := rfl
theorem rq (l m : List (Int × Int)) : eH (l ++ m) = eH l ++ eH m := by unfold eH; rw [List.flatMap_append]
theorem jD : ∀ l : List (Int × Int), (eH l).length = 2 * l.length
 | [] => rfl
 | p :: l => by rw [pu, List.length_cons, List.length_cons, jD l, List.length_cons]; omega
theorem F9 : ∀ {l m : List (Int × Int)}, eH l = eH m → l = m
 | [], [], _ => rfl
 | [], q :: m, h => by rw [vH, pu] at h; cases h
 | p :: l, [], h => by rw [vH, pu] at h; cases h
 | p :: l, q :: m, h => by
  rw [pu, pu] at h
  injection h with h1 h
  injection h with h2 h
  rw [F9 h]
  congr 1
  obtain ⟨a, b⟩ := p; obtain ⟨c, d⟩ := q
  simp only at h1 h2
  rw [h1, h2]
def EH (l : List (Int × Int)) (p : Int × Int) : List (Int × Int) :=
 match l.getLast? with
 | none => [p]
 | some q => if p.1 ≤ q.2 then l.dropLast ++ [(q.1, max q.2 p.2)] else l ++ [p]
theorem I4 (p : Int × Int) : EH [] p = [p] := rfl
theorem Gb (l : List (Int × Int)) (q p : Int × Int) : EH (l ++ [q]) p = if p.1 ≤ q.2 then l ++ [(q.1, max q.2 p.2)] else l ++ [q] ++ [p] := by
 unfold EH
 simp
theorem PM {lo : Int} {l done : List (Int × Int)} {p : Int × Int} (hc : Can lo l) (hm : ∀ x, nI x l ↔ nI x done) (hlast : ∀ q ∈ l, q.1 ≤ p.1) (hlo : lo < p.1) (hp : p.1 < p.2) :
  Can lo (EH l p) ∧ (∀ x, nI x (EH l p) ↔ nI x (done ++ [p])) ∧ ∀ q ∈ EH l p, q.1 ≤ p.1 := by
 have hsplit : l = [] ∨ ∃ i q, l = i ++ [q] := by
  rcases List.eq_nil_or_concat l with h | ⟨i, q, h⟩
  ·exact .inl h
  ·exact .inr ⟨i, q, by simpa using h⟩
 rcases hsplit with rfl | ⟨i, q, rfl⟩
 ·rw [I4]
  refine ⟨⟨hlo, hp, trivial⟩, fun x => ?_, by simp⟩
  rw [qc, ← hm x]
  exact ⟨fun h => .inr h, fun h => h.resolve_left jZ⟩
 ·obtain ⟨c1, c2, c3, c4⟩ := hc.init
  have hq := hlast q (by simp)
  rw [Gb]
  by_cases hle : p.1 ≤ q.2
  ·rw [if_pos hle]
   refine ⟨c1.snoc (p := (q.1, max q.2 p.2)) c2 c3 (by show q.1 < max q.2 p.2; omega), fun x => ?_, fun r hr => ?_⟩
   ·rw [qc, qc (l := done), ← hm x, qc]
    have e1 : nI x [(q.1, max q.2 p.2)] ↔ (q.1 ≤ x ∧ x < max q.2 p.2) := by unfold nI; simp
    have e2 : nI x [q] ↔ (q.1 ≤ x ∧ x < q.2) := by unfold nI; simp
    have e3 : nI x [p] ↔ (p.1 ≤ x ∧ x < p.2) := by unfold nI; simp
    rw [e1, e2, e3]
    constructor
    ·rintro (h | h)
     ·exact .inl (.inl h)
     ·by_cases hx : x < q.2
      ·exact .inl (.inr ⟨h.1, hx⟩)
      ·exact .inr ⟨by omega, by omega⟩
    ·rintro ((h | h) | h)
     ·exact .inl h
     ·exact .inr ⟨h.1, by omega⟩
     ·exact .inr ⟨by omega, by omega⟩
   ·rcases List.mem_append.1 hr with hr | hr
    ·have := c2 r hr; exact hlast r (by simp [hr])
    ·simp at hr; subst hr; exact hq
  ·rw [if_neg hle]
   refine ⟨hc.snoc (fun r hr => ?_) hlo hp, fun x => ?_, fun r hr => ?_⟩
   ·rcases List.mem_append.1 hr with hr | hr
    ·have := c2 r hr; omega
    ·simp at hr; subst hr; omega
   ·rw [qc, qc (l := done), hm x]
   ·rcases List.mem_append.1 hr with hr | hr
    ·exact hlast r hr
    ·simp at hr; subst hr; exact Int.le_refl _
theorem LP {lo : Int} : ∀ (suf : List (Int × Int)) (l done : List (Int × Int)), Can lo l → (∀ x, nI x l ↔ nI x done) → (∀ p ∈ suf, ∀ q ∈ l, q.1 ≤ p.1) → suf.Pairwise (fun p q => p.1 ≤ q.1) → (∀ p ∈ suf, lo < p.1 ∧ p.1 < p.2) →
  Can lo (suf.foldl EH l) ∧ ∀ x, nI x (suf.foldl EH l) ↔ nI x (done ++ suf)
 | [], l, done, h1, h2, _, _, _ => ⟨h1, by simpa using h2⟩
 | p :: suf, l, done, h1, h2, h3, h4, h5 => by
  obtain ⟨s1, s2, s3⟩ := PM h1 h2 (h3 p (by simp)) (h5 p (by simp)).1 (h5 p (by simp)).2
  rw [List.pairwise_cons] at h4
  have := LP suf (EH l p) (done ++ [p]) s1 s2 (fun r hr q hq => Int.le_trans (s3 q hq) (h4.1 r hr)) h4.2 (fun r hr => h5 r (by simp [hr]))
  simpa using this
def uI : Int → Int → List (Int × Int) → List (Int × Int)
 | a, b, [] => [(a, b)]
 | a, b, q :: l => if q.1 ≤ b then uI (min a q.1) (max b q.2) l else (a, b) :: q :: l
def ut : List (Int × Int) → Int × Int → List (Int × Int)
 | [], p => [p]
 | q :: l, p => if q.2 < p.1 then q :: ut l p else uI p.1 p.2 (q :: l)
theorem F5 : ∀ {l : List (Int × Int)} {lo a b : Int}, lo < a → a < b → (∀ q ∈ l, lo < q.1) → (∀ q ∈ l, a ≤ q.2) → (∃ lo', Can lo' l) → Can lo (uI a b l) ∧ ∀ x, nI x (uI a b l) ↔ (a ≤ x ∧ x < b) ∨ nI x l
 | [], lo, a, b, h1, h2, _, _, _ => ⟨⟨h1, h2, trivial⟩, fun x => by unfold uI; rw [kC]⟩
 | q :: l, lo, a, b, h1, h2, h3, h5, ⟨lo', h4⟩ => by
  have hq := h3 q (by simp)
  have hov := h5 q (by simp)
  have hq2 := h4.2.1
  unfold uI
  by_cases hle : q.1 ≤ b
  ·rw [if_pos hle]
   obtain ⟨i1, i2⟩ := F5 (l := l) (lo := lo) (a := min a q.1) (b := max b q.2) (by omega) (by omega) (fun r hr => h3 r (by simp [hr])) (fun r hr => by have := h5 r (by simp [hr]); omega) ⟨q.2, h4.2.2⟩
   refine ⟨i1, fun x => ?_⟩
   rw [i2, kC]
   constructor
   ·rintro (h | h)
    ·by_cases h' : a ≤ x ∧ x < b
     ·exact .inl h'
     ·exact .inr (.inl ⟨by omega, by omega⟩)
    ·exact .inr (.inr h)
   ·rintro (h | h | h)
    ·exact .inl ⟨by omega, by omega⟩
    ·exact .inl ⟨by omega, by omega⟩
    ·exact .inr h
  ·rw [if_neg hle]
   refine ⟨⟨h1, h2, by omega, hq2, h4.2.2⟩, fun x => ?_⟩
   rw [kC]
theorem Can.mem : ∀ {l : List (Int × Int)} {lo : Int}, Can lo l → ∀ q ∈ l, lo < q.1 ∧ q.1 < q.2
 | [], _, _, q, h => by simp at h
 | p :: l, lo, h, q, hq => by
  rcases List.mem_cons.1 hq with rfl | hq
  ·exact ⟨h.1, h.2.1⟩
  ·have := h.2.2.mem q hq
   have := h.1; have := h.2.1
   omega
theorem IV : ∀ {l : List (Int × Int)} {lo : Int} {p : Int × Int}, Can lo l → lo < p.1 → p.1 < p.2 → Can lo (ut l p) ∧ ∀ x, nI x (ut l p) ↔ nI x (l ++ [p])
 | [], lo, p, _, h1, h2 => ⟨⟨h1, h2, trivial⟩, fun x => Iff.rfl⟩
 | q :: l, lo, p, h, h1, h2 => by
  unfold ut
  by_cases hlt : q.2 < p.1
  ·rw [if_pos hlt]
   obtain ⟨i1, i2⟩ := IV (l := l) (lo := q.2) (p := p) h.2.2 hlt h2
   refine ⟨⟨h.1, h.2.1, i1⟩, fun x => ?_⟩
   rw [kC, i2, List.cons_append, kC]
  ·rw [if_neg hlt]
   obtain ⟨i1, i2⟩ := F5 (l := q :: l) (lo := lo) (a := p.1) (b := p.2) h1 h2 (fun r hr => (h.mem r hr).1) (fun r hr => by
    rcases List.mem_cons.1 hr with rfl | hr
    ·omega
    ·have := h.2.2.mem r hr; omega) ⟨lo, h⟩
   refine ⟨i1, fun x => ?_⟩
   rw [i2, qc]
   have e : nI x [p] ↔ (p.1 ≤ x ∧ x < p.2) := by unfold nI; simp
   rw [e]
   exact or_comm
theorem IU {lo : Int} : ∀ (suf : List (Int × Int)) (l done : List (Int × Int)), Can lo l → (∀ x, nI x l ↔ nI x done) → (∀ p ∈ suf, lo < p.1 ∧ p.1 < p.2) →
  Can lo (suf.foldl ut l) ∧ ∀ x, nI x (suf.foldl ut l) ↔ nI x (done ++ suf)
 | [], l, done, h1, h2, _ => ⟨h1, by simpa using h2⟩
 | p :: suf, l, done, h1, h2, h5 => by
  obtain ⟨s1, s2⟩ := IV h1 (h5 p (by simp)).1 (h5 p (by simp)).2
  have := IU suf (ut l p) (done ++ [p]) s1 (fun x => by rw [s2, qc, qc, h2]) (fun r hr => h5 r (by simp [hr]))
  simpa using this
def zT (l : List (Int × Int)) : List (Int × Int) := l.foldl ut []
theorem Dq {lo : Int} {l : List (Int × Int)} (h : ∀ p ∈ l, lo < p.1 ∧ p.1 < p.2) : Can lo (zT l) ∧ ∀ x, nI x (zT l) ↔ nI x l := by
 have := IU l [] [] (lo := lo) trivial (fun x => Iff.rfl) h
 rw [List.nil_append] at this
 exact this
theorem PL {lo : Int} {l m : List (Int × Int)} (hp : m.Perm l) (hs : m.Pairwise (fun p q => p.1 ≤ q.1)) (h : ∀ p ∈ l, lo < p.1 ∧ p.1 < p.2) : m.foldl EH [] = zT l := by
 obtain ⟨a1, a2⟩ := LP m [] [] (lo := lo) trivial (fun x => Iff.rfl) (by simp) hs (fun p hq => h p (hp.subset hq))
 obtain ⟨b1, b2⟩ := Dq h
 refine a1.uniq b1 fun x => ?_
 rw [a2, b2, List.nil_append]
 unfold nI
 constructor
 ·rintro ⟨p, hq, h⟩; exact ⟨p, hp.subset hq, h⟩
 ·rintro ⟨p, hq, h⟩; exact ⟨p, hp.symm.subset hq, h⟩
theorem Ko {lo : Int} {l m : List (Int × Int)} (hl : ∀ p ∈ l, lo < p.1 ∧ p.1 < p.2) (hm : ∀ p ∈ m, lo < p.1 ∧ p.1 < p.2) (h : ∀ x, nI x l ↔ nI x m) : zT l = zT m := by
 obtain ⟨a1, a2⟩ := Dq hl
 obtain ⟨b1, b2⟩ := Dq hm
 exact a1.uniq b1 fun x => by rw [a2, b2, h]
theorem Es : ∀ (l : List (Int × Int)) (a b : Int), (uI a b l).length ≤ l.length + 1
 | [], _, _ => by simp [uI]
 | q :: l, a, b => by
  unfold uI
  split
  ·have := Es l (min a q.1) (max b q.2); simp; omega
  ·simp
theorem Cf : ∀ (l : List (Int × Int)) (p : Int × Int), (ut l p).length ≤ l.length + 1
 | [], _ => by simp [ut]
 | q :: l, p => by
  unfold ut
  split
  ·have := Cf l p; simp; omega
  ·exact Es _ _ _
theorem I8 : ∀ (l m : List (Int × Int)), (l.foldl ut m).length ≤ m.length + l.length
 | [], m => by simp
 | p :: l, m => by
  have := I8 l (ut m p); have := Cf m p
  rw [List.foldl_cons, List.length_cons]; omega
abbrev Bd := Int × Int × List (Int × Int)
def BH (r : aI) : Int × Int := (r.X0, r.X1)
def rR (l : List aI) (y : Int) : List (Int × Int) := zT ((l.filter fun r => decide (r.Y0 ≤ y) && decide (y < r.Y1)).map BH)
def pushB (l : List Bd) (b : Bd) : List Bd :=
 if b.2.2 = [] then l else
 match l.getLast? with
 | none => l ++ [b]
 | some c => if c.2.1 = b.1 ∧ c.2.2 = b.2.2 then l.dropLast ++ [(c.1, b.2.1, c.2.2)] else l ++ [b]
theorem oN {l : List Bd} {b : Bd} (h : b.2.2 = []) : pushB l b = l := if_pos h
theorem xu {b : Bd} (h : b.2.2 ≠ []) : pushB [] b = [b] := by unfold pushB; rw [if_neg h]; rfl
theorem qR {l : List Bd} {c b : Bd} (h : b.2.2 ≠ []) : pushB (l ++ [c]) b = if c.2.1 = b.1 ∧ c.2.2 = b.2.2 then l ++ [(c.1, b.2.1, c.2.2)] else l ++ [c] ++ [b] := by
 unfold pushB
 rw [if_neg h]
 simp
def sO (l : List aI) : List Int → List Bd → List Bd
 | a :: b :: ys, out => sO l (b :: ys) (pushB out (a, b, rR l a))
 | _, out => out
def dF (l : List aI) : List Int := l.flatMap fun r => [r.Y0, r.Y1]
def rC (l : List aI) : List Bd := sO l (dH (dF l)) []
def AZ (b : Bd) : List aI := b.2.2.map fun s => ⟨s.1, b.1, s.2, b.2.1⟩
def kI (l : List Bd) : List aI := l.flatMap AZ
def toP (b : Bd) : jL := ⟨b.1, b.2.1, eH b.2.2⟩
structure Na (r : aI) : Prop where
 x0 : -1000000 ≤ r.X0 ∧ r.X0 ≤ 1000000
 y0 : -1000000 ≤ r.Y0 ∧ r.Y0 ≤ 1000000
 x1 : -1000000 ≤ r.X1 ∧ r.X1 ≤ 1000000
 y1 : -1000000 ≤ r.Y1 ∧ r.Y1 ≤ 1000000
 x : r.X0 < r.X1
 y : r.Y0 < r.Y1
structure R9 (r : aI) : Prop where
 x0 : -2000000000 ≤ r.X0 ∧ r.X0 ≤ 2000000000
 y0 : -2000000000 ≤ r.Y0 ∧ r.Y0 ≤ 2000000000
 x1 : -2000000000 ≤ r.X1 ∧ r.X1 ≤ 2000000000
 y1 : -2000000000 ≤ r.Y1 ∧ r.Y1 ≤ 2000000000
 x : r.X0 < r.X1
 y : r.Y0 < r.Y1
theorem Na.r9 {r : aI} (h : Na r) : R9 r := by
 have := h.x0; have := h.x1; have := h.y0; have := h.y1
 exact ⟨by omega, by omega, by omega, by omega, h.x, h.y⟩
theorem M6 (l m : List Int) : oh l m = some (decide (l = m)) := by
 have key : ∀ (suf pre rest : List Int), suf.length = rest.length → iF (pre ++ rest) suf pre.length = some (decide (suf = rest)) := by
  intro suf
  induction suf with
  | nil =>
   intro pre rest h
   have : rest = [] := List.eq_nil_of_length_eq_zero h.symm
   subst this
   rw [iF.eq_1]; rfl
  | cons x suf ih =>
   intro pre rest h
   cases rest with
   | nil => simp at h
   | cons y rest =>
    rw [iF.eq_2, gG pre rest y, Option.bind_some]
    have := ih (pre ++ [y]) rest (by simpa using h)
    by_cases hxy : x = y
    ·subst hxy
     rw [if_neg (by simp)]
     simpa using this
    ·rw [if_pos (by simpa using hxy)]
     simp [hxy]
 unfold oh
 by_cases h : l.length = m.length
 ·rw [if_neg (by simp; omega)]
  exact key l [] m h
 ·rw [if_pos (by simp; omega)]
  have : l ≠ m := fun e => h (by rw [e])
  simp [this]
theorem M5 (l m : List aI) : ∃ b : Bool, mE l m = some b ∧ (b = true ↔ l = m) := by
 have key : ∀ (suf pre rest : List aI), suf.length = rest.length → ∃ b : Bool, iA (pre ++ rest) suf pre.length = some b ∧ (b = true ↔ suf = rest) := by
  intro suf
  induction suf with
  | nil =>
   intro pre rest h
   have : rest = [] := List.eq_nil_of_length_eq_zero h.symm
   subst this
   rw [iA.eq_1]; exact ⟨true, rfl, by simp⟩
  | cons x suf ih =>
   intro pre rest h
   cases rest with
   | nil => simp at h
   | cons y rest =>
    rw [iA.eq_2, gG pre rest y, Option.bind_some]
    obtain ⟨b, h1, h2⟩ := ih (pre ++ [y]) rest (by simpa using h)
    by_cases hxy : x = y
    ·subst hxy
     rw [uw.2 rfl, if_neg (by simp)]
     exact ⟨b, by simpa using h1, by simp [h2]⟩
    ·have : vo x y = false := by rw [Bool.eq_false_iff]; exact fun h => hxy (uw.1 h)
     rw [this, if_pos (by simp)]
     exact ⟨false, rfl, by simp [hxy]⟩
 unfold mE
 by_cases h : l.length = m.length
 ·rw [if_neg (by simp; omega)]
  exact key l [] m h
 ·rw [if_pos (by simp; omega)]
  exact ⟨false, rfl, by simp; exact fun e => h (by rw [e])⟩
theorem Ig {c : aI → aI → Option Int} {k : aI → Int} {l : List aI} (hl : l.length ≤ 1000000000) (hc : ∀ x ∈ l, ∀ y ∈ l, c x y = some (k x - k y)) : ∃ m, DW l c = some m ∧ m.Perm l ∧ m.Pairwise fun x y => k x ≤ k y := by
 have hlt : ∀ x ∈ l, ∀ y ∈ l, FX c x y = decide (k x < k y) := fun x hx y hy => by
  unfold FX
  rw [hc x hx y hy, Option.getD_some]
  exact decide_eq_decide.2 (by omega)
 have hs : tT c l := ⟨by omega, fun x hx y hy => ⟨_, hc x hx y hy⟩, fun x hx => by rw [hlt x hx x hx]; simp, fun x hx y hy z hz h1 h2 => by
  rw [hlt x hx y hy] at h1; rw [hlt y hy z hz] at h2; rw [hlt x hx z hz]; simp at *; omega, fun x hx y hy z hz h1 h2 => by
  rw [hlt x hx y hy] at h1; rw [hlt y hy z hz] at h2; rw [hlt x hx z hz]; simp at *; omega⟩
 obtain ⟨m, hm⟩ := K4 hs
 obtain ⟨_, hp, hw⟩ := BK hm
 refine ⟨m, hm, hp, hw.imp_of_mem fun {x y} hx hy h => ?_⟩
 rw [hlt y (hp.subset hy) x (hp.subset hx)] at h
 simp at h
 exact h
theorem sw (y : List aI) : ∀ (suf : List aI) (i : Nat) (l : List (Int × Int)), l.length + suf.length ≤ 1000000000 → iD y suf i (eH l) = some (eH ((suf.map BH).foldl EH l), y)
 | [], i, l, _ => by rw [iD.eq_1]; rfl
 | r :: suf, i, l, h => by
  simp only [List.length_cons] at h
  have hsplit : l = [] ∨ ∃ j q, l = j ++ [q] := by
   rcases List.eq_nil_or_concat l with h | ⟨j, q, h⟩
   ·exact .inl h
   ·exact .inr ⟨j, q, by simpa using h⟩
  rw [iD.eq_2, List.map_cons, List.foldl_cons]
  rcases hsplit with rfl | ⟨j, q, rfl⟩
  ·rw [if_neg (by simp [vH, bR]), Option.bind_some, if_neg (by simp), show sj (eH []) [r.X0, r.X1] = some (eH [BH r]) from rfl, Option.bind_some, I4]
   exact sw y suf (i + 1) [BH r] (by simp; omega)
  ·have hfl : eH (j ++ [q]) = (eH j ++ [q.1]) ++ q.2 :: [] := by rw [rq]; simp [eH]
   have hlen : (eH (j ++ [q])).length = 2 * j.length + 2 := by rw [jD]; simp; omega
   simp only [List.length_append, List.length_singleton] at h
   have hw : bn (((eH (j ++ [q])).length : Int) - 1) = ((eH j ++ [q.1]).length : Int) := by
    rw [bR (by omega) (by omega), hlen]; simp [jD]; omega
   have hid : idx (eH (j ++ [q])) ((eH j ++ [q.1]).length : Int) = some q.2 := by rw [hfl]; exact gG _ [] q.2
   rw [hw, if_pos (decide_eq_true (by omega)), hid, Option.bind_some, Option.bind_some, Gb]
   by_cases hle : r.X0 ≤ q.2
   ·rw [if_pos (by simpa using hle), if_pos (show (BH r).1 ≤ q.2 from hle), Option.bind_some]
    have hset : sets (eH (j ++ [q])) ((eH j ++ [q.1]).length : Int) (max q.2 r.X1) = some (eH (j ++ [(q.1, max q.2 (BH r).2)])) := by
     unfold sets
     rw [if_pos ⟨by omega, by rw [hlen]; simp [jD]⟩, hfl, rq]
     simp [eH, BH]
    rw [Option.bind_some, hset, Option.bind_some]
    exact sw y suf (i + 1) _ (by simp; omega)
   ·rw [if_neg (by simpa using hle), if_neg (show ¬ (BH r).1 ≤ q.2 from hle), iO (by rw [hlen]; simp; omega), Option.bind_some]
    have : eH (j ++ [q]) ++ [r.X0, r.X1] = eH (j ++ [q] ++ [BH r]) := by rw [rq (j ++ [q])]; rfl
    rw [this]
    exact sw y suf (i + 1) _ (by simp; omega)
theorem AL {l : List aI} (hl : l.length ≤ 400000000) (h : ∀ r ∈ l, R9 r) : ∃ m, m.Perm l ∧ oU l = some (eH (zT (l.map BH)), m) := by
 obtain ⟨m, h1, h2, h3⟩ := Ig (c := fun z0 z1 => mF z0 z1) (k := fun r => r.X0) (l := l) (by omega) (fun x hx y hy => by
  have a := (h x hx).x0; have b := (h y hy).x0
  unfold mF
  rw [bR (by omega) (by omega)])
 refine ⟨m, h2, ?_⟩
 unfold oU
 rw [h1, Option.bind_some]
 have := sw m m 0 [] (by have := h2.length_eq; simp; omega)
 rw [vH] at this
 rw [this, PL (lo := -2000000001) (h2.map BH) (by rw [List.pairwise_map]; exact h3) (fun p hp => by
  obtain ⟨r, hr, rfl⟩ := List.mem_map.1 hp
  have a := h r hr
  exact ⟨by have := a.x0; show -2000000001 < r.X0; omega, a.x⟩)]
theorem Gq {g : aI → Bool} {f : aI → Option Bool} : ∀ (l : List aI) (i : Nat), (∀ x ∈ l, f x = some (g x)) → gQ f l i = some (ML g l i)
 | [], i, _ => rfl
 | x :: l, i, h => by
  rw [gQ.eq_2, h x (by simp), Option.bind_some, Gq l (i + 1) (fun y hy => h y (by simp [hy])), ML, show ((i + 1 : Nat) : Int) = (i : Int) + 1 by omega]
  cases g x <;> rfl
theorem zi {g : aI → Bool} {f : aI → Option Bool} : ∀ (rest k u : List aI) (n : Nat), (∀ x ∈ rest, f x = some (g x)) → u ≠ [] → rest.length < n → (k ++ u ++ rest).length ≤ 1000000000 →
  fH f n (k ++ u ++ rest) k.length (k ++ u).length = some (k ++ rest.filter fun x => !g x)
 | [], k, u, n + 1, _, hu, _, hl => by
  have hc : cut (k ++ u ++ []) (k.length : Int) ((k ++ u ++ []).length : Int) = some u := by
   unfold cut
   rw [if_pos ⟨by omega, by simp; omega, by omega⟩, List.append_nil, Int.toNat_natCast, Int.toNat_natCast, List.take_length, List.drop_left]
  rw [fH.eq_2, if_neg (by simp), hc, Option.bind_some]
  unfold Oi pre
  rw [if_pos ⟨by omega, by simp; omega⟩]
  simp
 | x :: rest, k, u, n + 1, h, hu, hn, hl => by
  obtain ⟨u0, u', rfl⟩ : ∃ u0 u', u = u0 :: u' := by cases u with | nil => exact absurd rfl hu | cons a b => exact ⟨a, b, rfl⟩
  have hid : idx (k ++ (u0 :: u') ++ x :: rest) ((k ++ (u0 :: u')).length : Int) = some x := gG _ rest x
  simp only [List.length_append, List.length_cons] at hl hn
  rw [fH.eq_2, if_pos (by simp; omega), hid, Option.bind_some, h x (by simp), Option.bind_some, qO (k ++ (u0 :: u')) x (by simp; omega)]
  cases hg : g x
  ·have hid2 : idx (k ++ (u0 :: u') ++ x :: rest) (k.length : Int) = some u0 := by
    rw [List.append_assoc]; exact gG k (u' ++ x :: rest) u0
   have hset : sets (k ++ (u0 :: u') ++ x :: rest) (k.length : Int) x = some ((k ++ [x]) ++ (u' ++ [x]) ++ rest) := by
    unfold sets
    rw [if_pos ⟨by omega, by simp⟩]
    simp
   rw [if_pos (by simp), hid2, Option.bind_some, hset, Option.bind_some, qO k x (by omega)]
   have := zi rest (k ++ [x]) (u' ++ [x]) n (fun y hy => h y (by simp [hy])) (by simp) (by omega) (by simp; omega)
   have e : ((k ++ (u0 :: u') ++ [x]).length : Int) = ((k ++ [x] ++ (u' ++ [x])).length : Int) := by rw [List.length_append, List.length_append, List.length_append, List.length_append, List.length_append]; simp; omega
   rw [e, this, List.filter_cons, hg]
   simp
  ·rw [if_neg (by simp)]
   have := zi rest k (u0 :: u' ++ [x]) n (fun y hy => h y (by simp [hy])) (by simp) (by omega) (by simp; omega)
   have e : k ++ (u0 :: u') ++ x :: rest = k ++ (u0 :: u' ++ [x]) ++ rest := by simp
   have e2 : ((k ++ (u0 :: u') ++ [x]).length : Int) = ((k ++ (u0 :: u' ++ [x])).length : Int) := by simp
   rw [e, e2, this, List.filter_cons, hg]
   simp
theorem Et {α : Type} (g : α → Bool) : ∀ (l : List α) (i : Int), 0 ≤ i → (ML g l i = -1 ∧ ∀ x ∈ l, g x = false) ∨ ∃ a x b, l = a ++ x :: b ∧ (∀ y ∈ a, g y = false) ∧ g x = true ∧ ML g l i = i + a.length
 | [], i, _ => .inl ⟨rfl, by simp⟩
 | x :: l, i, hi => by
  unfold ML
  cases hg : g x
  ·simp only [Bool.false_eq_true, if_false]
   rcases Et g l (i + 1) (by omega) with ⟨h1, h2⟩ | ⟨a, z, b, h1, h2, h3, h4⟩
   ·exact .inl ⟨h1, fun y hy => by rcases List.mem_cons.1 hy with rfl | hy; exact hg; exact h2 y hy⟩
   ·refine .inr ⟨x :: a, z, b, by rw [h1]; rfl, fun y hy => ?_, h3, by rw [h4]; simp; omega⟩
    rcases List.mem_cons.1 hy with rfl | hy
    ·exact hg
    ·exact h2 y hy
  ·rw [if_pos rfl]
   exact .inr ⟨[], x, l, rfl, by simp, hg, by simp⟩
theorem M7 {N : Nat} {g : aI → Bool} {f : aI → Option Bool} {l : List aI} (hN : 1000000000 < N) (hl : l.length ≤ 1000000000) (h : ∀ x ∈ l, f x = some (g x)) : lm N l f = some (l.filter fun x => !g x) := by
 unfold lm nu
 rw [Gq l 0 h, Option.bind_some, show ((0 : Nat) : Int) = 0 from rfl]
 rcases Et g l 0 (by omega) with ⟨h1, h2⟩ | ⟨a, x, b, h1, h2, h3, h4⟩
 ·rw [h1, if_pos (by simp)]
  congr 1
  exact (List.filter_eq_self.2 fun y hy => by simp [h2 y hy]).symm
 ·rw [h4, if_neg (by first | (simp; done) | (simp; omega))]
  subst h1
  simp only [List.length_append, List.length_cons] at hl
  have := zi b a [x] N (fun y hy => h y (by simp [hy])) (by simp) (by omega) (by simp; omega)
  have e : a ++ [x] ++ b = a ++ x :: b := by simp
  rw [e] at this
  rw [Int.zero_add, bR (by omega) (by omega), show ((a.length : Int) + 1) = ((a ++ [x]).length : Int) by simp, this, List.filter_append, List.filter_cons, h3]
  have ha : a.filter (fun x => !g x) = a := List.filter_eq_self.2 fun y hy => by simp [h2 y hy]
  simp [ha]
theorem Lc {l : List Bd} {b : Bd} (hl : l.length ≤ 1000000000) (hb : b.1 < b.2.1) : mf (l.map toP) (toP b) = some ((pushB l b).map toP) := by
 unfold mf
 have hfl : ((toP b).Xs.length : Int) = 2 * (b.2.2.length : Int) := by show ((eH b.2.2).length : Int) = _; rw [jD]; omega
 by_cases he : b.2.2 = []
 ·rw [if_pos (by rw [hfl, he]; simp), oN he]
 ·have hpos : 0 < b.2.2.length := List.length_pos_iff.2 he
  rw [if_neg (by
   rw [hfl]
   show ¬ ((2 * (b.2.2.length : Int) == 0) || decide (b.2.1 ≤ b.1)) = true
   rw [Bool.or_eq_true, not_or]
   exact ⟨by simp; exact he, by simp; exact hb⟩)]
  have hsplit : l = [] ∨ ∃ j q, l = j ++ [q] := by
   rcases List.eq_nil_or_concat l with h | ⟨j, q, h⟩
   ·exact .inl h
   ·exact .inr ⟨j, q, by simpa using h⟩
  rcases hsplit with rfl | ⟨j, c, rfl⟩
  ·rw [xu he, if_neg (by simp [bR]), Option.bind_some, if_neg (by simp), Option.bind_some, if_neg (by simp)]
   rfl
  ·simp only [List.length_append, List.length_singleton] at hl
   have hm : (j ++ [c]).map toP = j.map toP ++ toP c :: [] := by simp
   have hw : bn ((((j ++ [c]).map toP).length : Int) - 1) = ((j.map toP).length : Int) := by
    rw [bR (by first | (simp; done) | (simp; omega)) (by first | (simp; done) | (simp; omega))]; simp
   have hid : idx ((j ++ [c]).map toP) ((j.map toP).length : Int) = some (toP c) := by rw [hm]; exact gG _ [] _
   rw [qR he, hw, if_pos (by simp), hid, Option.bind_some, Option.bind_some, Option.bind_some, M6]
   have hxs : ((toP c).Xs = (toP b).Xs) ↔ c.2.2 = b.2.2 := ⟨fun h => F9 h, fun h => by show eH c.2.2 = eH b.2.2; rw [h]⟩
   by_cases h1 : c.2.1 = b.1
   ·have e1 : ((toP c).Y1 == (toP b).Y0) = true := by simpa [toP] using h1
    rw [e1, if_pos rfl, Option.bind_some, Option.bind_some]
    by_cases h2 : c.2.2 = b.2.2
    ·rw [decide_eq_true (hxs.2 h2), if_pos rfl, if_pos ⟨h1, h2⟩]
     have hset : sets ((j ++ [c]).map toP) ((j.map toP).length : Int) (jL.mk (toP c).Y0 (toP b).Y1 (toP c).Xs) = some ((j ++ [(c.1, b.2.1, c.2.2)]).map toP) := by
      unfold sets
      rw [if_pos ⟨by omega, by simp⟩, hm]
      simp [toP]
     rw [Option.bind_some, hset]; rfl
    ·rw [decide_eq_false (fun h => h2 (hxs.1 h)), if_neg (by simp), if_neg (fun h => h2 h.2), iO (by simp; omega), Option.bind_some]
     simp
   ·have e1 : ((toP c).Y1 == (toP b).Y0) = false := by simpa [toP] using h1
    rw [e1, if_neg (by simp), Option.bind_some, if_neg (by simp), if_neg (fun h => h1 h.1), iO (by simp; omega), Option.bind_some]
    simp
theorem uk : ∀ {l m : List Int}, l.Pairwise (fun x y => x < y) → m.Pairwise (fun x y => x < y) → (∀ x, x ∈ l ↔ x ∈ m) → l = m
 | [], [], _, _, _ => rfl
 | [], y :: m, _, _, h => by have := (h y).2 (by simp); simp at this
 | x :: l, [], _, _, h => by have := (h x).1 (by simp); simp at this
 | x :: l, y :: m, h1, h2, h => by
  rw [List.pairwise_cons] at h1 h2
  have hxy : x = y := by
   have a := (h x).1 (by simp)
   have b := (h y).2 (by simp)
   rcases List.mem_cons.1 a with a | a
   ·exact a
   ·rcases List.mem_cons.1 b with b | b
    ·exact b.symm
    ·have := h1.1 y b; have := h2.1 x a; omega
  subst hxy
  rw [uk h1.2 h2.2 fun z => by
   have hz := h z
   simp only [List.mem_cons] at hz
   constructor
   ·intro hm
    have hne : z ≠ x := by have := h1.1 z hm; omega
    rcases hz.1 (.inr hm) with e | e
    ·exact absurd e hne
    ·exact e
   ·intro hm
    have hne : z ≠ x := by have := h2.1 z hm; omega
    rcases hz.2 (.inr hm) with e | e
    ·exact absurd e hne
    ·exact e]
theorem Mq {l m : List Int} (h : ∀ x, x ∈ l ↔ x ∈ m) : dH l = dH m := uk (gZ l) (gZ m) fun x => by rw [lU, lU, h]
theorem mP {l : List aI} {y : Int} : y ∈ dF l ↔ ∃ r ∈ l, y = r.Y0 ∨ y = r.Y1 := by
 unfold dF
 simp [List.mem_flatMap]
theorem tC : ∀ l : List aI, (dF l).length = 2 * l.length
 | [] => rfl
 | r :: l => by
  show ([r.Y0, r.Y1] ++ dF l).length = _
  rw [List.length_append, tC l]; simp; omega
theorem sD (l : List Int) : (dH l).length ≤ l.length := by
 unfold dH
 exact Nat.le_trans (LV _) (by rw [List.length_mergeSort]; exact Nat.le_refl _)
theorem BV (l : List Bd) (b : Bd) : (pushB l b).length ≤ l.length + 1 := by
 by_cases he : b.2.2 = []
 ·rw [oN he]; omega
 ·rcases List.eq_nil_or_concat l with rfl | ⟨j, c, h⟩
  ·rw [xu he]; simp
  ·rw [List.concat_eq_append] at h
   subst h
   rw [qR he]
   split <;> simp
section
variable {N : Nat} {l M : List aI} {ys : List Int} (hN : 10000000000 ≤ N) (hMl : M.length ≤ 100000000) (hok : ∀ r ∈ M, R9 r) (hyl : ys.length ≤ 200000000)
include hN hMl hok hyl
omit hN hyl in
theorem Nq {k a b : Int} {bands : List Bd} (hbl : bands.length ≤ 250000000) (hk0 : 0 ≤ k ∧ k ≤ 250000000) (ha : idx ys k = some a) (hb : idx ys (k + 1) = some b) (hab : a < b) {K : Int → List jL → List aI → Int → Option (List jL)} : ∀ (suf pre now : List aI) (m : Nat), M = pre ++ suf → suf.length < m → (∀ r ∈ now, R9 r) → now.length + suf.length ≤ 150000000 →
  ∃ t suf' now', suf = t ++ suf' ∧ (∀ r ∈ t, r.Y0 ≤ a) ∧ (∀ r, suf'.head? = some r → a < r.Y0) ∧ now'.Perm (now ++ t) ∧
   kL M ys k (bands.map toP) K m now pre.length = K (k + 1) ((pushB bands (a, b, zT ((now ++ t).map BH))).map toP) now' (pre ++ t).length
 | suf, pre, now, 0, _, h, _, _ => absurd h (Nat.not_lt_zero _)
 | [], pre, now, m + 1, h1, _, h3, h4 => by
  obtain ⟨now', p1, p2⟩ := AL (l := now) (by simp at h4; omega) h3
  refine ⟨[], [], now', rfl, by simp, by simp, by simpa using p1, ?_⟩
  have hpush := Lc (l := bands) (b := (a, b, zT (now.map BH))) (by omega) hab
  rw [kL.eq_2, if_neg (by rw [h1]; simp), Option.bind_some, if_neg (by simp), ha, Option.bind_some, bR (by omega) (by omega), hb, Option.bind_some, p2, Option.bind_some]
  show (mf (bands.map toP) (toP (a, b, zT (now.map BH)))).bind _ = _
  rw [hpush, Option.bind_some]
  simp
 | r :: suf, pre, now, m + 1, h1, h2, h3, h4 => by
  have hrM : r ∈ M := by rw [h1]; simp
  have hpl : pre.length ≤ 100000000 := by rw [h1] at hMl; simp at hMl; omega
  have hid : idx M (pre.length : Int) = some r := by rw [h1]; exact gG pre suf r
  simp only [List.length_cons] at h2 h4
  by_cases hle : r.Y0 ≤ a
  ·obtain ⟨t, suf', now', e1, e2, e3, e4, e5⟩ := Nq hbl hk0 ha hb hab (K := K) suf (pre ++ [r]) (now ++ [r]) m (by rw [h1]; simp) (by omega) (fun x hx => by
    rcases List.mem_append.1 hx with hx | hx
    ·exact h3 x hx
    ·simp at hx; subst hx; exact hok _ hrM) (by simp; omega)
   refine ⟨r :: t, suf', now', by rw [e1]; rfl, fun x hx => ?_, e3, by simpa using e4, ?_⟩
   ·rcases List.mem_cons.1 hx with rfl | hx
    ·exact hle
    ·exact e2 x hx
   ·rw [kL.eq_2, if_pos (by rw [h1]; exact uH pre suf r), hid, Option.bind_some, ha, Option.bind_some, Option.bind_some, if_pos (by simpa using hle), Option.bind_some, iO (by simp; omega), Option.bind_some, qO pre r (by omega), e5]
    simp
  ·obtain ⟨now', p1, p2⟩ := AL (l := now) (by omega) h3
   refine ⟨[], r :: suf, now', rfl, by simp, fun x hx => by simp at hx; subst hx; omega, by simpa using p1, ?_⟩
   have hpush := Lc (l := bands) (b := (a, b, zT (now.map BH))) (by omega) hab
   rw [kL.eq_2, if_pos (by rw [h1]; exact uH pre suf r), hid, Option.bind_some, ha, Option.bind_some, Option.bind_some, if_neg (by simpa using hle), Option.bind_some, bR (by omega) (by omega), hb, Option.bind_some, p2, Option.bind_some]
   show (mf (bands.map toP) (toP (a, b, zT (now.map BH)))).bind _ = _
   rw [hpush, Option.bind_some]
   simp
theorem K6 (hMs : M.Pairwise fun x y => x.Y0 ≤ y.Y0) (hys : ys.Pairwise fun x y => x < y) (hmem : ∀ r ∈ M, r.Y0 ∈ ys) (hl : ∀ r, r ∈ l ↔ r ∈ M) : ∀ (hsuf hpre : List Int) (m : Nat) (bands : List Bd) (pre suf now : List aI) (v : Int), ys = hpre ++ hsuf → M = pre ++ suf → hsuf.length < m → bands.length ≤ hpre.length →
  (∀ r ∈ pre, r.Y0 ≤ v) → (∀ r ∈ suf, v < r.Y0) → now.Perm (pre.filter fun r => decide (v < r.Y1)) → (∀ h ∈ hsuf, v < h) → (∀ h ∈ hpre, h ≤ v) →
  gX N M ys m hpre.length (bands.map toP) now pre.length = some ((sO l hsuf bands).map toP)
 | [], hpre, m + 1, bands, pre, suf, now, v, e1, e2, _, _, _, _, _, _, _ => by
  have hpl : hpre.length ≤ 200000000 := by rw [e1] at hyl; simpa using hyl
  rw [gX.eq_2, if_neg (by rw [bR (by omega) (by omega), e1]; simp; omega)]
  rfl
 | [a], hpre, m + 1, bands, pre, suf, now, v, e1, e2, _, _, _, _, _, _, _ => by
  have hpl : hpre.length ≤ 200000000 := by rw [e1] at hyl; simp at hyl; omega
  rw [gX.eq_2, if_neg (by rw [bR (by omega) (by omega), e1]; simp)]
  rfl
 | a :: b :: hsuf, hpre, m + 1, bands, pre, suf, now, v, e1, e2, hm, hbl, i1, i2, i3, i4, i5 => by
  have hpl : hpre.length + 2 ≤ 200000000 := by rw [e1] at hyl; simp at hyl; omega
  have hva : v < a := i4 a (by simp)
  have hs2 : (a :: b :: hsuf).Pairwise fun x y => x < y := by rw [e1] at hys; exact (List.pairwise_append.1 hys).2.1
  have hab : a < b := (List.pairwise_cons.1 hs2).1 b (by simp)
  have ha : idx ys (hpre.length : Int) = some a := by rw [e1]; exact gG hpre _ a
  have hb : idx ys ((hpre.length : Int) + 1) = some b := by
   rw [e1, show hpre ++ a :: b :: hsuf = (hpre ++ [a]) ++ b :: hsuf by simp, show ((hpre.length : Int) + 1) = ((hpre ++ [a]).length : Int) by simp]
   exact gG (hpre ++ [a]) _ b
  have hnl : now.length ≤ pre.length := by rw [i3.length_eq]; exact List.length_filter_le _ _
  have hMl2 : pre.length + suf.length ≤ 100000000 := by rw [e2] at hMl; simpa using hMl
  have hnok : ∀ r ∈ now, R9 r := fun r hr => hok r (by rw [e2]; exact List.mem_append_left _ (List.mem_filter.1 (i3.subset hr)).1)
  have hdel := M7 (N := N) (g := fun r => decide (r.Y1 ≤ a)) (f := fun z0 => oH z0 ys hpre.length) (l := now) (by omega) (by omega) (fun r _ => by unfold oH; rw [ha]; rfl)
  obtain ⟨t, suf', now', s1, s2, s3, s4, s5⟩ := Nq hMl hok (bands := bands) (by omega) (k := (hpre.length : Int)) ⟨by omega, by omega⟩ ha hb hab (K := gX N M ys m) suf pre (now.filter fun x => !decide (x.Y1 ≤ a)) N e2 (by omega) (fun r hr => hnok r (List.mem_filter.1 hr).1) (by
   have := List.length_filter_le (fun x : aI => !decide (x.Y1 ≤ a)) now
   omega)
  have hsM : suf.Pairwise fun x y => x.Y0 ≤ y.Y0 := by rw [e2] at hMs; exact (List.pairwise_append.1 hMs).2.1
  have hsuf' : ∀ r ∈ suf', a < r.Y0 := fun r hr => by
   cases suf' with
   | nil => simp at hr
   | cons c cs =>
    have hc := s3 c rfl
    rcases List.mem_cons.1 hr with rfl | hr
    ·exact hc
    ·rw [s1] at hsM
     have := (List.pairwise_cons.1 (List.pairwise_append.1 hsM).2.1).1 r hr
     omega
  have ht : ∀ r ∈ t, r.Y0 = a ∧ a < r.Y1 := fun r hr => by
   have hrs : r ∈ suf := by rw [s1]; exact List.mem_append_left _ hr
   have hrM : r ∈ M := by rw [e2]; exact List.mem_append_right _ hrs
   have h1 := s2 r hr
   have h2 := i2 r hrs
   have h3 := hmem r hrM
   have hin : r.Y0 ∈ a :: b :: hsuf := by
    rw [e1] at h3
    rcases List.mem_append.1 h3 with h | h
    ·have := i5 _ h; omega
    ·exact h
   have hle : a ≤ r.Y0 := by
    rcases List.mem_cons.1 hin with h | h
    ·omega
    ·have := (List.pairwise_cons.1 hs2).1 _ h; omega
   have := (hok r hrM).y
   omega
  have hperm : (now.filter (fun x => !decide (x.Y1 ≤ a)) ++ t).Perm ((pre ++ t).filter fun r => decide (a < r.Y1)) := by
   rw [List.filter_append]
   have p1 : (now.filter fun x => !decide (x.Y1 ≤ a)).Perm (pre.filter fun r => decide (a < r.Y1)) := by
    refine (i3.filter _).trans ?_
    rw [List.filter_filter]
    refine List.Perm.of_eq (List.filter_congr fun r _ => ?_)
    rw [Bool.eq_iff_iff]
    simp
    omega
   have p2 : t.filter (fun r => decide (a < r.Y1)) = t := List.filter_eq_self.2 fun r hr => by simpa using (ht r hr).2
   rw [p2]
   exact p1.append_right t
  have hcov : zT ((now.filter (fun x => !decide (x.Y1 ≤ a)) ++ t).map BH) = rR l a := by
   have hin : ∀ r, r ∈ (now.filter (fun x => !decide (x.Y1 ≤ a)) ++ t) ↔ r ∈ l.filter fun r => decide (r.Y0 ≤ a) && decide (a < r.Y1) := fun r => by
    rw [hperm.mem_iff, List.mem_filter, List.mem_filter, hl, e2, s1]
    simp only [List.mem_append, Bool.and_eq_true, decide_eq_true_eq]
    constructor
    ·rintro ⟨h | h, h2⟩
     ·exact ⟨.inl h, by have := i1 r h; omega, h2⟩
     ·exact ⟨.inr (.inl h), by have := (ht r h).1; omega, h2⟩
    ·rintro ⟨h | h | h, h1, h2⟩
     ·exact ⟨.inl h, h2⟩
     ·exact ⟨.inr h, h2⟩
     ·have := hsuf' r h; omega
   have hlim : ∀ r, r ∈ M → -2000000001 < (BH r).1 ∧ (BH r).1 < (BH r).2 := fun r hr => by
    have := hok r hr
    exact ⟨by have := this.x0; show -2000000001 < r.X0; omega, this.x⟩
   have hMr : ∀ r, r ∈ (now.filter (fun x => !decide (x.Y1 ≤ a)) ++ t) → r ∈ M := fun r hr => (hl r).1 (List.mem_filter.1 ((hin r).1 hr)).1
   unfold rR
   refine Ko (lo := -2000000001) (fun p hp => ?_) (fun p hp => ?_) fun x => ?_
   ·obtain ⟨r, hr, rfl⟩ := List.mem_map.1 hp; exact hlim r (hMr r hr)
   ·obtain ⟨r, hr, rfl⟩ := List.mem_map.1 hp; exact hlim r ((hl r).1 (List.mem_filter.1 hr).1)
   ·unfold nI
    constructor
    ·rintro ⟨p, hp, h⟩
     obtain ⟨r, hr, rfl⟩ := List.mem_map.1 hp
     exact ⟨_, List.mem_map.2 ⟨r, (hin r).1 hr, rfl⟩, h⟩
    ·rintro ⟨p, hp, h⟩
     obtain ⟨r, hr, rfl⟩ := List.mem_map.1 hp
     exact ⟨_, List.mem_map.2 ⟨r, (hin r).2 hr, rfl⟩, h⟩
  rw [gX.eq_2, if_pos (by rw [bR (by omega) (by omega), e1]; simp; omega), hdel, Option.bind_some, s5, hcov]
  have hpb := BV bands (a, b, rR l a)
  have ih := K6 hMs hys hmem hl (b :: hsuf) (hpre ++ [a]) m (pushB bands (a, b, rR l a)) (pre ++ t) suf' now' a (by rw [e1]; simp) (by rw [e2, s1]; simp) (by simp at hm ⊢; omega) (by simp; omega) (fun r hr => by
   rcases List.mem_append.1 hr with hr | hr
   ·have := i1 r hr; omega
   ·have := (ht r hr).1; omega) hsuf' (s4.trans hperm) (fun h hh => (List.pairwise_cons.1 hs2).1 h hh) (fun h hh => by
   rcases List.mem_append.1 hh with hh | hh
   ·have := i5 h hh; omega
   ·simp at hh; omega)
  rw [show ((hpre.length : Int) + 1) = ((hpre ++ [a]).length : Int) by simp, ih]
  rfl
end
theorem JF (r : aI) (l : List aI) : dF (r :: l) = [r.Y0, r.Y1] ++ dF l := rfl
theorem Jt {N : Nat} {l : List aI} (hN : 10000000000 ≤ N) (hl : l.length ≤ 100000000) (hok : ∀ r ∈ l, R9 r) : nT N l = some ((rC l).map toP) := by
 obtain ⟨M, m1, m2, m3⟩ := Ig (c := fun z0 z1 => oJ z0 z1) (k := fun r => r.Y0) (l := l) (by omega) (fun x hx y hy => by
  have a := (hok x hx).y0; have b := (hok y hy).y0
  unfold oJ
  rw [bR (by omega) (by omega)])
 have hMl : M.length ≤ 100000000 := by rw [m2.length_eq]; exact hl
 have hMok : ∀ r ∈ M, R9 r := fun r hr => hok r (m2.subset hr)
 have hy : dH (dF M) = dH (dF l) := Mq fun y => by
  rw [mP, mP]
  exact ⟨fun ⟨r, hr, h⟩ => ⟨r, m2.subset hr, h⟩, fun ⟨r, hr, h⟩ => ⟨r, m2.symm.subset hr, h⟩⟩
 have hyl : (dH (dF l)).length ≤ 200000000 := Nat.le_trans (sD _) (by rw [tC]; omega)
 have L1 : ∀ (suf : List aI) (i : Nat) (out : List Int), out.length + 2 * suf.length ≤ 250000000 → kM N M suf i out = (gX N M (dH (out ++ dF suf)) N 0 [] [] 0) := by
  intro suf
  induction suf with
  | nil =>
   intro i out ho
   rw [kM.eq_1]
   have := O4 (l := out) (by simp at ho; omega)
   rw [K3 (by simp at ho; omega), Option.bind_some]
   rw [K3 (by simp at ho; omega), Option.bind_some] at this
   rw [this, Option.bind_some]
   show _ = gX N M (dH (out ++ [])) N 0 [] [] 0
   rw [List.append_nil]
  | cons r suf ih =>
   intro i out ho
   simp only [List.length_cons] at ho
   rw [kM.eq_2, iO (by simp; omega), Option.bind_some, ih (i + 1) _ (by simp; omega), JF, List.append_assoc]
 unfold nT pJ
 rw [iO (by simp; omega), Option.bind_some, Option.bind_some, List.nil_append, m1, Option.bind_some, L1 M 0 [] (by simp; omega), List.nil_append, hy]
 have := K6 (l := l) hN hMl hMok hyl m3 (gZ _) (fun r hr => (lU _ _).2 (mP.2 ⟨r, m2.subset hr, .inl rfl⟩)) (fun r => ⟨fun h => m2.symm.subset h, fun h => m2.subset h⟩) (dH (dF l)) [] N [] [] M [] (-3000000000) rfl rfl (by omega) (by simp) (by simp) (fun r hr => by have := (hMok r hr).y0; omega) (by simp) (fun h hh => by
  obtain ⟨r, hr, e⟩ := mP.1 ((lU _ _).1 hh)
  have a := hok r hr
  have := a.y0; have := a.y1
  rcases e with rfl | rfl <;> omega) (by simp)
 exact this
theorem Ef (l : List aI) (y : Int) : (rR l y).length ≤ l.length := by
 unfold rR zT
 have := I8 ((l.filter fun r => decide (r.Y0 ≤ y) && decide (y < r.Y1)).map BH) []
 have h2 := List.length_filter_le (fun r : aI => decide (r.Y0 ≤ y) && decide (y < r.Y1)) l
 simp at this
 omega
structure Small (l : List Bd) : Prop where
 len : l.length ≤ 200000000
 row : ∀ b ∈ l, b.2.2.length ≤ 100000000
 tot : (kI l).length ≤ 4000000000
theorem um (b : Bd) (l : List Bd) : kI (b :: l) = AZ b ++ kI l := rfl
theorem wM (b : Bd) : (AZ b).length = b.2.2.length := by unfold AZ; simp
theorem J3 {l : List Bd} {R : Nat} (h : ∀ b ∈ l, b.2.2.length ≤ R) : (kI l).length ≤ R * l.length := by
 induction l with
 | nil => simp [kI]
 | cons b l ih =>
  rw [um, List.length_append, wM]
  have := ih (fun c hc => h c (by simp [hc])); have := h b (by simp)
  rw [List.length_cons, Nat.mul_succ]
  omega
theorem Fb (l m : List Bd) : kI (l ++ m) = kI l ++ kI m := by unfold kI; rw [List.flatMap_append]
theorem FQ {l : List Bd} {b : Bd} {R : Nat} (h : ∀ c ∈ l, c.2.2.length ≤ R) (hb : b.2.2.length ≤ R) : ∀ c ∈ pushB l b, c.2.2.length ≤ R := by
 by_cases he : b.2.2 = []
 ·rw [oN he]; exact h
 ·rcases List.eq_nil_or_concat l with rfl | ⟨j, c, hc⟩
  ·rw [xu he]
   intro c hc
   simp at hc
   subst hc
   exact hb
  ·rw [List.concat_eq_append] at hc
   subst hc
   rw [qR he]
   intro d hd
   split at hd
   ·rcases List.mem_append.1 hd with hd | hd
    ·exact h d (by simp [hd])
    ·simp at hd; subst hd; exact h c (by simp)
   ·rcases List.mem_append.1 hd with hd | hd
    ·exact h d hd
    ·simp at hd; subst hd; exact hb
theorem Ag {l : List aI} {R : Nat} (hl : l.length ≤ R) : ∀ (ys : List Int) (out : List Bd), (∀ c ∈ out, c.2.2.length ≤ R) → (sO l ys out).length ≤ out.length + ys.length ∧ ∀ c ∈ sO l ys out, c.2.2.length ≤ R
 | [], out, h => ⟨by simp [sO], h⟩
 | [a], out, h => ⟨by simp [sO], h⟩
 | a :: b :: ys, out, h => by
  have hr := Ef l a
  have hp := BV out (a, b, rR l a)
  obtain ⟨i1, i2⟩ := Ag hl (b :: ys) (pushB out (a, b, rR l a)) (FQ h (by show (rR l a).length ≤ R; omega))
  simp only [List.length_cons] at i1 ⊢
  exact ⟨by show (sO l (b :: ys) (pushB out (a, b, rR l a))).length ≤ _; omega, i2⟩
theorem Ij (l : List aI) : (rC l).length ≤ 2 * l.length ∧ ∀ b ∈ rC l, b.2.2.length ≤ l.length := by
 obtain ⟨h1, h2⟩ := Ag (Nat.le_refl l.length) (dH (dF l)) [] (by simp)
 have := sD (dF l)
 rw [tC] at this
 exact ⟨by show (sO l (dH (dF l)) []).length ≤ _; simp at h1; omega, h2⟩
theorem CE {l : List aI} (hl : l.length ≤ 100000000) (ht : (kI (rC l)).length ≤ 4000000000) : Small (rC l) := by
 obtain ⟨h1, h2⟩ := Ij l
 exact ⟨by omega, fun b hb => by have := h2 b hb; omega, ht⟩
theorem D6 {l : List aI} (hl : l.length ≤ 20000) : Small (rC l) := by
 obtain ⟨h1, h2⟩ := Ij l
 refine CE (by omega) ?_
 have := J3 (R := 20000) (l := rC l) fun b hb => by have := h2 b hb; omega
 omega
section
variable {N : Nat} (hN : 10000000000 ≤ N)
include hN
omit hN in
theorem Ju {b : Bd} {K : List aI → Option (List aI)} (hb : b.2.2.length ≤ 100000000) : ∀ (suf pre : List (Int × Int)) (m : Nat) (out : List aI), b.2.2 = pre ++ suf → suf.length < m → out.length + suf.length ≤ 4294967296 →
  iG K (toP b) m out ((2 * pre.length : Nat) : Int) = K (out ++ suf.map fun s => ⟨s.1, b.1, s.2, b.2.1⟩)
 | [], pre, m + 1, out, h1, _, _ => by
  rw [iG.eq_2, if_neg (by show ¬ decide (((2 * pre.length : Nat) : Int) < ((eH b.2.2).length : Int)) = true; rw [h1, jD]; simp)]
  simp
 | s :: suf, pre, m + 1, out, h1, h2, h3 => by
  have hpl : pre.length ≤ 100000000 := by rw [h1] at hb; simp at hb; omega
  have hfl : eH b.2.2 = eH pre ++ s.1 :: s.2 :: eH suf := by rw [h1, rq]; rfl
  have hid : idx (eH b.2.2) ((2 * pre.length : Nat) : Int) = some s.1 := by rw [hfl, ← jD]; exact gG _ _ _
  have hid2 : idx (eH b.2.2) (((2 * pre.length : Nat) : Int) + 1) = some s.2 := by
   rw [hfl, show eH pre ++ s.1 :: s.2 :: eH suf = (eH pre ++ [s.1]) ++ s.2 :: eH suf by simp, show (((2 * pre.length : Nat) : Int) + 1) = ((eH pre ++ [s.1]).length : Int) by simp [jD]]
   exact gG _ _ _
  simp only [List.length_cons] at h2 h3
  rw [iG.eq_2, if_pos (by show decide (((2 * pre.length : Nat) : Int) < ((eH b.2.2).length : Int)) = true; rw [hfl]; simp [jD]; omega), bR (x := ((2 * pre.length : Nat) : Int) + 1) (by omega) (by omega), bR (x := ((2 * pre.length : Nat) : Int) + 2) (by omega) (by omega)]
  show ((idx (eH b.2.2) _).bind fun Uy => (idx (eH b.2.2) _).bind fun Ux => _) = _
  rw [hid, Option.bind_some, hid2, Option.bind_some, iO (by simp; omega), Option.bind_some]
  have := Ju (K := K) hb suf (pre ++ [s]) m (out ++ [⟨s.1, b.1, s.2, b.2.1⟩]) (by rw [h1]; simp) (by omega) (by simp; omega)
  rw [show ((2 * (pre ++ [s]).length : Nat) : Int) = ((2 * pre.length : Nat) : Int) + 2 by simp; omega] at this
  show iG K (toP b) m (out ++ [⟨s.1, b.1, s.2, b.2.1⟩]) _ = _
  rw [this]
  simp
theorem OE {l : List Bd} (h : Small l) : ol N (l.map toP) = some (kI l) := by
 have key : ∀ (suf : List Bd) (i : Nat) (out : List aI), (∀ b ∈ suf, b.2.2.length ≤ 100000000) → out.length + (kI suf).length ≤ 4294967296 → fJ N (suf.map toP) i out = some (out ++ kI suf) := by
  intro suf
  induction suf with
  | nil => intro i out _ _; rw [List.map_nil, fJ.eq_1]; simp [kI]
  | cons b suf ih =>
   intro i out hb ho
   have hb0 := hb b (by simp)
   rw [um, List.length_append, wM] at ho
   rw [List.map_cons, fJ.eq_2]
   have := Ju (K := fJ N (suf.map toP) (i + 1)) hb0 b.2.2 [] N out rfl (by omega) (by omega)
   rw [show ((2 * ([] : List (Int × Int)).length : Nat) : Int) = 0 from rfl] at this
   rw [this, ih (i + 1) _ (fun c hc => hb c (by simp [hc])) (by simp; omega), um, List.append_assoc]
   rfl
 have := key l 0 [] h.row (by have := h.tot; simp; omega)
 rw [List.nil_append] at this
 exact this
end
instance : DecidableEq aI := fun _ _ => decidable_of_iff _ uw
def Fe (r : aI) : Int :=
 if (((within r.X0 (-1000000) 1000000 && within r.Y0 (-1000000) 1000000) && within r.X1 (-1000000) 1000000) && within r.Y1 (-1000000) 1000000) = false then 1
 else if (decide (r.X1 ≤ r.X0) || decide (r.Y1 ≤ r.Y0)) = true then 13 else 0
def z8 : List aI → Int
 | [] => 0
 | r :: l => if Fe r = 0 then z8 l else Fe r
def qo (l : List aI) : Int := if 2000 < l.length then 2 else z8 l
theorem Pj {r : aI} (h : Fe r = 0) : Na r := by
 unfold Fe at h
 split at h
 ·omega
 ·rename_i h1
  split at h
  ·omega
  ·rename_i h2
   rw [Bool.not_eq_false, Bool.and_eq_true, Bool.and_eq_true, Bool.and_eq_true, within_iff, within_iff, within_iff, within_iff] at h1
   rw [Bool.or_eq_true, not_or, decide_eq_true_eq, decide_eq_true_eq] at h2
   exact ⟨h1.1.1.1, h1.1.1.2, h1.1.2, h1.2, by omega, by omega⟩
theorem Ip : ∀ {l : List aI}, z8 l = 0 → ∀ r ∈ l, Na r
 | [], _, r, hr => by simp at hr
 | a :: l, h, r, hr => by
  unfold z8 at h
  split at h
  ·rename_i h1
   rcases List.mem_cons.1 hr with rfl | hr
   ·exact Pj h1
   ·exact Ip h r hr
  ·rename_i h1; exact absurd h h1
theorem yV {l : List aI} (h : qo l = 0) : l.length ≤ 2000 ∧ ∀ r ∈ l, Na r := by
 unfold qo at h
 split at h
 ·omega
 ·exact ⟨by omega, Ip h⟩
theorem MM (r : aI) : qY r = some (((within r.X0 (-1000000) 1000000 && within r.Y0 (-1000000) 1000000) && within r.X1 (-1000000) 1000000) && within r.Y1 (-1000000) 1000000) := by
 unfold qY qh sU within
 simp only [Option.bind_some]
 cases decide (-1000000 ≤ r.X0) && decide (r.X0 ≤ 1000000) <;> cases decide (-1000000 ≤ r.Y0) && decide (r.Y0 ≤ 1000000) <;> cases decide (-1000000 ≤ r.X1) && decide (r.X1 ≤ 1000000) <;> rfl
theorem Fu (l : List aI) : om l = some (qo l) := by
 have key : ∀ (l : List aI) (i : Nat), iH l i = some (z8 l) := by
  intro l
  induction l with
  | nil => intro i; rw [iH.eq_1]; rfl
  | cons r l ih =>
   intro i
   rw [iH.eq_2, MM, Option.bind_some, ih]
   show _ = some (if Fe r = 0 then z8 l else Fe r)
   generalize z8 l = z
   unfold Fe
   cases (((within r.X0 (-1000000) 1000000 && within r.Y0 (-1000000) 1000000) && within r.X1 (-1000000) 1000000) && within r.Y1 (-1000000) 1000000)
   ·simp
   ·cases (decide (r.X1 ≤ r.X0) || decide (r.Y1 ≤ r.Y0)) <;> simp
 unfold om qo
 by_cases h : 2000 < l.length
 ·rw [if_pos (by simp; omega), if_pos h]
 ·rw [if_neg (by simp; omega), if_neg h, key]
def Pw (a b : aI) : Bool := decide (a.Y0 < b.Y0) || (decide (a.Y0 = b.Y0) && decide (a.X0 < b.X0))
def IG : List aI → Bool
 | a :: b :: l => Pw a b && IG (b :: l)
 | _ => true
def mO (l : List aI) : Int := if qo l = 0 then if IG l = true then if kI (rC l) = l then 0 else 3 else 8 else qo l
theorem E5 {N : Nat} (hN : 10000000000 ≤ N) (l : List aI) : nK N l = some (mO l) := by
 unfold nK mO
 rw [Fu, Option.bind_some]
 by_cases he : qo l = 0
 ·obtain ⟨hl, hok⟩ := yV he
  rw [if_neg (by simpa using he), if_pos he]
  have hend : (nT N l).bind (fun Tg => (ol N Tg).bind fun Tf => (mE Tf l).bind fun Te => if (!Te) then some 3 else some 0) = some (if kI (rC l) = l then (0 : Int) else 3) := by
   rw [Jt hN (by omega) (fun r hr => (hok r hr).r9), Option.bind_some, OE hN (D6 (by omega)), Option.bind_some]
   obtain ⟨b, h1, h2⟩ := M5 (kI (rC l)) l
   rw [h1, Option.bind_some]
   cases b
   ·rw [if_pos (by simp), if_neg (fun h => by have := h2.2 h; cases this)]
   ·rw [if_neg (by simp), if_pos (h2.1 rfl)]
  have key : ∀ (suf pre : List aI) (a : aI) (m : Nat), l = pre ++ a :: suf → suf.length < m → fw N l m ((pre.length : Int) + 1) = some (if IG (a :: suf) = true then if kI (rC l) = l then 0 else 3 else 8) := by
   intro suf
   induction suf with
   | nil =>
    intro pre a m h1 h2
    obtain ⟨m, rfl⟩ : ∃ k, m = k + 1 := ⟨m - 1, by omega⟩
    rw [fw.eq_2, if_neg (by rw [h1]; simp), hend]
    rfl
   | cons b suf ih =>
    intro pre a m h1 h2
    obtain ⟨m, rfl⟩ : ∃ k, m = k + 1 := ⟨m - 1, by omega⟩
    have hpl : pre.length ≤ 2000 := by rw [h1] at hl; simp at hl; omega
    have ha : idx l (pre.length : Int) = some a := by rw [h1]; exact gG pre _ a
    have hb : idx l ((pre.length : Int) + 1) = some b := by
     rw [h1, show pre ++ a :: b :: suf = (pre ++ [a]) ++ b :: suf by simp, show ((pre.length : Int) + 1) = ((pre ++ [a]).length : Int) by simp]
     exact gG (pre ++ [a]) _ b
    rw [fw.eq_2, if_pos (by rw [h1]; simp; omega), bR (x := (pre.length : Int) + 1 - 1) (by omega) (by omega), show ((pre.length : Int) + 1 - 1) = (pre.length : Int) by omega, ha, Option.bind_some, hb, Option.bind_some, bR (by omega) (by omega)]
    have hlt : ((decide (b.Y0 < a.Y0)) || ((b.Y0 == a.Y0) && (decide (b.X0 ≤ a.X0)))) = !Pw a b := by
     unfold Pw
     rw [Bool.eq_iff_iff]
     simp
     omega
    rw [hlt]
    have hor : IG (a :: b :: suf) = (Pw a b && IG (b :: suf)) := rfl
    rw [hor]
    cases Pw a b
    ·simp
    ·have := ih (pre ++ [a]) b m (by rw [h1]; simp) (by simp at h2; omega)
     rw [show (((pre ++ [a]).length : Int) + 1) = (pre.length : Int) + 1 + 1 by simp] at this
     rw [this]
     simp
  cases l with
  | nil =>
   obtain ⟨m, hm⟩ : ∃ k, N = k + 1 := ⟨N - 1, by omega⟩
   have hf : fw N ([] : List aI) N 1 = fw N ([] : List aI) (m + 1) 1 := congrArg (fun z => fw N ([] : List aI) z 1) hm
   rw [hf, fw.eq_2, if_neg (by simp), hend]
   rfl
  | cons a suf =>
   exact key suf [] a N rfl (by simp at hl; omega)
 ·rw [if_pos (by simpa using he), if_neg he]
def rowAt : List Bd → Int → List (Int × Int)
 | [], _ => []
 | b :: l, y => if b.1 ≤ y ∧ y < b.2.1 then b.2.2 else rowAt l y
def sZ : Int → List Bd → Prop
 | _, [] => True
 | lo, b :: l => lo ≤ b.1 ∧ b.1 < b.2.1 ∧ b.2.2 ≠ [] ∧ (∀ d, l.head? = some d → d.1 = b.2.1 → d.2.2 ≠ b.2.2) ∧ sZ b.2.1 l
theorem oL : ∀ {l : List Bd} {lo y : Int}, sZ lo l → y < lo → rowAt l y = []
 | [], _, _, _, _ => rfl
 | b :: l, lo, y, h, hy => by
  unfold rowAt
  rw [if_neg (by have := h.1; omega)]
  exact oL h.2.2.2.2 (by have := h.1; have := h.2.1; omega)
theorem sZ.uniq : ∀ {l m : List Bd} {lo lo' : Int}, sZ lo l → sZ lo' m → (∀ y, rowAt l y = rowAt m y) → l = m
 | [], [], _, _, _, _, _ => rfl
 | [], b :: m, _, _, _, h2, h => by
  have := h b.1
  unfold rowAt at this
  rw [if_pos ⟨Int.le_refl _, h2.2.1⟩] at this
  exact absurd this.symm h2.2.2.1
 | b :: l, [], _, _, h1, _, h => by
  have := h b.1
  unfold rowAt at this
  rw [if_pos ⟨Int.le_refl _, h1.2.1⟩] at this
  exact absurd this h1.2.2.1
 | b :: l, d :: m, lo, lo', h1, h2, h => by
  obtain ⟨a1, a2, a3, a4, a5⟩ := h1
  obtain ⟨b1, b2, b3, b4, b5⟩ := h2
  have fst : ∀ {l : List Bd} {b : Bd} {y : Int}, b.1 ≤ y → y < b.2.1 → rowAt (b :: l) y = b.2.2 := fun h1 h2 => by unfold rowAt; rw [if_pos ⟨h1, h2⟩]
  have low : ∀ {l : List Bd} {b : Bd} {y : Int}, sZ b.2.1 l → b.1 < b.2.1 → y < b.1 → rowAt (b :: l) y = [] := fun h1 h2 h3 => by
   unfold rowAt
   rw [if_neg (by omega)]
   exact oL h1 (by omega)
  have e1 : b.1 = d.1 := by
   have hb := h b.1
   have hd := h d.1
   rw [fst (Int.le_refl _) a2] at hb
   rw [fst (l := m) (b := d) (Int.le_refl _) b2] at hd
   rcases Int.lt_trichotomy b.1 d.1 with hlt | heq | hgt
   ·rw [low b5 b2 hlt] at hb; exact absurd hb a3
   ·exact heq
   ·rw [low a5 a2 hgt] at hd; exact absurd hd.symm b3
  have e2 : b.2.2 = d.2.2 := by
   have hb := h b.1
   rw [fst (Int.le_refl _) a2, e1, fst (Int.le_refl _) b2] at hb
   exact hb
  have past : ∀ {l : List Bd} {b : Bd}, sZ b.2.1 l → (∀ d, l.head? = some d → d.1 = b.2.1 → d.2.2 ≠ b.2.2) → b.2.2 ≠ [] → rowAt (b :: l) b.2.1 ≠ b.2.2 := fun {l b} h1 h2 h3 => by
   unfold rowAt
   rw [if_neg (by omega)]
   cases l with
   | nil => exact fun h => h3 h.symm
   | cons e l =>
    unfold rowAt
    by_cases he : e.1 = b.2.1
    ·rw [if_pos ⟨by omega, by have := h1.2.1; omega⟩]
     exact h2 e rfl he
    ·have hlt : b.2.1 < e.1 := by have := h1.1; omega
     rw [if_neg (by omega), oL h1.2.2.2.2 (by have := h1.2.1; omega)]
     exact fun h => h3 h.symm
  have e3 : b.2.1 = d.2.1 := by
   rcases Int.lt_trichotomy b.2.1 d.2.1 with hlt | heq | hgt
   ·have := h b.2.1
    rw [fst (l := m) (b := d) (by omega) hlt, ← e2] at this
    exact absurd this (past a5 a4 a3)
   ·exact heq
   ·have := h d.2.1
    rw [fst (l := l) (b := b) (by omega) hgt, e2] at this
    exact absurd this.symm (past b5 b4 b3)
  have hbd : b = d := by
   obtain ⟨x, y, z⟩ := b
   obtain ⟨x', y', z'⟩ := d
   simp only at e1 e2 e3
   rw [e1, e2, e3]
  subst hbd
  rw [sZ.uniq a5 b5 fun y => by
   by_cases hy : y < b.2.1
   ·rw [oL a5 hy, oL b5 hy]
   ·have := h y
    unfold rowAt at this
    rw [if_neg (by omega), if_neg (by omega)] at this
    exact this]
def SY (x y : Int) (l : List Bd) : Prop := nI x (rowAt l y)
def Ry (x y : Int) (l : List aI) : Prop := ∃ r ∈ l, (r.X0 ≤ x ∧ x < r.X1) ∧ (r.Y0 ≤ y ∧ y < r.Y1)
structure Qb (l : List Bd) : Prop where
 can : ∃ lo, sZ lo l
 row : ∀ b ∈ l, ∃ lo, Can lo b.2.2
theorem FL : ∀ {l : List Bd} {y : Int}, rowAt l y = [] ∨ ∃ b ∈ l, b.1 ≤ y ∧ y < b.2.1 ∧ rowAt l y = b.2.2
 | [], _ => .inl rfl
 | b :: l, y => by
  unfold rowAt
  by_cases h : b.1 ≤ y ∧ y < b.2.1
  ·rw [if_pos h]; exact .inr ⟨b, by simp, h.1, h.2, rfl⟩
  ·rw [if_neg h]
   rcases FL (l := l) (y := y) with h1 | ⟨c, h1, h2⟩
   ·exact .inl h1
   ·exact .inr ⟨c, by simp [h1], h2⟩
theorem Qb.at {l : List Bd} (h : Qb l) (y : Int) : ∃ lo, Can lo (rowAt l y) := by
 rcases FL (l := l) (y := y) with h1 | ⟨b, h1, _, _, h2⟩
 ·rw [h1]; exact ⟨0, trivial⟩
 ·rw [h2]; exact h.row b h1
theorem sZ.mem : ∀ {l : List Bd} {lo : Int}, sZ lo l → ∀ b ∈ l, lo ≤ b.1 ∧ b.1 < b.2.1 ∧ b.2.2 ≠ []
 | [], _, _, b, hb => by simp at hb
 | c :: l, lo, h, b, hb => by
  rcases List.mem_cons.1 hb with rfl | hb
  ·exact ⟨h.1, h.2.1, h.2.2.1⟩
  ·have hm := h.2.2.2.2.mem b hb
   have := h.1; have := h.2.1
   exact ⟨by omega, hm.2.1, hm.2.2⟩
theorem Qb.uniq {l m : List Bd} (h1 : Qb l) (h2 : Qb m) (h : ∀ x y, SY x y l ↔ SY x y m) : l = m := by
 obtain ⟨lo, c1⟩ := h1.can
 obtain ⟨lo', c2⟩ := h2.can
 refine c1.uniq c2 fun y => ?_
 obtain ⟨a, ha⟩ := h1.at y
 obtain ⟨b, hb⟩ := h2.at y
 exact ha.uniq hb fun x => h x y
theorem NL : ∀ (l : List (Int × Int)), ∃ lo, ∀ p ∈ l, lo < p.1
 | [] => ⟨0, by simp⟩
 | q :: l => by
  obtain ⟨lo, h⟩ := NL l
  refine ⟨min lo (q.1 - 1), fun p hp => ?_⟩
  rcases List.mem_cons.1 hp with rfl | hp
  ·omega
  ·have := h p hp; omega
theorem Rj {l : List (Int × Int)} (h : ∀ p ∈ l, p.1 < p.2) : (∃ lo, Can lo (zT l)) ∧ ∀ x, nI x (zT l) ↔ nI x l := by
 obtain ⟨lo, hlo⟩ := NL l
 obtain ⟨h1, h2⟩ := Dq (lo := lo) (l := l) fun p hp => ⟨hlo p hp, h p hp⟩
 exact ⟨⟨lo, h1⟩, h2⟩
theorem zJ {l : List aI} (h : ∀ r ∈ l, r.X0 < r.X1) (y : Int) : (∃ lo, Can lo (rR l y)) ∧ ∀ x, nI x (rR l y) ↔ Ry x y l := by
 obtain ⟨h1, h2⟩ := Rj (l := (l.filter fun r => decide (r.Y0 ≤ y) && decide (y < r.Y1)).map BH) fun p hp => by
  obtain ⟨r, hr, rfl⟩ := List.mem_map.1 hp
  exact h r (List.mem_filter.1 hr).1
 refine ⟨h1, fun x => (h2 x).trans ?_⟩
 unfold nI Ry
 constructor
 ·rintro ⟨p, hp, hx⟩
  obtain ⟨r, hr, rfl⟩ := List.mem_map.1 hp
  obtain ⟨hr, hy⟩ := List.mem_filter.1 hr
  simp at hy
  exact ⟨r, hr, hx, hy⟩
 ·rintro ⟨r, hr, hx, hy⟩
  exact ⟨BH r, List.mem_map.2 ⟨r, List.mem_filter.2 ⟨hr, by simp [hy]⟩, rfl⟩, hx⟩
theorem Ku {l m : List (Int × Int)} (h1 : ∃ lo, Can lo l) (h2 : ∃ lo, Can lo m) (h : ∀ x, nI x l ↔ nI x m) : l = m := by
 obtain ⟨_, h1⟩ := h1
 obtain ⟨_, h2⟩ := h2
 exact h1.uniq h2 h
theorem PT {l : List (Int × Int)} (h1 : ∃ lo, Can lo l) (h : ∀ x, ¬ nI x l) : l = [] := Ku h1 ⟨0, trivial⟩ fun x => ⟨fun hx => absurd hx (h x), fun hx => absurd hx jZ⟩
theorem Ej {c : Bd} {l : List Bd} {b : Bd} (h : l ≠ []) : pushB (c :: l) b = c :: pushB l b := by
 by_cases he : b.2.2 = []
 ·rw [oN he, oN he]
 ·rcases List.eq_nil_or_concat l with rfl | ⟨j, d, hc⟩
  ·exact absurd rfl h
  ·rw [List.concat_eq_append] at hc
   subst hc
   rw [← List.cons_append, qR he, qR he]
   split <;> rfl
theorem J8 {c : Bd} {l : List Bd} {b : Bd} : ∃ e m, pushB (c :: l) b = e :: m ∧ e.1 = c.1 ∧ e.2.2 = c.2.2 := by
 by_cases hl : l = []
 ·subst hl
  by_cases he : b.2.2 = []
  ·rw [oN he]; exact ⟨c, [], rfl, rfl, rfl⟩
  ·have := qR (l := []) (c := c) he
   rw [List.nil_append] at this
   rw [this]
   split
   ·exact ⟨_, _, rfl, rfl, rfl⟩
   ·exact ⟨_, _, rfl, rfl, rfl⟩
 ·rw [Ej hl]; exact ⟨_, _, rfl, rfl, rfl⟩
theorem sZ.push : ∀ {l : List Bd} {lo : Int} {b : Bd}, sZ lo l → (∀ c ∈ l, c.2.1 ≤ b.1) → lo ≤ b.1 → b.1 < b.2.1 →
  sZ lo (pushB l b) ∧ (∀ c ∈ pushB l b, c.2.1 ≤ b.2.1 ∧ (c.2.2 = b.2.2 ∨ ∃ d ∈ l, c.2.2 = d.2.2)) ∧ ∀ y, rowAt (pushB l b) y = if b.1 ≤ y ∧ y < b.2.1 then b.2.2 else rowAt l y
 | [], lo, b, h, h1, h2, h3 => by
  by_cases he : b.2.2 = []
  ·rw [oN he]
   exact ⟨h, by simp, fun y => by unfold rowAt; split <;> simp [he]⟩
  ·rw [xu he]
   exact ⟨⟨h2, h3, he, by simp, trivial⟩, by simp, fun y => by unfold rowAt; rfl⟩
 | [c], lo, b, h, h1, h2, h3 => by
  have hc := h1 c (by simp)
  have h4 := h.2.1
  by_cases he : b.2.2 = []
  ·rw [oN he]
   refine ⟨h, fun d hd => ⟨by have := h1 d hd; omega, .inr ⟨d, hd, rfl⟩⟩, fun y => ?_⟩
   by_cases hy : b.1 ≤ y ∧ y < b.2.1
   ·rw [if_pos hy, he]; unfold rowAt; rw [if_neg (by omega)]; rfl
   ·rw [if_neg hy]
  ·have hp := qR (l := []) (c := c) he
   rw [List.nil_append] at hp
   rw [hp]
   by_cases hj : c.2.1 = b.1 ∧ c.2.2 = b.2.2
   ·rw [if_pos hj]
    refine ⟨⟨h.1, by show c.1 < b.2.1; omega, h.2.2.1, by simp, trivial⟩, fun d hd => ?_, fun y => ?_⟩
    ·simp at hd; subst hd; exact ⟨Int.le_refl _, .inr ⟨c, by simp, rfl⟩⟩
    ·show (if c.1 ≤ y ∧ y < b.2.1 then c.2.2 else []) = if b.1 ≤ y ∧ y < b.2.1 then b.2.2 else if c.1 ≤ y ∧ y < c.2.1 then c.2.2 else []
     rw [hj.2]
     by_cases ha : b.1 ≤ y ∧ y < b.2.1
     ·rw [if_pos ha, if_pos (by omega)]
     ·rw [if_neg ha]
      by_cases hb : c.1 ≤ y ∧ y < c.2.1
      ·rw [if_pos hb, if_pos (by omega)]
      ·rw [if_neg hb, if_neg (by omega)]
   ·rw [if_neg hj]
    refine ⟨⟨h.1, h.2.1, h.2.2.1, fun d hd e => ?_, ⟨hc, h3, he, by simp, trivial⟩⟩, fun d hd => ?_, fun y => ?_⟩
    ·simp at hd; subst hd
     exact fun h' => hj ⟨e.symm, h'.symm⟩
    ·simp at hd
     rcases hd with rfl | rfl
     ·exact ⟨by omega, .inr ⟨d, by simp, rfl⟩⟩
     ·exact ⟨Int.le_refl _, .inl rfl⟩
    ·show (if c.1 ≤ y ∧ y < c.2.1 then c.2.2 else if b.1 ≤ y ∧ y < b.2.1 then b.2.2 else []) = if b.1 ≤ y ∧ y < b.2.1 then b.2.2 else if c.1 ≤ y ∧ y < c.2.1 then c.2.2 else []
     by_cases ha : b.1 ≤ y ∧ y < b.2.1
     ·rw [if_pos ha, if_neg (by omega), if_pos ha]
     ·rw [if_neg ha, if_neg ha]
 | c :: d :: l, lo, b, h, h1, h2, h3 => by
  obtain ⟨i1, i2, i3⟩ := sZ.push (l := d :: l) (lo := c.2.1) (b := b) h.2.2.2.2 (fun e he => h1 e (by simp [List.mem_cons.1 he])) (h1 c (by simp)) h3
  rw [Ej (by simp)]
  have hc := h1 c (by simp)
  have h4 := h.2.1
  refine ⟨⟨h.1, h.2.1, h.2.2.1, fun e he e1 => ?_, i1⟩, fun e he => ?_, fun y => ?_⟩
  ·obtain ⟨f, m, p1, p2, p3⟩ := J8 (c := d) (l := l) (b := b)
   rw [p1] at he
   simp at he
   subst he
   rw [p3]
   exact h.2.2.2.1 d rfl (by omega)
  ·rcases List.mem_cons.1 he with rfl | he
   ·exact ⟨by omega, .inr ⟨e, by simp, rfl⟩⟩
   ·obtain ⟨j1, j2 | ⟨f, j2, j3⟩⟩ := i2 e he
    ·exact ⟨j1, .inl j2⟩
    ·exact ⟨j1, .inr ⟨f, by simp [List.mem_cons.1 j2], j3⟩⟩
  ·show (if c.1 ≤ y ∧ y < c.2.1 then c.2.2 else rowAt (pushB (d :: l) b) y) = if b.1 ≤ y ∧ y < b.2.1 then b.2.2 else if c.1 ≤ y ∧ y < c.2.1 then c.2.2 else rowAt (d :: l) y
   rw [i3 y]
   by_cases ha : b.1 ≤ y ∧ y < b.2.1
   ·rw [if_pos ha, if_pos ha, if_neg (by omega)]
   ·rw [if_neg ha, if_neg ha]
def zl (f : Int → List (Int × Int)) : List Int → List Bd → List Bd
 | a :: b :: ys, out => zl f (b :: ys) (pushB out (a, b, f a))
 | _, out => out
theorem Gn (l : List aI) : ∀ (ys : List Int) (out : List Bd), sO l ys out = zl (rR l) ys out
 | [], _ => rfl
 | [_], _ => rfl
 | a :: b :: ys, out => Gn l (b :: ys) (pushB out (a, b, rR l a))
def HV (f : Int → List (Int × Int)) : List Int → Prop
 | a :: b :: ys => (∀ y, a ≤ y → y < b → f y = f a) ∧ HV f (b :: ys)
 | _ => True
theorem LW {f : Int → List (Int × Int)} {zs : List Int} (hc : ∀ a y, a ≤ y → (∀ z ∈ zs, z ≤ a ∨ y < z) → f y = f a) : ∀ {ys pre : List Int}, zs = pre ++ ys → zs.Pairwise (fun x y => x < y) → HV f ys
 | [], _, _, _ => trivial
 | [_], _, _, _ => trivial
 | a :: b :: ys, pre, e, h => by
  refine ⟨fun y h1 h2 => hc a y h1 fun z hz => ?_, LW hc (ys := b :: ys) (pre := pre ++ [a]) (by rw [e]; simp) h⟩
  rw [e] at hz h
  obtain ⟨_, k1, k2⟩ := List.pairwise_append.1 h
  rcases List.mem_append.1 hz with hz | hz
  ·have := k2 z hz a (by simp); exact .inl (by omega)
  ·rcases List.mem_cons.1 hz with rfl | hz
   ·exact .inl (Int.le_refl _)
   ·rcases List.mem_cons.1 hz with rfl | hz
    ·exact .inr h2
    ·have := (List.pairwise_cons.1 (List.pairwise_cons.1 k1).2).1 z hz; exact .inr (by omega)
theorem Jl {f : Int → List (Int × Int)} {lo : Int} (hf : ∀ y, ∃ lo, Can lo (f y)) : ∀ (ys : List Int) (out : List Bd), ys.Pairwise (fun x y => x < y) → HV f ys → sZ lo out → (∀ b ∈ out, ∃ lo, Can lo b.2.2) → (∀ a, ys.head? = some a → lo ≤ a ∧ (∀ c ∈ out, c.2.1 ≤ a)) →
  sZ lo (zl f ys out) ∧ (∀ b ∈ zl f ys out, ∃ lo, Can lo b.2.2) ∧ ∀ y, rowAt (zl f ys out) y = if (∃ a ∈ ys, a ≤ y) ∧ (∃ z ∈ ys, y < z) then f y else rowAt out y
 | [], out, _, _, h1, h2, _ => ⟨h1, h2, fun y => by rw [if_neg (by simp)]; rfl⟩
 | [a], out, _, _, h1, h2, _ => ⟨h1, h2, fun y => by rw [if_neg (by rintro ⟨⟨c, hc, h1⟩, z, hz, h2⟩; simp at hc hz; omega)]; rfl⟩
 | a :: b :: ys, out, hs, hc, h1, h2, h3 => by
  have hab : a < b := (List.pairwise_cons.1 hs).1 b (by simp)
  have hs2 := (List.pairwise_cons.1 hs).2
  obtain ⟨h5, h6⟩ := h3 a rfl
  obtain ⟨p1, p2, p3⟩ := h1.push (b := (a, b, f a)) h6 h5 hab
  obtain ⟨i1, i2, i3⟩ := Jl hf (b :: ys) (pushB out (a, b, f a)) hs2 hc.2 p1 (fun c hc => by
   rcases (p2 c hc).2 with e | ⟨d, hd, e⟩
   ·rw [e]; exact hf a
   ·rw [e]; exact h2 d hd) (fun z hz => by
   simp at hz; subst hz
   exact ⟨by omega, fun c hc => (p2 c hc).1⟩)
  refine ⟨i1, i2, fun y => ?_⟩
  show rowAt (zl f (b :: ys) (pushB out (a, b, f a))) y = _
  rw [i3 y, p3 y]
  show (if (∃ c ∈ b :: ys, c ≤ y) ∧ (∃ z ∈ b :: ys, y < z) then f y else if a ≤ y ∧ y < b then f a else rowAt out y) = _
  by_cases ya : y < a
  ·rw [if_neg (fun h => by
    obtain ⟨⟨c, hc, hcy⟩, _⟩ := h
    rcases List.mem_cons.1 hc with rfl | hc
    ·omega
    ·have := (List.pairwise_cons.1 hs2).1 c hc; omega), if_neg (by omega), if_neg (fun h => by
    obtain ⟨⟨c, hc, hcy⟩, _⟩ := h
    rcases List.mem_cons.1 hc with rfl | hc
    ·omega
    ·have := (List.pairwise_cons.1 hs).1 c hc; omega)]
  ·by_cases yb : y < b
   ·rw [if_neg (fun h => by
     obtain ⟨⟨c, hc, hcy⟩, _⟩ := h
     rcases List.mem_cons.1 hc with rfl | hc
     ·omega
     ·have := (List.pairwise_cons.1 hs2).1 c hc; omega), if_pos (by omega), if_pos ⟨⟨a, by simp, by omega⟩, ⟨b, by simp, yb⟩⟩]
    exact (hc.1 y (by omega) yb).symm
   ·by_cases hz : ∃ z ∈ b :: ys, y < z
    ·obtain ⟨z, hz, hyz⟩ := hz
     rw [if_pos ⟨⟨b, by simp, by omega⟩, z, hz, hyz⟩, if_pos ⟨⟨a, by simp, by omega⟩, z, List.mem_cons_of_mem _ hz, hyz⟩]
    ·rw [if_neg (fun h => hz h.2), if_neg (by omega), if_neg (fun h => by
      obtain ⟨_, z, hm, hyz⟩ := h
      rcases List.mem_cons.1 hm with rfl | hm
      ·omega
      ·exact hz ⟨z, hm, hyz⟩)]
theorem KA {f : Int → List (Int × Int)} {ys : List Int} (hs : ys.Pairwise fun x y => x < y) (hf : ∀ y, ∃ lo, Can lo (f y)) (hc : ∀ a y, a ≤ y → (∀ z ∈ ys, z ≤ a ∨ y < z) → f y = f a) (h0 : ∀ y, (∀ a ∈ ys, y < a) → f y = []) (h1 : ∀ y, (∀ a ∈ ys, a ≤ y) → f y = []) : Qb (zl f ys []) ∧ ∀ y, rowAt (zl f ys []) y = f y := by
 obtain ⟨lo, hlo⟩ : ∃ lo : Int, ∀ z ∈ ys, lo ≤ z := by
  have : ∀ m : List Int, ∃ lo : Int, ∀ z ∈ m, lo ≤ z := by
   intro m
   induction m with
   | nil => exact ⟨0, by simp⟩
   | cons a m ih =>
    obtain ⟨lo, h⟩ := ih
    refine ⟨min lo a, fun z hz => ?_⟩
    rcases List.mem_cons.1 hz with rfl | hz
    ·omega
    ·have := h z hz; omega
  exact this _
 obtain ⟨i1, i2, i3⟩ := Jl (lo := lo) hf ys [] hs (LW hc (ys := ys) (pre := []) rfl hs) trivial (by simp) (fun a ha => ⟨hlo a (List.mem_of_mem_head? (by rw [ha]; rfl)), by simp⟩)
 refine ⟨⟨⟨lo, i1⟩, i2⟩, fun y => ?_⟩
 rw [i3 y]
 by_cases ha : ∃ a ∈ ys, a ≤ y
 ·by_cases hz : ∃ z ∈ ys, y < z
  ·rw [if_pos ⟨ha, hz⟩]
  ·rw [if_neg (fun h => hz h.2), h1 y (fun a ham => by
    rcases Int.lt_or_le y a with h | h
    ·exact absurd ⟨a, ham, h⟩ hz
    ·exact h)]; rfl
 ·rw [if_neg (fun h => ha h.1), h0 y (fun a ham => by
   rcases Int.lt_or_le y a with h | h
   ·exact h
   ·exact absurd ⟨a, ham, h⟩ ha)]; rfl
theorem Ir {l : List aI} (hl : ∀ r ∈ l, r.X0 < r.X1) {y : Int} (h : ∀ r ∈ l, ¬ (r.Y0 ≤ y ∧ y < r.Y1)) : rR l y = [] := by
 obtain ⟨c1, c2⟩ := zJ hl y
 exact PT c1 fun x hx => by
  obtain ⟨r, hr, _, hy⟩ := (c2 x).1 hx
  exact h r hr hy
theorem JY {l : List aI} (hl : ∀ r ∈ l, r.X0 < r.X1) {a y : Int} (h : ∀ r ∈ l, (r.Y0 ≤ y ∧ y < r.Y1) ↔ (r.Y0 ≤ a ∧ a < r.Y1)) : rR l y = rR l a := by
 obtain ⟨c1, c2⟩ := zJ hl y
 obtain ⟨c3, c4⟩ := zJ hl a
 refine Ku c1 c3 fun x => (c2 x).trans (Iff.trans ?_ (c4 x).symm)
 unfold Ry
 constructor
 ·rintro ⟨r, hr, hx, hy⟩; exact ⟨r, hr, hx, (h r hr).1 hy⟩
 ·rintro ⟨r, hr, hx, hy⟩; exact ⟨r, hr, hx, (h r hr).2 hy⟩
theorem Iu {l : List aI} {ys : List Int} (hl : ∀ r ∈ l, r.X0 < r.X1 ∧ r.Y0 < r.Y1) (hy : ∀ r ∈ l, r.Y0 ∈ ys ∧ r.Y1 ∈ ys) : (∀ a y, a ≤ y → (∀ z ∈ ys, z ≤ a ∨ y < z) → rR l y = rR l a) ∧ (∀ y, (∀ a ∈ ys, y < a) → rR l y = []) ∧ (∀ y, (∀ a ∈ ys, a ≤ y) → rR l y = []) := by
 have hx : ∀ r ∈ l, r.X0 < r.X1 := fun r hr => (hl r hr).1
 refine ⟨fun a y hay h => JY hx fun r hr => ?_, fun y h => Ir hx fun r hr hh => ?_, fun y h => Ir hx fun r hr hh => ?_⟩
 ·have := h _ (hy r hr).1; have := h _ (hy r hr).2; omega
 ·have := h _ (hy r hr).1; omega
 ·have := h _ (hy r hr).2; omega
theorem Ns {l : List aI} (hl : ∀ r ∈ l, r.X0 < r.X1 ∧ r.Y0 < r.Y1) : Qb (rC l) ∧ ∀ y, rowAt (rC l) y = rR l y := by
 obtain ⟨h1, h2, h3⟩ := Iu (ys := dH (dF l)) hl fun r hr => ⟨(lU _ _).2 (mP.2 ⟨r, hr, .inl rfl⟩), (lU _ _).2 (mP.2 ⟨r, hr, .inr rfl⟩)⟩
 have := KA (gZ (dF l)) (fun y => (zJ (fun r hr => (hl r hr).1) y).1) h1 h2 h3
 unfold rC
 rw [Gn]
 exact this
theorem Pb {l : List aI} (hl : ∀ r ∈ l, r.X0 < r.X1 ∧ r.Y0 < r.Y1) : Qb (rC l) ∧ ∀ x y, SY x y (rC l) ↔ Ry x y l := by
 obtain ⟨h1, h2⟩ := Ns hl
 refine ⟨h1, fun x y => ?_⟩
 unfold SY
 rw [h2]
 exact (zJ (fun r hr => (hl r hr).1) y).2 x
theorem sZ.mono {l : List Bd} {lo lo' : Int} (h : sZ lo l) (hl : lo' ≤ lo) : sZ lo' l := by
 cases l with
 | nil => trivial
 | cons b l => exact ⟨by have := h.1; omega, h.2⟩
theorem xS {l : List aI} (h : mO l = 0) : qo l = 0 ∧ l.length ≤ 2000 ∧ (∀ r ∈ l, Na r) ∧ kI (rC l) = l := by
 unfold mO at h
 by_cases h1 : qo l = 0
 ·obtain ⟨h2, h3⟩ := yV h1
  rw [if_pos h1] at h
  split at h
  ·split at h
   ·rename_i h4; exact ⟨h1, h2, h3, h4⟩
   ·omega
  ·omega
 ·rw [if_neg h1] at h; exact absurd h h1
theorem Na.ne {l : List aI} (h : ∀ r ∈ l, Na r) : ∀ r ∈ l, r.X0 < r.X1 ∧ r.Y0 < r.Y1 := fun r hr => ⟨(h r hr).x, (h r hr).y⟩
theorem Qa {l : List aI} (h : ∀ r ∈ l, Na r) {x y : Int} (hx : Ry x y l) : (-1000000 ≤ x ∧ x < 1000000) ∧ (-1000000 ≤ y ∧ y < 1000000) := by
 obtain ⟨r, hr, h1, h2⟩ := hx
 have a := h r hr
 have := a.x0; have := a.x1; have := a.y0; have := a.y1
 omega
def par (x : Int) : List Int → Bool
 | [] => false
 | a :: l => xor (decide (a ≤ x)) (par x l)
theorem Ak (x : Int) : ∀ l m : List Int, par x (l ++ m) = xor (par x l) (par x m)
 | [], m => by simp [par]
 | a :: l, m => by rw [List.cons_append, par, Ak x l m, par, Bool.xor_assoc]
theorem xW {x : Int} : ∀ {l : List Int}, (∀ a ∈ l, x < a) → par x l = false
 | [], _ => rfl
 | a :: l, h => by
  rw [par, xW fun b hb => h b (by simp [hb]), decide_eq_false (by have := h a (by simp); omega)]; rfl
theorem Bb (n : Nat) : ((n + 1) % 2 == 1) = !(n % 2 == 1) := by
 rcases Nat.mod_two_eq_zero_or_one n with h | h
 ·have : (n + 1) % 2 = 1 := by omega
  rw [h, this]; rfl
 ·have : (n + 1) % 2 = 0 := by omega
  rw [h, this]; rfl
theorem BX {x : Int} : ∀ {l : List Int}, (∀ a ∈ l, a ≤ x) → par x l = (l.length % 2 == 1)
 | [], _ => rfl
 | a :: l, h => by
  rw [par, BX fun b hb => h b (by simp [hb]), decide_eq_true (h a (by simp)), List.length_cons, Bb, Bool.true_xor]
theorem zQ : ∀ {l : List (Int × Int)} {lo x : Int}, Can lo l → (nI x l ↔ par x (eH l) = true)
 | [], _, _, _ => by simp [jZ, vH, par]
 | p :: l, lo, x, h => by
  obtain ⟨h1, h2, h3⟩ := h
  have ih := zQ (x := x) h3
  have hl := fun hx : nI x l => h3.lt hx
  rw [kC, pu, par, par]
  cases hp : par x (eH l)
  ·rw [hp] at ih
   have : ¬ nI x l := fun hx => by have := ih.1 hx; cases this
   by_cases a : p.1 ≤ x <;> by_cases b : p.2 ≤ x <;> simp [a, b, this] <;> omega
  ·rw [hp] at ih
   have h4 := ih.2 rfl
   have := hl h4
   have a : p.1 ≤ x := by omega
   have b : p.2 ≤ x := by omega
   simp [a, b, h4]
theorem Can.strict : ∀ {l : List (Int × Int)} {lo : Int}, Can lo l → (eH l).Pairwise (fun x y => x < y) ∧ ∀ z ∈ eH l, lo < z
 | [], _, _ => ⟨List.Pairwise.nil, by simp [vH]⟩
 | p :: l, lo, h => by
  obtain ⟨h1, h2, h3⟩ := h
  obtain ⟨i1, i2⟩ := h3.strict
  rw [pu]
  refine ⟨List.pairwise_cons.2 ⟨fun z hz => ?_, List.pairwise_cons.2 ⟨i2, i1⟩⟩, fun z hz => ?_⟩
  ·rcases List.mem_cons.1 hz with rfl | hz
   ·exact h2
   ·have := i2 z hz; omega
  ·rcases List.mem_cons.1 hz with rfl | hz
   ·exact h1
   ·rcases List.mem_cons.1 hz with rfl | hz
    ·omega
    ·have := i2 z hz; omega
theorem DR : ∀ (l : List Int) (lo : Int), l.Pairwise (fun x y => x < y) → (∀ z ∈ l, lo < z) → (l.length % 2 == 1) = false → ∃ C, Can lo C ∧ eH C = l
 | [], _, _, _, _ => ⟨[], trivial, rfl⟩
 | [a], _, _, _, h => by simp at h
 | a :: b :: l, lo, h1, h2, h3 => by
  have k := List.pairwise_cons.1 h1
  have k2 := List.pairwise_cons.1 k.2
  obtain ⟨C, c1, c2⟩ := DR l b k2.2 k2.1 (by rw [List.length_cons, List.length_cons, Bb, Bb, Bool.not_not] at h3; exact h3)
  exact ⟨(a, b) :: C, ⟨h2 a (by simp), k.1 b (by simp), c1⟩, by rw [pu, c2]⟩
theorem zk {α : Type} (x : α) (l : List α) : cut (x :: l) 1 ((x :: l).length : Int) = some l := by
 unfold cut
 rw [if_pos ⟨by omega, by simp; omega, by omega⟩]
 simp
structure KI (k : Bool → Bool → Bool) (a b out : List Int) (inA BG : Bool) (r : List Int) : Prop where
 strict : r.Pairwise fun x y => x < y
 mem : ∀ z ∈ r, z ∈ out ∨ z ∈ a ∨ z ∈ b
 len : r.length ≤ out.length + a.length + b.length
 hi : ∀ z, (∀ o ∈ out, o ≤ z) → par z r = k (xor inA (par z a)) (xor BG (par z b))
 lo : ∀ z, (∃ o ∈ out, z < o) → par z r = par z out
theorem xy {k : Bool → Bool → Bool} {f : Bool → Bool → Option Bool} (hf : ∀ a b, f a b = some (k a b)) {m : Nat} {a b a1 b1 out : List Int} {inA BG inA1 inB1 is : Bool} {X : Int}
  (ih : ∀ (out : List Int) (is : Bool), out.Pairwise (fun x y => x < y) → (∀ o ∈ out, (∀ x ∈ a1, o < x) ∧ ∀ x ∈ b1, o < x) → is = k inA1 inB1 → is = (out.length % 2 == 1) → out.length + a1.length + b1.length ≤ 4000000000 → ∃ r, fq f m a1 b1 out inA1 inB1 is = some r ∧ KI k a1 b1 out inA1 inB1 r)
  (hs : out.Pairwise fun x y => x < y) (ho : ∀ o ∈ out, o < X) (ha1 : ∀ x ∈ a1, X < x) (hb1 : ∀ x ∈ b1, X < x) (hi : is = k inA BG) (hp : is = (out.length % 2 == 1)) (hl : out.length + a1.length + b1.length + 1 ≤ out.length + a.length + b.length) (hl2 : out.length + a.length + b.length ≤ 4000000000)
  (pa : ∀ z, X ≤ z → xor inA (par z a) = xor inA1 (par z a1)) (pb : ∀ z, X ≤ z → xor BG (par z b) = xor inB1 (par z b1)) (pa0 : ∀ z, z < X → par z a = false) (pb0 : ∀ z, z < X → par z b = false)
  (hm : ∀ z, z ∈ a1 → z ∈ a) (hm2 : ∀ z, z ∈ b1 → z ∈ b) (hX : X ∈ a ∨ X ∈ b) :
  ∃ r, nC f out is (fq f m) X a1 inA1 b1 inB1 = some r ∧ KI k a b out inA BG r := by
 unfold nC
 rw [hf, Option.bind_some]
 by_cases hk : k inA1 inB1 = is
 ·rw [if_neg (by simp [hk])]
  obtain ⟨r, h1, h2⟩ := ih out is hs (fun o h => ⟨fun x hx => by have := ho o h; have := ha1 x hx; omega, fun x hx => by have := ho o h; have := hb1 x hx; omega⟩) hk.symm hp (by omega)
  refine ⟨r, h1, h2.strict, fun z hz => ?_, by have := h2.len; omega, fun z hz => ?_, h2.lo⟩
  ·rcases h2.mem z hz with h | h | h
   ·exact .inl h
   ·exact .inr (.inl (hm z h))
   ·exact .inr (.inr (hm2 z h))
  ·rw [h2.hi z hz]
   by_cases hxz : X ≤ z
   ·rw [pa z hxz, pb z hxz]
   ·rw [pa0 z (by omega), pb0 z (by omega), xW fun x hx => by have := ha1 x hx; omega, xW fun x hx => by have := hb1 x hx; omega, Bool.xor_false, Bool.xor_false, Bool.xor_false, Bool.xor_false, hk, hi]
 ·rw [if_pos (by simpa using hk), iO (by simp; omega), Option.bind_some]
  obtain ⟨r, h1, h2⟩ := ih (out ++ [X]) (k inA1 inB1) (List.pairwise_append.2 ⟨hs, List.pairwise_singleton _ _, fun o h x hx => by simp at hx; subst hx; exact ho o h⟩) (fun o h => by
   rcases List.mem_append.1 h with h | h
   ·exact ⟨fun x hx => by have := ho o h; have := ha1 x hx; omega, fun x hx => by have := ho o h; have := hb1 x hx; omega⟩
   ·simp at h; subst h; exact ⟨ha1, hb1⟩) rfl (by
   rw [List.length_append, List.length_singleton, Bb, ← hp]
   cases hv : k inA1 inB1 <;> cases is <;> simp_all) (by simp; omega)
  refine ⟨r, h1, h2.strict, fun z hz => ?_, by have := h2.len; simp at this; omega, fun z hz => ?_, fun z hz => ?_⟩
  ·rcases h2.mem z hz with h | h | h
   ·rcases List.mem_append.1 h with h | h
    ·exact .inl h
    ·simp at h; subst h
     rcases hX with h | h
     ·exact .inr (.inl h)
     ·exact .inr (.inr h)
   ·exact .inr (.inl (hm z h))
   ·exact .inr (.inr (hm2 z h))
  ·by_cases hxz : X ≤ z
   ·rw [h2.hi z (fun o h => by
     rcases List.mem_append.1 h with h | h
     ·exact hz o h
     ·simp at h; omega), pa z hxz, pb z hxz]
   ·rw [h2.lo z ⟨X, by simp, by omega⟩, Ak, pa0 z (by omega), pb0 z (by omega), Bool.xor_false, Bool.xor_false, BX hz, ← hp, hi, xW (l := [X]) (fun x hx => by simp at hx; omega), Bool.xor_false]
  ·obtain ⟨o, h, hzo⟩ := hz
   rw [h2.lo z ⟨o, by simp [h], hzo⟩, Ak, xW (l := [X]) (fun x hx => by simp at hx; have := ho o h; omega), Bool.xor_false]
theorem zK {k : Bool → Bool → Bool} {f : Bool → Bool → Option Bool} (hf : ∀ a b, f a b = some (k a b)) : ∀ (m : Nat) (a b out : List Int) (inA BG is : Bool), a.length + b.length < m → a.Pairwise (fun x y => x < y) → b.Pairwise (fun x y => x < y) → out.Pairwise (fun x y => x < y) → (∀ o ∈ out, (∀ x ∈ a, o < x) ∧ ∀ x ∈ b, o < x) → is = k inA BG → is = (out.length % 2 == 1) → out.length + a.length + b.length ≤ 4000000000 →
  ∃ r, fq f m a b out inA BG is = some r ∧ KI k a b out inA BG r
 | 0, _, _, _, _, _, _, h, _, _, _, _, _, _, _ => absurd h (Nat.not_lt_zero _)
 | m + 1, [], [], out, inA, BG, is, _, _, _, hs, _, hi, hp, _ => by
  rw [fq.eq_2, if_neg (by simp)]
  exact ⟨out, rfl, hs, fun z hz => .inl hz, by simp, fun z hz => by rw [BX hz, ← hp, hi]; simp [par], fun _ _ => rfl⟩
 | m + 1, x :: a, [], out, inA, BG, is, hm, sa, sb, hs, ho, hi, hp, hl => by
  have ha := List.pairwise_cons.1 sa
  rw [fq.eq_2, if_pos (by simp), if_pos (by simp), Option.bind_some, if_pos rfl, show idx (x :: a) 0 = some x from rfl, Option.bind_some]
  unfold kK
  rw [if_pos (by simp), show idx (x :: a) 0 = some x from rfl, Option.bind_some, Option.bind_some, if_pos (by simp), zk, Option.bind_some]
  unfold lG
  rw [if_neg (by simp), Option.bind_some, if_neg (by simp)]
  simp only [List.length_cons, List.length_nil] at hm hl
  refine xy (m := m) (a := x :: a) (b := []) hf (fun o i k1 k2 k3 k4 k5 => zK hf m a [] o (!inA) BG i (by simp; omega) ha.2 sb k1 k2 k3 k4 k5) hs (fun o h => (ho o h).1 x (by simp)) ha.1 (by simp) hi hp (by simp; omega) (by simp; omega) (fun z hz => ?_) (fun _ _ => rfl) (fun z hz => xW fun y hy => ?_) (fun _ _ => rfl) (fun z h => by simp [h]) (fun z h => h) (.inl (by simp))
  ·rw [par, decide_eq_true hz]; cases inA <;> cases par z a <;> rfl
  ·rcases List.mem_cons.1 hy with rfl | hy
   ·exact hz
   ·have := ha.1 y hy; omega
 | m + 1, [], y :: b, out, inA, BG, is, hm, sa, sb, hs, ho, hi, hp, hl => by
  have hb := List.pairwise_cons.1 sb
  rw [fq.eq_2, if_pos (by simp), if_neg (by simp; omega), if_neg (by simp), Option.bind_some, Option.bind_some, if_neg (by simp), show idx (y :: b) 0 = some y from rfl, Option.bind_some]
  unfold kK
  rw [if_neg (by simp), Option.bind_some, if_neg (by simp)]
  unfold lG
  rw [if_pos (by simp), show idx (y :: b) 0 = some y from rfl, Option.bind_some, Option.bind_some, if_pos (by simp), zk, Option.bind_some]
  simp only [List.length_cons, List.length_nil] at hm hl
  refine xy (m := m) (a := []) (b := y :: b) hf (fun o i k1 k2 k3 k4 k5 => zK hf m [] b o inA (!BG) i (by simp; omega) sa hb.2 k1 k2 k3 k4 k5) hs (fun o h => (ho o h).2 y (by simp)) (by simp) hb.1 hi hp (by simp; omega) (by simp; omega) (fun _ _ => rfl) (fun z hz => ?_) (fun _ _ => rfl) (fun z hz => xW fun x hx => ?_) (fun z h => h) (fun z h => by simp [h]) (.inr (by simp))
  ·rw [par, decide_eq_true hz]; cases BG <;> cases par z b <;> rfl
  ·rcases List.mem_cons.1 hx with rfl | hx
   ·exact hz
   ·have := hb.1 x hx; omega
 | m + 1, x :: a, y :: b, out, inA, BG, is, hm, sa, sb, hs, ho, hi, hp, hl => by
  have ha := List.pairwise_cons.1 sa
  have hb := List.pairwise_cons.1 sb
  have e1 : idx (x :: a) 0 = some x := rfl
  have e2 : idx (y :: b) 0 = some y := rfl
  simp only [List.length_cons] at hm hl
  rw [fq.eq_2, if_pos (by simp), if_neg (by simp; omega), if_pos (by simp), e1, Option.bind_some, e2, Option.bind_some, Option.bind_some, Option.bind_some]
  simp only [Option.bind_some]
  have hxa : ∀ z, x ≤ z → xor inA (par z (x :: a)) = xor (!inA) (par z a) := fun z hz => by rw [par, decide_eq_true hz]; cases inA <;> cases par z a <;> rfl
  have hyb : ∀ z, y ≤ z → xor BG (par z (y :: b)) = xor (!BG) (par z b) := fun z hz => by rw [par, decide_eq_true hz]; cases BG <;> cases par z b <;> rfl
  have hax : ∀ z, z < x → par z (x :: a) = false := fun z hz => xW fun v hv => by
   rcases List.mem_cons.1 hv with rfl | hv
   ·exact hz
   ·have := ha.1 v hv; omega
  have hby : ∀ z, z < y → par z (y :: b) = false := fun z hz => xW fun v hv => by
   rcases List.mem_cons.1 hv with rfl | hv
   ·exact hz
   ·have := hb.1 v hv; omega
  by_cases hxy : x ≤ y
  ·rw [if_pos (by simpa using hxy)]
   unfold kK
   rw [if_pos (by simp), e1, Option.bind_some, Option.bind_some, if_pos (by simp), zk, Option.bind_some]
   unfold lG
   rw [if_pos (by simp), e2, Option.bind_some, Option.bind_some]
   by_cases he : y = x
   ·subst he
    rw [if_pos (by simp), zk, Option.bind_some]
    exact xy (m := m) (a := y :: a) (b := y :: b) hf (fun o i k1 k2 k3 k4 k5 => zK hf m a b o (!inA) (!BG) i (by omega) ha.2 hb.2 k1 k2 k3 k4 k5) hs (fun o h => (ho o h).1 y (by simp)) ha.1 hb.1 hi hp (by simp; omega) (by simp; omega) hxa hyb hax hby (fun z h => by simp [h]) (fun z h => by simp [h]) (.inl (by simp))
   ·rw [if_neg (by simpa using he)]
    exact xy (m := m) (a := x :: a) (b := y :: b) hf (fun o i k1 k2 k3 k4 k5 => zK hf m a (y :: b) o (!inA) BG i (by simp; omega) ha.2 sb k1 k2 k3 k4 k5) hs (fun o h => (ho o h).1 x (by simp)) ha.1 (fun v hv => by
     rcases List.mem_cons.1 hv with rfl | hv
     ·omega
     ·have := hb.1 v hv; omega) hi hp (by simp; omega) (by simp; omega) hxa (fun _ _ => rfl) hax (fun z hz => hby z (by omega)) (fun z h => by simp [h]) (fun z h => h) (.inl (by simp))
  ·rw [if_neg (by simpa using hxy)]
   unfold kK
   rw [if_pos (by simp), e1, Option.bind_some, Option.bind_some, if_neg (by simp; omega)]
   unfold lG
   rw [if_pos (by simp), e2, Option.bind_some, Option.bind_some, if_pos (by simp), zk, Option.bind_some]
   exact xy (m := m) (a := x :: a) (b := y :: b) hf (fun o i k1 k2 k3 k4 k5 => zK hf m (x :: a) b o inA (!BG) i (by simp; omega) sa hb.2 k1 k2 k3 k4 k5) hs (fun o h => (ho o h).2 y (by simp)) (fun v hv => by
     rcases List.mem_cons.1 hv with rfl | hv
     ·omega
     ·have := ha.1 v hv; omega) hb.1 hi hp (by simp; omega) (by simp; omega) (fun _ _ => rfl) hyb (fun z hz => hax z (by omega)) hby (fun z h => h) (fun z h => by simp [h]) (.inr (by simp))
theorem Qe : ∀ l : List Int, ∃ z, ∀ a ∈ l, a ≤ z
 | [] => ⟨0, by simp⟩
 | b :: l => by
  obtain ⟨z, h⟩ := Qe l
  refine ⟨max z b, fun a ha => ?_⟩
  rcases List.mem_cons.1 ha with rfl | ha
  ·omega
  ·have := h a ha; omega
theorem Qo : ∀ l : List Int, ∃ z, ∀ a ∈ l, z < a
 | [] => ⟨0, by simp⟩
 | b :: l => by
  obtain ⟨z, h⟩ := Qo l
  refine ⟨min z (b - 1), fun a ha => ?_⟩
  rcases List.mem_cons.1 ha with rfl | ha
  ·omega
  ·have := h a ha; omega
theorem I5 (n : Nat) : (2 * n % 2 == 1) = false := by
 have : 2 * n % 2 = 0 := by omega
 rw [this]; rfl
theorem Lp {k : Bool → Bool → Bool} {f : Bool → Bool → Option Bool} (hf : ∀ a b, f a b = some (k a b)) (hk : k false false = false) {N : Nat} {l m : List (Int × Int)} (hl : ∃ lo, Can lo l) (hm : ∃ lo, Can lo m) (hlen : 2 * l.length + 2 * m.length < N) (hlen2 : 2 * l.length + 2 * m.length ≤ 4000000000) :
  ∃ C, nP N (eH l) (eH m) f = some (eH C) ∧ (∃ lo, Can lo C) ∧ C.length ≤ l.length + m.length ∧ ∀ x, nI x C ↔ ∃ p q, (p = true ↔ nI x l) ∧ (q = true ↔ nI x m) ∧ k p q = true := by
 obtain ⟨lo1, c1⟩ := hl
 obtain ⟨lo2, c2⟩ := hm
 obtain ⟨r, h1, h2⟩ := zK hf N (eH l) (eH m) [] false false false (by rw [jD, jD]; exact hlen) c1.strict.1 c2.strict.1 List.Pairwise.nil (by simp) hk.symm rfl (by rw [jD, jD]; simpa using hlen2)
 have hpar : ∀ z, par z r = k (par z (eH l)) (par z (eH m)) := fun z => by
  have := h2.hi z (by simp)
  rw [Bool.false_xor, Bool.false_xor] at this
  exact this
 have hodd : (r.length % 2 == 1) = false := by
  obtain ⟨z, hz⟩ := Qe (r ++ eH l ++ eH m)
  rw [← BX (x := z) (l := r) (fun a ha => hz a (by simp [ha])), hpar z, BX (x := z) (l := eH l) (fun a ha => hz a (by simp [ha])), BX (x := z) (l := eH m) (fun a ha => hz a (by simp [ha])), jD, jD, I5, I5, hk]
 obtain ⟨lo, hlo⟩ := Qo r
 obtain ⟨C, d1, d2⟩ := DR r lo h2.strict hlo hodd
 refine ⟨C, by rw [d2]; exact h1, ⟨lo, d1⟩, ?_, fun x => ?_⟩
 ·have := h2.len
  rw [← d2, jD, jD, jD] at this
  simp at this
  omega
 ·rw [zQ d1, d2, hpar]
  constructor
  ·intro h
   exact ⟨_, _, (zQ c1).symm, (zQ c2).symm, h⟩
  ·rintro ⟨p, q, hp, hq, h⟩
   have e1 : p = par x (eH l) := by rw [Bool.eq_iff_iff, hp, zQ c1]
   have e2 : q = par x (eH m) := by rw [Bool.eq_iff_iff, hq, zQ c2]
   rw [← e1, ← e2]; exact h
open PX
def On (s : Sd) (e : Ed) : Prop := ∃ i, i < s.2 ∧ rA s.1 i = e
def Dj (s t : Sd) : Prop := ∀ e, On s e → ¬ On t e
theorem KZ {I : Sq} {L : List Sd} (hp : ∀ s ∈ L, 0 < s.2) (hon : ∀ e, (∃ s ∈ L, On s e) ↔ xk I e) (hd : L.Pairwise Dj) : mV I L where
 pos := hp
 bor := fun s hs i hi => (hon _).1 ⟨s, hs, i, hi, rfl⟩
 all := fun e he => (hon e).2 he
 once := fun a b s t ha hb i j hi hj he => by
  obtain ⟨ha', rfl⟩ := List.getElem?_eq_some_iff.1 ha
  obtain ⟨hb', rfl⟩ := List.getElem?_eq_some_iff.1 hb
  rw [List.pairwise_iff_getElem] at hd
  rcases Nat.lt_trichotomy a b with h | h | h
  ·exact absurd ⟨j, hj, rfl⟩ (hd a b ha' hb' h _ ⟨i, hi, he⟩)
  ·exact h
  ·exact absurd ⟨i, hi, rfl⟩ (hd b a hb' ha' h _ ⟨j, hj, he.symm⟩)
def JA (y0 y1 : Int) (p : Int × Int) : Sd := (⟨p.1, y1, .S⟩, (y1 - y0).toNat)
def K8 (y0 y1 : Int) (p : Int × Int) : Sd := (⟨p.2, y0, .N⟩, (y1 - y0).toNat)
def JU (y : Int) (p : Int × Int) : Sd := (⟨p.2, y, .W⟩, (p.2 - p.1).toNat)
def M8 (y : Int) (p : Int × Int) : Sd := (⟨p.1, y, .E⟩, (p.2 - p.1).toNat)
theorem En {y0 y1 : Int} {p : Int × Int} {e : Ed} : On (JA y0 y1 p) e ↔ e.d = .S ∧ e.x = p.1 ∧ y0 < e.y ∧ e.y ≤ y1 := by
 unfold On JA rA
 constructor
 ·rintro ⟨i, hi, rfl⟩
  simp only [Dir.dx, Dir.dy] at *
  exact ⟨trivial, by omega, by omega, by omega⟩
 ·rintro ⟨h1, h2, h3, h4⟩
  refine ⟨(y1 - e.y).toNat, by simp only; omega, Ed.ext' ?_ ?_ h1.symm⟩ <;> simp only [Dir.dx, Dir.dy] <;> omega
theorem Ff {y0 y1 : Int} {p : Int × Int} {e : Ed} : On (K8 y0 y1 p) e ↔ e.d = .N ∧ e.x = p.2 ∧ y0 ≤ e.y ∧ e.y < y1 := by
 unfold On K8 rA
 constructor
 ·rintro ⟨i, hi, rfl⟩
  simp only [Dir.dx, Dir.dy] at *
  exact ⟨trivial, by omega, by omega, by omega⟩
 ·rintro ⟨h1, h2, h3, h4⟩
  refine ⟨(e.y - y0).toNat, by simp only; omega, Ed.ext' ?_ ?_ h1.symm⟩ <;> simp only [Dir.dx, Dir.dy] <;> omega
theorem GR {y : Int} {p : Int × Int} {e : Ed} : On (JU y p) e ↔ e.d = .W ∧ e.y = y ∧ p.1 < e.x ∧ e.x ≤ p.2 := by
 unfold On JU rA
 constructor
 ·rintro ⟨i, hi, rfl⟩
  simp only [Dir.dx, Dir.dy] at *
  exact ⟨trivial, by omega, by omega, by omega⟩
 ·rintro ⟨h1, h2, h3, h4⟩
  refine ⟨(p.2 - e.x).toNat, by simp only; omega, Ed.ext' ?_ ?_ h1.symm⟩ <;> simp only [Dir.dx, Dir.dy] <;> omega
theorem Kb {y : Int} {p : Int × Int} {e : Ed} : On (M8 y p) e ↔ e.d = .E ∧ e.y = y ∧ p.1 ≤ e.x ∧ e.x < p.2 := by
 unfold On M8 rA
 constructor
 ·rintro ⟨i, hi, rfl⟩
  simp only [Dir.dx, Dir.dy] at *
  exact ⟨trivial, by omega, by omega, by omega⟩
 ·rintro ⟨h1, h2, h3, h4⟩
  refine ⟨(e.x - p.1).toNat, by simp only; omega, Ed.ext' ?_ ?_ h1.symm⟩ <;> simp only [Dir.dx, Dir.dy] <;> omega
open Classical in
noncomputable def yx (A B : List (Int × Int)) : List (Int × Int) := if h : ∃ C, (∃ lo, Can lo C) ∧ ∀ x, nI x C ↔ nI x A ∧ ¬ nI x B then Classical.choose h else []
theorem I6 {A B C : List (Int × Int)} (h1 : ∃ lo, Can lo C) (h2 : ∀ x, nI x C ↔ nI x A ∧ ¬ nI x B) : yx A B = C := by
 have h : ∃ C, (∃ lo, Can lo C) ∧ ∀ x, nI x C ↔ nI x A ∧ ¬ nI x B := ⟨C, h1, h2⟩
 unfold yx
 rw [dif_pos h]
 obtain ⟨g1, g2⟩ := Classical.choose_spec h
 exact Ku g1 h1 fun x => by rw [g2, h2]
structure KL (A B C : List (Int × Int)) : Prop where
 can : ∃ lo, Can lo C
 mem : ∀ x, nI x C ↔ nI x A ∧ ¬ nI x B
 len : C.length ≤ A.length + B.length
theorem IP {N : Nat} {A B : List (Int × Int)} (hN : 10000000000 ≤ N) (hA : ∃ lo, Can lo A) (hB : ∃ lo, Can lo B) (hl : A.length + B.length ≤ 1000000000) : KL A B (yx A B) ∧ nP N (eH A) (eH B) jJ = some (eH (yx A B)) := by
 obtain ⟨C, h1, h2, h3, h4⟩ := Lp (k := fun a b => a && !b) (f := jJ) (fun a b => rfl) rfl (N := N) hA hB (by omega) (by omega)
 have h5 : ∀ x, nI x C ↔ nI x A ∧ ¬ nI x B := fun x => by
  rw [h4]
  constructor
  ·rintro ⟨p, q, g1, g2, g3⟩
   simp only [Bool.and_eq_true, Bool.not_eq_true'] at g3
   exact ⟨g1.1 g3.1, fun hh => by have := g2.2 hh; rw [g3.2] at this; cases this⟩
  ·rintro ⟨g1, g2⟩
   exact ⟨true, false, by simp [g1], by simp [g2], rfl⟩
 rw [I6 h2 h5]
 exact ⟨⟨h2, h5, h3⟩, h1⟩
theorem NM {N : Nat} {A B : List (Int × Int)} (hN : 10000000000 ≤ N) (hA : ∃ lo, Can lo A) (hB : ∃ lo, Can lo B) (hl : A.length + B.length ≤ 1000000000) : KL B A (yx B A) ∧ nP N (eH A) (eH B) jI = some (eH (yx B A)) := by
 obtain ⟨C, h1, h2, h3, h4⟩ := Lp (k := fun a b => b && !a) (f := jI) (fun a b => rfl) rfl (N := N) hA hB (by omega) (by omega)
 have h5 : ∀ x, nI x C ↔ nI x B ∧ ¬ nI x A := fun x => by
  rw [h4]
  constructor
  ·rintro ⟨p, q, g1, g2, g3⟩
   simp only [Bool.and_eq_true, Bool.not_eq_true'] at g3
   exact ⟨g2.1 g3.1, fun hh => by have := g1.2 hh; rw [g3.2] at this; cases this⟩
  ·rintro ⟨g1, g2⟩
   exact ⟨false, true, by simp [g2], by simp [g1], rfl⟩
 rw [I6 h2 h5]
 exact ⟨⟨h2, h5, by omega⟩, h1⟩
noncomputable def hz (y : Int) (A B : List (Int × Int)) : List Sd := (yx A B).map (JU y) ++ (yx B A).map (M8 y)
def vt (b : Bd) : List Sd := b.2.2.flatMap fun p => [JA b.1 b.2.1 p, K8 b.1 b.2.1 p]
def xY (prev : Option Bd) (b : Bd) : List (Int × Int) := match prev with
 | none => []
 | some c => if c.2.1 < b.1 then [] else c.2.2
noncomputable def xR (b : Bd) (rest : List Bd) : List Sd := match rest with
 | [] => hz b.2.1 b.2.2 []
 | c :: _ => if b.2.1 < c.1 then hz b.2.1 b.2.2 [] else []
noncomputable def oz : Option Bd → List Bd → List Sd
 | _, [] => []
 | prev, b :: rest => vt b ++ hz b.1 (xY prev b) b.2.2 ++ xR b rest ++ oz (some b) rest
theorem Qg {y0 y1 : Int} {p : Int × Int} (h : y0 < y1) : toS (JA y0 y1 p) = ⟨⟨p.1, y1⟩, ⟨p.1, y0⟩⟩ := by
 unfold toS pG JA rA iw Ed.p
 simp only [Dir.dx, Dir.dy, fE.mk.injEq, aA.mk.injEq]
 exact ⟨trivial, by omega, by omega⟩
theorem Qh {y0 y1 : Int} {p : Int × Int} (h : y0 < y1) : toS (K8 y0 y1 p) = ⟨⟨p.2, y0⟩, ⟨p.2, y1⟩⟩ := by
 unfold toS pG K8 rA iw Ed.p
 simp only [Dir.dx, Dir.dy, fE.mk.injEq, aA.mk.injEq]
 exact ⟨trivial, by omega, by omega⟩
theorem Qf {y : Int} {p : Int × Int} (h : p.1 < p.2) : toS (JU y p) = ⟨⟨p.2, y⟩, ⟨p.1, y⟩⟩ := by
 unfold toS pG JU rA iw Ed.p
 simp only [Dir.dx, Dir.dy, fE.mk.injEq, aA.mk.injEq]
 exact ⟨trivial, by omega, by omega⟩
theorem Qi {y : Int} {p : Int × Int} (h : p.1 < p.2) : toS (M8 y p) = ⟨⟨p.1, y⟩, ⟨p.2, y⟩⟩ := by
 unfold toS pG M8 rA iw Ed.p
 simp only [Dir.dx, Dir.dy, fE.mk.injEq, aA.mk.injEq]
 exact ⟨trivial, by omega, by omega⟩
theorem ED (pre suf : List (Int × Int)) (p : Int × Int) : idx (eH (pre ++ p :: suf)) ((2 * pre.length : Nat) : Int) = some p.1 := by
 have h := gG (eH pre) (p.2 :: eH suf) p.1
 rw [jD] at h
 rw [rq, pu]; exact h
theorem EC (pre suf : List (Int × Int)) (p : Int × Int) : idx (eH (pre ++ p :: suf)) ((2 * pre.length + 1 : Nat) : Int) = some p.2 := by
 have h := gG (eH pre ++ [p.1]) (eH suf) p.2
 rw [List.length_append, jD, List.length_singleton, List.append_assoc] at h
 rw [rq, pu]; exact h
theorem zF {a b c d : Int} {out : List fE} (h : out.length < 1000000000) : jC a b c d out = some (out ++ [⟨⟨a, b⟩, ⟨c, d⟩⟩]) := by
 unfold jC
 rw [iO (by simp; omega)]; rfl
theorem vT {l : List (Int × Int)} {C pre suf : List (Int × Int)} (h : C = pre ++ suf) : (eH C).length = 2 * pre.length + 2 * suf.length := by rw [h, jD, List.length_append]; omega
theorem Dv {l : List (Int × Int)} (h : ∃ lo, Can lo l) : ∀ p ∈ l, p.1 < p.2 := fun p hp => by
 obtain ⟨lo, h⟩ := h
 exact (h.mem p hp).2
theorem Gd {y : Int} {C : List (Int × Int)} (hC : ∀ p ∈ C, p.1 < p.2) (hl : C.length ≤ 1000000000) : ∀ (suf pre : List (Int × Int)) (m : Nat) (out : List Sd), C = pre ++ suf → suf.length < m → out.length + suf.length ≤ 100000000 →
  dX y (eH C) m (out.map toS) ((2 * pre.length : Nat) : Int) = some ((out ++ suf.map (M8 y)).map toS)
 | _, _, 0, _, _, hm, _ => absurd hm (Nat.not_lt_zero _)
 | [], pre, m + 1, out, h, _, _ => by
  rw [dX.eq_2, if_neg (by rw [vT (l := C) h]; simp)]; simp
 | p :: suf, pre, m + 1, out, h, hm, ho => by
  have hpl : pre.length ≤ 1000000000 := by rw [h] at hl; simp at hl; omega
  rw [dX.eq_2, if_pos (by rw [vT (l := C) h]; simp; omega)]
  have e1 : bn (((2 * pre.length : Nat) : Int) + 1) = ((2 * pre.length + 1 : Nat) : Int) := by rw [bR (by omega) (by omega)]; omega
  have e2 : bn (((2 * pre.length : Nat) : Int) + 2) = ((2 * (pre ++ [p]).length : Nat) : Int) := by rw [bR (by omega) (by omega)]; simp; omega
  have i1 := ED pre suf p
  have i2 := EC pre suf p
  rw [← h] at i1 i2
  simp only [List.length_cons] at hm ho
  rw [e1, e2, i1, Option.bind_some, i2, Option.bind_some, zF (by rw [List.length_map]; omega), Option.bind_some]
  have := Gd (y := y) hC hl suf (pre ++ [p]) m (out ++ [M8 y p]) (by rw [h]; simp) (by omega) (by simp; omega)
  rw [List.map_append, List.map_singleton, Qi (hC p (by rw [h]; simp))] at this
  rw [this]; simp
theorem Fw {N : Nat} {y : Int} {A B : List Int} {C : List (Int × Int)} (hC : ∀ p ∈ C, p.1 < p.2) (hl : C.length ≤ 1000000000) : ∀ (suf pre : List (Int × Int)) (m : Nat) (out : List Sd), C = pre ++ suf → suf.length < m → out.length + suf.length ≤ 100000000 →
  eX N y A B (eH C) m (out.map toS) ((2 * pre.length : Nat) : Int) = (nP N A B jI).bind fun Ti => dX y Ti N ((out ++ suf.map (JU y)).map toS) 0
 | _, _, 0, _, _, hm, _ => absurd hm (Nat.not_lt_zero _)
 | [], pre, m + 1, out, h, _, _ => by
  rw [eX.eq_2, if_neg (by rw [vT (l := C) h]; simp)]; simp
 | p :: suf, pre, m + 1, out, h, hm, ho => by
  have hpl : pre.length ≤ 1000000000 := by rw [h] at hl; simp at hl; omega
  rw [eX.eq_2, if_pos (by rw [vT (l := C) h]; simp; omega)]
  have e1 : bn (((2 * pre.length : Nat) : Int) + 1) = ((2 * pre.length + 1 : Nat) : Int) := by rw [bR (by omega) (by omega)]; omega
  have e2 : bn (((2 * pre.length : Nat) : Int) + 2) = ((2 * (pre ++ [p]).length : Nat) : Int) := by rw [bR (by omega) (by omega)]; simp; omega
  have i1 := ED pre suf p
  have i2 := EC pre suf p
  rw [← h] at i1 i2
  simp only [List.length_cons] at hm ho
  rw [e1, e2, i2, Option.bind_some, i1, Option.bind_some, zF (by rw [List.length_map]; omega), Option.bind_some]
  have := Fw (N := N) (y := y) (A := A) (B := B) hC hl suf (pre ++ [p]) m (out ++ [JU y p]) (by rw [h]; simp) (by omega) (by simp; omega)
  rw [List.map_append, List.map_singleton, Qf (hC p (by rw [h]; simp))] at this
  rw [this]; simp
theorem LA {N : Nat} {y : Int} {A B : List (Int × Int)} {out : List Sd} (hN : 10000000000 ≤ N) (hA : ∃ lo, Can lo A) (hB : ∃ lo, Can lo B) (hl : A.length + B.length ≤ 1000000000) (ho : (out ++ hz y A B).length ≤ 100000000) :
  fM N y (eH A) (eH B) (out.map toS) = some ((out ++ hz y A B).map toS) := by
 obtain ⟨d1, d2⟩ := IP hN hA hB hl
 obtain ⟨d3, d4⟩ := NM hN hA hB hl
 unfold hz at ho
 simp only [List.length_append, List.length_map] at ho
 unfold fM
 show (nP N (eH A) (eH B) jJ).bind _ = _
 rw [d2, Option.bind_some]
 have h1 := Fw (N := N) (y := y) (A := eH A) (B := eH B) (Dv d1.can) (by have := d1.len; omega) (yx A B) [] N out rfl (by have := d1.len; omega) (by omega)
 have h2 := Gd (y := y) (Dv d3.can) (by have := d3.len; omega) (yx B A) [] N (out ++ (yx A B).map (JU y)) rfl (by have := d3.len; omega) (by simp; omega)
 have e0 : ((2 * ([] : List (Int × Int)).length : Nat) : Int) = 0 := rfl
 rw [e0] at h1 h2
 rw [h1, d4, Option.bind_some, h2]
 unfold hz
 rw [List.append_assoc]
theorem KQ {N : Nat} {p0 : List jL} {k : List fE → Option (List fE)} {b : Bd} {i : Nat} (hb : b.1 < b.2.1) (hl : b.2.2.length ≤ 1000000000) : ∀ (suf pre : List (Int × Int)) (m : Nat) (out : List Sd), b.2.2 = pre ++ suf → suf.length < m → out.length + 2 * suf.length ≤ 100000000 →
  gD N p0 k (toP b) i m (out.map toS) ((2 * pre.length : Nat) : Int) = gD N p0 k (toP b) i 1 ((out ++ suf.flatMap fun p => [JA b.1 b.2.1 p, K8 b.1 b.2.1 p]).map toS) ((2 * b.2.2.length : Nat) : Int)
 | _, _, 0, _, _, hm, _ => absurd hm (Nat.not_lt_zero _)
 | [], pre, m + 1, out, h, _, _ => by
  have e : b.2.2.length = pre.length := by rw [h]; simp
  have hx : (toP b).Xs = eH b.2.2 := rfl
  rw [gD.eq_2, gD.eq_2, e, hx, if_neg (by rw [vT (l := b.2.2) h]; simp), if_neg (c := decide (((2 * pre.length : Nat) : Int) < ((eH b.2.2).length : Int)) = true) (by rw [vT (l := b.2.2) h]; simp)]; simp
 | p :: suf, pre, m + 1, out, h, hm, ho => by
  have hpl : pre.length ≤ 1000000000 := by rw [h] at hl; simp at hl; omega
  have hx : (toP b).Xs = eH b.2.2 := rfl
  have hy0 : (toP b).Y0 = b.1 := rfl
  have hy1 : (toP b).Y1 = b.2.1 := rfl
  rw [gD.eq_2, hx, hy0, hy1, if_pos (by rw [vT (l := b.2.2) h]; simp; omega)]
  have e1 : bn (((2 * pre.length : Nat) : Int) + 1) = ((2 * pre.length + 1 : Nat) : Int) := by rw [bR (by omega) (by omega)]; omega
  have e2 : bn (((2 * pre.length : Nat) : Int) + 2) = ((2 * (pre ++ [p]).length : Nat) : Int) := by rw [bR (by omega) (by omega)]; simp; omega
  have i1 := ED pre suf p
  have i2 := EC pre suf p
  rw [← h] at i1 i2
  simp only [List.length_cons] at hm ho
  rw [e1, e2, i1, Option.bind_some, Option.bind_some, zF (by rw [List.length_map]; omega), Option.bind_some, i2, Option.bind_some, Option.bind_some, zF (by simp; omega), Option.bind_some]
  have := KQ (N := N) (p0 := p0) (k := k) (i := i) hb hl suf (pre ++ [p]) m (out ++ [JA b.1 b.2.1 p, K8 b.1 b.2.1 p]) (by rw [h]; simp) (by omega) (by simp; omega)
  rw [List.map_append, List.map_cons, List.map_singleton, Qg hb, Qh hb] at this
  rw [show (out.map toS ++ [fE.mk ⟨p.1, b.2.1⟩ ⟨p.1, b.1⟩] ++ [fE.mk ⟨p.2, b.1⟩ ⟨p.2, b.2.1⟩]) = out.map toS ++ [fE.mk ⟨p.1, b.2.1⟩ ⟨p.1, b.1⟩, fE.mk ⟨p.2, b.1⟩ ⟨p.2, b.2.1⟩] from by simp, this]
  simp
theorem GY {a b : List Sd} {n : Nat} (h : (a ++ b).length ≤ n) : a.length ≤ n := by rw [List.length_append] at h; omega
theorem CB {N : Nat} (hN : 10000000000 ≤ N) {l : List Bd} (hl : l.length ≤ 1000000000) (hlo : ∀ b ∈ l, b.1 < b.2.1 ∧ b.2.2.length ≤ 100000000 ∧ ∃ lo, Can lo b.2.2) : ∀ (suf pre : List Bd) (out : List Sd), l = pre ++ suf → (out ++ oz pre.getLast? suf).length ≤ 100000000 →
  dB N (l.map toP) (suf.map toP) pre.length (out.map toS) = some ((out ++ oz pre.getLast? suf).map toS)
 | [], pre, out, _, _ => by
  show dB _ _ [] _ _ = _
  rw [dB.eq_1]
  unfold oz
  rw [List.append_nil]
 | b :: rest, pre, out, h, ho => by
  have hbm : b ∈ l := by rw [h]; simp
  obtain ⟨hb1, hb2, hb3⟩ := hlo b hbm
  have hpl : pre.length ≤ 1000000000 := by rw [h] at hl; simp at hl; omega
  unfold oz at ho ⊢
  have eA : out ++ (vt b ++ hz b.1 (xY pre.getLast? b) b.2.2 ++ xR b rest ++ oz (some b) rest) = (((out ++ vt b) ++ hz b.1 (xY pre.getLast? b) b.2.2) ++ xR b rest) ++ oz (some b) rest := by simp only [List.append_assoc]
  rw [eA] at ho ⊢
  have ho3 := GY ho
  have ho2 := GY ho3
  have ho1 := GY ho2
  have hvl : (vt b).length = 2 * b.2.2.length := by
   unfold vt
   rw [List.length_flatMap]
   simp only [List.length_cons, List.length_nil]
   rw [List.map_const', List.sum_replicate_nat]; omega
  rw [List.map_cons, dB.eq_2]
  have hv := KQ (N := N) (p0 := l.map toP) (k := dB N (l.map toP) (rest.map toP) (pre.length + 1)) (b := b) (i := pre.length) hb1 (by omega) b.2.2 [] N out rfl (by omega) (by rw [List.length_append, hvl] at ho1; omega)
  have e0 : ((2 * ([] : List (Int × Int)).length : Nat) : Int) = 0 := rfl
  rw [e0] at hv
  have hx : (toP b).Xs = eH b.2.2 := rfl
  have hy0 : (toP b).Y0 = b.1 := rfl
  have hy1 : (toP b).Y1 = b.2.1 := rfl
  have hvt : (b.2.2.flatMap fun p => [JA b.1 b.2.1 p, K8 b.1 b.2.1 p]) = vt b := rfl
  rw [hv, hvt, gD.eq_2, hx, hy0, if_neg (by rw [jD]; simp)]
  have hJ : jR N (l.map toP) (dB N (l.map toP) (rest.map toP) (pre.length + 1)) (toP b) pre.length ((out ++ vt b ++ hz b.1 (xY pre.getLast? b) b.2.2).map toS) = some ((out ++ vt b ++ hz b.1 (xY pre.getLast? b) b.2.2 ++ xR b rest ++ oz (some b) rest).map toS) := by
   have ih := CB hN hl hlo rest (pre ++ [b]) (out ++ vt b ++ hz b.1 (xY pre.getLast? b) b.2.2 ++ xR b rest) (by rw [h]; simp) (by rw [List.getLast?_append]; exact ho)
   rw [List.getLast?_append, List.length_append] at ih
   have ih : dB N (l.map toP) (rest.map toP) (pre.length + 1) ((out ++ vt b ++ hz b.1 (xY pre.getLast? b) b.2.2 ++ xR b rest).map toS) = some ((out ++ vt b ++ hz b.1 (xY pre.getLast? b) b.2.2 ++ xR b rest ++ oz (some b) rest).map toS) := ih
   unfold jR
   have e1 : bn ((pre.length : Int) + 1) = ((pre ++ [b]).length : Int) := qO pre b (by omega)
   have hz0 : ∀ {o : List Sd}, (o ++ hz b.2.1 b.2.2 []).length ≤ 100000000 → fM N b.2.1 (eH b.2.2) [] (o.map toS) = some ((o ++ hz b.2.1 b.2.2 []).map toS) := fun {o} ho => LA (B := []) hN hb3 ⟨0, trivial⟩ (by simp; omega) ho
   rw [e1, hx, hy1]
   cases rest with
   | nil =>
    rw [if_pos (by rw [h]; simp), Option.bind_some, if_pos rfl]
    have e2 : xR b [] = hz b.2.1 b.2.2 [] := rfl
    rw [e2] at ih ho3 ⊢
    rw [hz0 ho3, Option.bind_some]; exact ih
   | cons c rest =>
    have e3 : idx (l.map toP) ((pre ++ [b]).length : Int) = some (toP c) := by
     have := gG ((pre ++ [b]).map toP) (rest.map toP) (toP c)
     rw [List.length_map] at this
     rw [h, show pre ++ b :: c :: rest = (pre ++ [b]) ++ c :: rest by simp, List.map_append, List.map_cons]; exact this
    rw [if_neg (by rw [h]; simp; omega), e3, Option.bind_some, Option.bind_some]
    have e4 : (toP c).Y0 = c.1 := rfl
    rw [e4]
    by_cases hc : b.2.1 < c.1
    ·have e2 : xR b (c :: rest) = hz b.2.1 b.2.2 [] := if_pos hc
     rw [if_pos (by simpa using hc)]
     rw [e2] at ih ho3 ⊢
     rw [hz0 ho3, Option.bind_some]; exact ih
    ·have e2 : xR b (c :: rest) = [] := if_neg hc
     rw [if_neg (by simpa using hc)]
     rw [e2, List.append_nil] at ih ⊢
     exact ih
  rcases List.eq_nil_or_concat pre with hp | ⟨q, c, hp⟩
  ·subst hp
   rw [if_pos (by simp), Option.bind_some, if_pos rfl]
   have := LA (N := N) (y := b.1) (A := []) (B := b.2.2) (out := out ++ vt b) hN ⟨0, trivial⟩ hb3 (by simp; omega) ho2
   have e2 : eH [] = [] := rfl
   rw [e2] at this
   rw [this, Option.bind_some]
   exact hJ
  ·rw [List.concat_eq_append] at hp
   subst hp
   have hcm : c ∈ l := by rw [h]; simp
   obtain ⟨hc1, hc2, hc3⟩ := hlo c hcm
   have e1 : bn (((q ++ [c]).length : Int) - 1) = (q.length : Int) := by rw [bR (by omega) (by omega)]; simp
   have e3 : idx (l.map toP) (q.length : Int) = some (toP c) := by
    have := gG (q.map toP) ((b :: rest).map toP) (toP c)
    rw [List.length_map] at this
    rw [h, show (q ++ [c]) ++ b :: rest = q ++ c :: b :: rest by simp, List.map_append, List.map_cons]; exact this
   rw [if_neg (by simp; omega), e1, e3, Option.bind_some, Option.bind_some]
   have e4 : (toP c).Y1 = c.2.1 := rfl
   have e5 : (toP c).Xs = eH c.2.2 := rfl
   have e6 : (q ++ [c]).getLast? = some c := by simp
   rw [e4]
   rw [e6] at hJ ho2 ⊢
   by_cases hc : c.2.1 < b.1
   ·have e2 : xY (some c) b = [] := if_pos hc
    rw [e2] at hJ ho2 ⊢
    rw [if_pos (by simpa using hc)]
    have := LA (N := N) (y := b.1) (A := []) (B := b.2.2) (out := out ++ vt b) hN ⟨0, trivial⟩ hb3 (by simp; omega) ho2
    have e2 : eH [] = [] := rfl
    rw [e2] at this
    rw [this, Option.bind_some]
    exact hJ
   ·have e2 : xY (some c) b = c.2.2 := if_neg hc
    rw [e2] at hJ ho2 ⊢
    rw [if_neg (by simpa using hc), Option.bind_some, e5, LA (N := N) (y := b.1) (out := out ++ vt b) hN hc3 hb3 (by omega) ho2, Option.bind_some]
    exact hJ
theorem Ms {N : Nat} (hN : 10000000000 ≤ N) {l : List Bd} (hl : l.length ≤ 1000000000) (hlo : ∀ b ∈ l, b.1 < b.2.1 ∧ b.2.2.length ≤ 100000000 ∧ ∃ lo, Can lo b.2.2) (hlen : (oz none l).length ≤ 100000000) : qg N (l.map toP) = some ((oz none l).map toS) := CB hN hl hlo l [] [] rfl hlen
open PX
def Has (L : List Sd) (e : Ed) : Prop := ∃ s ∈ L, On s e
theorem G8 (e : Ed) : ¬ Has [] e := fun ⟨_, h, _⟩ => nomatch h
theorem ug {A B : List Sd} {e : Ed} : Has (A ++ B) e ↔ Has A e ∨ Has B e := by
 unfold Has
 constructor
 ·rintro ⟨s, h1, h2⟩
  rcases List.mem_append.1 h1 with h1 | h1
  ·exact .inl ⟨s, h1, h2⟩
  ·exact .inr ⟨s, h1, h2⟩
 ·rintro (⟨s, h1, h2⟩ | ⟨s, h1, h2⟩)
  ·exact ⟨s, List.mem_append_left _ h1, h2⟩
  ·exact ⟨s, List.mem_append_right _ h1, h2⟩
theorem zO : ∀ {l : List (Int × Int)} {lo : Int}, Can lo l → l.Pairwise fun p q => p.2 < q.1
 | [], _, _ => .nil
 | p :: l, lo, h => List.pairwise_cons.2 ⟨fun q hq => (h.2.2.mem q hq).1, zO h.2.2⟩
theorem J4 {α : Type} {R : α → α → Prop} : ∀ {l : List α}, l.Pairwise R → ∀ a ∈ l, ∀ b ∈ l, a = b ∨ R a b ∨ R b a
 | x :: l, h, a, ha, b, hb => by
  obtain ⟨h1, h2⟩ := List.pairwise_cons.1 h
  rcases List.mem_cons.1 ha with ea | ea
  ·rcases List.mem_cons.1 hb with eb | eb
   ·left; rw [ea, eb]
   ·right; left; rw [ea]; exact h1 b eb
  ·rcases List.mem_cons.1 hb with eb | eb
   ·right; right; rw [eb]; exact h1 a ea
   ·exact J4 h2 a ea b eb
theorem PU {l : List (Int × Int)} (h : ∃ lo, Can lo l) {x : Int} : (∃ p ∈ l, x = p.2) ↔ nI (x - 1) l ∧ ¬ nI x l := by
 obtain ⟨lo, h⟩ := h
 constructor
 ·rintro ⟨p, hp, rfl⟩
  have h1 := (h.mem p hp).2
  refine ⟨⟨p, hp, by omega, by omega⟩, ?_⟩
  rintro ⟨q, hq, g1, g2⟩
  have h2 := (h.mem q hq).2
  rcases J4 (zO h) p hp q hq with e | e | e
  ·subst e; omega
  ·omega
  ·omega
 ·rintro ⟨⟨p, hp, g1, g2⟩, h2⟩
  refine ⟨p, hp, ?_⟩
  rcases Int.lt_or_le x p.2 with h3 | h3
  ·exact absurd ⟨p, hp, by omega, h3⟩ h2
  ·omega
theorem PV {l : List (Int × Int)} (h : ∃ lo, Can lo l) {x : Int} : (∃ p ∈ l, x = p.1) ↔ nI x l ∧ ¬ nI (x - 1) l := by
 obtain ⟨lo, h⟩ := h
 constructor
 ·rintro ⟨p, hp, rfl⟩
  have h1 := (h.mem p hp).2
  refine ⟨⟨p, hp, by omega, by omega⟩, ?_⟩
  rintro ⟨q, hq, g1, g2⟩
  have h2 := (h.mem q hq).2
  rcases J4 (zO h) p hp q hq with e | e | e
  ·subst e; omega
  ·omega
  ·omega
 ·rintro ⟨⟨p, hp, g1, g2⟩, h2⟩
  refine ⟨p, hp, ?_⟩
  rcases Int.lt_or_le (x - 1) p.1 with h3 | h3
  ·omega
  ·exact absurd ⟨p, hp, by omega, by omega⟩ h2
def Me (b : Bd) : Prop := b.1 < b.2.1 ∧ b.2.2.length ≤ 100000000 ∧ ∃ lo, Can lo b.2.2
theorem wV {A B : List (Int × Int)} (hA : ∃ lo, Can lo A) (hB : ∃ lo, Can lo B) (hl : A.length + B.length ≤ 1000000000) : KL A B (yx A B) := (IP (Nat.le_refl _) hA hB hl).1
def xG (A : List (Int × Int)) : Prop := (∃ lo, Can lo A) ∧ A.length ≤ 100000000
theorem xG.nil : xG [] := ⟨⟨0, trivial⟩, by simp⟩
theorem Me.row {b : Bd} (h : Me b) : xG b.2.2 := ⟨h.2.2, h.2.1⟩
theorem G5 {b : Bd} (h : Me b) {e : Ed} : Has (vt b) e ↔ (e.d = .N ∧ (b.1 ≤ e.y ∧ e.y < b.2.1) ∧ nI (e.x - 1) b.2.2 ∧ ¬ nI e.x b.2.2) ∨ (e.d = .S ∧ (b.1 < e.y ∧ e.y ≤ b.2.1) ∧ nI e.x b.2.2 ∧ ¬ nI (e.x - 1) b.2.2) := by
 unfold Has vt
 rw [← PU h.2.2, ← PV h.2.2]
 constructor
 ·rintro ⟨s, h1, h2⟩
  obtain ⟨p, hp, hs⟩ := List.mem_flatMap.1 h1
  simp only [List.mem_cons, List.not_mem_nil, or_false] at hs
  rcases hs with rfl | rfl
  ·obtain ⟨g1, g2, g3, g4⟩ := En.1 h2
   exact .inr ⟨g1, ⟨g3, g4⟩, p, hp, g2⟩
  ·obtain ⟨g1, g2, g3, g4⟩ := Ff.1 h2
   exact .inl ⟨g1, ⟨g3, g4⟩, p, hp, g2⟩
 ·rintro (⟨g1, ⟨g3, g4⟩, p, hp, g2⟩ | ⟨g1, ⟨g3, g4⟩, p, hp, g2⟩)
  ·exact ⟨_, List.mem_flatMap.2 ⟨p, hp, List.mem_cons_of_mem _ (List.mem_cons_self)⟩, Ff.2 ⟨g1, g2, g3, g4⟩⟩
  ·exact ⟨_, List.mem_flatMap.2 ⟨p, hp, List.mem_cons_self⟩, En.2 ⟨g1, g2, g3, g4⟩⟩
theorem Ey {y : Int} {A B : List (Int × Int)} (hA : xG A) (hB : xG B) {e : Ed} : Has (hz y A B) e ↔ e.y = y ∧ ((e.d = .W ∧ nI (e.x - 1) A ∧ ¬ nI (e.x - 1) B) ∨ (e.d = .E ∧ nI e.x B ∧ ¬ nI e.x A)) := by
 have d1 := wV hA.1 hB.1 (by have := hA.2; have := hB.2; omega)
 have d2 := wV hB.1 hA.1 (by have := hA.2; have := hB.2; omega)
 unfold hz
 rw [ug, ← d1.mem, ← d2.mem]
 unfold Has
 simp only [List.mem_map]
 constructor
 ·rintro (⟨s, ⟨p, hp, rfl⟩, h2⟩ | ⟨s, ⟨p, hp, rfl⟩, h2⟩)
  ·obtain ⟨g1, g2, g3, g4⟩ := GR.1 h2
   exact ⟨g2, .inl ⟨g1, p, hp, by omega, by omega⟩⟩
  ·obtain ⟨g1, g2, g3, g4⟩ := Kb.1 h2
   exact ⟨g2, .inr ⟨g1, p, hp, by omega, by omega⟩⟩
 ·rintro ⟨g2, (⟨g1, p, hp, g3, g4⟩ | ⟨g1, p, hp, g3, g4⟩)⟩
  ·exact .inl ⟨_, ⟨p, hp, rfl⟩, GR.2 ⟨g1, g2, by omega, by omega⟩⟩
  ·exact .inr ⟨_, ⟨p, hp, rfl⟩, Kb.2 ⟨g1, g2, by omega, by omega⟩⟩
def KJ (b : Bd) : List Bd → Prop
 | [] => True
 | c :: _ => b.2.1 < c.1
theorem G6 {b : Bd} {rest : List Bd} (h : Me b) {e : Ed} : Has (xR b rest) e ↔ KJ b rest ∧ e.y = b.2.1 ∧ e.d = .W ∧ nI (e.x - 1) b.2.2 := by
 have h1 := Ey (y := b.2.1) h.row xG.nil (e := e)
 have h2 : Has (hz b.2.1 b.2.2 []) e ↔ e.y = b.2.1 ∧ e.d = .W ∧ nI (e.x - 1) b.2.2 := by
  rw [h1]
  constructor
  ·rintro ⟨g1, (⟨g2, g3, _⟩ | ⟨_, g3, _⟩)⟩
   ·exact ⟨g1, g2, g3⟩
   ·exact absurd g3 jZ
  ·rintro ⟨g1, g2, g3⟩
   exact ⟨g1, .inl ⟨g2, g3, jZ⟩⟩
 cases rest with
 | nil => show Has (hz b.2.1 b.2.2 []) e ↔ _; rw [h2]; simp [KJ]
 | cons c rest =>
  unfold xR KJ
  by_cases hc : b.2.1 < c.1
  ·simp only [if_pos hc]
   rw [h2]; simp [hc]
  ·simp only [if_neg hc]
   exact ⟨fun hh => absurd hh (G8 e), fun hh => absurd hh.1 hc⟩
def gR (prev : Option Bd) : List Bd → Int → List (Int × Int)
 | [], _ => []
 | b :: rest, y => if y = b.1 - 1 then xY prev b else rowAt (b :: rest) y
theorem x9 (prev : Option Bd) (b : Bd) (rest : List Bd) (y : Int) : gR prev (b :: rest) y = if y = b.1 - 1 then xY prev b else rowAt (b :: rest) y := rfl
theorem wK (prev : Option Bd) (b : Bd) (rest : List Bd) : oz prev (b :: rest) = vt b ++ hz b.1 (xY prev b) b.2.2 ++ xR b rest ++ oz (some b) rest := by rw [oz]
theorem Qq {prev : Option Bd} {l : List Bd} {lo y : Int} (h : sZ lo l) (hy : y < lo - 1) : gR prev l y = [] := by
 cases l with
 | nil => rfl
 | cons b rest =>
  rw [x9, if_neg (by have := h.1; omega)]
  exact oL h (by omega)
theorem LG {b : Bd} {l : List Bd} (h : sZ b.2.1 l) (hf : KJ b l) : gR (some b) l (b.2.1 - 1) = [] := by
 cases l with
 | nil => rfl
 | cons c rest =>
  have hf : b.2.1 < c.1 := hf
  rw [x9, if_neg (by omega)]
  exact oL h (by omega)
theorem IW {b : Bd} {l : List Bd} (h : sZ b.2.1 l) (hf : ¬ KJ b l) : gR (some b) l (b.2.1 - 1) = b.2.2 := by
 cases l with
 | nil => exact absurd trivial hf
 | cons c rest =>
  have hf : ¬ b.2.1 < c.1 := hf
  have hc : c.1 = b.2.1 := by have := h.1; omega
  rw [x9, if_pos (by omega)]
  exact if_neg hf
theorem ul {b : Bd} {rest : List Bd} {y : Int} (h1 : b.1 ≤ y) (h2 : y < b.2.1) : rowAt (b :: rest) y = b.2.2 := if_pos ⟨h1, h2⟩
theorem AY {b : Bd} {rest : List Bd} {y : Int} (h2 : b.2.1 ≤ y) : rowAt (b :: rest) y = rowAt rest y := if_neg (by omega)
theorem Qr {b : Bd} {l : List Bd} {y : Int} (h : sZ b.2.1 l) (hy : b.2.1 ≤ y) : gR (some b) l y = rowAt l y := by
 cases l with
 | nil => rfl
 | cons c rest =>
  rw [x9]
  by_cases hc : y = c.1 - 1
  ·rw [if_pos hc]
   have hf : b.2.1 < c.1 := by omega
   have : rowAt (c :: rest) y = [] := oL (lo := c.1) ⟨Int.le_refl _, h.2.1, h.2.2.1, h.2.2.2.1, h.2.2.2.2⟩ (by omega)
   rw [this]
   exact if_pos hf
  ·rw [if_neg hc]
structure Qt (prev : Option Bd) : Prop where
 ok : ∀ c, prev = some c → Me c
theorem Qt.low {prev : Option Bd} (h : Qt prev) (b : Bd) : xG (xY prev b) := by
 cases prev with
 | none => exact xG.nil
 | some c =>
  unfold xY
  by_cases hc : c.2.1 < b.1
  ·simp only [if_pos hc]; exact xG.nil
  ·simp only [if_neg hc]; exact (h.ok c rfl).row
def QN (l : List Bd) (e : Ed) : Prop := nI (e.x - 1) (rowAt l e.y) ∧ ¬ nI e.x (rowAt l e.y)
def QS (l : List Bd) (e : Ed) : Prop := nI e.x (rowAt l (e.y - 1)) ∧ ¬ nI (e.x - 1) (rowAt l (e.y - 1))
def QE (prev : Option Bd) (l : List Bd) (e : Ed) : Prop := nI e.x (rowAt l e.y) ∧ ¬ nI e.x (gR prev l (e.y - 1))
def QW (prev : Option Bd) (l : List Bd) (e : Ed) : Prop := nI (e.x - 1) (gR prev l (e.y - 1)) ∧ ¬ nI (e.x - 1) (rowAt l e.y)
theorem NW {prev : Option Bd} {b : Bd} {rest : List Bd} {e : Ed} : Has (oz prev (b :: rest)) e ↔ Has (vt b) e ∨ Has (hz b.1 (xY prev b) b.2.2) e ∨ Has (xR b rest) e ∨ Has (oz (some b) rest) e := by
 rw [wK, ug, ug, ug]
 constructor
 ·rintro (((h | h) | h) | h)
  ·exact .inl h
  ·exact .inr (.inl h)
  ·exact .inr (.inr (.inl h))
  ·exact .inr (.inr (.inr h))
 ·rintro (h | h | h | h)
  ·exact .inl (.inl (.inl h))
  ·exact .inl (.inl (.inr h))
  ·exact .inl (.inr h)
  ·exact .inr h
theorem Ch : ∀ {l : List Bd} {prev : Option Bd} {lo : Int}, sZ lo l → (∀ b ∈ l, Me b) → Qt prev → ∀ e, Has (oz prev l) e ↔ (e.d = .N ∧ QN l e) ∨ (e.d = .S ∧ QS l e) ∨ (e.d = .E ∧ QE prev l e) ∨ (e.d = .W ∧ QW prev l e)
 | [], prev, lo, _, _, _, e => by
  constructor
  ·intro h; exact absurd h (G8 e)
  ·rintro (⟨_, h, _⟩ | ⟨_, h, _⟩ | ⟨_, h, _⟩ | ⟨_, h, _⟩) <;> exact absurd h jZ
 | b :: rest, prev, lo, hc, hok, hp, e => by
  obtain ⟨c1, c2, c3, c4, c5⟩ := hc
  have hb := hok b (by simp)
  have ih := Ch (prev := some b) c5 (fun c hc => hok c (by simp [hc])) ⟨fun c hc => by cases hc; exact hb⟩ e
  have hcan : sZ b.1 (b :: rest) := ⟨Int.le_refl _, c2, c3, c4, c5⟩
  rw [NW, G5 hb, Ey (hp.low b) hb.row, G6 hb, ih]
  have nil : ∀ {y : Int}, y < b.2.1 → rowAt rest y = [] := fun hy => oL c5 hy
  have lo0 : ∀ {y : Int}, y < b.1 → rowAt (b :: rest) y = [] := fun hy => oL hcan hy
  have glow : gR prev (b :: rest) (b.1 - 1) = xY prev b := by rw [x9, if_pos rfl]
  have gother : ∀ {y : Int}, y ≠ b.1 - 1 → gR prev (b :: rest) y = rowAt (b :: rest) y := fun hy => by rw [x9, if_neg hy]
  have gnil : ∀ {y : Int}, y < b.2.1 - 1 → gR (some b) rest y = [] := fun hy => Qq c5 hy
  cases hd : e.d
  · -- east
   simp only [reduceCtorEq, false_and, false_or, or_false, true_and, and_false]
   unfold QE
   rcases Int.lt_or_le e.y b.1 with h1 | h1
   ·rw [lo0 h1, nil (y := e.y) (by omega)]
    constructor
    ·rintro (⟨h, _⟩ | ⟨h, _⟩)
     ·omega
     ·exact absurd h jZ
    ·rintro ⟨h, _⟩; exact absurd h jZ
   ·rcases Int.lt_or_le e.y b.2.1 with h2 | h2
    ·rw [ul h1 h2, nil h2]
     by_cases h3 : e.y = b.1
     ·rw [h3, glow]
      constructor
      ·rintro (⟨_, g⟩ | ⟨h, _⟩)
       ·exact g
       ·exact absurd h jZ
      ·intro g; exact .inl ⟨rfl, g⟩
     ·rw [gother (by omega), ul (by omega) (by omega)]
      constructor
      ·rintro (⟨h, _⟩ | ⟨h, _⟩)
       ·exact absurd h h3
       ·exact absurd h jZ
      ·rintro ⟨g1, g2⟩; exact absurd g1 g2
    ·rw [AY h2, gother (y := e.y - 1) (by omega)]
     by_cases h3 : e.y = b.2.1
     ·rw [ul (y := e.y - 1) (by omega) (by omega), h3]
      by_cases hf : KJ b rest
      · -- nothing begins there
       have hn : rowAt rest b.2.1 = [] := by
        cases rest with
        | nil => rfl
        | cons c r => exact oL (lo := c.1) ⟨Int.le_refl _, c5.2.1, c5.2.2.1, c5.2.2.2.1, c5.2.2.2.2⟩ hf
       rw [hn]
       constructor
       ·rintro (⟨h, _⟩ | ⟨h, _⟩)
        ·omega
        ·exact absurd h jZ
       ·rintro ⟨h, _⟩; exact absurd h jZ
      ·rw [IW c5 hf]
       constructor
       ·rintro (⟨h, _⟩ | g)
        ·omega
        ·exact g
       ·intro g; exact .inr g
     ·rw [AY (y := e.y - 1) (by omega), Qr c5 (y := e.y - 1) (by omega)]
      constructor
      ·rintro (⟨h, _⟩ | g)
       ·omega
       ·exact g
      ·intro g; exact .inr g
  · -- north
   simp only [reduceCtorEq, false_and, false_or, or_false, true_and, and_false]
   unfold QN
   by_cases h1 : b.1 ≤ e.y ∧ e.y < b.2.1
   ·rw [ul h1.1 h1.2, nil h1.2]
    constructor
    ·rintro (⟨_, g⟩ | ⟨h, _⟩)
     ·exact g
     ·exact absurd h jZ
    ·intro g; exact .inl ⟨h1, g⟩
   ·have : rowAt (b :: rest) e.y = rowAt rest e.y := if_neg h1
    rw [this]
    constructor
    ·rintro (⟨h, _⟩ | g)
     ·exact absurd h h1
     ·exact g
    ·intro g; exact .inr g
  · -- west
   simp only [reduceCtorEq, false_and, false_or, or_false, true_and, and_false]
   unfold QW
   rcases Int.lt_or_le e.y b.1 with h1 | h1
   ·rw [gother (by omega), lo0 (y := e.y - 1) (by omega), gnil (by omega)]
    constructor
    ·rintro (⟨h, _⟩ | ⟨_, h, _⟩ | ⟨h, _⟩)
     ·omega
     ·omega
     ·exact absurd h jZ
    ·rintro ⟨h, _⟩; exact absurd h jZ
   ·rcases Int.lt_or_le e.y b.2.1 with h2 | h2
    ·rw [ul h1 h2, nil h2, gnil (by omega)]
     by_cases h3 : e.y = b.1
     ·rw [h3, glow]
      constructor
      ·rintro (⟨_, g⟩ | ⟨_, h, _⟩ | ⟨h, _⟩)
       ·exact g
       ·omega
       ·exact absurd h jZ
      ·intro g; exact .inl ⟨rfl, g⟩
     ·rw [gother (by omega), ul (by omega) (by omega)]
      constructor
      ·rintro (⟨h, _⟩ | ⟨_, h, _⟩ | ⟨h, _⟩)
       ·exact absurd h h3
       ·omega
       ·exact absurd h jZ
      ·rintro ⟨g1, g2⟩; exact absurd g1 g2
    ·rw [AY h2, gother (y := e.y - 1) (by omega)]
     by_cases h3 : e.y = b.2.1
     ·rw [ul (y := e.y - 1) (by omega) (by omega), h3]
      by_cases hf : KJ b rest
      ·have hn : rowAt rest b.2.1 = [] := by
        cases rest with
        | nil => rfl
        | cons c r => exact oL (lo := c.1) ⟨Int.le_refl _, c5.2.1, c5.2.2.1, c5.2.2.2.1, c5.2.2.2.2⟩ hf
       rw [hn, LG c5 hf]
       constructor
       ·rintro (⟨h, _⟩ | ⟨_, _, g⟩ | ⟨h, _⟩)
        ·omega
        ·exact ⟨g, jZ⟩
        ·exact absurd h jZ
       ·rintro ⟨g, _⟩; exact .inr (.inl ⟨hf, rfl, g⟩)
      ·rw [IW c5 hf]
       constructor
       ·rintro (⟨h, _⟩ | ⟨h, _⟩ | g)
        ·omega
        ·exact absurd h hf
        ·exact g
       ·intro g; exact .inr (.inr g)
     ·rw [AY (y := e.y - 1) (by omega), Qr c5 (y := e.y - 1) (by omega)]
      constructor
      ·rintro (⟨h, _⟩ | ⟨_, h, _⟩ | g)
       ·omega
       ·exact absurd h h3
       ·exact g
      ·intro g; exact .inr (.inr g)
  · -- south
   simp only [reduceCtorEq, false_and, false_or, or_false, true_and, and_false]
   unfold QS
   by_cases h1 : b.1 < e.y ∧ e.y ≤ b.2.1
   ·rw [ul (by omega) (by omega), nil (y := e.y - 1) (by omega)]
    constructor
    ·rintro (⟨_, g⟩ | ⟨h, _⟩)
     ·exact g
     ·exact absurd h jZ
    ·intro g; exact .inl ⟨h1, g⟩
   ·have : rowAt (b :: rest) (e.y - 1) = rowAt rest (e.y - 1) := if_neg (by omega)
    rw [this]
    constructor
    ·rintro (⟨h, _⟩ | g)
     ·exact absurd h h1
     ·exact g
    ·intro g; exact .inr g
theorem GM {A B : List Sd} (hA : A.Pairwise Dj) (hB : B.Pairwise Dj) (h : ∀ e, Has A e → ¬ Has B e) : (A ++ B).Pairwise Dj :=
 List.pairwise_append.2 ⟨hA, hB, fun s hs t ht e h1 h2 => h e ⟨s, hs, h1⟩ ⟨t, ht, h2⟩⟩
theorem NH {y : Int} {A B : List (Int × Int)} (hA : xG A) (hB : xG B) : (hz y A B).Pairwise Dj := by
 obtain ⟨lo1, d1⟩ := (wV hA.1 hB.1 (by have := hA.2; have := hB.2; omega)).can
 obtain ⟨lo2, d2⟩ := (wV hB.1 hA.1 (by have := hA.2; have := hB.2; omega)).can
 unfold hz
 refine GM ?_ ?_ ?_
 ·rw [List.pairwise_map]
  exact (zO d1).imp fun {p q} h e h1 h2 => by
   obtain ⟨_, _, g1, g2⟩ := GR.1 h1
   obtain ⟨_, _, g3, g4⟩ := GR.1 h2
   omega
 ·rw [List.pairwise_map]
  exact (zO d2).imp fun {p q} h e h1 h2 => by
   obtain ⟨_, _, g1, g2⟩ := Kb.1 h1
   obtain ⟨_, _, g3, g4⟩ := Kb.1 h2
   omega
 ·rintro e ⟨s, hs, h1⟩ ⟨t, ht, h2⟩
  obtain ⟨p, _, rfl⟩ := List.mem_map.1 hs
  obtain ⟨q, _, rfl⟩ := List.mem_map.1 ht
  have g1 := (GR.1 h1).1
  have g2 := (Kb.1 h2).1
  rw [g1] at g2; cases g2
theorem R6 {b : Bd} (h : Me b) : (vt b).Pairwise Dj := by
 obtain ⟨lo, hc⟩ := h.2.2
 unfold vt
 rw [List.pairwise_flatMap]
 constructor
 ·intro p hp
  refine List.pairwise_cons.2 ⟨fun t ht e h1 h2 => ?_, List.pairwise_cons.2 ⟨fun t ht => (nomatch ht), .nil⟩⟩
  rw [List.mem_singleton.1 ht] at h2
  have g1 := (En.1 h1).1
  have g2 := (Ff.1 h2).1
  rw [g1] at g2; cases g2
 ·refine List.Pairwise.imp_of_mem (R := fun p q => p.2 < q.1) (fun {p q} hp hq hpq s hs t ht e h1 h2 => ?_) (zO hc)
  have p1 := (hc.mem p hp).2
  have q1 := (hc.mem q hq).2
  simp only [List.mem_cons, List.not_mem_nil, or_false] at hs ht
  rcases hs with rfl | rfl <;> rcases ht with rfl | rfl
  ·have g1 := (En.1 h1).2.1
   have g2 := (En.1 h2).2.1
   omega
  ·have g1 := (En.1 h1).2.1
   have g2 := (Ff.1 h2).2.1
   omega
  ·have g1 := (Ff.1 h1).2.1
   have g2 := (En.1 h2).2.1
   omega
  ·have g1 := (Ff.1 h1).2.1
   have g2 := (Ff.1 h2).2.1
   omega
theorem QZ {b : Bd} {rest : List Bd} (h : Me b) : (xR b rest).Pairwise Dj := by
 cases rest with
 | nil => exact NH h.row xG.nil
 | cons c r =>
  unfold xR
  by_cases hc : b.2.1 < c.1
  ·simp only [if_pos hc]; exact NH h.row xG.nil
  ·simp only [if_neg hc]; exact .nil
theorem IA : ∀ {l : List Bd} {prev : Option Bd} {lo : Int}, sZ lo l → (∀ b ∈ l, Me b) → Qt prev → (oz prev l).Pairwise Dj
 | [], _, _, _, _, _ => .nil
 | b :: rest, prev, lo, ⟨c1, c2, c3, c4, c5⟩, hok, hp => by
  have hb := hok b (by simp)
  have hp' : Qt (some b) := ⟨fun c hc => by cases hc; exact hb⟩
  have ih := IA (prev := some b) c5 (fun c hc => hok c (by simp [hc])) hp'
  have hs := Ch (prev := some b) c5 (fun c hc => hok c (by simp [hc])) hp'
  rw [wK]
  refine GM (GM (GM (R6 hb) (NH (hp.low b) hb.row) ?_) (QZ hb) ?_) ih ?_
  ·intro e h1 h2
   rw [G5 hb] at h1
   rw [Ey (hp.low b) hb.row] at h2
   rcases h1 with ⟨g, _⟩ | ⟨g, _⟩ <;> rcases h2 with ⟨_, (⟨g', _⟩ | ⟨g', _⟩)⟩ <;> rw [g] at g' <;> cases g'
  ·intro e h1 h2
   rw [G6 hb] at h2
   obtain ⟨_, g1, g2, _⟩ := h2
   rcases ug.1 h1 with h1 | h1
   ·rw [G5 hb] at h1
    rcases h1 with ⟨g, _⟩ | ⟨g, _⟩ <;> rw [g2] at g <;> cases g
   ·rw [Ey (hp.low b) hb.row] at h1
    omega
  ·intro e h1 h2
   have nil : ∀ {y : Int}, y < b.2.1 → rowAt rest y = [] := fun hy => oL c5 hy
   rw [hs e] at h2
   rw [ug, ug, G5 hb, Ey (hp.low b) hb.row, G6 hb] at h1
   rcases h2 with ⟨g, q1, _⟩ | ⟨g, q1, _⟩ | ⟨g, q1, _⟩ | ⟨g, q1, _⟩ <;> rw [g] at h1 <;> simp only [reduceCtorEq, false_and, false_or, or_false, true_and, and_false] at h1
   ·rw [nil h1.1.2] at q1; exact jZ q1
   ·rw [nil (by omega)] at q1; exact jZ q1
   ·rw [nil (by omega)] at q1; exact jZ q1
   ·rcases h1 with ⟨h1, _⟩ | ⟨hf, h1, _⟩
    ·rw [Qq c5 (by omega)] at q1; exact jZ q1
    ·rw [h1, LG c5 hf] at q1; exact jZ q1
theorem PI {l : List Bd} {lo : Int} (h : sZ lo l) (y : Int) : gR none l y = rowAt l y := by
 cases l with
 | nil => rfl
 | cons b rest =>
  rw [x9]
  by_cases hy : y = b.1 - 1
  ·rw [if_pos hy]
   exact (oL (lo := b.1) (l := b :: rest) ⟨Int.le_refl _, h.2.1, h.2.2.1, h.2.2.2.1, h.2.2.2.2⟩ (by omega)).symm
  ·rw [if_neg hy]
theorem FE : ∀ {l : List Bd} {prev : Option Bd}, (∀ b ∈ l, Me b) → Qt prev → ∀ s ∈ oz prev l, 0 < s.2
 | b :: rest, prev, hok, hp, s, hs => by
  have hb := hok b (by simp)
  have hz0 : ∀ {y : Int} {A B : List (Int × Int)}, xG A → xG B → ∀ s ∈ hz y A B, 0 < s.2 := fun {y A B} hA hB s hs => by
   have d1 := Dv (wV hA.1 hB.1 (by have := hA.2; have := hB.2; omega)).can
   have d2 := Dv (wV hB.1 hA.1 (by have := hA.2; have := hB.2; omega)).can
   unfold hz at hs
   rcases List.mem_append.1 hs with hs | hs
   ·obtain ⟨p, hp, rfl⟩ := List.mem_map.1 hs
    have := d1 p hp
    show 0 < (p.2 - p.1).toNat; omega
   ·obtain ⟨p, hp, rfl⟩ := List.mem_map.1 hs
    have := d2 p hp
    show 0 < (p.2 - p.1).toNat; omega
  rw [wK] at hs
  rcases List.mem_append.1 hs with hs | hs
  ·rcases List.mem_append.1 hs with hs | hs
   ·rcases List.mem_append.1 hs with hs | hs
    ·obtain ⟨p, hp, hs⟩ := List.mem_flatMap.1 hs
     have := hb.1
     simp only [List.mem_cons, List.not_mem_nil, or_false] at hs
     rcases hs with rfl | rfl <;> show 0 < (b.2.1 - b.1).toNat <;> omega
    ·exact hz0 (hp.low b) hb.row s hs
   ·cases rest with
    | nil => exact hz0 hb.row xG.nil s hs
    | cons c r =>
     unfold xR at hs
     by_cases hc : b.2.1 < c.1
     ·simp only [if_pos hc] at hs; exact hz0 hb.row xG.nil s hs
     ·simp only [if_neg hc] at hs; cases hs
  ·exact FE (prev := some b) (fun c hc => hok c (by simp [hc])) ⟨fun c hc => by cases hc; exact hb⟩ s hs
theorem JR {I : Sq} {l : List Bd} (h : Qb l) (hlen : ∀ b ∈ l, b.2.2.length ≤ 100000000) (hI : ∀ x y, I x y = true ↔ nI x (rowAt l y)) : mV I (oz none l) := by
 obtain ⟨lo, hc⟩ := h.can
 have hok : ∀ b ∈ l, Me b := fun b hb => ⟨(hc.mem b hb).2.1, hlen b hb, h.row b hb⟩
 have hp : Qt none := ⟨fun c hc => nomatch hc⟩
 have hI' : ∀ x y, I x y = false ↔ ¬ nI x (rowAt l y) := fun x y => by
  rw [← hI]; cases I x y <;> simp
 refine KZ (FE hok hp) (fun e => ?_) (IA hc hok hp)
 refine (Ch hc hok hp e).trans ?_
 unfold QN QS QE QW xk
 rw [PI hc]
 cases hd : e.d <;> simp only [reduceCtorEq, false_and, false_or, or_false, true_and, and_false, lq, Dir.right, hI, hI']
theorem DZ {n : Nat} (hn : n ≤ 100000000) : ∀ {l : List Bd} {prev : Option Bd}, (∀ b ∈ l, Me b ∧ b.2.2.length ≤ n) → (∀ c, prev = some c → Me c ∧ c.2.2.length ≤ n) → (oz prev l).length ≤ l.length * (8 * n)
 | [], _, _, _ => by unfold oz; simp
 | b :: rest, prev, hok, hp => by
  obtain ⟨hb, hbn⟩ := hok b (by simp)
  have ih := DZ hn (l := rest) (prev := some b) (fun c hc => hok c (by simp [hc])) (fun c hc => by cases hc; exact ⟨hb, hbn⟩)
  have hzl : ∀ {y : Int} {A B : List (Int × Int)}, xG A → xG B → (hz y A B).length ≤ 2 * (A.length + B.length) := fun {y A B} hA hB => by
   have d1 := (wV hA.1 hB.1 (by have := hA.2; have := hB.2; omega)).len
   have d2 := (wV hB.1 hA.1 (by have := hA.2; have := hB.2; omega)).len
   unfold hz
   simp only [List.length_append, List.length_map]; omega
  have hlow : (xY prev b).length ≤ n := by
   cases prev with
   | none => exact Nat.zero_le _
   | some c =>
    unfold xY
    by_cases hc : c.2.1 < b.1
    ·simp only [if_pos hc]; exact Nat.zero_le _
    ·simp only [if_neg hc]; exact (hp c rfl).2
  have h1 := hzl (y := b.1) (Qt.low ⟨fun c hc => (hp c hc).1⟩ b) hb.row
  have h2 : (xR b rest).length ≤ 2 * n := by
   have h3 := hzl (y := b.2.1) hb.row xG.nil
   rw [List.length_nil] at h3
   cases rest with
   | nil => exact Nat.le_trans h3 (by omega)
   | cons c r =>
    unfold xR
    by_cases hc : b.2.1 < c.1
    ·simp only [if_pos hc]; omega
    ·simp only [if_neg hc]; exact Nat.zero_le _
  have hvl : (vt b).length = 2 * b.2.2.length := by
   unfold vt
   rw [List.length_flatMap]
   simp only [List.length_cons, List.length_nil]
   rw [List.map_const', List.sum_replicate_nat]; omega
  rw [wK]
  simp only [List.length_append, List.length_cons, hvl]
  rw [Nat.add_mul, Nat.one_mul]
  omega
open PX
def ve (l : List aI) : Sq := fun x y => l.any fun r => (decide (r.X0 ≤ x) && decide (x < r.X1)) && (decide (r.Y0 ≤ y) && decide (y < r.Y1))
theorem xz {l : List aI} {x y : Int} : ve l x y = true ↔ Ry x y l := by
 unfold ve Ry
 rw [List.any_eq_true]
 simp only [Bool.and_eq_true, decide_eq_true_eq]
def P8 (I : Sq) : Prop := ∀ x y, I x y = true → (-1000000 ≤ x ∧ x < 1000000) ∧ (-1000000 ≤ y ∧ y < 1000000)
theorem DT {I : Sq} (hI : P8 I) {e : Ed} (h : xk I e) : ((-1000000 ≤ e.x ∧ e.x ≤ 1000000) ∧ (-1000000 ≤ e.y ∧ e.y ≤ 1000000)) ∧ ((-1000000 ≤ e.tx ∧ e.tx ≤ 1000000) ∧ (-1000000 ≤ e.ty ∧ e.ty ≤ 1000000)) := by
 obtain ⟨h1, _⟩ := h
 unfold Ed.tx Ed.ty
 cases hd : e.d <;> rw [hd] at h1 <;> simp only [lq, Dir.dx, Dir.dy] at * <;> have := hI _ _ h1 <;> omega
theorem Lr {I : Sq} {L : List Sd} (h : mV I L) (hI : P8 I) (hl : L.length ≤ 100000000) : yF L := by
 refine ⟨hl, fun s hs => ?_⟩
 obtain ⟨a1, _⟩ := DT hI (h.fst hs)
 obtain ⟨_, a2⟩ := DT hI (h.last hs).1
 obtain ⟨t1, t2, _⟩ := Ep (h.pos s hs)
 rw [t1, t2] at a2
 refine ⟨⟨?_, ?_⟩, ?_, ?_⟩
 ·show -1000000000 ≤ s.1.x ∧ s.1.x ≤ 1000000000; omega
 ·show -1000000000 ≤ s.1.y ∧ s.1.y ≤ 1000000000; omega
 ·omega
 ·omega
def Fj : List (List aA) → Int → Int
 | [], n => n
 | p :: l, n => Fj l (bn (n + (p.length : Int)))
theorem LX (y : List (List aA)) : ∀ (suf : List (List aA)) (i : Nat) (n : Int), jm y suf i n = some (if 2000 < Fj suf n then ([], 2) else (y, 0))
 | [], i, n => by
  rw [jm.eq_1]
  unfold Fj
  by_cases h : 2000 < n
  ·rw [if_pos (by simpa using h), if_pos h]
  ·rw [if_neg (by simpa using h), if_neg h]
 | p :: suf, i, n => by rw [jm.eq_2, LX y suf]; rfl
theorem yU {l : List aI} (h : ∀ r ∈ l, Na r) : P8 (ve l) := fun _ _ hx => Qa h (xz.1 hx)
theorem MW {l : List Bd} (h : ∀ b ∈ l, b.2.2 ≠ []) : l.length ≤ (kI l).length ∧ ∀ b ∈ l, b.2.2.length ≤ (kI l).length := by
 induction l with
 | nil => exact ⟨Nat.le_refl _, fun b hb => nomatch hb⟩
 | cons b l ih =>
  obtain ⟨i1, i2⟩ := ih fun c hc => h c (by simp [hc])
  have hb := List.length_pos_iff.2 (h b (by simp))
  rw [um, List.length_append, wM]
  refine ⟨by simp only [List.length_cons]; omega, fun c hc => ?_⟩
  rcases List.mem_cons.1 hc with rfl | hc
  ·omega
  ·have := i2 c hc; omega
def NI (l : List aI) (ls : List (List (Int × Int))) : List (List aA) × Int := if 2000 < Fj (ls.map (List.map iw)) 0 then ([], 2) else (ls.map (List.map iw), 0)
theorem Jk {N : Nat} (hN : 10000000000 ≤ N) {l : List aI} (h : mO l = 0) : ∃ ls, CW (ve l) ls ∧ (∃ B, zU (ve l) B) ∧ ls.length ≤ 100000000 ∧ ls.flatten.length ≤ 100000000 ∧ (nT N l).bind (fun y101 => mY N y101) = some (ls.map (List.map iw)) := by
 obtain ⟨_, h2, h3, h4⟩ := xS h
 have hne := Na.ne h3
 obtain ⟨b1, b2⟩ := Pb hne
 obtain ⟨lo, hc⟩ := b1.can
 obtain ⟨f1, f2⟩ := MW (l := rC l) fun b hb => (hc.mem b hb).2.2
 rw [h4] at f1 f2
 have hrow : ∀ b ∈ rC l, b.2.2.length ≤ 2000 := fun b hb => by have := f2 b hb; omega
 have hok : ∀ b ∈ rC l, Me b := fun b hb => ⟨(hc.mem b hb).2.1, by have := hrow b hb; omega, b1.row b hb⟩
 have hI : ∀ x y, ve l x y = true ↔ nI x (rowAt (rC l) y) := fun x y => xz.trans (b2 x y).symm
 have sys := JR (I := ve l) b1 (fun b hb => by have := hrow b hb; omega) hI
 have hlen := DZ (n := 2000) (by omega) (l := rC l) (prev := none) (fun b hb => ⟨hok b hb, hrow b hb⟩) (fun c hc => nomatch hc)
 have hlim := Lr sys (yU h3) (by omega)
 obtain ⟨ls, l1, l2, l4, l3⟩ := Kz sys hlim (N := N) (by omega)
 refine ⟨ls, l1, sys.fin, by omega, by omega, ?_⟩
 rw [Jt hN (by omega) (fun r hr => (h3 r hr).r9), Option.bind_some]
 unfold mY
 rw [Ms hN (by omega) (fun b hb => hok b hb) (by omega), Option.bind_some]
 exact l3
theorem Bv {N : Nat} (hN : 10000000000 ≤ N) (l : List aI) : ∃ y, mR N l = some y ∧ (mO l ≠ 0 → y = ([], mO l)) ∧ (mO l = 0 → ∃ ls, CW (ve l) ls ∧ (∃ B, zU (ve l) B) ∧ ls.length ≤ 100000000 ∧ ls.flatten.length ≤ 100000000 ∧ y = NI l ls) := by
 unfold mR
 rw [E5 hN, Option.bind_some]
 by_cases h : mO l = 0
 ·rw [if_neg (by simpa using h)]
  obtain ⟨ls, l1, l4, l2, l5, l3⟩ := Jk hN h
  refine ⟨NI l ls, ?_, fun hh => absurd h hh, fun _ => ⟨ls, l1, l4, l2, l5, rfl⟩⟩
  obtain ⟨y, y1, y2⟩ := Option.bind_eq_some_iff.1 l3
  rw [y1, Option.bind_some, y2, Option.bind_some, LX]; rfl
 ·rw [if_pos (by simpa using h)]
  exact ⟨_, rfl, fun _ => rfl, fun hh => absurd hh h⟩
theorem Jb : ∀ (suf : List (List aA)) (n : Nat), n + suf.flatten.length ≤ 100000000 → Fj suf (n : Int) = ((n + suf.flatten.length : Nat) : Int)
 | [], n, _ => by simp [Fj]
 | l :: suf, n, hn => by
  rw [List.flatten_cons, List.length_append] at hn
  unfold Fj
  have e : bn ((n : Int) + (l.length : Int)) = ((n + l.length : Nat) : Int) := by rw [bR (by omega) (by omega)]; omega
  rw [e, Jb suf (n + l.length) (by omega), List.flatten_cons, List.length_append]
  omega
open PX
theorem Iw {l : List (Int × Int)} {p0 : Int × Int} (h0 : l.head? = some p0) : ∀ (suf pre : List (Int × Int)), l = pre ++ suf → (∀ s ∈ Q5 p0 suf, (s.1.1 = s.2.1) ≠ (s.1.2 = s.2.2)) → J2 (l.map iw) (suf.map iw) pre.length = true
 | [], _, _, _ => rfl
 | x :: r, pre, he, h => by
  have hlen : l.length = pre.length + r.length + 1 := by rw [he]; simp; omega
  have hnx : (l.map iw).getD ((pre.length + 1) % (l.map iw).length) ⟨0, 0⟩ = iw (r.headD p0) := by
   rw [List.length_map]
   cases r with
   | nil =>
    rw [hlen, List.length_nil, Nat.add_zero, Nat.mod_self]
    cases l with
    | nil => cases h0
    | cons y t => cases h0; rfl
   | cons y t =>
    rw [Nat.mod_eq_of_lt (by rw [hlen]; simp), List.getD_eq_getElem?_getD, List.getElem?_map, he, List.getElem?_append_right (by omega)]
    simp
  rw [List.map_cons, J2, hnx]
  have hx := h (x, r.headD p0) List.mem_cons_self
  have ih := Iw h0 r (pre ++ [x]) (by rw [he]; simp) (fun s hs => h s (List.mem_cons_of_mem _ hs))
  rw [List.length_append, List.length_singleton] at ih
  rw [if_neg, ih]
  intro hb
  apply hx
  simp only [iw, beq_iff_eq] at hb
  show (x.1 = (r.headD p0).1) = (x.2 = (r.headD p0).2)
  generalize r.headD p0 = q at hb ⊢
  rw [Bool.eq_iff_iff, beq_iff_eq, beq_iff_eq] at hb
  exact propext hb
def Bw (l : List aA) : Prop := 4 ≤ l.length ∧ (∀ q ∈ l, (-1000000 ≤ q.X ∧ q.X ≤ 1000000) ∧ (-1000000 ≤ q.Y ∧ q.Y ≤ 1000000)) ∧ J2 l l 0 = true
theorem Mx {I : Sq} {ls : List (List (Int × Int))} (ho : CW I ls) (hf : ∃ B, zU I B) (hI : P8 I) : ∀ l ∈ ls.map (List.map iw), Bw l := by
 intro l0 hl0
 obtain ⟨B, hB⟩ := hf
 obtain ⟨l, hl, rfl⟩ := List.mem_map.1 hl0
 obtain ⟨e, he, hle⟩ := ho.is l hl
 have hd := hle.head hB he
 obtain ⟨n, hn, hl2⟩ := hle
 have hr := Ee hB he hn
 rw [← hl2] at hr
 refine ⟨by rw [List.length_map]; exact hr.len, fun q hq => ?_, ?_⟩
 ·obtain ⟨z, hz, rfl⟩ := List.mem_map.1 hq
  obtain ⟨f, hf, rfl⟩ := hr.pts z hz
  have := (DT hI hf).1
  exact this
 ·obtain ⟨r, hr2⟩ := hd
  exact Iw (p0 := e.p) (by rw [hr2]; rfl) l [] rfl hr.ax
theorem wN {x : aJ} : ∀ {o : List (List aA)} {d : Int}, x ∈ lD o d → (∃ l ∈ o, x = AO l) ∨ x = yT 1 ∨ x = yT 2
 | [], _, h => by cases h
 | l :: t, d, h => by
  unfold lD at h
  have hk : Ac l = 1 ∨ Ac l = 2 := by unfold Ac; split <;> simp
  split at h
  ·rcases List.mem_cons.1 h with rfl | h
   ·exact .inl ⟨l, List.mem_cons_self, rfl⟩
   ·rcases wN h with ⟨m, hm, e⟩ | h
    ·exact .inl ⟨m, List.mem_cons_of_mem _ hm, e⟩
    ·exact .inr h
  ·rcases List.mem_cons.1 h with rfl | h
   ·rcases hk with h | h
    ·exact .inr (.inl (by rw [h]))
    ·exact .inr (.inr (by rw [h]))
   ·rcases List.mem_cons.1 h with rfl | h
    ·exact .inl ⟨l, List.mem_cons_self, rfl⟩
    ·rcases wN h with ⟨m, hm, e⟩ | h
     ·exact .inl ⟨m, List.mem_cons_of_mem _ hm, e⟩
     ·exact .inr h
theorem Am : ∀ (o : List (List aA)) (d : Int), oo (lD o d) ≤ 2 * o.length + o.flatten.length
 | [], d => by show oo [] ≤ _; rw [wJ]; omega
 | l :: t, d => by
  have a1 : Aj (AO l) = 1 + l.length := by rw [zD]; show 1 + 0 + l.length + oo [] = _; rw [wJ]; omega
  have a2 : ∀ k, Aj (yT k) = 1 := fun k => by rw [zD]; show 1 + 0 + 0 + oo [] = _; rw [wJ]
  unfold lD
  rw [List.length_cons, List.flatten_cons, List.length_append]
  split
  ·rw [su, a1]
   have := Am t d; omega
  ·rw [su, su, a1, a2]
   have := Am t (Ac l); omega
theorem Dh : ∀ {o : List (List aA)}, (∀ l ∈ o, 4 ≤ l.length) → 4 * o.length ≤ o.flatten.length
 | [], _ => by simp
 | l :: t, h => by
  rw [List.length_cons, List.flatten_cons, List.length_append]
  have h1 := h l List.mem_cons_self
  have h2 := Dh (o := t) (fun m hm => h m (List.mem_cons_of_mem _ hm))
  omega
theorem y5 {l : List aA} : ∀ {o : List (List aA)}, l ∈ o → l.length ≤ o.flatten.length
 | m :: t, h => by
  rw [List.flatten_cons, List.length_append]
  rcases List.mem_cons.1 h with rfl | h
  ·omega
  ·have := y5 h; omega
def nN (o : List (List aA)) : gK := ⟨1, [], lD o 1⟩
theorem of_steps {x : aJ} {o : List (List aA)} (h : x ∈ (nN o).Steps) : x.Steps = [] ∧ x.NX = 0 ∧ x.NY = 0 ∧ x.Name.size = 0 ∧ x.At = ⟨0, 0⟩ ∧ (x.Points = [] ∨ x.Points ∈ o) := by
 rcases wN h with ⟨l, hl, rfl⟩ | rfl | rfl
 ·exact ⟨rfl, rfl, rfl, rfl, rfl, .inr hl⟩
 ·exact ⟨rfl, rfl, rfl, rfl, rfl, .inl rfl⟩
 ·exact ⟨rfl, rfl, rfl, rfl, rfl, .inl rfl⟩
theorem Pp {o : List (List aA)} (hg : ∀ l ∈ o, Bw l) (hf : o.flatten.length ≤ 2000) : Ao (nN o).Steps := by
 refine Py fun x hx => ?_
 obtain ⟨h1, h2, h3, h5, h6, h7⟩ := of_steps (o := o) hx
 have z : Mf 0 := ⟨by decide, by decide⟩
 rw [Lt, h1, h2, h3, h5, h6]
 refine ⟨by omega, ⟨z, z⟩, ?_, ⟨z, z⟩, by simp, by rw [Ao]; trivial⟩
 rcases h7 with h7 | h7
 ·rw [h7]; exact ⟨by simp, fun q hq => (by cases hq)⟩
 ·have := y5 h7
  refine ⟨by omega, fun q hq => ?_⟩
  have := (hg _ h7).2.1 q hq
  unfold Mf; omega
theorem Rw {N : Nat} (hN : 20000000000 ≤ N) (r : List aI) : ∃ y, mR N r = some y ∧ (y.2 ≠ 0 → tV N r = some (⟨0, [], []⟩, y.2)) ∧
  (y.2 = 0 → mO r = 0 ∧ ∃ ls o, CW (ve r) ls ∧ (∃ B, zU (ve r) B) ∧ y.1 = ls.map (List.map iw) ∧ qj y.1 o ∧ (∀ l ∈ o, Bw l) ∧ o.flatten.length ≤ 2000 ∧ tV N r = some (nN o, 0)) := by
 obtain ⟨y, y1, y2, y3⟩ := Bv (N := N) (by omega) r
 refine ⟨y, y1, fun h => ?_, fun h => ?_⟩
 ·unfold tV
  rw [y1, Option.bind_some, if_pos (by simpa using h)]
 ·have hr : mO r = 0 := by
   apply Classical.byContradiction
   intro hn
   rw [y2 hn] at h
   exact hn h
  obtain ⟨ls, l1, l2, l3, l4, rfl⟩ := y3 hr
  have hc : ¬ 2000 < Fj (ls.map (List.map iw)) 0 := by
   intro hc
   rw [NI, if_pos hc] at h
   cases h
  have hfl : (ls.map (List.map iw)).flatten.length = ls.flatten.length := by rw [← List.map_flatten, List.length_map]
  have hv := Jb (ls.map (List.map iw)) 0 (by rw [hfl]; omega)
  rw [show ((0 : Nat) : Int) = 0 from rfl] at hv
  rw [hv] at hc
  rw [NI, if_neg (by rw [hv]; exact hc)]
  have hg := Mx l1 l2 (yU (xS hr).2.2.1)
  have Ub : (ls.map (List.map iw)).flatten.length ≤ 2000 := by omega
  obtain ⟨o, o1, o2⟩ := OH hN (ls := ls.map (List.map iw)) (by rw [List.length_map]; exact l3) (fun l hl => by have := y5 hl; omega)
  refine ⟨hr, ls, o, l1, l2, rfl, o1, fun l hl => hg l ((o1.mem l).1 hl), by rw [o1.len.flatten.length_eq]; exact Ub, ?_⟩
  unfold tV
  rw [y1, NI, if_neg (by rw [hv]; exact hc), Option.bind_some, if_neg (by simp)]
  exact o2
def jy (p : Int × Int) : jY := ⟨p.1, p.2⟩
def qm (b : Bd) : bY := ⟨b.1, b.2.1, b.2.2.map jy⟩
theorem Ei {l : List Int} {x : Int} (hs : l.Pairwise fun a b => a < b) (hl : l.length ≤ 1000000000) : ∀ (n lo hi m : Nat), hi - lo ≤ n → n < m → lo ≤ hi → hi ≤ l.length → (∀ i, (h : i < l.length) → i < lo → l[i] < x) → (∀ i, (h : i < l.length) → hi ≤ i → x ≤ l[i]) →
  ∃ l', iC l x m lo hi = some l' ∧ (l'.Pairwise fun a b => a < b) ∧ (∀ z, z ∈ l' ↔ z = x ∨ z ∈ l) ∧ l'.length ≤ l.length + 1
 | n, lo, hi, 0, _, h, _, _, _, _ => absurd h (Nat.not_lt_zero _)
 | n, lo, hi, m + 1, h1, h2, h3, h4, h5, h6 => by
  by_cases hlt : lo < hi
  ·have hmid : (lo + hi) / 2 < l.length := by omega
   have hw : bn (Int.tdiv (bn ((lo : Int) + hi)) 2) = (((lo + hi) / 2 : Nat) : Int) := by
    rw [bR (x := (lo : Int) + hi) (by omega) (by omega), Int.tdiv_eq_ediv_of_nonneg (by omega), bR (by omega) (by omega)]
    omega
   rw [iC.eq_2, if_pos (by simpa using hlt), hw, sI hmid, Option.bind_some]
   obtain ⟨n, rfl⟩ : ∃ k, n = k + 1 := ⟨n - 1, by omega⟩
   have hord : ∀ i j, (hi : i < l.length) → (hj : j < l.length) → i ≤ j → l[i] ≤ l[j] := fun i j hi hj hij => by
    rcases Nat.lt_or_eq_of_le hij with h | h
    ·exact Int.le_of_lt (List.pairwise_iff_getElem.1 hs i j hi hj h)
    ·subst h; exact Int.le_refl _
   by_cases hc : l[(lo + hi) / 2] < x
   ·rw [if_pos (by simpa using hc), bR (by omega) (by omega)]
    have := Ei hs hl n ((lo + hi) / 2 + 1) hi m (by omega) (by omega) (by omega) h4 (fun i hi' hlt' => by have := hord i _ hi' hmid (by omega); omega) h6
    simpa using this
   ·rw [if_neg (by simpa using hc)]
    exact Ei hs hl n lo ((lo + hi) / 2) m (by omega) (by omega) (by omega) (by omega) h5 (fun i hi' hle => by have := hord _ i hmid hi' hle; omega)
  ·have heq : lo = hi := by omega
   subst heq
   rw [iC.eq_2, if_neg (by simp)]
   have hsplit : l = l.take lo ++ l.drop lo := (List.take_append_drop lo l).symm
   have hA : ∀ a ∈ l.take lo, a < x := fun a ha => by
    obtain ⟨i, hi, rfl⟩ := List.mem_iff_getElem.1 ha
    simp at hi
    have := h5 i (by omega) (by omega)
    simpa using this
   have hB : ∀ b ∈ l.drop lo, x ≤ b := fun b hb => by
    obtain ⟨i, hi, rfl⟩ := List.mem_iff_getElem.1 hb
    simp at hi
    have := h6 (lo + i) (by omega) (by omega)
    simpa using this
   by_cases hin : x ∈ l
   ·have hxlo : lo < l.length ∧ ∀ h : lo < l.length, l[lo] = x := by
     rw [hsplit] at hin
     rcases List.mem_append.1 hin with h | h
     ·have := hA x h; omega
     ·have hne : lo < l.length := by
       have := List.length_pos_of_mem h
       simp at this; omega
      refine ⟨hne, fun _ => ?_⟩
      have hd : l.drop lo = l[lo] :: l.drop (lo + 1) := List.drop_eq_getElem_cons hne
      rw [hd] at h
      rcases List.mem_cons.1 h with h | h
      ·exact h.symm
      ·have a := hB l[lo] (by rw [hd]; exact List.mem_cons_self)
       have hs2 : (l[lo] :: l.drop (lo + 1)).Pairwise fun a b => a < b := by rw [← hd]; exact hs.sublist (List.drop_sublist _ _)
       have b := (List.pairwise_cons.1 hs2).1 x h
       omega
    rw [if_pos (by simpa using hxlo.1), sI hxlo.1, Option.bind_some, hxlo.2 hxlo.1, Option.bind_some, if_pos (by simp)]
    exact ⟨l, rfl, hs, fun z => ⟨fun h => .inr h, fun h => by rcases h with rfl | h; exact hin; exact h⟩, by omega⟩
   ·have hcond : ((if (decide ((lo : Int) < (l.length : Int))) then (idx l (lo : Int)).bind fun x113 => some (x113 == x) else some false).bind fun Ud => if Ud then some l else
      (pre l (lo : Int)).bind fun TZ => (sj ([] : List Int) TZ).bind fun TY => (sj TY [x]).bind fun TW => (cut l (lo : Int) (l.length : Int)).bind fun TV => (sj TW TV).bind fun TU => some TU) = some (l.take lo ++ [x] ++ l.drop lo) := by
     have e1 : (if (decide ((lo : Int) < (l.length : Int))) then (idx l (lo : Int)).bind fun x113 => some (x113 == x) else some false) = some false := by
      by_cases hlo : lo < l.length
      ·rw [if_pos (by simpa using hlo), sI hlo, Option.bind_some]
       have : l[lo] ≠ x := fun e => hin (e ▸ List.getElem_mem hlo)
       simp [this]
      ·rw [if_neg (by simpa using hlo)]
     have e2 : pre l (lo : Int) = some (l.take lo) := by
      unfold pre
      rw [if_pos ⟨by omega, by omega⟩]; simp
     have e3 : cut l (lo : Int) (l.length : Int) = some (l.drop lo) := by
      unfold cut
      rw [if_pos ⟨by omega, by omega, by omega⟩]; simp
     rw [e1, Option.bind_some, if_neg (by simp), e2, Option.bind_some, iO (by simp; omega), Option.bind_some, iO (by simp; omega), Option.bind_some, e3, Option.bind_some, iO (by simp; omega), Option.bind_some]
     simp
    rw [hcond]
    have hB' : ∀ b ∈ l.drop lo, x < b := fun b hb => by
     have := hB b hb
     have hne : b ≠ x := fun e => hin (by rw [hsplit]; exact List.mem_append_right _ (e ▸ hb))
     omega
    refine ⟨_, rfl, ?_, fun z => ?_, by simp; omega⟩
    ·rw [List.append_assoc, List.pairwise_append]
     refine ⟨hs.sublist (List.take_sublist _ _), ?_, fun a ha b hb => ?_⟩
     ·show (x :: l.drop lo).Pairwise _
      rw [List.pairwise_cons]
      exact ⟨hB', hs.sublist (List.drop_sublist _ _)⟩
     ·have := hA a ha
      rcases List.mem_cons.1 (show b ∈ x :: l.drop lo from hb) with rfl | hb
      ·exact this
      ·have := hB' b hb; omega
    ·rw [List.append_assoc, List.mem_append]
     show (z ∈ l.take lo ∨ z ∈ x :: l.drop lo) ↔ _
     rw [List.mem_cons]
     have : z ∈ l ↔ z ∈ l.take lo ∨ z ∈ l.drop lo := by
      rw [← List.mem_append, List.take_append_drop]
     rw [this]
     constructor
     ·rintro (h | h | h)
      ·exact .inr (.inl h)
      ·exact .inl h
      ·exact .inr (.inr h)
     ·rintro (h | h | h)
      ·exact .inr (.inl h)
      ·exact .inl h
      ·exact .inr (.inr h)
theorem BS {N : Nat} {l : List Int} {x : Int} (hN : 10000000000 ≤ N) (hs : l.Pairwise fun a b => a < b) (hl : l.length ≤ 1000000000) : ∃ l', jr N l x = some l' ∧ (l'.Pairwise fun a b => a < b) ∧ (∀ z, z ∈ l' ↔ z = x ∨ z ∈ l) ∧ l'.length ≤ l.length + 1 :=
 Ei hs hl l.length 0 l.length N (by omega) (by omega) (by omega) (by omega) (fun i _ h => by omega) (fun i h h' => by omega)
theorem Kh {N : Nat} {l : List aI} (hN : 10000000000 ≤ N) (hl : l.length ≤ 100000000) : nA N l = some (dH (dF l)) := by
 have key : ∀ (suf pre : List aI) (m : Nat) (out : List Int), l = pre ++ suf → suf.length < m → out.Pairwise (fun a b => a < b) → (∀ z, z ∈ out ↔ z ∈ dF pre) → out.length ≤ 2 * pre.length → gT N l m out pre.length = some (dH (dF l)) := by
  intro suf
  induction suf with
  | nil =>
   intro pre m out h1 h2 h3 h4 h5
   obtain ⟨m, rfl⟩ : ∃ k, m = k + 1 := ⟨m - 1, by omega⟩
   rw [List.append_nil] at h1
   subst h1
   rw [gT.eq_2, if_neg (by simp)]
   congr 1
   exact uk h3 (gZ _) fun z => by rw [lU, h4]
  | cons r suf ih =>
   intro pre m out h1 h2 h3 h4 h5
   obtain ⟨m, rfl⟩ : ∃ k, m = k + 1 := ⟨m - 1, by omega⟩
   have hpl : pre.length + 1 ≤ 100000000 := by rw [h1] at hl; simp at hl; omega
   have hid : idx l (pre.length : Int) = some r := by rw [h1]; exact gG pre suf r
   obtain ⟨o1, p1, p2, p3, p4⟩ := BS (x := r.Y0) hN h3 (by omega)
   obtain ⟨o2, q1, q2, q3, q4⟩ := BS (x := r.Y1) hN p2 (by omega)
   rw [gT.eq_2, if_pos (by rw [h1]; exact uH pre suf r), hid, Option.bind_some, Option.bind_some, p1, Option.bind_some, q1, Option.bind_some, qO pre r (by omega)]
   refine ih (pre ++ [r]) m o2 (by rw [h1]; simp) (by simp at h2; omega) q2 (fun z => ?_) (by simp; omega)
   rw [q3, p3, h4, mP, mP]
   constructor
   ·rintro (h | h | ⟨s, hs, h⟩)
    ·exact ⟨r, by simp, .inr h⟩
    ·exact ⟨r, by simp, .inl h⟩
    ·exact ⟨s, by simp [hs], h⟩
   ·rintro ⟨s, hs, h⟩
    rcases List.mem_append.1 hs with hs | hs
    ·exact .inr (.inr ⟨s, hs, h⟩)
    ·simp at hs; subst hs
     rcases h with h | h
     ·exact .inr (.inl h)
     ·exact .inl h
 exact key l [] N [] rfl (by omega) .nil (fun z => by simp [dF]) (by simp)
theorem Aq {p0 pre : List (Int × Int)} (hl : p0.length ≤ 1000000000) (hpl : pre.length ≤ 1000000000) : ∀ (suf pre2 : List (Int × Int)) (m : Nat) (a b : Int), p0 = pre2 ++ suf → suf.length < m → ik (p0.map jy) (pre.map jy) m a b pre2.length = some ((pre ++ uI a b suf).map jy)
 | [], pre2, m + 1, a, b, h1, _ => by
  have hc : cut (p0.map jy) (pre2.length : Int) ((p0.map jy).length : Int) = some [] := by
   unfold cut
   rw [h1, if_pos ⟨by omega, by simp, by omega⟩]; simp
  rw [ik.eq_2, if_neg (by rw [h1]; simp), Option.bind_some, if_neg (by simp), iO (by simp; omega), Option.bind_some, hc, Option.bind_some, iO (by simp; omega), Option.bind_some]
  simp [uI, jy]
 | q :: suf, pre2, m + 1, a, b, h1, h2 => by
  have hp2 : pre2.length ≤ 1000000000 := by rw [h1] at hl; simp at hl; omega
  have hm : p0.map jy = pre2.map jy ++ jy q :: suf.map jy := by rw [h1]; simp
  have hlen : pre2.length = (pre2.map jy).length := by simp
  have hid : idx (p0.map jy) (pre2.length : Int) = some (jy q) := by rw [hm, hlen]; exact gG _ _ _
  rw [ik.eq_2, if_pos (by rw [h1]; simp; omega), hid, Option.bind_some, Option.bind_some]
  unfold uI
  by_cases hle : q.1 ≤ b
  ·rw [if_pos (decide_eq_true (show (jy q).from_ ≤ b from hle)), if_pos hle, Option.bind_some, Option.bind_some, qO pre2 q (by omega)]
   exact Aq hl hpl suf (pre2 ++ [q]) m _ _ (by rw [h1]; simp) (by simp at h2; omega)
  ·have hc : cut (p0.map jy) (pre2.length : Int) ((p0.map jy).length : Int) = some ((q :: suf).map jy) := by
    unfold cut
    rw [h1, if_pos ⟨by omega, by simp; omega, by omega⟩, Int.toNat_natCast, Int.toNat_natCast, List.take_length, List.map_append, show pre2.length = (pre2.map jy).length by simp, List.drop_left]
   have hsl : suf.length ≤ 1000000000 := by rw [h1] at hl; simp at hl; omega
   rw [if_neg (show ¬ decide ((jy q).from_ ≤ b) = true from by rw [decide_eq_true_eq]; exact hle), if_neg hle, iO (by simp; omega), Option.bind_some, hc, Option.bind_some, iO (by simp; omega), Option.bind_some]
   simp [jy]
theorem F4 {N : Nat} {p0 : List (Int × Int)} {p : Int × Int} (hN : 10000000000 ≤ N) (hl : p0.length ≤ 1000000000) : ∀ (suf pre : List (Int × Int)) (m : Nat), p0 = pre ++ suf → suf.length < m → il N (p0.map jy) (jy p) m (pre.map jy) pre.length = some ((pre ++ ut suf p).map jy)
 | [], pre, m + 1, h1, _ => by
  have hp2 : pre.length ≤ 1000000000 := by rw [h1] at hl; simp at hl; omega
  rw [il.eq_2, if_neg (by rw [h1]; simp), Option.bind_some, if_neg (by simp)]
  exact Aq hl hp2 [] pre N p.1 p.2 h1 (by simp; omega)
 | q :: suf, pre, m + 1, h1, h2 => by
  have hp2 : pre.length ≤ 1000000000 := by rw [h1] at hl; simp at hl; omega
  have hm : p0.map jy = pre.map jy ++ jy q :: suf.map jy := by rw [h1]; simp
  have hlen : pre.length = (pre.map jy).length := by simp
  have hid : idx (p0.map jy) (pre.length : Int) = some (jy q) := by rw [hm, hlen]; exact gG _ _ _
  rw [il.eq_2, if_pos (by rw [h1]; simp; omega), hid, Option.bind_some, Option.bind_some]
  unfold ut
  by_cases hlt : q.2 < p.1
  ·rw [if_pos (decide_eq_true (show (jy q).to_ < (jy p).from_ from hlt)), if_pos hlt, Option.bind_some, iO (by simp; omega), Option.bind_some, qO pre q (by omega)]
   have := F4 (p := p) hN hl suf (pre ++ [q]) m (by rw [h1]; simp) (by simp at h2; omega)
   rw [show (pre.map jy ++ [jy q]) = (pre ++ [q]).map jy by simp, this]
   simp
  ·rw [if_neg (show ¬ decide ((jy q).to_ < (jy p).from_) = true from by rw [decide_eq_true_eq]; exact hlt), if_neg hlt]
   exact Aq hl hp2 (q :: suf) pre N p.1 p.2 h1 (by rw [h1] at hl; simp at hl ⊢; omega)
theorem MK {N : Nat} {l : List (Int × Int)} {p : Int × Int} (hN : 10000000000 ≤ N) (hl : l.length ≤ 1000000000) : mr N (l.map jy) (jy p) = some ((ut l p).map jy) :=
 F4 hN hl l [] N rfl (by omega)
theorem Ee {N : Nat} {l : List aI} {y : Int} (hN : 10000000000 ≤ N) (hl : l.length ≤ 100000000) : nM N l y = some ((rR l y).map jy) := by
 have key : ∀ (suf pre : List aI) (m : Nat) (out : List (Int × Int)), l = pre ++ suf → suf.length < m → out.length ≤ pre.length → iB N l y m (out.map jy) pre.length = some ((((suf.filter fun r => decide (r.Y0 ≤ y) && decide (y < r.Y1)).map BH).foldl ut out).map jy) := by
  intro suf
  induction suf with
  | nil =>
   intro pre m out h1 h2 h3
   obtain ⟨m, rfl⟩ : ∃ k, m = k + 1 := ⟨m - 1, by omega⟩
   rw [iB.eq_2, if_neg (by rw [h1]; simp)]; rfl
  | cons r suf ih =>
   intro pre m out h1 h2 h3
   obtain ⟨m, rfl⟩ : ∃ k, m = k + 1 := ⟨m - 1, by omega⟩
   have hpl : pre.length + 1 ≤ 100000000 := by rw [h1] at hl; simp at hl; omega
   have hid : idx l (pre.length : Int) = some r := by rw [h1]; exact gG pre suf r
   rw [iB.eq_2, if_pos (by rw [h1]; exact uH pre suf r), hid, Option.bind_some, Option.bind_some, qO pre r (by omega), List.filter_cons]
   cases hc : (decide (r.Y0 ≤ y) && decide (y < r.Y1))
   ·have hg : (if (decide (r.Y0 ≤ y)) then some (decide (y < r.Y1)) else some false) = some false := by
     cases h1 : decide (r.Y0 ≤ y)
     ·rfl
     ·rw [h1, Bool.true_and] at hc; rw [if_pos rfl, hc]
    rw [hg, Option.bind_some, if_neg (by simp), if_neg (by simp)]
    exact ih (pre ++ [r]) m out (by rw [h1]; simp) (by simp at h2; omega) (by simp; omega)
   ·have hg : (if (decide (r.Y0 ≤ y)) then some (decide (y < r.Y1)) else some false) = some true := by
     rw [Bool.and_eq_true] at hc
     rw [if_pos hc.1, hc.2]
    have hj := MK (N := N) (l := out) (p := BH r) hN (by omega)
    rw [hg, Option.bind_some, if_pos rfl, if_pos rfl, Option.bind_some, Option.bind_some]
    show (mr N (out.map jy) (jy (BH r))).bind _ = _
    rw [hj, Option.bind_some, List.map_cons, List.foldl_cons]
    have := Cf out (BH r)
    exact ih (pre ++ [r]) m _ (by rw [h1]; simp) (by simp at h2; omega) (by simp; omega)
 exact key l [] N [] rfl (by omega) (by simp)
theorem GH {N : Nat} {l m : List (Int × Int)} (hN : 10000000000 ≤ N) (hl : l.length ≤ 1000000000) : jF N (l.map jy) (m.map jy) = some (decide (l = m)) := by
 have key : ∀ (s1 s2 p1 p2 : List (Int × Int)) (n : Nat), l = p1 ++ s1 → m = p2 ++ s2 → p1.length = p2.length → s1.length = s2.length → s1.length < n → gy (l.map jy) (m.map jy) n p1.length = some (decide (s1 = s2)) := by
  intro s1
  induction s1 with
  | nil =>
   intro s2 p1 p2 n h1 h2 h3 h4 h5
   obtain ⟨n, rfl⟩ : ∃ k, n = k + 1 := ⟨n - 1, by omega⟩
   have : s2 = [] := List.eq_nil_of_length_eq_zero h4.symm
   subst this
   rw [gy.eq_2, if_neg (by rw [h1]; simp)]; rfl
  | cons q s1 ih =>
   intro s2 p1 p2 n h1 h2 h3 h4 h5
   obtain ⟨n, rfl⟩ : ∃ k, n = k + 1 := ⟨n - 1, by omega⟩
   cases s2 with
   | nil => simp at h4
   | cons q2 s2 =>
    have hp : p1.length ≤ 1000000000 := by rw [h1] at hl; simp at hl; omega
    have e1 : idx (l.map jy) (p1.length : Int) = some (jy q) := by
     rw [h1, List.map_append, List.map_cons, show p1.length = (p1.map jy).length by simp]; exact gG _ _ _
    have e2 : idx (m.map jy) (p1.length : Int) = some (jy q2) := by
     rw [h2, List.map_append, List.map_cons, h3, show p2.length = (p2.map jy).length by simp]; exact gG _ _ _
    rw [gy.eq_2, if_pos (by rw [h1]; simp; omega), e1, Option.bind_some, e2, Option.bind_some, qO p1 q (by omega)]
    by_cases hq : q = q2
    ·subst hq
     rw [CK.2 rfl, if_neg (by simp), ih s2 (p1 ++ [q]) (p2 ++ [q]) n (by rw [h1]; simp) (by rw [h2]; simp) (by simp; omega) (by simpa using h4) (by simp at h5; omega)]
     simp
    ·have : yg (jy q) (jy q2) = false := by
      rw [Bool.eq_false_iff]
      intro h
      have := CK.1 h
      unfold jy at this
      injection this with a b
      exact hq (by obtain ⟨x, y⟩ := q; obtain ⟨z, w⟩ := q2; simp only at a b; rw [a, b])
     rw [this, if_pos (by simp)]
     simp [hq]
 unfold jF
 by_cases h : l.length = m.length
 ·rw [if_neg (by simp; omega)]
  exact key l m [] [] N rfl rfl rfl h (by omega)
 ·rw [if_pos (by simp; omega)]
  have : l ≠ m := fun e => h (by rw [e])
  simp [this]
theorem JN {N : Nat} {l : List Bd} {b : Bd} (hN : 10000000000 ≤ N) (hl : l.length ≤ 1000000000) (hs : ∀ c ∈ l, c.2.2.length ≤ 1000000000) : ky N (l.map qm) (qm b) = some ((pushB l b).map qm) := by
 unfold ky
 by_cases he : b.2.2 = []
 ·rw [if_pos (by show (((b.2.2.map jy).length : Int) == 0) = true; rw [he]; rfl), oN he]
 ·have hpos : 0 < b.2.2.length := List.length_pos_iff.2 he
  rw [if_neg (by show ¬ (((b.2.2.map jy).length : Int) == 0) = true; simp; exact he)]
  rcases List.eq_nil_or_concat l with rfl | ⟨j, c, h⟩
  ·rw [xu he, if_neg (by simp), Option.bind_some, if_neg (by simp), Option.bind_some, if_neg (by simp)]
   rfl
  ·rw [List.concat_eq_append] at h
   subst h
   simp only [List.length_append, List.length_singleton] at hl
   have hm : (j ++ [c]).map qm = j.map qm ++ qm c :: [] := by simp
   have hw : bn ((((j ++ [c]).map qm).length : Int) - 1) = ((j.map qm).length : Int) := by
    rw [bR (by first | (simp; done) | (simp; omega)) (by first | (simp; done) | (simp; omega))]; simp
   have hid : idx ((j ++ [c]).map qm) ((j.map qm).length : Int) = some (qm c) := by rw [hm]; exact gG _ [] _
   have hss := GH (N := N) (l := c.2.2) (m := b.2.2) hN (hs c (by simp))
   rw [qR he, hw, if_pos (by first | (simp; done) | (simp; omega)), hid, Option.bind_some, Option.bind_some, Option.bind_some]
   by_cases h1 : c.2.1 = b.1
   ·have e1 : ((qm c).to_ == (qm b).from_) = true := by simpa [qm] using h1
    rw [e1, if_pos rfl]
    show (((jF N (c.2.2.map jy) (b.2.2.map jy)).bind fun Tk => some Tk).bind _) = _
    rw [hss, Option.bind_some, Option.bind_some]
    by_cases h2 : c.2.2 = b.2.2
    ·rw [decide_eq_true h2, if_pos rfl, if_pos ⟨h1, h2⟩]
     have hset : sets ((j ++ [c]).map qm) ((j.map qm).length : Int) (bY.mk (qm c).from_ (qm b).to_ (qm c).spans) = some ((j ++ [(c.1, b.2.1, c.2.2)]).map qm) := by
      unfold sets
      rw [if_pos ⟨by omega, by simp⟩, hm]
      simp [qm]
     rw [Option.bind_some, hset]; rfl
    ·rw [decide_eq_false h2, if_neg (by simp), if_neg (fun h => h2 h.2), iO (by simp; omega), Option.bind_some]
     simp
   ·have e1 : ((qm c).to_ == (qm b).from_) = false := by simpa [qm] using h1
    rw [e1, if_neg (by simp), Option.bind_some, if_neg (by simp), if_neg (fun h => h1 h.1), iO (by simp; omega), Option.bind_some]
    simp
open PX
def fD (l : List aI) : List Int := l.flatMap fun r => [r.X0, r.X1]
theorem tJ {l : List aI} {x : Int} : x ∈ fD l ↔ ∃ r ∈ l, x = r.X0 ∨ x = r.X1 := by
 unfold fD
 simp [List.mem_flatMap]
def gt (l : List Int) (i : Nat) : Int := l.getD i 0
theorem Cg {l : List Int} {i : Nat} (h : i < l.length) : idx l (i : Int) = some (gt l i) := by
 rw [sI h]
 unfold gt
 rw [List.getD_eq_getElem?_getD, List.getElem?_eq_getElem h]; rfl
theorem MN {N : Nat} {l : List (Int × Int)} {x : Int} (hN : 10000000000 ≤ N) (hl : l.length ≤ 1000000000) : ∃ b, nR N (l.map jy) x = some b ∧ (b = true ↔ nI x l) := by
 have key : ∀ (suf pre : List (Int × Int)) (m : Nat), l = pre ++ suf → suf.length < m → ∃ b, iq (l.map jy) x m pre.length = some b ∧ (b = true ↔ nI x suf) := by
  intro suf
  induction suf with
  | nil =>
   intro pre m h1 h2
   obtain ⟨m, rfl⟩ : ∃ k, m = k + 1 := ⟨m - 1, by omega⟩
   refine ⟨false, ?_, by simp [jZ]⟩
   rw [iq.eq_2, if_neg (by rw [h1]; simp)]
  | cons p suf ih =>
   intro pre m h1 h2
   obtain ⟨m, rfl⟩ : ∃ k, m = k + 1 := ⟨m - 1, by omega⟩
   have hpl : pre.length + 1 ≤ 1000000000 := by rw [h1] at hl; simp at hl; omega
   have hid : idx (l.map jy) (pre.length : Int) = some (jy p) := by
    have := gG (pre.map jy) (suf.map jy) (jy p)
    rw [List.length_map] at this
    rw [h1, List.map_append, List.map_cons]; exact this
   have e1 : (jy p).from_ = p.1 := rfl
   have e2 : (jy p).to_ = p.2 := rfl
   obtain ⟨b, b1, b2⟩ := ih (pre ++ [p]) m (by rw [h1]; simp) (by simp at h2; omega)
   rw [iq.eq_2, if_pos (by rw [h1, List.length_map]; exact uH pre suf p), hid, Option.bind_some, Option.bind_some, e1, e2]
   have hg : (if decide (p.1 ≤ x) = true then some (decide (x < p.2)) else some false) = some (decide (p.1 ≤ x ∧ x < p.2)) := by
    by_cases h3 : p.1 ≤ x <;> simp [h3]
   rw [hg, Option.bind_some]
   by_cases h3 : p.1 ≤ x ∧ x < p.2
   ·rw [if_pos (by simpa using h3)]
    exact ⟨true, rfl, by simp [kC, h3]⟩
   ·rw [if_neg (by simpa using h3), qO pre p (by omega)]
    refine ⟨b, b1, ?_⟩
    rw [b2, kC]
    exact ⟨.inr, fun h => h.resolve_left h3⟩
 exact key l [] N rfl (by omega)
theorem MR {N : Nat} {l : List aI} (hN : 10000000000 ≤ N) (hl : l.length ≤ 100000000) : lT N l = dw N l (dH (fD l)) (dH (dF l)) N [] 1 := by
 have key : ∀ (suf pre : List aI) (m : Nat) (out out' : List Int), l = pre ++ suf → suf.length < m → out.Pairwise (fun a b => a < b) → (∀ z, z ∈ out ↔ z ∈ fD pre) → out.length ≤ 2 * pre.length → out'.Pairwise (fun a b => a < b) → (∀ z, z ∈ out' ↔ z ∈ dF pre) → out'.length ≤ 2 * pre.length → gV N l m out out' pre.length = dw N l (dH (fD l)) (dH (dF l)) N [] 1 := by
  intro suf
  induction suf with
  | nil =>
   intro pre m out out' h1 h2 h3 h4 h5 h3' h4' h5'
   obtain ⟨m, rfl⟩ : ∃ k, m = k + 1 := ⟨m - 1, by omega⟩
   rw [List.append_nil] at h1
   subst h1
   rw [gV.eq_2, if_neg (by simp)]
   rw [uk h3 (gZ (fD l)) fun z => by rw [lU, h4], uk h3' (gZ (dF l)) fun z => by rw [lU, h4']]
  | cons r suf ih =>
   intro pre m out out' h1 h2 h3 h4 h5 h3' h4' h5'
   obtain ⟨m, rfl⟩ : ∃ k, m = k + 1 := ⟨m - 1, by omega⟩
   have hpl : pre.length + 1 ≤ 100000000 := by rw [h1] at hl; simp at hl; omega
   have hid : idx l (pre.length : Int) = some r := by rw [h1]; exact gG pre suf r
   obtain ⟨o1, p1, p2, p3, p4⟩ := BS (x := r.X0) hN h3 (by omega)
   obtain ⟨o2, q1, q2, q3, q4⟩ := BS (x := r.X1) hN p2 (by omega)
   obtain ⟨o3, s1, s2, s3, s4⟩ := BS (x := r.Y0) hN h3' (by omega)
   obtain ⟨o4, t1, t2, t3, t4⟩ := BS (x := r.Y1) hN s2 (by omega)
   rw [gV.eq_2, if_pos (by rw [h1]; exact uH pre suf r), hid, Option.bind_some, Option.bind_some, p1, Option.bind_some, q1, Option.bind_some, Option.bind_some, Option.bind_some, s1, Option.bind_some, t1, Option.bind_some, qO pre r (by omega)]
   refine ih (pre ++ [r]) m o2 o4 (by rw [h1]; simp) (by simp at h2; omega) q2 (fun z => ?_) (by simp; omega) t2 (fun z => ?_) (by simp; omega)
   ·rw [q3, p3, h4, tJ, tJ]
    constructor
    ·rintro (h | h | ⟨s, hs, h⟩)
     ·exact ⟨r, by simp, .inr h⟩
     ·exact ⟨r, by simp, .inl h⟩
     ·exact ⟨s, by simp [hs], h⟩
    ·rintro ⟨s, hs, h⟩
     rcases List.mem_append.1 hs with hs | hs
     ·exact .inr (.inr ⟨s, hs, h⟩)
     ·simp at hs; subst hs
      rcases h with h | h
      ·exact .inr (.inl h)
      ·exact .inl h
   ·rw [t3, s3, h4', mP, mP]
    constructor
    ·rintro (h | h | ⟨s, hs, h⟩)
     ·exact ⟨r, by simp, .inr h⟩
     ·exact ⟨r, by simp, .inl h⟩
     ·exact ⟨s, by simp [hs], h⟩
    ·rintro ⟨s, hs, h⟩
     rcases List.mem_append.1 hs with hs | hs
     ·exact .inr (.inr ⟨s, hs, h⟩)
     ·simp at hs; subst hs
      rcases h with h | h
      ·exact .inr (.inl h)
      ·exact .inl h
 exact key l [] N [] [] rfl (by omega) .nil (fun z => by simp [fD]) (by simp) .nil (fun z => by simp [dF]) (by simp)
def sN (l : List aI) (xs : List Int) (y : Int) (k : Nat) : List Bool := (List.range xs.length).map fun i => decide (i < k) && ve l (gt xs i) y
theorem xD {l : List aI} {xs : List Int} {y : Int} {k : Nat} : (sN l xs y k).length = xs.length := by unfold sN; simp
theorem Bp {l : List aI} {xs : List Int} {y : Int} {k i : Nat} (h : i < xs.length) : (sN l xs y k)[i]? = some (decide (i < k) && ve l (gt xs i) y) := by
 unfold sN
 rw [List.getElem?_map, List.getElem?_range h]; rfl
theorem MS {l : List aI} {xs : List Int} {y : Int} {k : Nat} (h : k < xs.length) : (sN l xs y k).set k (ve l (gt xs k) y) = sN l xs y (k + 1) := by
 apply List.ext_getElem?
 intro i
 rw [List.getElem?_set]
 by_cases hi : i < xs.length
 ·by_cases hk : k = i
  ·subst hk
   rw [if_pos rfl, if_pos (by rw [xD]; exact hi), Bp hi]
   simp
  ·rw [if_neg hk, Bp hi, Bp hi]
   have : decide (i < k) = decide (i < k + 1) := by rw [decide_eq_decide]; omega
   rw [this]
 ·have h1 : (sN l xs y k)[i]? = none := List.getElem?_eq_none (by rw [xD]; omega)
  have h2 : (sN l xs y (k + 1))[i]? = none := List.getElem?_eq_none (by rw [xD]; omega)
  rw [h1, h2, if_neg (by omega)]
theorem Bo {N : Nat} {l : List aI} {xs : List Int} {y : Int} {out : List (List Bool)} {j : Int} {K : List (List Bool) → Int → Option rD} (hN : 10000000000 ≤ N) (hl : l.length ≤ 100000000) (hr : ∀ r ∈ l, r.X0 < r.X1) (hx : xs.length ≤ 1000000000) (ho : out.length < 1000000000) :
  ∀ (n k m : Nat), k + 1 + n = xs.length → n < m → gm N xs out j K ((rR l y).map jy) m (sN l xs y k) ((k + 1 : Nat) : Int) = K (out ++ [sN l xs y (xs.length - 1)]) (bn (j + 1))
 | _, _, 0, _, hm => absurd hm (Nat.not_lt_zero _)
 | 0, k, m + 1, hk, _ => by
  rw [gm.eq_2, if_neg (by simp; omega), iO (by simp; omega), Option.bind_some, show xs.length - 1 = k from by omega]
 | n + 1, k, m + 1, hk, hm => by
  have e1 : bn (((k + 1 : Nat) : Int) - 1) = (k : Int) := by rw [bR (by omega) (by omega)]; omega
  have e2 : bn (((k + 1 : Nat) : Int) + 1) = ((k + 1 + 1 : Nat) : Int) := by rw [bR (by omega) (by omega)]; omega
  have hrl := Ef l y
  obtain ⟨b, b1, b2⟩ := MN (l := rR l y) (x := gt xs k) hN (by omega)
  have hb : b = ve l (gt xs k) y := by rw [Bool.eq_iff_iff, b2, xz]; exact (zJ hr y).2 _
  have hs : sets (sN l xs y k) (k : Int) b = some (sN l xs y (k + 1)) := by
   unfold sets
   rw [if_pos ⟨by omega, by rw [Int.toNat_natCast, xD]; omega⟩, Int.toNat_natCast, hb, MS (by omega)]
  rw [gm.eq_2, if_pos (by simp; omega), e1, Cg (by omega), Option.bind_some, b1, Option.bind_some, sI (l := sN l xs y k) (i := k) (by rw [xD]; omega), Option.bind_some, hs, Option.bind_some, e2]
  exact Bo hN hl hr hx ho n (k + 1) m (by omega) (by omega)
def qW (l : List aI) (xs ys : List Int) (k : Nat) : List (List Bool) := (List.range k).map fun j => sN l xs (gt ys j) (xs.length - 1)
theorem EM {N : Nat} {l : List aI} {xs ys : List Int} (hN : 10000000000 ≤ N) (hl : l.length ≤ 100000000) (hr : ∀ r ∈ l, r.X0 < r.X1) (hx : 0 < xs.length ∧ xs.length ≤ 1000000000) (hy : ys.length ≤ 100000000) :
  ∀ (n k m : Nat), k + 1 + n = ys.length → n < m → dw N l xs ys m (qW l xs ys k) ((k + 1 : Nat) : Int) = some ⟨xs, ys, qW l xs ys (ys.length - 1)⟩
 | _, _, 0, _, hm => absurd hm (Nat.not_lt_zero _)
 | 0, k, m + 1, hk, _ => by
  rw [dw.eq_2, if_neg (by simp; omega), show ys.length - 1 = k from by omega]
 | n + 1, k, m + 1, hk, hm => by
  have e1 : bn (((k + 1 : Nat) : Int) - 1) = (k : Int) := by rw [bR (by omega) (by omega)]; omega
  have e2 : bn (((k + 1 : Nat) : Int) + 1) = ((k + 1 + 1 : Nat) : Int) := by rw [bR (by omega) (by omega)]; omega
  have hmk : (MI false (xs.length : Int)) = some (sN l xs (gt ys k) 0) := by
   unfold MI sN
   rw [if_pos (by omega)]
   simp
   rw [List.map_const', List.length_range]
  have hlen : (qW l xs ys k).length = k := by unfold qW; simp
  have := Bo (N := N) (l := l) (xs := xs) (y := gt ys k) (out := qW l xs ys k) (j := ((k + 1 : Nat) : Int)) (K := dw N l xs ys m) hN hl hr hx.2 (by omega) (xs.length - 1) 0 N (by omega) (by omega)
  rw [dw.eq_2, if_pos (by simp; omega), e1, Cg (by omega), Option.bind_some, Ee hN hl, Option.bind_some, hmk, Option.bind_some]
  show gm N xs _ _ _ _ N _ ((0 + 1 : Nat) : Int) = _
  rw [this, e2]
  have e3 : qW l xs ys k ++ [sN l xs (gt ys k) (xs.length - 1)] = qW l xs ys (k + 1) := by unfold qW; rw [List.range_succ, List.map_append]; rfl
  rw [e3]
  exact EM hN hl hr hx hy n (k + 1) m (by omega) (by omega)
theorem O5 {l : List aI} (h : l ≠ []) : 0 < (dH (fD l)).length ∧ 0 < (dH (dF l)).length := by
 obtain ⟨r, l, rfl⟩ := List.exists_cons_of_ne_nil h
 exact ⟨List.length_pos_of_mem ((lU _ r.X0).2 (tJ.2 ⟨r, by simp, .inl rfl⟩)), List.length_pos_of_mem ((lU _ r.Y0).2 (mP.2 ⟨r, by simp, .inl rfl⟩))⟩
theorem zB : ∀ l : List aI, (fD l).length = 2 * l.length
 | [] => rfl
 | r :: l => by
  have : fD (r :: l) = [r.X0, r.X1] ++ fD l := rfl
  rw [this, List.length_append, zB l]; simp; omega
theorem cells_ok {N : Nat} {l : List aI} (hN : 10000000000 ≤ N) (hl : l.length ≤ 10000000) (hr : ∀ r ∈ l, r.X0 < r.X1) : lT N l = some ⟨dH (fD l), dH (dF l), qW l (dH (fD l)) (dH (dF l)) ((dH (dF l)).length - 1)⟩ := by
 rw [MR hN (by omega)]
 have h1 := sD (fD l)
 have h2 := sD (dF l)
 rw [zB] at h1
 rw [tC] at h2
 by_cases hn : l = []
 ·subst hn
  obtain ⟨m, rfl⟩ : ∃ k, N = k + 1 := ⟨N - 1, by omega⟩
  have e1 : dH (fD []) = [] := List.eq_nil_of_length_eq_zero (by simp at h1; simpa using h1)
  have e2 : dH (dF []) = [] := List.eq_nil_of_length_eq_zero (by simp at h2; simpa using h2)
  rw [dw.eq_2, e1, e2]
  rfl
 ·obtain ⟨p1, p2⟩ := O5 hn
  exact EM (N := N) hN (by omega) hr ⟨p1, by omega⟩ (by omega) ((dH (dF l)).length - 1) 0 N (by omega) (by omega)
def toR (s : Sd) : aG := ⟨iw s.1.p, iw (pG s)⟩
theorem KW {s : Sd} {a b : aA} (h : toS s = ⟨a, b⟩) : toR s = ⟨a, b⟩ := by
 have h1 := congrArg fE.from_ h
 have h2 := congrArg fE.to_ h
 show (⟨(toS s).from_, (toS s).to_⟩ : aG) = _
 rw [h1, h2]
def qI (l : List aI) (xs ys : List Int) (i j : Int) : Bool := decide (0 ≤ j ∧ j < (ys.length : Int) - 1 ∧ 0 ≤ i ∧ i < (xs.length : Int) - 1) && ve l (gt xs i.toNat) (gt ys j.toNat)
def cellS (l : List aI) (xs ys : List Int) (j i : Nat) : List Sd :=
 if qI l xs ys i j = true then
  (if qI l xs ys i (j - 1) = true then [] else [M8 (gt ys j) (gt xs i, gt xs (i + 1))]) ++ (if qI l xs ys (i + 1) j = true then [] else [K8 (gt ys j) (gt ys (j + 1)) (gt xs i, gt xs (i + 1))])
  ++ (if qI l xs ys i (j + 1) = true then [] else [JU (gt ys (j + 1)) (gt xs i, gt xs (i + 1))]) ++ (if qI l xs ys (i - 1) j = true then [] else [JA (gt ys j) (gt ys (j + 1)) (gt xs i, gt xs (i + 1))])
 else []
theorem Jf {l : List aI} {xs ys : List Int} {j i : Nat} (h : qI l xs ys i j = true) : cellS l xs ys j i = (if qI l xs ys i (j - 1) = true then [] else [M8 (gt ys j) (gt xs i, gt xs (i + 1))]) ++ (if qI l xs ys (i + 1) j = true then [] else [K8 (gt ys j) (gt ys (j + 1)) (gt xs i, gt xs (i + 1))])
  ++ (if qI l xs ys i (j + 1) = true then [] else [JU (gt ys (j + 1)) (gt xs i, gt xs (i + 1))]) ++ (if qI l xs ys (i - 1) j = true then [] else [JA (gt ys j) (gt ys (j + 1)) (gt xs i, gt xs (i + 1))]) := if_pos h
theorem Gi {l : List aI} {xs ys : List Int} {j i : Nat} (h : ¬ qI l xs ys i j = true) : cellS l xs ys j i = [] := if_neg h
def oD (l : List aI) (xs ys : List Int) : rD := ⟨xs, ys, qW l xs ys (ys.length - 1)⟩
theorem Gg {l : List aI} {xs ys : List Int} {k j : Nat} (h : j < k) : idx (qW l xs ys k) (j : Int) = some (sN l xs (gt ys j) (xs.length - 1)) := by
 unfold idx qW
 rw [if_pos (by omega), Int.toNat_natCast, List.getElem?_map, List.getElem?_range h]; rfl
theorem Jg {l : List aI} {xs : List Int} {y : Int} {i : Nat} (h : i < xs.length - 1) : idx (sN l xs y (xs.length - 1)) (i : Int) = some (ve l (gt xs i) y) := by
 unfold idx
 rw [if_pos (by omega), Int.toNat_natCast, Bp (by omega)]
 simp [h]
theorem G7 {l : List aI} {xs ys : List Int} (hx : xs.length ≤ 1000000000) (i j : Int) : gU (oD l xs ys) i j = some (qI l xs ys i j) := by
 unfold gU qI
 have e1 : bn (((oD l xs ys).xs.length : Int) - 1) = (xs.length : Int) - 1 := by
  show bn ((xs.length : Int) - 1) = _
  exact bR (by omega) (by omega)
 have e2 : ((oD l xs ys).in_.length : Int) = ((ys.length - 1 : Nat) : Int) := by unfold oD qW; simp
 rw [e1, e2]
 by_cases h : 0 ≤ j ∧ j < (ys.length : Int) - 1 ∧ 0 ≤ i ∧ i < (xs.length : Int) - 1
 ·have hc : ((((decide (0 ≤ j)) && (decide (j < ((ys.length - 1 : Nat) : Int)))) && (decide (0 ≤ i))) && (decide (i < ((xs.length : Int) - 1)))) = true := by
   simp only [Bool.and_eq_true, decide_eq_true_eq]
   omega
  obtain ⟨i', rfl⟩ : ∃ n : Nat, i = (n : Int) := ⟨i.toNat, by omega⟩
  obtain ⟨j', rfl⟩ : ∃ n : Nat, j = (n : Int) := ⟨j.toNat, by omega⟩
  rw [if_pos hc]
  show ((idx (qW l xs ys (ys.length - 1)) (j' : Int)).bind _).bind _ = _
  rw [Gg (by omega), Option.bind_some, Jg (by omega), Option.bind_some, Option.bind_some]
  simp [h]
 ·have hc : ¬ ((((decide (0 ≤ j)) && (decide (j < ((ys.length - 1 : Nat) : Int)))) && (decide (0 ≤ i))) && (decide (i < ((xs.length : Int) - 1)))) = true := by
   simp only [Bool.and_eq_true, decide_eq_true_eq]
   omega
  rw [if_neg hc, Option.bind_some, decide_eq_false h, Bool.false_and]
theorem RQ {y a b : Int} (h : a < b) : toR (M8 y (a, b)) = ⟨⟨a, y⟩, ⟨b, y⟩⟩ := KW (Qi h)
theorem RN {y a b : Int} (h : a < b) : toR (JU y (a, b)) = ⟨⟨b, y⟩, ⟨a, y⟩⟩ := KW (Qf h)
theorem RP {y0 y1 a b : Int} (h : y0 < y1) : toR (K8 y0 y1 (a, b)) = ⟨⟨b, y0⟩, ⟨b, y1⟩⟩ := KW (Qh h)
theorem QF {y0 y1 a b : Int} (h : y0 < y1) : toR (JA y0 y1 (a, b)) = ⟨⟨a, y1⟩, ⟨a, y0⟩⟩ := KW (Qg h)
theorem uu {l : List Int} (h : l.Pairwise fun a b => a < b) {i j : Nat} (hij : i < j) (hj : j < l.length) : gt l i < gt l j := by
 unfold gt
 rw [List.getD_eq_getElem?_getD, List.getD_eq_getElem?_getD, List.getElem?_eq_getElem (by omega), List.getElem?_eq_getElem hj]
 exact List.pairwise_iff_getElem.1 h i j (by omega) hj hij
theorem Gj {l : List aI} {xs ys : List Int} {j i : Nat} : (cellS l xs ys j i).length ≤ 4 := by
 unfold cellS
 split
 ·simp only [List.length_append]
  have h : ∀ (c : Prop) [Decidable c] (s : Sd), (if c then [] else [s]).length ≤ 1 := fun c _ s => by split <;> simp
  have h1 := h (qI l xs ys i (j - 1) = true) (M8 (gt ys j) (gt xs i, gt xs (i + 1)))
  have h2 := h (qI l xs ys (i + 1) j = true) (K8 (gt ys j) (gt ys (j + 1)) (gt xs i, gt xs (i + 1)))
  have h3 := h (qI l xs ys i (j + 1) = true) (JU (gt ys (j + 1)) (gt xs i, gt xs (i + 1)))
  have h4 := h (qI l xs ys (i - 1) j = true) (JA (gt ys j) (gt ys (j + 1)) (gt xs i, gt xs (i + 1)))
  omega
 ·simp
section
variable {l : List aI} {xs ys : List Int} {K : List aG → Int → Option (List aG)}
theorem PY {out : List Sd} {s : Sd} {r : aG} (h : toR s = r) (ho : out.length < 1000000000) : sj (out.map toR) [r] = some ((out ++ [s]).map toR) := by
 rw [iO (by simp; omega), List.map_append, ← h]; rfl
theorem Gh (hxs : xs.Pairwise fun a b => a < b) (hys : ys.Pairwise fun a b => a < b) (hx : xs.length ≤ 1000000000) (hy : ys.length ≤ 1000000000) {j : Nat} (hj : j + 1 < ys.length) :
  ∀ (n i m : Nat) (out : List Sd), i + n = xs.length - 1 → n < m → out.length + 4 * n ≤ 100000000 → bF (oD l xs ys) (j : Int) K m (out.map toR) (i : Int) = K ((out ++ (List.range' i n).flatMap (cellS l xs ys j)).map toR) (((j + 1 : Nat)) : Int)
 | _, _, 0, _, _, hm, _ => absurd hm (Nat.not_lt_zero _)
 | 0, i, m + 1, out, hi, _, _ => by
  have e1 : bn (((oD l xs ys).xs.length : Int) - 1) = (xs.length : Int) - 1 := by
   show bn ((xs.length : Int) - 1) = _
   exact bR (by omega) (by omega)
  have e2 : bn ((j : Int) + 1) = ((j + 1 : Nat) : Int) := by rw [bR (by omega) (by omega)]; omega
  rw [bF.eq_2, e1, e2, if_neg (by simp; omega)]; simp
 | n + 1, i, m + 1, out, hi, hm, ho => by
  have e1 : bn (((oD l xs ys).xs.length : Int) - 1) = (xs.length : Int) - 1 := by
   show bn ((xs.length : Int) - 1) = _
   exact bR (by omega) (by omega)
  have e2 : bn ((i : Int) + 1) = ((i + 1 : Nat) : Int) := by rw [bR (by omega) (by omega)]; omega
  have e3 : bn ((i : Int) - 1) = (i : Int) - 1 := bR (by omega) (by omega)
  have e4 : bn ((j : Int) + 1) = ((j + 1 : Nat) : Int) := by rw [bR (by omega) (by omega)]; omega
  have e5 : bn ((j : Int) - 1) = (j : Int) - 1 := bR (by omega) (by omega)
  have hlx : gt xs i < gt xs (i + 1) := uu hxs (by omega) (by omega)
  have hly : gt ys j < gt ys (j + 1) := uu hys (by omega) (by omega)
  have hcl := Gj (l := l) (xs := xs) (ys := ys) (j := j) (i := i)
  have ih := Gh hxs hys hx hy hj n (i + 1) m (out ++ cellS l xs ys j i) (by omega) (by omega) (by simp; omega)
  rw [List.append_assoc, ← List.flatMap_cons, ← List.range'_succ] at ih
  rw [bF.eq_2, e1, if_pos (by simp; omega)]
  show (idx (qW l xs ys (ys.length - 1)) (j : Int)).bind _ = _
  rw [Gg (by omega), Option.bind_some, Jg (by omega), Option.bind_some, e2]
  have hin : qI l xs ys (i : Int) (j : Int) = ve l (gt xs i) (gt ys j) := by
   unfold qI
   rw [decide_eq_true (by omega), Bool.true_and, Int.toNat_natCast, Int.toNat_natCast]
  by_cases hc : ve l (gt xs i) (gt ys j) = true
  ·rw [if_neg (by simp [hc])]
   show (idx xs (i : Int)).bind _ = _
   rw [Cg (by omega), Option.bind_some]
   show (idx xs ((i + 1 : Nat) : Int)).bind _ = _
   rw [Cg (by omega), Option.bind_some]
   show (idx ys (j : Int)).bind _ = _
   rw [Cg (by omega), Option.bind_some, e4]
   show (idx ys ((j + 1 : Nat) : Int)).bind _ = _
   rw [Cg (by omega), Option.bind_some, e5, G7 hx, Option.bind_some]
   rw [Jf (by rw [hin]; exact hc)] at ih
   have a4 : ∀ o : List Sd, o.length + 1 ≤ 1000000000 → iU (oD l xs ys) (j : Int) (i : Int) (bF (oD l xs ys) (j : Int) K m) (gt xs i) (gt ys j) (gt ys (j + 1)) (o.map toR) = bF (oD l xs ys) (j : Int) K m ((o ++ (if qI l xs ys ((i : Int) - 1) j = true then [] else [JA (gt ys j) (gt ys (j + 1)) (gt xs i, gt xs (i + 1))])).map toR) ((i + 1 : Nat) : Int) := fun o ho => by
    unfold iU
    rw [e3, e2, G7 hx, Option.bind_some]
    cases qI l xs ys ((i : Int) - 1) j
    ·rw [if_pos (show (!false) = true from rfl), PY (QF hly) (by omega), Option.bind_some, if_neg (show ¬ (false = true) from by simp)]
    ·rw [if_neg (show ¬ (!true) = true from by simp), if_pos rfl, List.append_nil]
   have a3 : ∀ o : List Sd, o.length + 2 ≤ 1000000000 → iT (oD l xs ys) (j : Int) (i : Int) (bF (oD l xs ys) (j : Int) K m) (gt xs i) (gt xs (i + 1)) (gt ys j) (gt ys (j + 1)) (o.map toR) = bF (oD l xs ys) (j : Int) K m ((o ++ (if qI l xs ys (i : Int) ((j : Int) + 1) = true then [] else [JU (gt ys (j + 1)) (gt xs i, gt xs (i + 1))]) ++ (if qI l xs ys ((i : Int) - 1) j = true then [] else [JA (gt ys j) (gt ys (j + 1)) (gt xs i, gt xs (i + 1))])).map toR) ((i + 1 : Nat) : Int) := fun o ho => by
    unfold iT
    have ec : ((j + 1 : Nat) : Int) = (j : Int) + 1 := by omega
    rw [e4, G7 hx, Option.bind_some, ec]
    cases qI l xs ys (i : Int) ((j : Int) + 1)
    ·rw [if_pos (show (!false) = true from rfl), PY (RN hlx) (by omega), Option.bind_some, a4 _ (by simp; omega), if_neg (show ¬ (false = true) from by simp)]
    ·rw [if_neg (show ¬ (!true) = true from by simp), a4 _ (by omega), if_pos rfl, List.append_nil]
   have a2 : ∀ o : List Sd, o.length + 3 ≤ 1000000000 → iR (oD l xs ys) (j : Int) (i : Int) (bF (oD l xs ys) (j : Int) K m) (gt xs i) (gt xs (i + 1)) (gt ys j) (gt ys (j + 1)) (o.map toR) = bF (oD l xs ys) (j : Int) K m ((o ++ (if qI l xs ys ((i : Int) + 1) j = true then [] else [K8 (gt ys j) (gt ys (j + 1)) (gt xs i, gt xs (i + 1))]) ++ (if qI l xs ys (i : Int) ((j : Int) + 1) = true then [] else [JU (gt ys (j + 1)) (gt xs i, gt xs (i + 1))]) ++ (if qI l xs ys ((i : Int) - 1) j = true then [] else [JA (gt ys j) (gt ys (j + 1)) (gt xs i, gt xs (i + 1))])).map toR) ((i + 1 : Nat) : Int) := fun o ho => by
    unfold iR
    have ec : ((i + 1 : Nat) : Int) = (i : Int) + 1 := by omega
    rw [e2, G7 hx, Option.bind_some, ec]
    cases qI l xs ys ((i : Int) + 1) j
    ·rw [if_pos (show (!false) = true from rfl), PY (RP hly) (by omega), Option.bind_some, a3 _ (by simp; omega), if_neg (show ¬ (false = true) from by simp), ec]
    ·rw [if_neg (show ¬ (!true) = true from by simp), a3 _ (by omega), if_pos rfl, List.append_nil, ec]
   have hol : out.length + 4 ≤ 1000000000 := by omega
   cases hd : qI l xs ys (i : Int) ((j : Int) - 1)
   ·rw [if_pos (show (!false) = true from rfl), PY (RQ hlx) (by omega), Option.bind_some, a2 _ (by simp; omega), ← ih, hd]
    simp only [List.append_assoc, Bool.false_eq_true, if_false]
   ·rw [if_neg (show ¬ (!true) = true from by simp), a2 _ (by omega), ← ih, hd]
    simp only [List.append_assoc, if_true, List.nil_append]
  ·rw [if_pos (by simpa using hc)]
   rw [Gi (by rw [hin]; exact hc), List.append_nil] at ih
   exact ih
theorem Af {j i n : Nat} : ((List.range' i n).flatMap (cellS l xs ys j)).length ≤ 4 * n := by
 induction n generalizing i with
 | zero => simp
 | succ n ih =>
  rw [List.range'_succ, List.flatMap_cons, List.length_append]
  have h1 := Gj (l := l) (xs := xs) (ys := ys) (j := j) (i := i)
  have h2 := ih (i := i + 1)
  omega
end
def sG (l : List aI) (xs ys : List Int) (j : Nat) : List Sd := (List.range' 0 (xs.length - 1)).flatMap (cellS l xs ys j)
def vO (l : List aI) (xs ys : List Int) : List Sd := (List.range' 0 (ys.length - 1)).flatMap (sG l xs ys)
section
variable {l : List aI} {xs ys : List Int}
theorem Cz {N : Nat} (hN : 10000000000 ≤ N) (hxs : xs.Pairwise fun a b => a < b) (hys : ys.Pairwise fun a b => a < b) (hx : xs.length ≤ 1000000000) (hy : ys.length ≤ 1000000000) :
  ∀ (n j m : Nat) (out : List Sd), j + n = ys.length - 1 → n < m → out.length + n * (4 * (xs.length - 1)) ≤ 100000000 → bW N (oD l xs ys) m (out.map toR) (j : Int) = some ((out ++ (List.range' j n).flatMap (sG l xs ys)).map toR)
 | _, _, 0, _, _, hm, _ => absurd hm (Nat.not_lt_zero _)
 | 0, j, m + 1, out, hj, _, _ => by
  have e2 : ((oD l xs ys).in_.length : Int) = ((ys.length - 1 : Nat) : Int) := by unfold oD qW; simp
  rw [bW.eq_2, e2, if_neg (by simp; omega)]; simp
 | n + 1, j, m + 1, out, hj, hm, ho => by
  have e2 : ((oD l xs ys).in_.length : Int) = ((ys.length - 1 : Nat) : Int) := by unfold oD qW; simp
  have hrl : (sG l xs ys j).length ≤ 4 * (xs.length - 1) := Af
  rw [Nat.add_mul, Nat.one_mul] at ho
  have hc := Gh (l := l) (K := bW N (oD l xs ys) m) hxs hys hx hy (j := j) (by omega) (xs.length - 1) 0 N out (by omega) (by omega) (by omega)
  have ih := Cz hN hxs hys hx hy n (j + 1) m (out ++ sG l xs ys j) (by omega) (by omega) (by rw [List.length_append]; omega)
  rw [List.append_assoc, ← List.flatMap_cons, ← List.range'_succ] at ih
  rw [bW.eq_2, e2, if_pos (by simp; omega)]
  exact hc.trans ih
theorem Mr {N : Nat} {l : List aI} (hN : 10000000000 ≤ N) (hl : l.length ≤ 2000) (hr : ∀ r ∈ l, r.X0 < r.X1) : mJ N l = some ((vO l (dH (fD l)) (dH (dF l))).map toR) := by
 have h1 := sD (fD l)
 have h2 := sD (dF l)
 rw [zB] at h1
 rw [tC] at h2
 unfold mJ
 rw [cells_ok hN (by omega) hr, Option.bind_some]
 have hm : ((dH (dF l)).length - 1) * (4 * ((dH (fD l)).length - 1)) ≤ 4000 * (4 * 4000) := Nat.mul_le_mul (by omega) (by omega)
 have := Cz (l := l) hN (gZ (fD l)) (gZ (dF l)) (by omega) (by omega) ((dH (dF l)).length - 1) 0 N [] (by omega) (by omega) (by simp; omega)
 exact this
theorem JS {l : List aI} (hl : l.length ≤ 2000) : (vO l (dH (fD l)) (dH (dF l))).length ≤ 64000000 := by
 have h1 := sD (fD l)
 have h2 := sD (dF l)
 rw [zB] at h1
 rw [tC] at h2
 have key : ∀ (n j : Nat), ((List.range' j n).flatMap (sG l (dH (fD l)) (dH (dF l)))).length ≤ n * (4 * ((dH (fD l)).length - 1)) := by
  intro n
  induction n with
  | zero => intro j; simp
  | succ n ih =>
   intro j
   rw [List.range'_succ, List.flatMap_cons, List.length_append, Nat.add_mul, Nat.one_mul]
   have h3 := ih (j + 1)
   have h4 : (sG l (dH (fD l)) (dH (dF l)) j).length ≤ 4 * ((dH (fD l)).length - 1) := Af
   omega
 have hm : ((dH (dF l)).length - 1) * (4 * ((dH (fD l)).length - 1)) ≤ 4000 * (4 * 4000) := Nat.mul_le_mul (by omega) (by omega)
 have := key ((dH (dF l)).length - 1) 0
 unfold vO
 omega
end
end Go.Proofs.YtcjeebkoafonpaaGreatDoor
