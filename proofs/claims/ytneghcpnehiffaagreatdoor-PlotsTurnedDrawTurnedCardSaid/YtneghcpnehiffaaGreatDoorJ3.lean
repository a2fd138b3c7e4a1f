/- Plots: names, places, numbers written: the program's and the reference's answer alike. Plain. Conditions: none beyond each theorem's own. Plots: the error of a step by itself: the program's and the reference's alike. Plain. Conditions: none beyond each theorem's own. Plots: how many steps are done, and the error of all steps: the program's and the reference's alike. Plain. Conditions: none beyond each theorem's own. Plots: CheckPlot: the program's and the reference's alike. Plain. Conditions: none beyond each theorem's own. Plots: how much a plot counts, and all that is known of one without error. Plain. Conditions: none beyond each theorem's own. Integers sorted, each once. Plain Lean. Sets of numbers by stretches: their one form. Plain Lean. Sets of rectangles: the bands that cover the same. Plain Lean; the program's helpers compute it. Sets of rectangles: the program's bands are the ones. Plain Lean about the plain functions. Regions: what the program tells of sets. Plain Lean about the plain functions. Regions: what is checked; program and reference agree. Plain Lean about the plain functions. Sets of rectangles by bands: their one form, by points. Plain Lean. Sets of squares: bands in their one form, told by their points. Plain Lean. Closed rows of points: what they go around, by heights. Plain Lean. Conditions: none beyond each theorem's own. Two lists of stretches, merged: the program's line. Plain Lean about the plain functions. Two sets of bands, merged: the program's Merge. Plain Lean about the plain functions. Sets of squares: what grows, what shrinks; how many rectangles they can have. Plain Lean. Sets that are spread. Plain Lean about the plain functions. Regions: the least rectangle around squares. Plain Lean about the plain functions. Sets that fit. Plain Lean about the plain functions. Sets that are drawn: spread, added, taken away. Plain Lean about the plain functions. Conditions: none beyond each theorem's own. -/
import Derived.Test.YtneghcpnehiffaaGreatDoorJ2
import Derived.Test.YtneghcpnehiffaaGreatDoorXF
import Derived.Lib.ItoaLen
namespace Go.Proofs.YtneghcpnehiffaaGreatDoor
theorem zKh {α : Type} (pre : List α) (x : α) (h : pre.length < 9223372036854775807) : w64 ((pre.length : Int) + 1) = ((pre ++ [x]).length : Int) := by
 rw [zN2 (by omega) (by omega)]; simp
theorem zND {s : ByteArray} (hs : s.size ≤ 9223372036854775807) : ∀ (m i : Nat), s.size < m + i → i ≤ s.size → ∃ b, WG s m (i : Int) = some b ∧ (b = true → s.size ≤ 40)
 | 0, i, h, h2 => by omega
 | m + 1, i, h, h2 => by
  rw [WG]
  by_cases hi : i < s.size
  ·rw [if_pos (decide_eq_true (by omega))]
   have hc : ∃ c, zSk s (i : Int) = some c := by
    unfold zSk
    rw [if_pos (by omega)]
    exact ⟨(s[i].toNat : Int), by simp [hi]⟩
   obtain ⟨c, hc⟩ := hc
   rw [hc, Option.bind_some]
   split
   ·exact ⟨false, rfl, fun h => by cases h⟩
   ·rw [zN2 (by omega) (by omega)]
    exact zND hs m (i + 1) (by omega) (by omega)
  ·rw [if_neg (by simpa using hi)]
   exact ⟨_, rfl, fun h => by simp at h; omega⟩
theorem zQ9 {N : Nat} {s : ByteArray} (hs : s.size ≤ 9223372036854775807) (hN : s.size < N) : ∃ b, WJ N s = some b ∧ (b = true → s.size ≤ 40) :=
 zND hs N 0 (by omega) (by omega)
def zLK (n u : Int) : Bool := decide (-(1000000 / u) ≤ n) && decide (n ≤ 1000000 / u)
theorem zRd {n u : Int} (hu : 1 ≤ u ∧ u ≤ 1000) : zAJ n u = some (zLK n u) := by
 have h0 : 0 ≤ 1000000 / u := Int.ediv_nonneg (by omega) (by omega)
 have h1 : 1000000 / u ≤ 1000000 := Int.ediv_le_self _ (by omega)
 have e1 : (1000000 : Int).tdiv u = 1000000 / u := Int.tdiv_eq_ediv_of_nonneg (by omega)
 have e2 : (-1000000 : Int).tdiv u = -(1000000 / u) := by rw [show (-1000000 : Int) = -(1000000) from rfl, Int.neg_tdiv, e1]
 unfold zAJ dv
 rw [if_neg (by omega), if_neg (by omega), Option.bind_some, Option.bind_some, e1, e2, QQ (by omega) (by omega), QQ (by omega) (by omega)]
 rfl
def zAR (p : zI) (u : Int) : Bool := zLK p.X u && zLK p.Y u
theorem zOi {p : zI} {u : Int} (hu : 1 ≤ u ∧ u ≤ 1000) : zBP p u = some (zAR p u) := by
 unfold zBP zAR
 rw [zRd hu, Option.bind_some]
 cases zLK p.X u
 ·rfl
 ·rw [if_pos rfl, zRd hu]; simp
def zOK (r : zK) (u : Int) : Int := if (zLK r.X0 u && zLK r.Y0 u && zLK r.X1 u && zLK r.Y1 u) then (if (decide (r.X1 ≤ r.X0) || decide (r.Y1 ≤ r.Y0)) then 13 else 0) else 1
def zL4 (u : Int) : List zK → Int
 | [] => 0
 | r :: l => if zOK r u = 0 then zL4 u l else zOK r u
theorem zIx {u : Int} (hu : 1 ≤ u ∧ u ≤ 1000) : ∀ (l : List zK) (i : Nat), Kh u l i = some (zL4 u l)
 | [], _ => rfl
 | r :: l, i => by
  rw [Kh, zL4, zIx hu l]
  simp only [zRd hu, Option.bind_some]
  unfold zOK
  generalize (decide (r.X1 ≤ r.X0) || decide (r.Y1 ≤ r.Y0)) = g
  cases zLK r.X0 u <;> cases zLK r.Y0 u <;> cases zLK r.X1 u <;> cases zLK r.Y1 u <;> cases g <;> simp
def zE0 (t : zg) (u : Int) : Int := if (t.Rects.length : Int) = 0 then 9 else if 2000 < (t.Rects.length : Int) then 2 else zL4 u t.Rects
theorem zR9 {N : Nat} {t : zg} {u : Int} (hu : 1 ≤ u ∧ u ≤ 1000) {b : Bool} (hb : WJ N t.Name = some b) : zBR N t u = some (if b then zE0 t u else 5) := by
 unfold zBR
 rw [hb, Option.bind_some]
 cases b
 ·rfl
 ·simp only [Bool.not_true, Bool.false_eq_true, if_false, if_true, zIx hu, zE0]
  by_cases h0 : (t.Rects.length : Int) = 0
  ·rw [if_pos (beq_iff_eq.2 h0), if_pos h0]
  ·rw [if_neg (fun h => h0 (beq_iff_eq.1 h)), if_neg h0]
   by_cases h1 : 2000 < (t.Rects.length : Int)
   ·rw [if_pos (decide_eq_true h1), if_pos h1]
   ·rw [if_neg (by simpa using h1), if_neg h1]
def zDF (nm : ByteArray) (l : List zg) : Int := zCq (fun t => sEq t.Name nm) l 0
theorem zMk (nm : ByteArray) : ∀ (l : List zg) (i : Nat), QU nm l i = some (zCq (fun t => sEq t.Name nm) l (i : Int))
 | [], _ => rfl
 | t :: l, i => by
  rw [QU, zCq, zMk nm l (i + 1)]
  unfold zC5
  rw [Option.bind_some]
  split <;> rfl
theorem zP1 (p : zt) (nm : ByteArray) : zBy p nm = some (zDF nm p.Tools) := by
 unfold zBy KF
 rw [zMk]; rfl
def zL2 (l : List zI) : List zI → Nat → Bool
 | [], _ => true
 | x :: r, i => if ((x.X == (l.getD ((i + 1) % l.length) ⟨0, 0⟩).X) == (x.Y == (l.getD ((i + 1) % l.length) ⟨0, 0⟩).Y)) then false else zL2 l r (i + 1)
theorem zcK {l : List zI} {i : Nat} (h : i < l.length) (hl : l.length ≤ 9223372036854775807) : ((md (w64 ((i : Int) + 1)) (l.length : Int)).bind fun q => idx l q) = some (l.getD ((i + 1) % l.length) ⟨0, 0⟩) := by
 have hm : (i + 1) % l.length < l.length := Nat.mod_lt _ (by omega)
 unfold md
 rw [zN2 (by omega) (by omega), if_neg (by omega), Option.bind_some, Int.tmod_eq_emod_of_nonneg (by omega)]
 rw [show ((i : Int) + 1) % (l.length : Int) = (((i + 1) % l.length : Nat) : Int) by simp]
 rw [zcV hm]
 simp [List.getD, hm]
theorem zS4 {β : Type} {l : List zI} {i : Nat} (h : i < l.length) (hl : l.length ≤ 9223372036854775807) (k : zI → Option β) :
  ((md (w64 ((i : Int) + 1)) (l.length : Int)).bind fun q => (idx l q).bind k) = k (l.getD ((i + 1) % l.length) ⟨0, 0⟩) := by
 have := zcK h hl
 cases hq : md (w64 ((i : Int) + 1)) (l.length : Int) with
 | none => rw [hq] at this; simp at this
 | some q =>
  rw [hq] at this
  simp only [Option.bind_some] at this ⊢
  rw [this, Option.bind_some]
theorem zPQ {l : List zI} (hl : l.length ≤ 9223372036854775807) : ∀ (suf : List zI) (i : Nat), i + suf.length = l.length → Vf l suf i = some (zL2 l suf i)
 | [], _, _ => rfl
 | x :: r, i, h => by
  simp at h
  rw [Vf, zL2, zS4 (by omega) hl, zPQ hl r (i + 1) (by omega)]
  split <;> rfl
theorem zbb {l : List zI} (hl : l.length ≤ 9223372036854775807) : zCv l = some (if (l.length : Int) < 4 then false else zL2 l l 0) := by
 unfold zCv
 rw [zPQ hl l 0 (by omega)]
 split
 ·rename_i h; rw [if_pos (by simpa using h)]
 ·rename_i h; rw [if_neg (by simpa using h)]
def zW9 (l : List zI) : Int := if 2000 < (l.length : Int) then 2 else if (l.length : Int) < 4 then 3 else if zL2 l l 0 then 0 else 3
theorem zT4 {p : zt} {l : List zI} (hu : 1 ≤ p.Unit ∧ p.Unit ≤ 1000) : JF l (fun z0 => Ku z0 p) = some (l.any (fun q => !zAR q p.Unit)) := by
 have key : ∀ (l : List zI) (i : Nat), Qg (fun z0 => Ku z0 p) l i = some (zCq (fun q => !zAR q p.Unit) l (i : Int)) := by
  intro l
  induction l with
  | nil => intro i; rfl
  | cons x r ih =>
   intro i
   rw [Qg, zCq, ih]
   have e : Ku x p = some (!zAR x p.Unit) := by
    unfold Ku
    rw [zOi hu]; rfl
   rw [e, Option.bind_some]
   split <;> rfl
 unfold JF VQ
 rw [key, Option.bind_some]
 exact congrArg some (zOg _ l 0 (by omega))
def fieldsB (s : zC) : Bool :=
 (((s.Kind == 3 || sEq s.Name ByteArray.empty) && ((s.Kind == 4 || s.Kind == 5 || s.Kind == 6 || s.Kind == 8) || zBq s.At ⟨0, 0⟩)) && (s.Kind == 7 || (s.Points.length : Int) == 0)) && (s.Kind == 8 || ((s.NX == 0 && s.NY == 0) && (s.Steps.length : Int) == 0))
theorem zGJ (k : Int) : Vv k = some ⟨k == 3, k == 4 || k == 5 || k == 6 || k == 8, k == 7, k == 8⟩ := by
 unfold Vv VY
 by_cases h3 : k = 3
 ·subst h3; rfl
 by_cases h4 : k = 4
 ·subst h4; rfl
 by_cases h5 : k = 5
 ·subst h5; rfl
 by_cases h6 : k = 6
 ·subst h6; rfl
 by_cases h7 : k = 7
 ·subst h7; rfl
 by_cases h8 : k = 8
 ·subst h8; rfl
 simp [h3, h4, h5, h6, h7, h8]
def zfG (s : zC) (d : Int) : Int :=
 if (!(decide (1 ≤ s.NX) && decide (s.NX ≤ 100))) || (!(decide (1 ≤ s.NY) && decide (s.NY ≤ 100))) then 1 else if (s.Steps.length : Int) = 0 then 9 else if 5 ≤ d then 2 else 0
def zKk (p : zt) (s : zC) (d : Int) : Int :=
 if !(decide (1 ≤ s.Kind) && decide (s.Kind ≤ 8)) then 4 else if !fieldsB s then 3 else if s.Kind == 3 && decide (zDF s.Name p.Tools < 0) then 5 else if !zAR s.At p.Unit then 1
 else if s.Kind == 7 then (if s.Points.any (fun q => !zAR q p.Unit) then 1 else zW9 s.Points) else if s.Kind == 8 then zfG s d else 0
theorem zde (p0 : zt) (p1 : zC) (p2 : Int) (y : zEN) (a b c d : Bool) : (if a = true then Qv p0 p1 p2 y a else if b = true then Qv p0 p1 p2 y b else if c = true then Qv p0 p1 p2 y c else Qv p0 p1 p2 y d) = Qv p0 p1 p2 y (a || b || c || d) := by
 cases a <;> cases b <;> cases c <;> cases d <;> rfl
theorem zSA {p : zt} {s : zC} {d : Int} (hu : 1 ≤ p.Unit ∧ p.Unit ≤ 1000) (hl : s.Points.length ≤ 9223372036854775807) : zBS p s d = some (zKk p s d) := by
 unfold zBS zKk
 have hw : ∀ a b c : Int, Kw a b c = some (decide (b ≤ a) && decide (a ≤ c)) := fun _ _ _ => rfl
 rw [hw, Option.bind_some, zGJ]
 by_cases hk : (decide (1 ≤ s.Kind) && decide (s.Kind ≤ 8)) = true
 ·simp only [hk, Bool.not_true, Bool.false_eq_true, if_false, Option.bind_some]
  rw [zde]
  have hf : (!(s.Kind == 3) && !sEq s.Name ByteArray.empty || !(s.Kind == 4 || s.Kind == 5 || s.Kind == 6 || s.Kind == 8) && !zBq s.At ⟨0, 0⟩ || !(s.Kind == 7) && decide (0 < (s.Points.length : Int)) || !(s.Kind == 8) && (s.NX != 0 || s.NY != 0 || decide (0 < (s.Steps.length : Int)))) = !fieldsB s := by
   unfold fieldsB
   have e1 : decide (0 < (s.Points.length : Int)) = !((s.Points.length : Int) == 0) := by rw [Bool.eq_iff_iff]; simp only [decide_eq_true_eq, Bool.not_eq_true', beq_eq_false_iff_ne, ne_eq]; omega
   have e2 : decide (0 < (s.Steps.length : Int)) = !((s.Steps.length : Int) == 0) := by rw [Bool.eq_iff_iff]; simp only [decide_eq_true_eq, Bool.not_eq_true', beq_eq_false_iff_ne, ne_eq]; omega
   rw [e1, e2]
   simp only [bne, Bool.not_and, Bool.not_or]
  rw [hf]
  unfold Qv
  simp only [zP1, zOi hu, zT4 hu, zbb hl, Option.bind_some, hw]
  cases hfb : fieldsB s
  ·simp
  ·simp only [Bool.not_true, Bool.false_eq_true, if_false]
   have hpt : s.Kind ≠ 7 → s.Points = [] := by
    intro h7
    unfold fieldsB at hfb
    simp only [Bool.and_eq_true, Bool.or_eq_true, beq_iff_eq] at hfb
    have := hfb.1.2.resolve_left h7
    exact List.eq_nil_of_length_eq_zero (by omega)
   by_cases h3 : s.Kind = 3
   ·have hp := hpt (by omega)
    simp only [h3, hp, beq_self_eq_true, if_true, Option.bind_some]
    cases hd : decide (zDF s.Name p.Tools < 0) <;> simp [hd]
    cases zAR s.At p.Unit <;> simp
   ·have h3' : (s.Kind == 3) = false := by simpa using h3
    simp only [h3', Bool.false_eq_true, if_false, Option.bind_some, Bool.false_and]
    cases zAR s.At p.Unit
    ·simp
    ·simp only [Bool.not_true, Bool.false_eq_true, if_false, Option.bind_some]
     by_cases h7 : s.Kind = 7
     ·simp only [h7, beq_self_eq_true, if_true]
      cases s.Points.any (fun q => !zAR q p.Unit)
      ·simp only [Bool.false_eq_true, if_false, zW9]
       by_cases h1 : 2000 < (s.Points.length : Int)
       ·rw [if_pos (decide_eq_true h1), if_pos h1]
       ·rw [if_neg (by simpa using h1), if_neg h1]
        by_cases h2 : (s.Points.length : Int) < 4
        ·simp [h2]
        ·simp only [h2, if_false]
         cases zL2 s.Points s.Points 0 <;> simp
      ·simp
     ·have h7' : (s.Kind == 7) = false := by simpa using h7
      have hp := hpt h7
      simp only [h7', hp, Bool.false_eq_true, if_false, List.any_nil, List.length_nil, Option.bind_some]
      by_cases h8 : s.Kind = 8
      ·simp only [h8, beq_self_eq_true, if_true, zfG]
       cases (decide (1 ≤ s.NX) && decide (s.NX ≤ 100))
       ·simp
       ·simp only [Bool.not_true, Bool.false_eq_true, if_false, Option.bind_some, Bool.false_or]
        cases (decide (1 ≤ s.NY) && decide (s.NY ≤ 100))
        ·simp
        ·simp only [Bool.not_true, Bool.false_eq_true, if_false]
         rw [if_neg (by simp)]
         by_cases h0 : (s.Steps.length : Int) = 0
         ·rw [if_pos (beq_iff_eq.2 h0), if_pos h0]
         ·rw [if_neg (fun h => h0 (beq_iff_eq.1 h)), if_neg h0]
          by_cases h5 : 5 ≤ d
          ·rw [if_pos (decide_eq_true h5), if_pos h5]
          ·rw [if_neg (by simpa using h5), if_neg h5]
      ·have h8' : (s.Kind == 8) = false := by simpa using h8
       simp [h8']
 ·have hk' : (decide (1 ≤ s.Kind) && decide (s.Kind ≤ 8)) = false := by simpa using hk
  simp [hk']
mutual
def zFc : zC → Nat
 | ⟨_, n, _, ps, _, _, l⟩ => 1 + n.size + ps.length + Jk l
def Jk : List zC → Nat
 | [] => 0
 | x :: l => zFc x + Jk l
end
mutual
def zOP : zC → Nat
 | ⟨_, _, _, _, _, _, l⟩ => 1 + zCX l
def zCX : List zC → Nat
 | [] => 0
 | x :: l => zOP x + zCX l
end
theorem KC (x : zC) : zFc x = 1 + x.Name.size + x.Points.length + Jk x.Steps := by cases x; rw [zFc]
theorem zL9 (x : zC) : zOP x = 1 + zCX x.Steps := by cases x; rw [zOP]
theorem zMm : Jk [] = 0 := by rw [Jk]
theorem JP (x : zC) (l : List zC) : Jk (x :: l) = zFc x + Jk l := by rw [Jk]
theorem zMx : zCX [] = 0 := by rw [zCX]
theorem zHV (x : zC) (l : List zC) : zCX (x :: l) = zOP x + zCX l := by rw [zCX]
theorem zEU {x : zC} : ∀ {l : List zC}, x ∈ l → zFc x ≤ Jk l
 | y :: l, h => by
  rw [JP]
  rcases List.mem_cons.1 h with h | h
  ·subst h; omega
  ·have := zEU h; omega
theorem zMy {x : zC} : ∀ {l : List zC}, x ∈ l → zOP x ≤ zCX l
 | y :: l, h => by
  rw [zHV]
  rcases List.mem_cons.1 h with h | h
  ·subst h; omega
  ·have := zMy h; omega
theorem zMn : ∀ (l : List zC), l.length ≤ Jk l
 | [] => by simp
 | x :: l => by
  have := zMn l
  have := KC x
  rw [JP, List.length_cons]; omega
def J64 (n : Int) : Prop := -9223372036854775808 ≤ n ∧ n ≤ 9223372036854775807
mutual
def zOU : zC → Prop
 | ⟨_, n, a, ps, nx, ny, l⟩ => n.size ≤ 9223372036854775807 ∧ (J64 a.X ∧ J64 a.Y) ∧ (ps.length ≤ 9223372036854775807 ∧ ∀ q ∈ ps, J64 q.X ∧ J64 q.Y) ∧ (J64 nx ∧ J64 ny) ∧ l.length ≤ 9223372036854775807 ∧ zJp l
def zJp : List zC → Prop
 | [] => True
 | x :: l => zOU x ∧ zJp l
end
theorem zGB (x : zC) : zOU x ↔ x.Name.size ≤ 9223372036854775807 ∧ (J64 x.At.X ∧ J64 x.At.Y) ∧ (x.Points.length ≤ 9223372036854775807 ∧ ∀ q ∈ x.Points, J64 q.X ∧ J64 q.Y) ∧ (J64 x.NX ∧ J64 x.NY) ∧ x.Steps.length ≤ 9223372036854775807 ∧ zJp x.Steps := by cases x; rw [zOU]
theorem zGv (x : zC) (l : List zC) : zJp (x :: l) ↔ zOU x ∧ zJp l := by rw [zJp]
theorem zOV {x : zC} : ∀ {l : List zC}, zJp l → x ∈ l → zOU x
 | y :: l, h, hm => by
  rw [zGv] at h
  rcases List.mem_cons.1 hm with e | e
  ·subst e; exact h.1
  ·exact zOV h.2 e
theorem zNW {l : List zC} (h : ∀ x ∈ l, zOU x) : zJp l := by
 induction l with
 | nil => rw [zJp]; trivial
 | cons x l ih => rw [zGv]; exact ⟨h x List.mem_cons_self, ih (fun y hy => h y (List.mem_cons_of_mem _ hy))⟩
def tm (n : Int) : Int := if 1 ≤ n ∧ n ≤ 100 then n else 1
theorem zdw (n : Int) : 1 ≤ tm n ∧ tm n ≤ 100 := by unfold tm; split <;> omega
theorem zP2 (n : Int) : zBN n = some (tm n) := by
 unfold zBN tm
 have hw : Kw n 1 100 = some (decide (1 ≤ n) && decide (n ≤ 100)) := rfl
 rw [hw, Option.bind_some]
 by_cases h : 1 ≤ n ∧ n ≤ 100
 ·rw [if_pos h, if_pos (by simpa using h)]
 ·rw [if_neg h, if_neg (by simpa using h)]
theorem zKA (a b : Int) : 1 ≤ tm a * tm b ∧ tm a * tm b ≤ 10000 := by
 have h1 := zdw a
 have h2 := zdw b
 generalize tm a = x at *
 generalize tm b = y at *
 constructor
 ·have := Int.mul_le_mul h1.1 h2.1 (by omega) (by omega); omega
 ·have := Int.mul_le_mul h1.2 h2.2 (by omega) (by omega); omega
theorem zYo (s : zC) : zDm s = some (tm s.NX * tm s.NY) := by
 have := zKA s.NX s.NY
 unfold zDm
 rw [zP2, zP2, Option.bind_some, Option.bind_some, QQ (by omega) (by omega)]
def zam (nm : Nat) (s : zC) : Prop := s.Points.length ≤ 2000 ∧ s.Name.size ≤ nm
mutual
def zTu (nm : Nat) : zC → Prop
 | ⟨k, n, a, ps, nx, ny, l⟩ => zam nm ⟨k, n, a, ps, nx, ny, l⟩ ∧ zIG nm l
def zIG (nm : Nat) : List zC → Prop
 | [] => True
 | x :: l => zTu nm x ∧ zIG nm l
end
theorem zTt (nm : Nat) (x : zC) : zTu nm x ↔ zam nm x ∧ zIG nm x.Steps := by cases x; rw [zTu]
theorem zQs (nm : Nat) : zIG nm [] := by rw [zIG]; trivial
theorem zO5 (nm : Nat) (x : zC) (l : List zC) : zIG nm (x :: l) ↔ zTu nm x ∧ zIG nm l := by rw [zIG]
theorem zQt {nm : Nat} {x : zC} : ∀ {l : List zC}, zIG nm l → x ∈ l → zTu nm x
 | y :: l, h, hm => by
  rw [zO5] at h
  rcases List.mem_cons.1 hm with e | e
  ·subst e; exact h.1
  ·exact zQt h.2 e
def zcM (nm : Nat) (p : zt) : Prop := ∀ t ∈ p.Tools, t.Name.size ≤ nm
theorem zP0 {nm : ByteArray} {l : List zg} (h : ¬ zDF nm l < 0) : ∃ t ∈ l, t.Name = nm := by
 have : ∀ (l : List zg) (i : Int), 0 ≤ i → ¬ zCq (fun t => sEq t.Name nm) l i < 0 → ∃ t ∈ l, t.Name = nm := by
  intro l
  induction l with
  | nil => intro i _ h; simp [zCq] at h
  | cons t l ih =>
   intro i hi h
   unfold zCq at h
   by_cases ht : sEq t.Name nm = true
   ·exact ⟨t, List.mem_cons_self, zJE.1 ht⟩
   ·rw [if_neg ht] at h
    obtain ⟨x, hx, he⟩ := ih (i + 1) (by omega) h
    exact ⟨x, List.mem_cons_of_mem _ hx, he⟩
 exact this l 0 (by omega) h
theorem zUl {nm : Nat} {p : zt} {s : zC} {d : Int} (hp : zcM nm p) (h : zKk p s d = 0) : zam nm s := by
 unfold zKk at h
 split at h
 ·cases h
 split at h
 ·cases h
 rename_i hk hf
 have hf : fieldsB s = true := by simpa using hf
 unfold fieldsB at hf
 simp only [Bool.and_eq_true, Bool.or_eq_true, beq_iff_eq] at hf
 split at h
 ·cases h
 rename_i ht
 have hname : s.Name.size ≤ nm := by
  rcases hf.1.1.1 with h3 | h3
  ·simp only [h3, beq_self_eq_true, Bool.true_and, decide_eq_true_eq] at ht
   obtain ⟨t, h1, h2⟩ := zP0 ht
   rw [← h2]; exact hp t h1
  ·rw [zJE.1 h3]; exact Nat.zero_le _
 split at h
 ·cases h
 refine ⟨?_, hname⟩
 rcases hf.1.2 with h7 | h7
 ·simp only [h7, beq_self_eq_true, if_true] at h
  split at h
  ·cases h
  ·unfold zW9 at h
   split at h
   ·cases h
   ·omega
 ·omega
structure zek (p : zt) : Prop where
 unit : 1 ≤ p.Unit ∧ p.Unit ≤ 1000
 few : p.Tools.length ≤ 200
 tools : ∀ t ∈ p.Tools, t.Name.size ≤ 40 ∧ t.Rects.length ≤ 2000
 steps : zIG 40 p.Steps
 nd : zCX p.Steps ≤ 3000
structure zIS (p : zt) : Prop where
 unit : J64 p.Unit
 tools : ∀ t ∈ p.Tools, t.Name.size ≤ 9223372036854775807 ∧ ∀ r ∈ t.Rects, (J64 r.X0 ∧ J64 r.Y0) ∧ J64 r.X1 ∧ J64 r.Y1
 sl : p.Steps.length ≤ 9223372036854775807
 steps : zJp p.Steps
def zCy : List zg → Nat
 | [] => 0
 | t :: l => 1 + t.Name.size + zCy l
theorem zIa {t : zg} : ∀ {l : List zg}, t ∈ l → t.Name.size < zCy l
 | x :: l, h => by
  rw [zCy]
  rcases List.mem_cons.1 h with e | e
  ·subst e; omega
  ·have := zIa e; omega
def Fu (p : zt) (N : Nat) : Prop := Jk p.Steps + zCy p.Tools + 10000 ≤ N
theorem zUk {t : zg} {u : Int} (h : zE0 t u = 0) : t.Rects.length ≤ 2000 := by
 unfold zE0 at h
 split at h
 ·cases h
 split at h
 ·cases h
 ·omega
mutual
def zT6 : zC → Int
 | ⟨_, _, _, _, nx, ny, l⟩ => 1 + tm nx * tm ny * zCC l
def zCC : List zC → Int
 | [] => 0
 | x :: l => zT6 x + zCC l
end
theorem zHr (x : zC) : zT6 x = 1 + tm x.NX * tm x.NY * zCC x.Steps := by cases x; rw [zT6]
theorem zEd : zCC [] = 0 := by rw [zCC]
theorem zDL (x : zC) (l : List zC) : zCC (x :: l) = zT6 x + zCC l := by rw [zCC]
theorem zIv : ∀ (k : Nat) (l : List zC), Jk l ≤ k → 0 ≤ zCC l
 | _, [], _ => by rw [zEd]; omega
 | k, x :: l, hk => by
  rw [JP, KC] at hk
  rw [zDL, zHr]
  cases k with
  | zero => omega
  | succ k =>
   have h1 := zIv k x.Steps (by omega)
   have h2 := zIv k l (by omega)
   have h3 := zKA x.NX x.NY
   have := Int.mul_nonneg (show 0 ≤ tm x.NX * tm x.NY by omega) h1
   omega
theorem zDg (l : List zC) : 0 ≤ zCC l := zIv _ l (Nat.le_refl _)
theorem zPG (x : zC) : 1 ≤ zT6 x := by
 have h1 := zDg x.Steps
 have h3 := zKA x.NX x.NY
 have := Int.mul_nonneg (show 0 ≤ tm x.NX * tm x.NY by omega) h1
 rw [zHr]; omega
theorem zT7 {x : zC} : ∀ {l : List zC}, x ∈ l → zT6 x ≤ zCC l
 | y :: l, h => by
  have := zDg l
  have := zPG y
  rw [zDL]
  rcases List.mem_cons.1 h with e | e
  ·subst e; omega
  ·have := zT7 e; omega
theorem zVZ (x : zC) : zCC x.Steps < zT6 x := by
 have h1 := zDg x.Steps
 have h3 := zKA x.NX x.NY
 have := Int.mul_le_mul_of_nonneg_right h3.1 h1
 rw [zHr]; omega
theorem zM8 {rec : List zC → Option Int} : ∀ (l : List zC) (i : Nat) (x : Int), 0 ≤ x → x ≤ 3000 → (∀ s ∈ l, rec s.Steps = some (min (zCC s.Steps) 3001)) → Ja rec l i x = some (min (x + zCC l) 3001)
 | [], i, x, h0, h1, _ => by
  rw [Ja, zEd]
  congr 1
  omega
 | s :: l, i, x, h0, h1, hc => by
  have c1 := hc s List.mem_cons_self
  have hn := zDg s.Steps
  have hl := zDg l
  have ht := zKA s.NX s.NY
  have key : Ja rec (s :: l) i x = Ws (Ja rec l (i + 1)) (x + 1 + tm s.NX * tm s.NY * min (zCC s.Steps) 3001) := by
   have hpc : 0 ≤ tm s.NX * tm s.NY * min (zCC s.Steps) 3001 ∧ tm s.NX * tm s.NY * min (zCC s.Steps) 3001 ≤ 30010000 := by
    generalize tm s.NX * tm s.NY = t at *
    refine ⟨Int.mul_nonneg (by omega) (by omega), ?_⟩
    have := Int.mul_le_mul ht.2 (show min (zCC s.Steps) 3001 ≤ 3001 by omega) (by omega) (by omega); omega
   rw [Ja]
   by_cases he : s.Steps = []
   ·rw [if_neg (by rw [he]; simp), he, zEd, QQ (by omega) (by omega), show min (0 : Int) 3001 = 0 from rfl, Int.mul_zero, Int.add_zero]
   ·have : 0 < (s.Steps.length : Int) := by
     have := List.length_pos_iff.2 he; omega
    rw [if_pos (decide_eq_true this), zYo, Option.bind_some, c1, Option.bind_some, QQ (x := tm s.NX * tm s.NY * min (zCC s.Steps) 3001) (by omega) (by omega), QQ (x := x + 1) (by omega) (by omega), QQ (by omega) (by omega)]
  rw [key, zDL, zHr]
  unfold Ws
  by_cases hs : zCC s.Steps ≤ 3001
  ·rw [Int.min_eq_left hs]
   have hp := Int.mul_nonneg (show 0 ≤ tm s.NX * tm s.NY by omega) hn
   generalize tm s.NX * tm s.NY * zCC s.Steps = v at *
   by_cases hb : 3000 < x + 1 + v
   ·rw [if_pos (decide_eq_true hb)]; congr 1; omega
   ·rw [if_neg (by simpa using hb), zM8 l (i + 1) _ (by omega) (by omega) (fun y hy => hc y (List.mem_cons_of_mem _ hy))]
    congr 2; omega
  ·rw [Int.min_eq_right (by omega)]
   have h1 := Int.mul_le_mul_of_nonneg_right ht.1 (show (0 : Int) ≤ 3001 by omega)
   have h2 := Int.mul_le_mul_of_nonneg_right ht.1 hn
   generalize tm s.NX * tm s.NY * 3001 = u at *
   generalize tm s.NX * tm s.NY * zCC s.Steps = v at *
   rw [if_pos (decide_eq_true (by omega))]; congr 1; omega
theorem zQ2 : ∀ (k : Nat) (l : List zC) (N : Nat), Jk l ≤ k → k + 5 ≤ N → zCc N l = some (min (zCC l) 3001)
 | k, l, N, hk, hN => by
  obtain ⟨N, rfl⟩ : ∃ n, N = n + 1 := ⟨N - 1, by omega⟩
  have := zM8 (rec := zCc N) l 0 0 (by omega) (by omega) (fun s hs => by
   have h1 := zEU hs
   have h2 := KC s
   cases k with
   | zero => omega
   | succ k => exact zQ2 k s.Steps N (by omega) (by omega))
  rw [Int.zero_add] at this
  exact this
mutual
def zbY (p : zt) : Int → zC → Prop
 | d, ⟨k, n, a, ps, nx, ny, l⟩ => zKk p ⟨k, n, a, ps, nx, ny, l⟩ d = 0 ∧ zEh p (d + 1) l
def zEh (p : zt) : Int → List zC → Prop
 | _, [] => True
 | d, x :: l => zbY p d x ∧ zEh p d l
end
theorem zB9 (p : zt) (d : Int) (x : zC) : zbY p d x ↔ zKk p x d = 0 ∧ zEh p (d + 1) x.Steps := by cases x; rw [zbY]
theorem zLd (p : zt) (d : Int) : zEh p d [] := by rw [zEh]; trivial
theorem WY (p : zt) (d : Int) (x : zC) (l : List zC) : zEh p d (x :: l) ↔ zbY p d x ∧ zEh p d l := by rw [zEh]
theorem zUI (p : zt) (d : Int) (l : List zC) : zEh p d l ↔ ∀ x ∈ l, zbY p d x := by
 induction l with
 | nil => exact ⟨fun _ _ h => (by cases h), fun _ => zLd p d⟩
 | cons x l ih => rw [WY, ih, List.forall_mem_cons]
structure zFo (p : zt) (s : zC) (d : Int) : Prop where
 kind : 1 ≤ s.Kind ∧ s.Kind ≤ 8
 name : s.Kind ≠ 3 → s.Name = ByteArray.empty
 at_ : s.Kind ≠ 4 → s.Kind ≠ 5 → s.Kind ≠ 6 → s.Kind ≠ 8 → s.At = ⟨0, 0⟩
 points : s.Kind ≠ 7 → s.Points = []
 rep : s.Kind ≠ 8 → s.NX = 0 ∧ s.NY = 0 ∧ s.Steps = []
 tool : s.Kind = 3 → 0 ≤ zDF s.Name p.Tools
 place : zAR s.At p.Unit = true
 area : s.Kind = 7 → s.Points.all (fun q => zAR q p.Unit) = true ∧ 4 ≤ s.Points.length ∧ s.Points.length ≤ 2000 ∧ zL2 s.Points s.Points 0 = true
 times : s.Kind = 8 → (1 ≤ s.NX ∧ s.NX ≤ 100) ∧ (1 ≤ s.NY ∧ s.NY ≤ 100) ∧ s.Steps ≠ [] ∧ d < 5
theorem zM7 (s : zC) : fieldsB s = true ↔ (s.Kind ≠ 3 → s.Name = ByteArray.empty) ∧ (s.Kind ≠ 4 → s.Kind ≠ 5 → s.Kind ≠ 6 → s.Kind ≠ 8 → s.At = ⟨0, 0⟩) ∧ (s.Kind ≠ 7 → s.Points = []) ∧ (s.Kind ≠ 8 → s.NX = 0 ∧ s.NY = 0 ∧ s.Steps = []) := by
 unfold fieldsB
 have e1 : ((s.Points.length : Int) == 0) = true ↔ s.Points = [] := by rw [beq_iff_eq]; exact ⟨fun h => List.eq_nil_of_length_eq_zero (by omega), fun h => by rw [h]; rfl⟩
 have e2 : ((s.Steps.length : Int) == 0) = true ↔ s.Steps = [] := by rw [beq_iff_eq]; exact ⟨fun h => List.eq_nil_of_length_eq_zero (by omega), fun h => by rw [h]; rfl⟩
 simp only [Bool.and_eq_true, Bool.or_eq_true, e1, e2, zJE, zRw, beq_iff_eq]
 constructor
 ·rintro ⟨⟨⟨a, b⟩, c⟩, d⟩
  refine ⟨fun h => a.resolve_left h, fun h4 h5 h6 h8 => b.resolve_left (by rintro (((h | h) | h) | h) <;> contradiction), fun h => c.resolve_left h, fun h => ?_⟩
  have := d.resolve_left h
  exact ⟨this.1.1, this.1.2, this.2⟩
 ·rintro ⟨a, b, c, d⟩
  refine ⟨⟨⟨Classical.or_iff_not_imp_left.2 a, Classical.or_iff_not_imp_left.2 fun h => b (fun e => h (.inl (.inl (.inl e)))) (fun e => h (.inl (.inl (.inr e)))) (fun e => h (.inl (.inr e))) (fun e => h (.inr e))⟩, Classical.or_iff_not_imp_left.2 c⟩, Classical.or_iff_not_imp_left.2 fun h => ⟨⟨(d h).1, (d h).2.1⟩, (d h).2.2⟩⟩
theorem zBt {p : zt} {s : zC} {d : Int} : zKk p s d = 0 ↔ zFo p s d := by
 unfold zKk
 by_cases hk : 1 ≤ s.Kind ∧ s.Kind ≤ 8
 ·rw [if_neg (by simpa using hk)]
  cases hf : fieldsB s
  ·rw [if_pos (by rfl)]
   refine ⟨fun h => (by cases h), fun h => ?_⟩
   have := (zM7 s).2 ⟨h.name, h.at_, h.points, h.rep⟩
   rw [hf] at this; cases this
  ·obtain ⟨f1, f2, f3, f4⟩ := (zM7 s).1 hf
   rw [if_neg (by simp)]
   by_cases h3 : s.Kind = 3 ∧ zDF s.Name p.Tools < 0
   ·rw [if_pos (by simpa using h3)]
    exact ⟨fun h => (by cases h), fun h => by have := h.tool h3.1; omega⟩
   ·rw [if_neg (by simpa using h3)]
    cases hp : zAR s.At p.Unit
    ·rw [if_pos (by rfl)]
     exact ⟨fun h => (by cases h), fun h => by have := h.place; rw [hp] at this; cases this⟩
    ·rw [if_neg (by simp)]
     have ht : s.Kind = 3 → 0 ≤ zDF s.Name p.Tools := fun h => by
      by_cases h' : zDF s.Name p.Tools < 0
      ·exact absurd ⟨h, h'⟩ h3
      ·omega
     by_cases h7 : s.Kind = 7
     ·rw [if_pos (by simpa using h7)]
      have hall : (s.Points.any (fun q => !zAR q p.Unit)) = !s.Points.all (fun q => zAR q p.Unit) := by
       rw [List.all_eq_not_any_not, Bool.not_not]
      rw [hall]
      cases ha : s.Points.all (fun q => zAR q p.Unit)
      ·rw [if_pos (by rfl)]
       exact ⟨fun h => (by cases h), fun h => by have := (h.area h7).1; rw [ha] at this; cases this⟩
      ·rw [if_neg (by simp)]
       unfold zW9
       by_cases h1 : 2000 < (s.Points.length : Int)
       ·rw [if_pos h1]; exact ⟨fun h => (by cases h), fun h => by have := (h.area h7).2.2.1; omega⟩
       ·rw [if_neg h1]
        by_cases h2 : (s.Points.length : Int) < 4
        ·rw [if_pos h2]; exact ⟨fun h => (by cases h), fun h => by have := (h.area h7).2.1; omega⟩
        ·rw [if_neg h2]
         cases hr : zL2 s.Points s.Points 0
         ·simp only [Bool.false_eq_true, if_false]
          exact ⟨fun h => (by cases h), fun h => by have := (h.area h7).2.2.2; rw [hr] at this; cases this⟩
         ·simp only [if_true]
          exact ⟨fun _ => ⟨hk, f1, f2, f3, f4, ht, hp, fun _ => ⟨ha, by omega, by omega, hr⟩, fun h8 => by omega⟩, fun _ => trivial⟩
     ·rw [if_neg (by simpa using h7)]
      by_cases h8 : s.Kind = 8
      ·rw [if_pos (by simpa using h8)]
       unfold zfG
       by_cases hx : (1 ≤ s.NX ∧ s.NX ≤ 100) ∧ (1 ≤ s.NY ∧ s.NY ≤ 100)
       ·rw [if_neg (by simp; omega)]
        by_cases h0 : (s.Steps.length : Int) = 0
        ·rw [if_pos h0]
         exact ⟨fun h => (by cases h), fun h => absurd (List.eq_nil_of_length_eq_zero (by omega)) (h.times h8).2.2.1⟩
        ·rw [if_neg h0]
         by_cases h5 : 5 ≤ d
         ·rw [if_pos h5]; exact ⟨fun h => (by cases h), fun h => by have := (h.times h8).2.2.2; omega⟩
         ·rw [if_neg h5]
          exact ⟨fun _ => ⟨hk, f1, f2, f3, f4, ht, hp, fun h => absurd h h7, fun _ => ⟨hx.1, hx.2, fun e => h0 (by rw [e]; rfl), by omega⟩⟩, fun _ => rfl⟩
       ·rw [if_pos (by simp; omega)]
        exact ⟨fun h => (by cases h), fun h => absurd ⟨(h.times h8).1, (h.times h8).2.1⟩ hx⟩
      ·rw [if_neg (by simpa using h8)]
       exact ⟨fun _ => ⟨hk, f1, f2, f3, f4, ht, hp, fun h => absurd h h7, fun h => absurd h h8⟩, fun _ => rfl⟩
 ·rw [if_pos (by simp; omega)]
  exact ⟨fun h => (by cases h), fun h => absurd h.kind hk⟩
theorem zSc {p : zt} {d : Int} (hu : 1 ≤ p.Unit ∧ p.Unit ≤ 1000) {rec : zt → List zC → Int → Option Int} : ∀ (l : List zC) (i : Nat), (∀ s ∈ l, s.Points.length ≤ 9223372036854775807) → (∀ s ∈ l, zFo p s d → ∃ e, rec p s.Steps (w64 (d + 1)) = some e ∧ (e = 0 ↔ zEh p (d + 1) s.Steps)) →
  ∃ e, KZ p d rec l i = some e ∧ (e = 0 ↔ zEh p d l)
 | [], i, _, _ => ⟨0, rfl, fun _ => zLd p d, fun _ => rfl⟩
 | s :: l, i, hp, hr => by
  rw [KZ, zSA hu (hp s List.mem_cons_self), Option.bind_some]
  by_cases h0 : zKk p s d = 0
  ·rw [if_neg (by simp [h0])]
   obtain ⟨e, e1, e2⟩ := hr s List.mem_cons_self (zBt.1 h0)
   rw [e1, Option.bind_some]
   by_cases h1 : e = 0
   ·rw [if_neg (by simp [h1])]
    obtain ⟨f, f1, f2⟩ := zSc hu l (i + 1) (fun x hx => hp x (List.mem_cons_of_mem _ hx)) (fun x hx => hr x (List.mem_cons_of_mem _ hx))
    exact ⟨f, f1, f2.trans (by rw [WY, zB9]; exact ⟨fun h => ⟨⟨h0, e2.1 h1⟩, h⟩, fun h => h.2⟩)⟩
   ·rw [if_pos (by simpa using h1)]
    exact ⟨e, rfl, fun h => absurd h h1, fun h => absurd (e2.2 ((zB9 _ _ _).1 ((WY _ _ _ _).1 h).1).2) h1⟩
  ·rw [if_pos (by simpa using h0)]
   exact ⟨_, rfl, fun h => absurd h h0, fun h => absurd ((zB9 _ _ _).1 ((WY _ _ _ _).1 h).1).1 h0⟩
theorem zYf {p : zt} (hu : 1 ≤ p.Unit ∧ p.Unit ≤ 1000) : ∀ (k : Nat) (l : List zC) (N : Nat) (d : Int), Jk l ≤ k → k + 5 ≤ N → zJp l → 0 ≤ d → d ≤ 5 → ∃ e, zA0 N p l d = some e ∧ (e = 0 ↔ zEh p d l)
 | k, l, N, d, hk, hN, hA, h0, h1 => by
  obtain ⟨N, rfl⟩ : ∃ n, N = n + 1 := ⟨N - 1, by omega⟩
  refine zSc hu l 0 (fun s hs => ((zGB s).1 (zOV hA hs)).2.2.1.1) fun s hs ho => ?_
  have a1 := zEU hs
  have a2 := KC s
  have a3 := (zGB s).1 (zOV hA hs)
  by_cases h8 : s.Kind = 8
  ·have := (ho.times h8).2.2.2
   rw [QQ (by omega) (by omega)]
   cases k with
   | zero => omega
   | succ k => exact zYf hu k s.Steps N (d + 1) (by omega) (by omega) a3.2.2.2.2.2 (by omega) (by omega)
  ·obtain ⟨N, rfl⟩ : ∃ n, N = n + 1 := ⟨N - 1, by omega⟩
   rw [(ho.rep h8).2.2]
   exact ⟨0, rfl, fun _ => zLd _ _, fun _ => rfl⟩
def zRU : List zg → Prop
 | a :: b :: l => (sLt b.Name a.Name || sEq b.Name a.Name) = false ∧ zRU (b :: l)
 | _ => True
structure VX (N : Nat) (p : zt) : Prop where
 unit : 1 ≤ p.Unit ∧ p.Unit ≤ 1000
 few : p.Tools.length ≤ 200
 tools : ∀ t ∈ p.Tools, WJ N t.Name = some true ∧ zE0 t p.Unit = 0
 ord : zRU p.Tools
 cnt : zCC p.Steps ≤ 3000
 steps : zEh p 0 p.Steps
theorem zX7 (a : List zg) (x y : zg) : zRU (a ++ [x] ++ [y]) ↔ zRU (a ++ [x]) ∧ (sLt y.Name x.Name || sEq y.Name x.Name) = false := by
 induction a with
 | nil => simp [zRU]
 | cons z a ih =>
  cases a with
  | nil => simp [zRU]
  | cons w a =>
   simp only [List.cons_append, zRU] at ih ⊢
   rw [ih, and_assoc]
theorem zL7 {N : Nat} {p : zt} (hN : Fu p N) (hL : zIS p) (hu : 1 ≤ p.Unit ∧ p.Unit ≤ 1000) : ∀ (suf pre : List zg), p.Tools = pre ++ suf → p.Tools.length ≤ 200 → 
  ∃ e, KL N p suf pre.length = some e ∧ ((∀ t ∈ pre, WJ N t.Name = some true ∧ zE0 t p.Unit = 0) → zRU pre → (e = 0 ↔ VX N p))
 | [], pre, he, hl => by
  have hN' := hN
  unfold Fu at hN'
  obtain ⟨e, e1, e2⟩ := zYf hu (Jk p.Steps) p.Steps N 0 (Nat.le_refl _) (by omega) hL.steps (by omega) (by omega)
  rw [KL, zQ2 (Jk p.Steps) p.Steps N (Nat.le_refl _) (by omega), Option.bind_some]
  by_cases hc : 3000 < min (zCC p.Steps) 3001
  ·rw [if_pos (decide_eq_true hc)]
   exact ⟨2, rfl, fun _ _ => ⟨fun h => (by cases h), fun h => by have := h.cnt; omega⟩⟩
  ·rw [if_neg (by simpa using hc), e1]
   refine ⟨e, rfl, fun h ho => ⟨fun h0 => ⟨hu, hl, ?_, ?_, by omega, e2.1 h0⟩, fun h => e2.2 h.steps⟩⟩
   ·rw [he, List.append_nil]; exact h
   ·rw [he, List.append_nil]; exact ho
 | t :: l, pre, he, hl => by
  have hlen : p.Tools.length = pre.length + (l.length + 1) := by rw [he]; simp
  have hmem : t ∈ p.Tools := by rw [he]; simp
  have hsz := zIa hmem
  have hN' := hN
  unfold Fu at hN'
  obtain ⟨b, b1, _⟩ := zQ9 (N := N) (hL.tools t hmem).1 (by omega)
  rw [KL, zR9 hu b1, Option.bind_some]
  cases b
  ·exact ⟨5, rfl, fun _ _ => ⟨fun h => (by cases h), fun h => by have := (h.tools t hmem).1; rw [b1] at this; cases this⟩⟩
  simp only [if_true]
  by_cases h0 : zE0 t p.Unit = 0
  ·have hz0 : (zE0 t p.Unit != 0) = false := by simp [h0]
   simp only [hz0, Bool.false_eq_true, if_false]
   obtain ⟨e, e1, e2⟩ := zL7 hN hL hu l (pre ++ [t]) (by rw [he]; simp) hl
   rw [show (pre ++ [t]).length = pre.length + 1 by simp] at e1
   have hall : (∀ x ∈ pre, WJ N x.Name = some true ∧ zE0 x p.Unit = 0) → ∀ x ∈ pre ++ [t], WJ N x.Name = some true ∧ zE0 x p.Unit = 0 := fun h x hx => by
    rcases List.mem_append.1 hx with hx | hx
    ·exact h x hx
    ·simp at hx; subst hx; exact ⟨b1, h0⟩
   rcases List.eq_nil_or_concat pre with hz | ⟨pre0, u, hz⟩
   ·subst hz
    rw [if_neg (by simp), Option.bind_some, if_neg (by simp), e1]
    exact ⟨e, rfl, fun h _ => e2 (hall h) trivial⟩
   ·rw [List.concat_eq_append] at hz
    subst hz
    have hpl : ((pre0 ++ [u]).length : Int) - 1 = (pre0.length : Int) := by simp
    rw [if_pos (by simp), hpl, QQ (by omega) (by simp at hlen; omega), show idx p.Tools (pre0.length : Int) = some u by rw [he, List.append_assoc]; exact KQ _ _ _, Option.bind_some, Option.bind_some]
    cases ho : (sLt t.Name u.Name || sEq t.Name u.Name)
    ·rw [if_neg (by simp), e1]
     exact ⟨e, rfl, fun h h' => e2 (hall h) ((zX7 _ _ _).2 ⟨h', ho⟩)⟩
    ·rw [if_pos rfl]
     refine ⟨8, rfl, fun _ _ => ⟨fun h => (by cases h), fun h => ?_⟩⟩
     have := h.ord
     rw [he] at this
     have key : ∀ (a : List zg), zRU (a ++ u :: t :: l) → (sLt t.Name u.Name || sEq t.Name u.Name) = false := fun a => by
      induction a with
      | nil => exact fun h => h.1
      | cons z a ih =>
       cases a with
       | nil => exact fun h => h.2.1
       | cons w a => exact fun h => ih h.2
     rw [List.append_assoc] at this
     have := key pre0 this
     rw [ho] at this; cases this
  ·have hz0 : (zE0 t p.Unit != 0) = true := by simpa using h0
   simp only [hz0, if_true]
   exact ⟨_, rfl, fun _ _ => ⟨fun h => absurd h h0, fun h => absurd (h.tools t hmem).2 h0⟩⟩
theorem zKU {N : Nat} {p : zt} (hN : Fu p N) (hL : zIS p) : Jl N p = some 0 ↔ VX N p := by
 have hw : Kw p.Unit 1 1000 = some (decide (1 ≤ p.Unit) && decide (p.Unit ≤ 1000)) := rfl
 unfold Jl
 rw [hw, Option.bind_some]
 by_cases hu : 1 ≤ p.Unit ∧ p.Unit ≤ 1000
 ·rw [if_neg (by simpa using hu)]
  by_cases ht : 200 < (p.Tools.length : Int)
  ·rw [if_pos (decide_eq_true ht)]
   exact ⟨fun h => (by cases h), fun h => by have := h.few; omega⟩
  ·rw [if_neg (by simpa using ht)]
   obtain ⟨e, e1, e2⟩ := zL7 hN hL hu p.Tools [] rfl (by omega)
   have := e2 (fun _ h => by cases h) trivial
   rw [show ([] : List zg).length = 0 from rfl] at e1
   rw [e1]
   exact ⟨fun h => this.1 (Option.some.inj h), fun h => congrArg some (this.2 h)⟩
 ·rw [if_pos (by simp; omega)]
  exact ⟨fun h => (by cases h), fun h => absurd h.unit hu⟩
theorem VX.good {N : Nat} {p : zt} (hN : Fu p N) (hL : zIS p) (h : VX N p) : (∀ t ∈ p.Tools, t.Name.size ≤ 40) ∧ p.Steps.length ≤ 3000 := by
 refine ⟨fun t ht => ?_, ?_⟩
 ·have hsz := zIa ht
  have hN' := hN
  unfold Fu at hN'
  obtain ⟨b, b1, b2⟩ := zQ9 (N := N) (hL.tools t ht).1 (by omega)
  rw [(h.tools t ht).1] at b1
  exact b2 (Option.some.inj b1).symm
 ·have hc := h.cnt
  have : ∀ l : List zC, (l.length : Int) ≤ zCC l := fun l => by
   induction l with
   | nil => rw [zEd]; simp
   | cons x l ih => have := zPG x; rw [zDL, List.length_cons]; omega
  have := this p.Steps
  omega
theorem zT5 (zs : List Int) (x : Int) : x ∈ Lib.compact zs ↔ x ∈ zs := by
 unfold Lib.compact Lib.compactUpTo
 constructor
 ·intro h
  obtain ⟨j, hj, rfl⟩ := List.mem_map.1 h
  have hj := List.mem_range.1 (List.mem_filter.1 hj).1
  show zs.toArray[j]! ∈ zs
  rw [getElem!_pos zs.toArray j (by simpa using hj)]
  simp
 ·intro h
  have key : ∀ (j : Nat), (hj : j < zs.length) → ∃ i, i < zs.length ∧ Lib.keeps zs.toArray i = true ∧ zs.toArray[i]! = zs[j] := by
   intro j
   induction j with
   | zero => intro hj; exact ⟨0, hj, Lib.keeps_lt_one _ 0 (by omega), by rw [getElem!_pos zs.toArray 0 (by simpa using hj)]; simp⟩
   | succ j ih =>
    intro hj
    by_cases hk : Lib.keeps zs.toArray (j + 1) = true
    ·exact ⟨j + 1, hj, hk, by rw [getElem!_pos zs.toArray (j + 1) (by simpa using hj)]; simp⟩
    ·have he : zs.toArray[j + 1]! = zs.toArray[j]! := by
      unfold Lib.keeps at hk
      simp at hk
      simpa using hk
     rw [getElem!_pos zs.toArray (j + 1) (by simpa using hj), getElem!_pos zs.toArray j (by simp; omega)] at he
     simp at he
     obtain ⟨i, h1, h2, h3⟩ := ih (by omega)
     exact ⟨i, h1, h2, by rw [h3, he]⟩
  obtain ⟨j, hj, rfl⟩ := List.mem_iff_getElem.1 h
  obtain ⟨i, h1, h2, h3⟩ := key j hj
  exact List.mem_map.2 ⟨i, List.mem_filter.2 ⟨List.mem_range.2 h1, h2⟩, h3⟩
theorem zPF {zs : List Int} (h : zs.Pairwise fun x y => x ≤ y) : (Lib.compact zs).Pairwise fun x y => x < y := by
 unfold Lib.compact Lib.compactUpTo
 rw [List.pairwise_map]
 have hr : ((List.range zs.length).filter (Lib.keeps zs.toArray)).Pairwise (fun i j => i < j) := (List.pairwise_lt_range).filter _
 refine List.Pairwise.imp_of_mem (fun {i j} hi hj hij => ?_) hr
 have hj1 := List.mem_range.1 (List.mem_filter.1 hj).1
 have hj2 := (List.mem_filter.1 hj).2
 show zs.toArray[i]! < zs.toArray[j]!
 unfold Lib.keeps at hj2
 simp at hj2
 have hne : zs.toArray[j]! ≠ zs.toArray[j - 1]! := by
  rcases hj2 with h0 | h0
  ·omega
  ·simpa using h0
 rw [getElem!_pos zs.toArray j (by simpa using hj1), getElem!_pos zs.toArray (j - 1) (by simp; omega)] at hne
 rw [getElem!_pos zs.toArray j (by simpa using hj1), getElem!_pos zs.toArray i (by simp; omega)]
 simp at hne ⊢
 rw [List.pairwise_iff_getElem] at h
 have a1 : zs[j - 1] ≤ zs[j] := h (j - 1) j (by omega) hj1 (by omega)
 have a2 : zs[i] ≤ zs[j - 1] := by
  rcases Nat.lt_or_eq_of_le (show i ≤ j - 1 by omega) with hlt | heq
  ·exact h i (j - 1) (by omega) (by omega) hlt
  ·subst heq; exact Int.le_refl _
 omega
def zGa (l : List Int) : List Int := Lib.compact (l.mergeSort fun x y => decide (x ≤ y))
theorem zEV (l : List Int) (x : Int) : x ∈ zGa l ↔ x ∈ l := by
 unfold zGa
 rw [zT5]
 exact (List.mergeSort_perm l _).mem_iff
theorem zDG (l : List Int) : (zGa l).Pairwise fun x y => x < y := by
 unfold zGa
 refine zPF ?_
 have := List.pairwise_mergeSort (le := fun x y : Int => decide (x ≤ y)) (fun a b c h1 h2 => by simp at *; omega) (fun a b => by simp; omega) l
 exact this.imp (by simp)
theorem zVq {l : List Int} (h : l.length < 4611686018427387904) : ((zSl l).bind fun y => cpI y) = some (zGa l) := by
 unfold zSl cpI zGa
 rw [if_pos h]; rfl
theorem zRO {l : List Int} (h : l.length < 4611686018427387904) : zSl l = some (l.mergeSort fun x y => decide (x ≤ y)) := if_pos h
def Can : Int → List (Int × Int) → Prop
 | _, [] => True
 | lo, p :: l => lo < p.1 ∧ p.1 < p.2 ∧ Can p.2 l
def InS (x : Int) (l : List (Int × Int)) : Prop := ∃ p ∈ l, p.1 ≤ x ∧ x < p.2
theorem VJ {x : Int} {p : Int × Int} {l : List (Int × Int)} : InS x (p :: l) ↔ (p.1 ≤ x ∧ x < p.2) ∨ InS x l := by unfold InS; simp
theorem zAb {x : Int} : ¬ InS x [] := by unfold InS; simp
theorem zBh {x : Int} {l m : List (Int × Int)} : InS x (l ++ m) ↔ InS x l ∨ InS x m := by
 unfold InS
 constructor
 ·rintro ⟨p, hp, h⟩
  rcases List.mem_append.1 hp with hp | hp
  ·exact .inl ⟨p, hp, h⟩
  ·exact .inr ⟨p, hp, h⟩
 ·rintro (⟨p, hp, h⟩ | ⟨p, hp, h⟩)
  ·exact ⟨p, List.mem_append_left _ hp, h⟩
  ·exact ⟨p, List.mem_append_right _ hp, h⟩
theorem Can.lt : ∀ {l : List (Int × Int)} {lo x : Int}, Can lo l → InS x l → lo < x
 | [], _, _, _, h => absurd h zAb
 | p :: l, lo, x, h, hx => by
  obtain ⟨h1, h2, h3⟩ := h
  rcases VJ.1 hx with hx | hx
  ·omega
  ·have := h3.lt hx; omega
theorem Can.mono {l : List (Int × Int)} {lo lo' : Int} (h : Can lo l) (hl : lo' ≤ lo) : Can lo' l := by
 cases l with
 | nil => trivial
 | cons p l => exact ⟨by have := h.1; omega, h.2⟩
theorem Can.uniq : ∀ {l m : List (Int × Int)} {lo lo' : Int}, Can lo l → Can lo' m → (∀ x, InS x l ↔ InS x m) → l = m
 | [], [], _, _, _, _, _ => rfl
 | [], p :: m, _, _, _, h2, h => absurd ((h p.1).2 (VJ.2 (.inl ⟨Int.le_refl _, h2.2.1⟩))) zAb
 | p :: l, [], _, _, h1, _, h => absurd ((h p.1).1 (VJ.2 (.inl ⟨Int.le_refl _, h1.2.1⟩))) zAb
 | p :: l, q :: m, lo, lo', h1, h2, h => by
  obtain ⟨a1, a2, a3⟩ := h1
  obtain ⟨b1, b2, b3⟩ := h2
  have c1 : q.1 ≤ p.1 := by
   rcases VJ.1 ((h p.1).1 (VJ.2 (.inl ⟨Int.le_refl _, a2⟩))) with hx | hx
   ·exact hx.1
   ·have := b3.lt hx; omega
  have c2 : p.1 ≤ q.1 := by
   rcases VJ.1 ((h q.1).2 (VJ.2 (.inl ⟨Int.le_refl _, b2⟩))) with hx | hx
   ·exact hx.1
   ·have := a3.lt hx; omega
  have c3 : ¬ p.2 < q.2 := fun hlt => by
   rcases VJ.1 ((h p.2).2 (VJ.2 (.inl ⟨by omega, hlt⟩))) with hx | hx
   ·omega
   ·have := a3.lt hx; omega
  have c4 : ¬ q.2 < p.2 := fun hlt => by
   rcases VJ.1 ((h q.2).1 (VJ.2 (.inl ⟨by omega, hlt⟩))) with hx | hx
   ·omega
   ·have := b3.lt hx; omega
  have hpq : p = q := by obtain ⟨a, b⟩ := p; obtain ⟨c, d⟩ := q; simp only at *; congr 1 <;> omega
  subst hpq
  have hlm : l = m := a3.uniq b3 fun x => by
   constructor
   ·intro hx
    have hlt := a3.lt hx
    rcases VJ.1 ((h x).1 (VJ.2 (.inr hx))) with h' | h'
    ·omega
    ·exact h'
   ·intro hx
    have hlt := b3.lt hx
    rcases VJ.1 ((h x).2 (VJ.2 (.inr hx))) with h' | h'
    ·omega
    ·exact h'
  rw [hlm]
theorem Can.snoc : ∀ {l : List (Int × Int)} {lo : Int} {p : Int × Int}, Can lo l → (∀ q ∈ l, q.2 < p.1) → lo < p.1 → p.1 < p.2 → Can lo (l ++ [p])
 | [], _, _, _, _, h1, h2 => ⟨h1, h2, trivial⟩
 | q :: l, lo, p, h, hq, h1, h2 => ⟨h.1, h.2.1, h.2.2.snoc (fun r hr => hq r (by simp [hr])) (hq q (by simp)) h2⟩
theorem Can.init : ∀ {l : List (Int × Int)} {lo : Int} {p : Int × Int}, Can lo (l ++ [p]) → Can lo l ∧ (∀ q ∈ l, q.2 < p.1) ∧ lo < p.1 ∧ p.1 < p.2
 | [], _, _, h => ⟨trivial, by simp, h.1, h.2.1⟩
 | q :: l, lo, p, h => by
  obtain ⟨i1, i2, i3, i4⟩ := Can.init (l := l) h.2.2
  have := h.1; have := h.2.1
  refine ⟨⟨h.1, h.2.1, i1⟩, fun r hr => ?_, by omega, i4⟩
  rcases List.mem_cons.1 hr with rfl | hr
  ·exact i3
  ·exact i2 r hr
def Qo (l : List (Int × Int)) : List Int := l.flatMap fun p => [p.1, p.2]
theorem zFZ : Qo [] = [] := rfl
theorem zBd (p : Int × Int) (l : List (Int × Int)) : Qo (p :: l) = p.1 :: p.2 :: Qo l := rfl
theorem zDf (l m : List (Int × Int)) : Qo (l ++ m) = Qo l ++ Qo m := by unfold Qo; rw [List.flatMap_append]
theorem KE : ∀ l : List (Int × Int), (Qo l).length = 2 * l.length
 | [] => rfl
 | p :: l => by rw [zBd, List.length_cons, List.length_cons, KE l, List.length_cons]; omega
theorem zQx : ∀ {l m : List (Int × Int)}, Qo l = Qo m → l = m
 | [], [], _ => rfl
 | [], q :: m, h => by rw [zFZ, zBd] at h; cases h
 | p :: l, [], h => by rw [zFZ, zBd] at h; cases h
 | p :: l, q :: m, h => by
  rw [zBd, zBd] at h
  injection h with h1 h
  injection h with h2 h
  rw [zQx h]
  congr 1
  obtain ⟨a, b⟩ := p; obtain ⟨c, d⟩ := q
  simp only at h1 h2
  rw [h1, h2]
def zPB (l : List (Int × Int)) (p : Int × Int) : List (Int × Int) :=
 match l.getLast? with
 | none => [p]
 | some q => if p.1 ≤ q.2 then l.dropLast ++ [(q.1, max q.2 p.2)] else l ++ [p]
theorem zT1 (p : Int × Int) : zPB [] p = [p] := rfl
theorem zQy (l : List (Int × Int)) (q p : Int × Int) : zPB (l ++ [q]) p = if p.1 ≤ q.2 then l ++ [(q.1, max q.2 p.2)] else l ++ [q] ++ [p] := by
 unfold zPB
 simp
theorem zdE {lo : Int} {l done : List (Int × Int)} {p : Int × Int} (hc : Can lo l) (hm : ∀ x, InS x l ↔ InS x done) (hlast : ∀ q ∈ l, q.1 ≤ p.1) (hlo : lo < p.1) (hp : p.1 < p.2) :
  Can lo (zPB l p) ∧ (∀ x, InS x (zPB l p) ↔ InS x (done ++ [p])) ∧ ∀ q ∈ zPB l p, q.1 ≤ p.1 := by
 have hsplit : l = [] ∨ ∃ i q, l = i ++ [q] := by
  rcases List.eq_nil_or_concat l with h | ⟨i, q, h⟩
  ·exact .inl h
  ·exact .inr ⟨i, q, by simpa using h⟩
 rcases hsplit with rfl | ⟨i, q, rfl⟩
 ·rw [zT1]
  refine ⟨⟨hlo, hp, trivial⟩, fun x => ?_, by simp⟩
  rw [zBh, ← hm x]
  exact ⟨fun h => .inr h, fun h => h.resolve_left zAb⟩
 ·obtain ⟨c1, c2, c3, c4⟩ := hc.init
  have hq := hlast q (by simp)
  rw [zQy]
  by_cases hle : p.1 ≤ q.2
  ·rw [if_pos hle]
   refine ⟨c1.snoc (p := (q.1, max q.2 p.2)) c2 c3 (by show q.1 < max q.2 p.2; omega), fun x => ?_, fun r hr => ?_⟩
   ·rw [zBh, zBh (l := done), ← hm x, zBh]
    have e1 : InS x [(q.1, max q.2 p.2)] ↔ (q.1 ≤ x ∧ x < max q.2 p.2) := by unfold InS; simp
    have e2 : InS x [q] ↔ (q.1 ≤ x ∧ x < q.2) := by unfold InS; simp
    have e3 : InS x [p] ↔ (p.1 ≤ x ∧ x < p.2) := by unfold InS; simp
    rw [e1, e2, e3]
    constructor
    ·rintro (h | h)
     ·exact .inl (.inl h)
     ·by_cases hx : x < q.2
      ·exact .inl (.inr ⟨h.1, hx⟩)
      ·exact .inr ⟨by omega, by omega⟩
    ·rintro ((h | h) | h)
     ·exact .inl h
     ·exact .inr ⟨h.1, by omega⟩
     ·exact .inr ⟨by omega, by omega⟩
   ·rcases List.mem_append.1 hr with hr | hr
    ·have := c2 r hr; exact hlast r (by simp [hr])
    ·simp at hr; subst hr; exact hq
  ·rw [if_neg hle]
   refine ⟨hc.snoc (fun r hr => ?_) hlo hp, fun x => ?_, fun r hr => ?_⟩
   ·rcases List.mem_append.1 hr with hr | hr
    ·have := c2 r hr; omega
    ·simp at hr; subst hr; omega
   ·rw [zBh, zBh (l := done), hm x]
   ·rcases List.mem_append.1 hr with hr | hr
    ·exact hlast r hr
    ·simp at hr; subst hr; exact Int.le_refl _
theorem zWc {lo : Int} : ∀ (suf : List (Int × Int)) (l done : List (Int × Int)), Can lo l → (∀ x, InS x l ↔ InS x done) → (∀ p ∈ suf, ∀ q ∈ l, q.1 ≤ p.1) → suf.Pairwise (fun p q => p.1 ≤ q.1) → (∀ p ∈ suf, lo < p.1 ∧ p.1 < p.2) →
  Can lo (suf.foldl zPB l) ∧ ∀ x, InS x (suf.foldl zPB l) ↔ InS x (done ++ suf)
 | [], l, done, h1, h2, _, _, _ => ⟨h1, by simpa using h2⟩
 | p :: suf, l, done, h1, h2, h3, h4, h5 => by
  obtain ⟨s1, s2, s3⟩ := zdE h1 h2 (h3 p (by simp)) (h5 p (by simp)).1 (h5 p (by simp)).2
  rw [List.pairwise_cons] at h4
  have := zWc suf (zPB l p) (done ++ [p]) s1 s2 (fun r hr q hq => Int.le_trans (s3 q hq) (h4.1 r hr)) h4.2 (fun r hr => h5 r (by simp [hr]))
  simpa using this
def zHb : Int → Int → List (Int × Int) → List (Int × Int)
 | a, b, [] => [(a, b)]
 | a, b, q :: l => if q.1 ≤ b then zHb (min a q.1) (max b q.2) l else (a, b) :: q :: l
def zGw : List (Int × Int) → Int × Int → List (Int × Int)
 | [], p => [p]
 | q :: l, p => if q.2 < p.1 then q :: zGw l p else zHb p.1 p.2 (q :: l)
theorem zQL : ∀ {l : List (Int × Int)} {lo a b : Int}, lo < a → a < b → (∀ q ∈ l, lo < q.1) → (∀ q ∈ l, a ≤ q.2) → (∃ lo', Can lo' l) → Can lo (zHb a b l) ∧ ∀ x, InS x (zHb a b l) ↔ (a ≤ x ∧ x < b) ∨ InS x l
 | [], lo, a, b, h1, h2, _, _, _ => ⟨⟨h1, h2, trivial⟩, fun x => by unfold zHb; rw [VJ]⟩
 | q :: l, lo, a, b, h1, h2, h3, h5, ⟨lo', h4⟩ => by
  have hq := h3 q (by simp)
  have hov := h5 q (by simp)
  have hq2 := h4.2.1
  unfold zHb
  by_cases hle : q.1 ≤ b
  ·rw [if_pos hle]
   obtain ⟨i1, i2⟩ := zQL (l := l) (lo := lo) (a := min a q.1) (b := max b q.2) (by omega) (by omega) (fun r hr => h3 r (by simp [hr])) (fun r hr => by have := h5 r (by simp [hr]); omega) ⟨q.2, h4.2.2⟩
   refine ⟨i1, fun x => ?_⟩
   rw [i2, VJ]
   constructor
   ·rintro (h | h)
    ·by_cases h' : a ≤ x ∧ x < b
     ·exact .inl h'
     ·exact .inr (.inl ⟨by omega, by omega⟩)
    ·exact .inr (.inr h)
   ·rintro (h | h | h)
    ·exact .inl ⟨by omega, by omega⟩
    ·exact .inl ⟨by omega, by omega⟩
    ·exact .inr h
  ·rw [if_neg hle]
   refine ⟨⟨h1, h2, by omega, hq2, h4.2.2⟩, fun x => ?_⟩
   rw [VJ]
theorem Can.mem : ∀ {l : List (Int × Int)} {lo : Int}, Can lo l → ∀ q ∈ l, lo < q.1 ∧ q.1 < q.2
 | [], _, _, q, h => by simp at h
 | p :: l, lo, h, q, hq => by
  rcases List.mem_cons.1 hq with rfl | hq
  ·exact ⟨h.1, h.2.1⟩
  ·have := h.2.2.mem q hq
   have := h.1; have := h.2.1
   omega
theorem zTP : ∀ {l : List (Int × Int)} {lo : Int} {p : Int × Int}, Can lo l → lo < p.1 → p.1 < p.2 → Can lo (zGw l p) ∧ ∀ x, InS x (zGw l p) ↔ InS x (l ++ [p])
 | [], lo, p, _, h1, h2 => ⟨⟨h1, h2, trivial⟩, fun x => Iff.rfl⟩
 | q :: l, lo, p, h, h1, h2 => by
  unfold zGw
  by_cases hlt : q.2 < p.1
  ·rw [if_pos hlt]
   obtain ⟨i1, i2⟩ := zTP (l := l) (lo := q.2) (p := p) h.2.2 hlt h2
   refine ⟨⟨h.1, h.2.1, i1⟩, fun x => ?_⟩
   rw [VJ, i2, List.cons_append, VJ]
  ·rw [if_neg hlt]
   obtain ⟨i1, i2⟩ := zQL (l := q :: l) (lo := lo) (a := p.1) (b := p.2) h1 h2 (fun r hr => (h.mem r hr).1) (fun r hr => by
    rcases List.mem_cons.1 hr with rfl | hr
    ·omega
    ·have := h.2.2.mem r hr; omega) ⟨lo, h⟩
   refine ⟨i1, fun x => ?_⟩
   rw [i2, zBh]
   have e : InS x [p] ↔ (p.1 ≤ x ∧ x < p.2) := by unfold InS; simp
   rw [e]
   exact or_comm
theorem zTO {lo : Int} : ∀ (suf : List (Int × Int)) (l done : List (Int × Int)), Can lo l → (∀ x, InS x l ↔ InS x done) → (∀ p ∈ suf, lo < p.1 ∧ p.1 < p.2) →
  Can lo (suf.foldl zGw l) ∧ ∀ x, InS x (suf.foldl zGw l) ↔ InS x (done ++ suf)
 | [], l, done, h1, h2, _ => ⟨h1, by simpa using h2⟩
 | p :: suf, l, done, h1, h2, h5 => by
  obtain ⟨s1, s2⟩ := zTP h1 (h5 p (by simp)).1 (h5 p (by simp)).2
  have := zTO suf (zGw l p) (done ++ [p]) s1 (fun x => by rw [s2, zBh, zBh, h2]) (fun r hr => h5 r (by simp [hr]))
  simpa using this
def zJq (l : List (Int × Int)) : List (Int × Int) := l.foldl zGw []
theorem zNn {lo : Int} {l : List (Int × Int)} (h : ∀ p ∈ l, lo < p.1 ∧ p.1 < p.2) : Can lo (zJq l) ∧ ∀ x, InS x (zJq l) ↔ InS x l := by
 have := zTO l [] [] (lo := lo) trivial (fun x => Iff.rfl) h
 rw [List.nil_append] at this
 exact this
theorem zdD {lo : Int} {l m : List (Int × Int)} (hp : m.Perm l) (hs : m.Pairwise (fun p q => p.1 ≤ q.1)) (h : ∀ p ∈ l, lo < p.1 ∧ p.1 < p.2) : m.foldl zPB [] = zJq l := by
 obtain ⟨a1, a2⟩ := zWc m [] [] (lo := lo) trivial (fun x => Iff.rfl) (by simp) hs (fun p hq => h p (hp.subset hq))
 obtain ⟨b1, b2⟩ := zNn h
 refine a1.uniq b1 fun x => ?_
 rw [a2, b2, List.nil_append]
 unfold InS
 constructor
 ·rintro ⟨p, hq, h⟩; exact ⟨p, hp.subset hq, h⟩
 ·rintro ⟨p, hq, h⟩; exact ⟨p, hp.symm.subset hq, h⟩
theorem zVY {lo : Int} {l m : List (Int × Int)} (hl : ∀ p ∈ l, lo < p.1 ∧ p.1 < p.2) (hm : ∀ p ∈ m, lo < p.1 ∧ p.1 < p.2) (h : ∀ x, InS x l ↔ InS x m) : zJq l = zJq m := by
 obtain ⟨a1, a2⟩ := zNn hl
 obtain ⟨b1, b2⟩ := zNn hm
 exact a1.uniq b1 fun x => by rw [a2, b2, h]
theorem zOe : ∀ (l : List (Int × Int)) (a b : Int), (zHb a b l).length ≤ l.length + 1
 | [], _, _ => by simp [zHb]
 | q :: l, a, b => by
  unfold zHb
  split
  ·have := zOe l (min a q.1) (max b q.2); simp; omega
  ·simp
theorem zQM : ∀ (l : List (Int × Int)) (p : Int × Int), (zGw l p).length ≤ l.length + 1
 | [], _ => by simp [zGw]
 | q :: l, p => by
  unfold zGw
  split
  ·have := zQM l p; simp; omega
  ·exact zOe _ _ _
theorem zT3 : ∀ (l m : List (Int × Int)), (l.foldl zGw m).length ≤ m.length + l.length
 | [], m => by simp
 | p :: l, m => by
  have := zT3 l (zGw m p); have := zQM m p
  rw [List.foldl_cons, List.length_cons]; omega
abbrev Bd := Int × Int × List (Int × Int)
def xsR (r : zK) : Int × Int := (r.X0, r.X1)
def zFf (l : List zK) (y : Int) : List (Int × Int) := zJq ((l.filter fun r => decide (r.Y0 ≤ y) && decide (y < r.Y1)).map xsR)
def pushB (l : List Bd) (b : Bd) : List Bd :=
 if b.2.2 = [] then l else
 match l.getLast? with
 | none => l ++ [b]
 | some c => if c.2.1 = b.1 ∧ c.2.2 = b.2.2 then l.dropLast ++ [(c.1, b.2.1, c.2.2)] else l ++ [b]
theorem zBX {l : List Bd} {b : Bd} (h : b.2.2 = []) : pushB l b = l := if_pos h
theorem zJJ {b : Bd} (h : b.2.2 ≠ []) : pushB [] b = [b] := by unfold pushB; rw [if_neg h]; rfl
theorem zDB {l : List Bd} {c b : Bd} (h : b.2.2 ≠ []) : pushB (l ++ [c]) b = if c.2.1 = b.1 ∧ c.2.2 = b.2.2 then l ++ [(c.1, b.2.1, c.2.2)] else l ++ [c] ++ [b] := by
 unfold pushB
 rw [if_neg h]
 simp
def zEM (l : List zK) : List Int → List Bd → List Bd
 | a :: b :: ys, out => zEM l (b :: ys) (pushB out (a, b, zFf l a))
 | _, out => out
def zES (l : List zK) : List Int := l.flatMap fun r => [r.Y0, r.Y1]
def zAQ (l : List zK) : List Bd := zEM l (zGa (zES l)) []
def zKs (b : Bd) : List zK := b.2.2.map fun s => ⟨s.1, b.1, s.2, b.2.1⟩
def QJ (l : List Bd) : List zK := l.flatMap zKs
def toP (b : Bd) : zZ := ⟨b.1, b.2.1, Qo b.2.2⟩
structure ROk (r : zK) : Prop where
 x0 : -1000000 ≤ r.X0 ∧ r.X0 ≤ 1000000
 y0 : -1000000 ≤ r.Y0 ∧ r.Y0 ≤ 1000000
 x1 : -1000000 ≤ r.X1 ∧ r.X1 ≤ 1000000
 y1 : -1000000 ≤ r.Y1 ∧ r.Y1 ≤ 1000000
 x : r.X0 < r.X1
 y : r.Y0 < r.Y1
structure R9 (r : zK) : Prop where
 x0 : -2000000000 ≤ r.X0 ∧ r.X0 ≤ 2000000000
 y0 : -2000000000 ≤ r.Y0 ∧ r.Y0 ≤ 2000000000
 x1 : -2000000000 ≤ r.X1 ∧ r.X1 ≤ 2000000000
 y1 : -2000000000 ≤ r.Y1 ∧ r.Y1 ≤ 2000000000
 x : r.X0 < r.X1
 y : r.Y0 < r.Y1
theorem ROk.r9 {r : zK} (h : ROk r) : R9 r := by
 have := h.x0; have := h.x1; have := h.y0; have := h.y1
 exact ⟨by omega, by omega, by omega, by omega, h.x, h.y⟩
theorem zYF (l m : List Int) : zAU l m = some (decide (l = m)) := by
 have key : ∀ (suf pre rest : List Int), suf.length = rest.length → Jd (pre ++ rest) suf pre.length = some (decide (suf = rest)) := by
  intro suf
  induction suf with
  | nil =>
   intro pre rest h
   have : rest = [] := List.eq_nil_of_length_eq_zero h.symm
   subst this
   rw [Jd.eq_1]; rfl
  | cons x suf ih =>
   intro pre rest h
   cases rest with
   | nil => simp at h
   | cons y rest =>
    rw [Jd.eq_2, KQ pre rest y, Option.bind_some]
    have := ih (pre ++ [y]) rest (by simpa using h)
    by_cases hxy : x = y
    ·subst hxy
     rw [if_neg (by simp)]
     simpa using this
    ·rw [if_pos (by simpa using hxy)]
     simp [hxy]
 unfold zAU
 by_cases h : l.length = m.length
 ·rw [if_neg (by simp; omega)]
  exact key l [] m h
 ·rw [if_pos (by simp; omega)]
  have : l ≠ m := fun e => h (by rw [e])
  simp [this]
theorem zMh (l m : List zK) : ∃ b : Bool, KJ l m = some b ∧ (b = true ↔ l = m) := by
 have key : ∀ (suf pre rest : List zK), suf.length = rest.length → ∃ b : Bool, JR (pre ++ rest) suf pre.length = some b ∧ (b = true ↔ suf = rest) := by
  intro suf
  induction suf with
  | nil =>
   intro pre rest h
   have : rest = [] := List.eq_nil_of_length_eq_zero h.symm
   subst this
   rw [JR.eq_1]; exact ⟨true, rfl, by simp⟩
  | cons x suf ih =>
   intro pre rest h
   cases rest with
   | nil => simp at h
   | cons y rest =>
    rw [JR.eq_2, KQ pre rest y, Option.bind_some]
    obtain ⟨b, h1, h2⟩ := ih (pre ++ [y]) rest (by simpa using h)
    by_cases hxy : x = y
    ·subst hxy
     rw [zIr.2 rfl, if_neg (by simp)]
     exact ⟨b, by simpa using h1, by simp [h2]⟩
    ·have : zHf x y = false := by rw [Bool.eq_false_iff]; exact fun h => hxy (zIr.1 h)
     rw [this, if_pos (by simp)]
     exact ⟨false, rfl, by simp [hxy]⟩
 unfold KJ
 by_cases h : l.length = m.length
 ·rw [if_neg (by simp; omega)]
  exact key l [] m h
 ·rw [if_pos (by simp; omega)]
  exact ⟨false, rfl, by simp; exact fun e => h (by rw [e])⟩
theorem zOC {c : zK → zK → Option Int} {k : zK → Int} {l : List zK} (hl : l.length ≤ 1000000000) (hc : ∀ x ∈ l, ∀ y ∈ l, c x y = some (k x - k y)) : ∃ m, zOB l c = some m ∧ m.Perm l ∧ m.Pairwise fun x y => k x ≤ k y := by
 have hlt : ∀ x ∈ l, ∀ y ∈ l, ltC c x y = decide (k x < k y) := fun x hx y hy => by
  unfold ltC
  rw [hc x hx y hy, Option.getD_some]
  exact decide_eq_decide.2 (by omega)
 have hs : zKS c l := ⟨by omega, fun x hx y hy => ⟨_, hc x hx y hy⟩, fun x hx => by rw [hlt x hx x hx]; simp, fun x hx y hy z hz h1 h2 => by
  rw [hlt x hx y hy] at h1; rw [hlt y hy z hz] at h2; rw [hlt x hx z hz]; simp at *; omega, fun x hx y hy z hz h1 h2 => by
  rw [hlt x hx y hy] at h1; rw [hlt y hy z hz] at h2; rw [hlt x hx z hz]; simp at *; omega⟩
 obtain ⟨m, hm⟩ := zcA hs
 obtain ⟨_, hp, hw⟩ := zP5 hm
 refine ⟨m, hm, hp, hw.imp_of_mem fun {x y} hx hy h => ?_⟩
 rw [hlt y (hp.subset hy) x (hp.subset hx)] at h
 simp at h
 exact h
theorem zDX (y : List zK) : ∀ (suf : List zK) (i : Nat) (l : List (Int × Int)), l.length + suf.length ≤ 1000000000 → JV y suf i (Qo l) = some (Qo ((suf.map xsR).foldl zPB l), y)
 | [], i, l, _ => by rw [JV.eq_1]; rfl
 | r :: suf, i, l, h => by
  simp only [List.length_cons] at h
  have hsplit : l = [] ∨ ∃ j q, l = j ++ [q] := by
   rcases List.eq_nil_or_concat l with h | ⟨j, q, h⟩
   ·exact .inl h
   ·exact .inr ⟨j, q, by simpa using h⟩
  rw [JV.eq_2, List.map_cons, List.foldl_cons]
  rcases hsplit with rfl | ⟨j, q, rfl⟩
  ·rw [if_neg (by simp [zFZ, QQ]), Option.bind_some, if_neg (by simp), show apd (Qo []) [r.X0, r.X1] = some (Qo [xsR r]) from rfl, Option.bind_some, zT1]
   exact zDX y suf (i + 1) [xsR r] (by simp; omega)
  ·have hfl : Qo (j ++ [q]) = (Qo j ++ [q.1]) ++ q.2 :: [] := by rw [zDf]; simp [Qo]
   have hlen : (Qo (j ++ [q])).length = 2 * j.length + 2 := by rw [KE]; simp; omega
   simp only [List.length_append, List.length_singleton] at h
   have hw : w64 (((Qo (j ++ [q])).length : Int) - 1) = ((Qo j ++ [q.1]).length : Int) := by
    rw [QQ (by omega) (by omega), hlen]; simp [KE]; omega
   have hid : idx (Qo (j ++ [q])) ((Qo j ++ [q.1]).length : Int) = some q.2 := by rw [hfl]; exact KQ _ [] q.2
   rw [hw, if_pos (decide_eq_true (by omega)), hid, Option.bind_some, Option.bind_some, zQy]
   by_cases hle : r.X0 ≤ q.2
   ·rw [if_pos (by simpa using hle), if_pos (show (xsR r).1 ≤ q.2 from hle), Option.bind_some]
    have hset : sets (Qo (j ++ [q])) ((Qo j ++ [q.1]).length : Int) (max q.2 r.X1) = some (Qo (j ++ [(q.1, max q.2 (xsR r).2)])) := by
     unfold sets
     rw [if_pos ⟨by omega, by rw [hlen]; simp [KE]⟩, hfl, zDf]
     simp [Qo, xsR]
    rw [Option.bind_some, hset, Option.bind_some]
    exact zDX y suf (i + 1) _ (by simp; omega)
   ·rw [if_neg (by simpa using hle), if_neg (show ¬ (xsR r).1 ≤ q.2 from hle), zB0 (by rw [hlen]; simp; omega), Option.bind_some]
    have : Qo (j ++ [q]) ++ [r.X0, r.X1] = Qo (j ++ [q] ++ [xsR r]) := by rw [zDf (j ++ [q])]; rfl
    rw [this]
    exact zDX y suf (i + 1) _ (by simp; omega)
theorem zKj {l : List zK} (hl : l.length ≤ 400000000) (h : ∀ r ∈ l, R9 r) : ∃ m, m.Perm l ∧ zAv l = some (Qo (zJq (l.map xsR)), m) := by
 obtain ⟨m, h1, h2, h3⟩ := zOC (c := fun z0 z1 => Vp z0 z1) (k := fun r => r.X0) (l := l) (by omega) (fun x hx y hy => by
  have a := (h x hx).x0; have b := (h y hy).x0
  unfold Vp
  rw [QQ (by omega) (by omega)])
 refine ⟨m, h2, ?_⟩
 unfold zAv
 rw [h1, Option.bind_some]
 have := zDX m m 0 [] (by have := h2.length_eq; simp; omega)
 rw [zFZ] at this
 rw [this, zdD (lo := -2000000001) (h2.map xsR) (by rw [List.pairwise_map]; exact h3) (fun p hp => by
  obtain ⟨r, hr, rfl⟩ := List.mem_map.1 hp
  have a := h r hr
  exact ⟨by have := a.x0; show -2000000001 < r.X0; omega, a.x⟩)]
theorem zRA {g : zK → Bool} {f : zK → Option Bool} : ∀ (l : List zK) (i : Nat), (∀ x ∈ l, f x = some (g x)) → JH f l i = some (zCq g l i)
 | [], i, _ => rfl
 | x :: l, i, h => by
  rw [JH.eq_2, h x (by simp), Option.bind_some, zRA l (i + 1) (fun y hy => h y (by simp [hy])), zCq, show ((i + 1 : Nat) : Int) = (i : Int) + 1 by omega]
  cases g x <;> rfl
theorem zIt {g : zK → Bool} {f : zK → Option Bool} : ∀ (rest k u : List zK) (n : Nat), (∀ x ∈ rest, f x = some (g x)) → u ≠ [] → rest.length < n → (k ++ u ++ rest).length ≤ 1000000000 →
  Qq f n (k ++ u ++ rest) k.length (k ++ u).length = some (k ++ rest.filter fun x => !g x)
 | [], k, u, n + 1, _, hu, _, hl => by
  have hc : cut (k ++ u ++ []) (k.length : Int) ((k ++ u ++ []).length : Int) = some u := by
   unfold cut
   rw [if_pos ⟨by omega, by simp; omega, by omega⟩, List.append_nil, Int.toNat_natCast, Int.toNat_natCast, List.take_length, List.drop_left]
  rw [Qq.eq_2, if_neg (by simp), hc, Option.bind_some]
  unfold clr pre
  rw [if_pos ⟨by omega, by simp; omega⟩]
  simp
 | x :: rest, k, u, n + 1, h, hu, hn, hl => by
  obtain ⟨u0, u', rfl⟩ : ∃ u0 u', u = u0 :: u' := by cases u with | nil => exact absurd rfl hu | cons a b => exact ⟨a, b, rfl⟩
  have hid : idx (k ++ (u0 :: u') ++ x :: rest) ((k ++ (u0 :: u')).length : Int) = some x := KQ _ rest x
  simp only [List.length_append, List.length_cons] at hl hn
  rw [Qq.eq_2, if_pos (by simp; omega), hid, Option.bind_some, h x (by simp), Option.bind_some, zN4 (k ++ (u0 :: u')) x (by simp; omega)]
  cases hg : g x
  ·have hid2 : idx (k ++ (u0 :: u') ++ x :: rest) (k.length : Int) = some u0 := by
    rw [List.append_assoc]; exact KQ k (u' ++ x :: rest) u0
   have hset : sets (k ++ (u0 :: u') ++ x :: rest) (k.length : Int) x = some ((k ++ [x]) ++ (u' ++ [x]) ++ rest) := by
    unfold sets
    rw [if_pos ⟨by omega, by simp⟩]
    simp
   rw [if_pos (by simp), hid2, Option.bind_some, hset, Option.bind_some, zN4 k x (by omega)]
   have := zIt rest (k ++ [x]) (u' ++ [x]) n (fun y hy => h y (by simp [hy])) (by simp) (by omega) (by simp; omega)
   have e : ((k ++ (u0 :: u') ++ [x]).length : Int) = ((k ++ [x] ++ (u' ++ [x])).length : Int) := by rw [List.length_append, List.length_append, List.length_append, List.length_append, List.length_append]; simp; omega
   rw [e, this, List.filter_cons, hg]
   simp
  ·rw [if_neg (by simp)]
   have := zIt rest k (u0 :: u' ++ [x]) n (fun y hy => h y (by simp [hy])) (by simp) (by omega) (by simp; omega)
   have e : k ++ (u0 :: u') ++ x :: rest = k ++ (u0 :: u' ++ [x]) ++ rest := by simp
   have e2 : ((k ++ (u0 :: u') ++ [x]).length : Int) = ((k ++ (u0 :: u' ++ [x])).length : Int) := by simp
   rw [e, e2, this, List.filter_cons, hg]
   simp
theorem zOf {α : Type} (g : α → Bool) : ∀ (l : List α) (i : Int), 0 ≤ i → (zCq g l i = -1 ∧ ∀ x ∈ l, g x = false) ∨ ∃ a x b, l = a ++ x :: b ∧ (∀ y ∈ a, g y = false) ∧ g x = true ∧ zCq g l i = i + a.length
 | [], i, _ => .inl ⟨rfl, by simp⟩
 | x :: l, i, hi => by
  unfold zCq
  cases hg : g x
  ·simp only [Bool.false_eq_true, if_false]
   rcases zOf g l (i + 1) (by omega) with ⟨h1, h2⟩ | ⟨a, z, b, h1, h2, h3, h4⟩
   ·exact .inl ⟨h1, fun y hy => by rcases List.mem_cons.1 hy with rfl | hy; exact hg; exact h2 y hy⟩
   ·refine .inr ⟨x :: a, z, b, by rw [h1]; rfl, fun y hy => ?_, h3, by rw [h4]; simp; omega⟩
    rcases List.mem_cons.1 hy with rfl | hy
    ·exact hg
    ·exact h2 y hy
  ·rw [if_pos rfl]
   exact .inr ⟨[], x, l, rfl, by simp, hg, by simp⟩
theorem zYG {N : Nat} {g : zK → Bool} {f : zK → Option Bool} {l : List zK} (hN : 1000000000 < N) (hl : l.length ≤ 1000000000) (h : ∀ x ∈ l, f x = some (g x)) : VR N l f = some (l.filter fun x => !g x) := by
 unfold VR WZ
 rw [zRA l 0 h, Option.bind_some, show ((0 : Nat) : Int) = 0 from rfl]
 rcases zOf g l 0 (by omega) with ⟨h1, h2⟩ | ⟨a, x, b, h1, h2, h3, h4⟩
 ·rw [h1, if_pos (by simp)]
  congr 1
  exact (List.filter_eq_self.2 fun y hy => by simp [h2 y hy]).symm
 ·rw [h4, if_neg (by first | (simp; done) | (simp; omega))]
  subst h1
  simp only [List.length_append, List.length_cons] at hl
  have := zIt b a [x] N (fun y hy => h y (by simp [hy])) (by simp) (by omega) (by simp; omega)
  have e : a ++ [x] ++ b = a ++ x :: b := by simp
  rw [e] at this
  rw [Int.zero_add, QQ (by omega) (by omega), show ((a.length : Int) + 1) = ((a ++ [x]).length : Int) by simp, this, List.filter_append, List.filter_cons, h3]
  have ha : a.filter (fun x => !g x) = a := List.filter_eq_self.2 fun y hy => by simp [h2 y hy]
  simp [ha]
theorem zNU {l : List Bd} {b : Bd} (hl : l.length ≤ 1000000000) (hb : b.1 < b.2.1) : JZ (l.map toP) (toP b) = some ((pushB l b).map toP) := by
 unfold JZ
 have hfl : ((toP b).Xs.length : Int) = 2 * (b.2.2.length : Int) := by show ((Qo b.2.2).length : Int) = _; rw [KE]; omega
 by_cases he : b.2.2 = []
 ·rw [if_pos (by rw [hfl, he]; simp), zBX he]
 ·have hpos : 0 < b.2.2.length := List.length_pos_iff.2 he
  rw [if_neg (by
   rw [hfl]
   show ¬ ((2 * (b.2.2.length : Int) == 0) || decide (b.2.1 ≤ b.1)) = true
   rw [Bool.or_eq_true, not_or]
   exact ⟨by simp; exact he, by simp; exact hb⟩)]
  have hsplit : l = [] ∨ ∃ j q, l = j ++ [q] := by
   rcases List.eq_nil_or_concat l with h | ⟨j, q, h⟩
   ·exact .inl h
   ·exact .inr ⟨j, q, by simpa using h⟩
  rcases hsplit with rfl | ⟨j, c, rfl⟩
  ·rw [zJJ he, if_neg (by simp [QQ]), Option.bind_some, if_neg (by simp), Option.bind_some, if_neg (by simp)]
   rfl
  ·simp only [List.length_append, List.length_singleton] at hl
   have hm : (j ++ [c]).map toP = j.map toP ++ toP c :: [] := by simp
   have hw : w64 ((((j ++ [c]).map toP).length : Int) - 1) = ((j.map toP).length : Int) := by
    rw [QQ (by first | (simp; done) | (simp; omega)) (by first | (simp; done) | (simp; omega))]; simp
   have hid : idx ((j ++ [c]).map toP) ((j.map toP).length : Int) = some (toP c) := by rw [hm]; exact KQ _ [] _
   rw [zDB he, hw, if_pos (by simp), hid, Option.bind_some, Option.bind_some, Option.bind_some, zYF]
   have hxs : ((toP c).Xs = (toP b).Xs) ↔ c.2.2 = b.2.2 := ⟨fun h => zQx h, fun h => by show Qo c.2.2 = Qo b.2.2; rw [h]⟩
   by_cases h1 : c.2.1 = b.1
   ·have e1 : ((toP c).Y1 == (toP b).Y0) = true := by simpa [toP] using h1
    rw [e1, if_pos rfl, Option.bind_some, Option.bind_some]
    by_cases h2 : c.2.2 = b.2.2
    ·rw [decide_eq_true (hxs.2 h2), if_pos rfl, if_pos ⟨h1, h2⟩]
     have hset : sets ((j ++ [c]).map toP) ((j.map toP).length : Int) (zZ.mk (toP c).Y0 (toP b).Y1 (toP c).Xs) = some ((j ++ [(c.1, b.2.1, c.2.2)]).map toP) := by
      unfold sets
      rw [if_pos ⟨by omega, by simp⟩, hm]
      simp [toP]
     rw [Option.bind_some, hset]; rfl
    ·rw [decide_eq_false (fun h => h2 (hxs.1 h)), if_neg (by simp), if_neg (fun h => h2 h.2), zB0 (by simp; omega), Option.bind_some]
     simp
   ·have e1 : ((toP c).Y1 == (toP b).Y0) = false := by simpa [toP] using h1
    rw [e1, if_neg (by simp), Option.bind_some, if_neg (by simp), if_neg (fun h => h1 h.1), zB0 (by simp; omega), Option.bind_some]
    simp
theorem zMo : ∀ {l m : List Int}, l.Pairwise (fun x y => x < y) → m.Pairwise (fun x y => x < y) → (∀ x, x ∈ l ↔ x ∈ m) → l = m
 | [], [], _, _, _ => rfl
 | [], y :: m, _, _, h => by have := (h y).2 (by simp); simp at this
 | x :: l, [], _, _, h => by have := (h x).1 (by simp); simp at this
 | x :: l, y :: m, h1, h2, h => by
  rw [List.pairwise_cons] at h1 h2
  have hxy : x = y := by
   have a := (h x).1 (by simp)
   have b := (h y).2 (by simp)
   rcases List.mem_cons.1 a with a | a
   ·exact a
   ·rcases List.mem_cons.1 b with b | b
    ·exact b.symm
    ·have := h1.1 y b; have := h2.1 x a; omega
  subst hxy
  rw [zMo h1.2 h2.2 fun z => by
   have hz := h z
   simp only [List.mem_cons] at hz
   constructor
   ·intro hm
    have hne : z ≠ x := by have := h1.1 z hm; omega
    rcases hz.1 (.inr hm) with e | e
    ·exact absurd e hne
    ·exact e
   ·intro hm
    have hne : z ≠ x := by have := h2.1 z hm; omega
    rcases hz.2 (.inr hm) with e | e
    ·exact absurd e hne
    ·exact e]
theorem zXx {l m : List Int} (h : ∀ x, x ∈ l ↔ x ∈ m) : zGa l = zGa m := zMo (zDG l) (zDG m) fun x => by rw [zEV, zEV, h]
theorem zFX {l : List zK} {y : Int} : y ∈ zES l ↔ ∃ r ∈ l, y = r.Y0 ∨ y = r.Y1 := by
 unfold zES
 simp [List.mem_flatMap]
theorem zLw : ∀ l : List zK, (zES l).length = 2 * l.length
 | [] => rfl
 | r :: l => by
  show ([r.Y0, r.Y1] ++ zES l).length = _
  rw [List.length_append, zLw l]; simp; omega
theorem zOA (l : List Int) : (zGa l).length ≤ l.length := by
 unfold zGa
 exact Nat.le_trans (zW2 _) (by rw [List.length_mergeSort]; exact Nat.le_refl _)
theorem zGs (l : List Bd) (b : Bd) : (pushB l b).length ≤ l.length + 1 := by
 by_cases he : b.2.2 = []
 ·rw [zBX he]; omega
 ·rcases List.eq_nil_or_concat l with rfl | ⟨j, c, h⟩
  ·rw [zJJ he]; simp
  ·rw [List.concat_eq_append] at h
   subst h
   rw [zDB he]
   split <;> simp
section
variable {N : Nat} {l M : List zK} {ys : List Int} (hN : 10000000000 ≤ N) (hMl : M.length ≤ 100000000) (hok : ∀ r ∈ M, R9 r) (hyl : ys.length ≤ 200000000)
include hN hMl hok hyl
omit hN hyl in
theorem zYw {k a b : Int} {bands : List Bd} (hbl : bands.length ≤ 250000000) (hk0 : 0 ≤ k ∧ k ≤ 250000000) (ha : idx ys k = some a) (hb : idx ys (k + 1) = some b) (hab : a < b) {K : Int → List zZ → List zK → Int → Option (List zZ)} : ∀ (suf pre now : List zK) (m : Nat), M = pre ++ suf → suf.length < m → (∀ r ∈ now, R9 r) → now.length + suf.length ≤ 150000000 →
  ∃ t suf' now', suf = t ++ suf' ∧ (∀ r ∈ t, r.Y0 ≤ a) ∧ (∀ r, suf'.head? = some r → a < r.Y0) ∧ now'.Perm (now ++ t) ∧
   VG M ys k (bands.map toP) K m now pre.length = K (k + 1) ((pushB bands (a, b, zJq ((now ++ t).map xsR))).map toP) now' (pre ++ t).length
 | suf, pre, now, 0, _, h, _, _ => absurd h (Nat.not_lt_zero _)
 | [], pre, now, m + 1, h1, _, h3, h4 => by
  obtain ⟨now', p1, p2⟩ := zKj (l := now) (by simp at h4; omega) h3
  refine ⟨[], [], now', rfl, by simp, by simp, by simpa using p1, ?_⟩
  have hpush := zNU (l := bands) (b := (a, b, zJq (now.map xsR))) (by omega) hab
  rw [VG.eq_2, if_neg (by rw [h1]; simp), Option.bind_some, if_neg (by simp), ha, Option.bind_some, QQ (by omega) (by omega), hb, Option.bind_some, p2, Option.bind_some]
  show (JZ (bands.map toP) (toP (a, b, zJq (now.map xsR)))).bind _ = _
  rw [hpush, Option.bind_some]
  simp
 | r :: suf, pre, now, m + 1, h1, h2, h3, h4 => by
  have hrM : r ∈ M := by rw [h1]; simp
  have hpl : pre.length ≤ 100000000 := by rw [h1] at hMl; simp at hMl; omega
  have hid : idx M (pre.length : Int) = some r := by rw [h1]; exact KQ pre suf r
  simp only [List.length_cons] at h2 h4
  by_cases hle : r.Y0 ≤ a
  ·obtain ⟨t, suf', now', e1, e2, e3, e4, e5⟩ := zYw hbl hk0 ha hb hab (K := K) suf (pre ++ [r]) (now ++ [r]) m (by rw [h1]; simp) (by omega) (fun x hx => by
    rcases List.mem_append.1 hx with hx | hx
    ·exact h3 x hx
    ·simp at hx; subst hx; exact hok _ hrM) (by simp; omega)
   refine ⟨r :: t, suf', now', by rw [e1]; rfl, fun x hx => ?_, e3, by simpa using e4, ?_⟩
   ·rcases List.mem_cons.1 hx with rfl | hx
    ·exact hle
    ·exact e2 x hx
   ·rw [VG.eq_2, if_pos (by rw [h1]; exact zRY pre suf r), hid, Option.bind_some, ha, Option.bind_some, Option.bind_some, if_pos (by simpa using hle), Option.bind_some, zB0 (by simp; omega), Option.bind_some, zN4 pre r (by omega), e5]
    simp
  ·obtain ⟨now', p1, p2⟩ := zKj (l := now) (by omega) h3
   refine ⟨[], r :: suf, now', rfl, by simp, fun x hx => by simp at hx; subst hx; omega, by simpa using p1, ?_⟩
   have hpush := zNU (l := bands) (b := (a, b, zJq (now.map xsR))) (by omega) hab
   rw [VG.eq_2, if_pos (by rw [h1]; exact zRY pre suf r), hid, Option.bind_some, ha, Option.bind_some, Option.bind_some, if_neg (by simpa using hle), Option.bind_some, QQ (by omega) (by omega), hb, Option.bind_some, p2, Option.bind_some]
   show (JZ (bands.map toP) (toP (a, b, zJq (now.map xsR)))).bind _ = _
   rw [hpush, Option.bind_some]
   simp
theorem zVs (hMs : M.Pairwise fun x y => x.Y0 ≤ y.Y0) (hys : ys.Pairwise fun x y => x < y) (hmem : ∀ r ∈ M, r.Y0 ∈ ys) (hl : ∀ r, r ∈ l ↔ r ∈ M) : ∀ (hsuf hpre : List Int) (m : Nat) (bands : List Bd) (pre suf now : List zK) (v : Int), ys = hpre ++ hsuf → M = pre ++ suf → hsuf.length < m → bands.length ≤ hpre.length →
  (∀ r ∈ pre, r.Y0 ≤ v) → (∀ r ∈ suf, v < r.Y0) → now.Perm (pre.filter fun r => decide (v < r.Y1)) → (∀ h ∈ hsuf, v < h) → (∀ h ∈ hpre, h ≤ v) →
  JK N M ys m hpre.length (bands.map toP) now pre.length = some ((zEM l hsuf bands).map toP)
 | [], hpre, m + 1, bands, pre, suf, now, v, e1, e2, _, _, _, _, _, _, _ => by
  have hpl : hpre.length ≤ 200000000 := by rw [e1] at hyl; simpa using hyl
  rw [JK.eq_2, if_neg (by rw [QQ (by omega) (by omega), e1]; simp; omega)]
  rfl
 | [a], hpre, m + 1, bands, pre, suf, now, v, e1, e2, _, _, _, _, _, _, _ => by
  have hpl : hpre.length ≤ 200000000 := by rw [e1] at hyl; simp at hyl; omega
  rw [JK.eq_2, if_neg (by rw [QQ (by omega) (by omega), e1]; simp)]
  rfl
 | a :: b :: hsuf, hpre, m + 1, bands, pre, suf, now, v, e1, e2, hm, hbl, i1, i2, i3, i4, i5 => by
  have hpl : hpre.length + 2 ≤ 200000000 := by rw [e1] at hyl; simp at hyl; omega
  have hva : v < a := i4 a (by simp)
  have hs2 : (a :: b :: hsuf).Pairwise fun x y => x < y := by rw [e1] at hys; exact (List.pairwise_append.1 hys).2.1
  have hab : a < b := (List.pairwise_cons.1 hs2).1 b (by simp)
  have ha : idx ys (hpre.length : Int) = some a := by rw [e1]; exact KQ hpre _ a
  have hb : idx ys ((hpre.length : Int) + 1) = some b := by
   rw [e1, show hpre ++ a :: b :: hsuf = (hpre ++ [a]) ++ b :: hsuf by simp, show ((hpre.length : Int) + 1) = ((hpre ++ [a]).length : Int) by simp]
   exact KQ (hpre ++ [a]) _ b
  have hnl : now.length ≤ pre.length := by rw [i3.length_eq]; exact List.length_filter_le _ _
  have hMl2 : pre.length + suf.length ≤ 100000000 := by rw [e2] at hMl; simpa using hMl
  have hnok : ∀ r ∈ now, R9 r := fun r hr => hok r (by rw [e2]; exact List.mem_append_left _ (List.mem_filter.1 (i3.subset hr)).1)
  have hdel := zYG (N := N) (g := fun r => decide (r.Y1 ≤ a)) (f := fun z0 => zAl z0 ys hpre.length) (l := now) (by omega) (by omega) (fun r _ => by unfold zAl; rw [ha]; rfl)
  obtain ⟨t, suf', now', s1, s2, s3, s4, s5⟩ := zYw hMl hok (bands := bands) (by omega) (k := (hpre.length : Int)) ⟨by omega, by omega⟩ ha hb hab (K := JK N M ys m) suf pre (now.filter fun x => !decide (x.Y1 ≤ a)) N e2 (by omega) (fun r hr => hnok r (List.mem_filter.1 hr).1) (by
   have := List.length_filter_le (fun x : zK => !decide (x.Y1 ≤ a)) now
   omega)
  have hsM : suf.Pairwise fun x y => x.Y0 ≤ y.Y0 := by rw [e2] at hMs; exact (List.pairwise_append.1 hMs).2.1
  have hsuf' : ∀ r ∈ suf', a < r.Y0 := fun r hr => by
   cases suf' with
   | nil => simp at hr
   | cons c cs =>
    have hc := s3 c rfl
    rcases List.mem_cons.1 hr with rfl | hr
    ·exact hc
    ·rw [s1] at hsM
     have := (List.pairwise_cons.1 (List.pairwise_append.1 hsM).2.1).1 r hr
     omega
  have ht : ∀ r ∈ t, r.Y0 = a ∧ a < r.Y1 := fun r hr => by
   have hrs : r ∈ suf := by rw [s1]; exact List.mem_append_left _ hr
   have hrM : r ∈ M := by rw [e2]; exact List.mem_append_right _ hrs
   have h1 := s2 r hr
   have h2 := i2 r hrs
   have h3 := hmem r hrM
   have hin : r.Y0 ∈ a :: b :: hsuf := by
    rw [e1] at h3
    rcases List.mem_append.1 h3 with h | h
    ·have := i5 _ h; omega
    ·exact h
   have hle : a ≤ r.Y0 := by
    rcases List.mem_cons.1 hin with h | h
    ·omega
    ·have := (List.pairwise_cons.1 hs2).1 _ h; omega
   have := (hok r hrM).y
   omega
  have hperm : (now.filter (fun x => !decide (x.Y1 ≤ a)) ++ t).Perm ((pre ++ t).filter fun r => decide (a < r.Y1)) := by
   rw [List.filter_append]
   have p1 : (now.filter fun x => !decide (x.Y1 ≤ a)).Perm (pre.filter fun r => decide (a < r.Y1)) := by
    refine (i3.filter _).trans ?_
    rw [List.filter_filter]
    refine List.Perm.of_eq (List.filter_congr fun r _ => ?_)
    rw [Bool.eq_iff_iff]
    simp
    omega
   have p2 : t.filter (fun r => decide (a < r.Y1)) = t := List.filter_eq_self.2 fun r hr => by simpa using (ht r hr).2
   rw [p2]
   exact p1.append_right t
  have hcov : zJq ((now.filter (fun x => !decide (x.Y1 ≤ a)) ++ t).map xsR) = zFf l a := by
   have hin : ∀ r, r ∈ (now.filter (fun x => !decide (x.Y1 ≤ a)) ++ t) ↔ r ∈ l.filter fun r => decide (r.Y0 ≤ a) && decide (a < r.Y1) := fun r => by
    rw [hperm.mem_iff, List.mem_filter, List.mem_filter, hl, e2, s1]
    simp only [List.mem_append, Bool.and_eq_true, decide_eq_true_eq]
    constructor
    ·rintro ⟨h | h, h2⟩
     ·exact ⟨.inl h, by have := i1 r h; omega, h2⟩
     ·exact ⟨.inr (.inl h), by have := (ht r h).1; omega, h2⟩
    ·rintro ⟨h | h | h, h1, h2⟩
     ·exact ⟨.inl h, h2⟩
     ·exact ⟨.inr h, h2⟩
     ·have := hsuf' r h; omega
   have hlim : ∀ r, r ∈ M → -2000000001 < (xsR r).1 ∧ (xsR r).1 < (xsR r).2 := fun r hr => by
    have := hok r hr
    exact ⟨by have := this.x0; show -2000000001 < r.X0; omega, this.x⟩
   have hMr : ∀ r, r ∈ (now.filter (fun x => !decide (x.Y1 ≤ a)) ++ t) → r ∈ M := fun r hr => (hl r).1 (List.mem_filter.1 ((hin r).1 hr)).1
   unfold zFf
   refine zVY (lo := -2000000001) (fun p hp => ?_) (fun p hp => ?_) fun x => ?_
   ·obtain ⟨r, hr, rfl⟩ := List.mem_map.1 hp; exact hlim r (hMr r hr)
   ·obtain ⟨r, hr, rfl⟩ := List.mem_map.1 hp; exact hlim r ((hl r).1 (List.mem_filter.1 hr).1)
   ·unfold InS
    constructor
    ·rintro ⟨p, hp, h⟩
     obtain ⟨r, hr, rfl⟩ := List.mem_map.1 hp
     exact ⟨_, List.mem_map.2 ⟨r, (hin r).1 hr, rfl⟩, h⟩
    ·rintro ⟨p, hp, h⟩
     obtain ⟨r, hr, rfl⟩ := List.mem_map.1 hp
     exact ⟨_, List.mem_map.2 ⟨r, (hin r).2 hr, rfl⟩, h⟩
  rw [JK.eq_2, if_pos (by rw [QQ (by omega) (by omega), e1]; simp; omega), hdel, Option.bind_some, s5, hcov]
  have hpb := zGs bands (a, b, zFf l a)
  have ih := zVs hMs hys hmem hl (b :: hsuf) (hpre ++ [a]) m (pushB bands (a, b, zFf l a)) (pre ++ t) suf' now' a (by rw [e1]; simp) (by rw [e2, s1]; simp) (by simp at hm ⊢; omega) (by simp; omega) (fun r hr => by
   rcases List.mem_append.1 hr with hr | hr
   ·have := i1 r hr; omega
   ·have := (ht r hr).1; omega) hsuf' (s4.trans hperm) (fun h hh => (List.pairwise_cons.1 hs2).1 h hh) (fun h hh => by
   rcases List.mem_append.1 hh with hh | hh
   ·have := i5 h hh; omega
   ·simp at hh; omega)
  rw [show ((hpre.length : Int) + 1) = ((hpre ++ [a]).length : Int) by simp, ih]
  rfl
end
theorem zUU (r : zK) (l : List zK) : zES (r :: l) = [r.Y0, r.Y1] ++ zES l := rfl
theorem zI1 {N : Nat} {l : List zK} (hN : 10000000000 ≤ N) (hl : l.length ≤ 100000000) (hok : ∀ r ∈ l, R9 r) : Vi N l = some ((zAQ l).map toP) := by
 obtain ⟨M, m1, m2, m3⟩ := zOC (c := fun z0 z1 => zAm z0 z1) (k := fun r => r.Y0) (l := l) (by omega) (fun x hx y hy => by
  have a := (hok x hx).y0; have b := (hok y hy).y0
  unfold zAm
  rw [QQ (by omega) (by omega)])
 have hMl : M.length ≤ 100000000 := by rw [m2.length_eq]; exact hl
 have hMok : ∀ r ∈ M, R9 r := fun r hr => hok r (m2.subset hr)
 have hy : zGa (zES M) = zGa (zES l) := zXx fun y => by
  rw [zFX, zFX]
  exact ⟨fun ⟨r, hr, h⟩ => ⟨r, m2.subset hr, h⟩, fun ⟨r, hr, h⟩ => ⟨r, m2.symm.subset hr, h⟩⟩
 have hyl : (zGa (zES l)).length ≤ 200000000 := Nat.le_trans (zOA _) (by rw [zLw]; omega)
 have L1 : ∀ (suf : List zK) (i : Nat) (out : List Int), out.length + 2 * suf.length ≤ 250000000 → VH N M suf i out = (JK N M (zGa (out ++ zES suf)) N 0 [] [] 0) := by
  intro suf
  induction suf with
  | nil =>
   intro i out ho
   rw [VH.eq_1]
   have := zVq (l := out) (by simp at ho; omega)
   rw [zRO (by simp at ho; omega), Option.bind_some]
   rw [zRO (by simp at ho; omega), Option.bind_some] at this
   rw [this, Option.bind_some]
   show _ = JK N M (zGa (out ++ [])) N 0 [] [] 0
   rw [List.append_nil]
  | cons r suf ih =>
   intro i out ho
   simp only [List.length_cons] at ho
   rw [VH.eq_2, zB0 (by simp; omega), Option.bind_some, ih (i + 1) _ (by simp; omega), zUU, List.append_assoc]
 unfold Vi VL
 rw [zB0 (by simp; omega), Option.bind_some, Option.bind_some, List.nil_append, m1, Option.bind_some, L1 M 0 [] (by simp; omega), List.nil_append, hy]
 have := zVs (l := l) hN hMl hMok hyl m3 (zDG _) (fun r hr => (zEV _ _).2 (zFX.2 ⟨r, m2.subset hr, .inl rfl⟩)) (fun r => ⟨fun h => m2.symm.subset h, fun h => m2.subset h⟩) (zGa (zES l)) [] N [] [] M [] (-3000000000) rfl rfl (by omega) (by simp) (by simp) (fun r hr => by have := (hMok r hr).y0; omega) (by simp) (fun h hh => by
  obtain ⟨r, hr, e⟩ := zFX.1 ((zEV _ _).1 hh)
  have a := hok r hr
  have := a.y0; have := a.y1
  rcases e with rfl | rfl <;> omega) (by simp)
 exact this
theorem zZC (l : List zK) (y : Int) : (zFf l y).length ≤ l.length := by
 unfold zFf zJq
 have := zT3 ((l.filter fun r => decide (r.Y0 ≤ y) && decide (y < r.Y1)).map xsR) []
 have h2 := List.length_filter_le (fun r : zK => decide (r.Y0 ≤ y) && decide (y < r.Y1)) l
 simp at this
 omega
structure Small (l : List Bd) : Prop where
 len : l.length ≤ 200000000
 row : ∀ b ∈ l, b.2.2.length ≤ 100000000
 tot : (QJ l).length ≤ 4000000000
theorem zBW (b : Bd) (l : List Bd) : QJ (b :: l) = zKs b ++ QJ l := rfl
theorem zDH (b : Bd) : (zKs b).length = b.2.2.length := by unfold zKs; simp
theorem zDA {l : List Bd} {R : Nat} (h : ∀ b ∈ l, b.2.2.length ≤ R) : (QJ l).length ≤ R * l.length := by
 induction l with
 | nil => simp [QJ]
 | cons b l ih =>
  rw [zBW, List.length_append, zDH]
  have := ih (fun c hc => h c (by simp [hc])); have := h b (by simp)
  rw [List.length_cons, Nat.mul_succ]
  omega
theorem zPj (l m : List Bd) : QJ (l ++ m) = QJ l ++ QJ m := by unfold QJ; rw [List.flatMap_append]
theorem zKE {l : List Bd} {b : Bd} (h : b ∈ l) : b.2.2.length ≤ (QJ l).length := by
 obtain ⟨s, t, rfl⟩ := List.append_of_mem h
 rw [zPj, zBW, List.length_append, List.length_append, zDH]
 omega
theorem zQC {l : List Bd} {b : Bd} {R : Nat} (h : ∀ c ∈ l, c.2.2.length ≤ R) (hb : b.2.2.length ≤ R) : ∀ c ∈ pushB l b, c.2.2.length ≤ R := by
 by_cases he : b.2.2 = []
 ·rw [zBX he]; exact h
 ·rcases List.eq_nil_or_concat l with rfl | ⟨j, c, hc⟩
  ·rw [zJJ he]
   intro c hc
   simp at hc
   subst hc
   exact hb
  ·rw [List.concat_eq_append] at hc
   subst hc
   rw [zDB he]
   intro d hd
   split at hd
   ·rcases List.mem_append.1 hd with hd | hd
    ·exact h d (by simp [hd])
    ·simp at hd; subst hd; exact h c (by simp)
   ·rcases List.mem_append.1 hd with hd | hd
    ·exact h d hd
    ·simp at hd; subst hd; exact hb
theorem zJ2 {l : List zK} {R : Nat} (hl : l.length ≤ R) : ∀ (ys : List Int) (out : List Bd), (∀ c ∈ out, c.2.2.length ≤ R) → (zEM l ys out).length ≤ out.length + ys.length ∧ ∀ c ∈ zEM l ys out, c.2.2.length ≤ R
 | [], out, h => ⟨by simp [zEM], h⟩
 | [a], out, h => ⟨by simp [zEM], h⟩
 | a :: b :: ys, out, h => by
  have hr := zZC l a
  have hp := zGs out (a, b, zFf l a)
  obtain ⟨i1, i2⟩ := zJ2 hl (b :: ys) (pushB out (a, b, zFf l a)) (zQC h (by show (zFf l a).length ≤ R; omega))
  simp only [List.length_cons] at i1 ⊢
  exact ⟨by show (zEM l (b :: ys) (pushB out (a, b, zFf l a))).length ≤ _; omega, i2⟩
theorem zIb (l : List zK) : (zAQ l).length ≤ 2 * l.length ∧ ∀ b ∈ zAQ l, b.2.2.length ≤ l.length := by
 obtain ⟨h1, h2⟩ := zJ2 (Nat.le_refl l.length) (zGa (zES l)) [] (by simp)
 have := zOA (zES l)
 rw [zLw] at this
 exact ⟨by show (zEM l (zGa (zES l)) []).length ≤ _; simp at h1; omega, h2⟩
theorem zSn {l : List zK} (hl : l.length ≤ 100000000) (ht : (QJ (zAQ l)).length ≤ 4000000000) : Small (zAQ l) := by
 obtain ⟨h1, h2⟩ := zIb l
 exact ⟨by omega, fun b hb => by have := h2 b hb; omega, ht⟩
theorem zKC {l : List zK} (hl : l.length ≤ 20000) : Small (zAQ l) := by
 obtain ⟨h1, h2⟩ := zIb l
 refine zSn (by omega) ?_
 have := zDA (R := 20000) (l := zAQ l) fun b hb => by have := h2 b hb; omega
 omega
section
variable {N : Nat} (hN : 10000000000 ≤ N)
include hN
omit hN in
theorem zUN {b : Bd} {K : List zK → Option (List zK)} (hb : b.2.2.length ≤ 100000000) : ∀ (suf pre : List (Int × Int)) (m : Nat) (out : List zK), b.2.2 = pre ++ suf → suf.length < m → out.length + suf.length ≤ 4294967296 →
  Je K (toP b) m out ((2 * pre.length : Nat) : Int) = K (out ++ suf.map fun s => ⟨s.1, b.1, s.2, b.2.1⟩)
 | [], pre, m + 1, out, h1, _, _ => by
  rw [Je.eq_2, if_neg (by show ¬ decide (((2 * pre.length : Nat) : Int) < ((Qo b.2.2).length : Int)) = true; rw [h1, KE]; simp)]
  simp
 | s :: suf, pre, m + 1, out, h1, h2, h3 => by
  have hpl : pre.length ≤ 100000000 := by rw [h1] at hb; simp at hb; omega
  have hfl : Qo b.2.2 = Qo pre ++ s.1 :: s.2 :: Qo suf := by rw [h1, zDf]; rfl
  have hid : idx (Qo b.2.2) ((2 * pre.length : Nat) : Int) = some s.1 := by rw [hfl, ← KE]; exact KQ _ _ _
  have hid2 : idx (Qo b.2.2) (((2 * pre.length : Nat) : Int) + 1) = some s.2 := by
   rw [hfl, show Qo pre ++ s.1 :: s.2 :: Qo suf = (Qo pre ++ [s.1]) ++ s.2 :: Qo suf by simp, show (((2 * pre.length : Nat) : Int) + 1) = ((Qo pre ++ [s.1]).length : Int) by simp [KE]]
   exact KQ _ _ _
  simp only [List.length_cons] at h2 h3
  rw [Je.eq_2, if_pos (by show decide (((2 * pre.length : Nat) : Int) < ((Qo b.2.2).length : Int)) = true; rw [hfl]; simp [KE]; omega), QQ (x := ((2 * pre.length : Nat) : Int) + 1) (by omega) (by omega), QQ (x := ((2 * pre.length : Nat) : Int) + 2) (by omega) (by omega)]
  show ((idx (Qo b.2.2) _).bind fun zJo => (idx (Qo b.2.2) _).bind fun zJn => _) = _
  rw [hid, Option.bind_some, hid2, Option.bind_some, zB0 (by simp; omega), Option.bind_some]
  have := zUN (K := K) hb suf (pre ++ [s]) m (out ++ [⟨s.1, b.1, s.2, b.2.1⟩]) (by rw [h1]; simp) (by omega) (by simp; omega)
  rw [show ((2 * (pre ++ [s]).length : Nat) : Int) = ((2 * pre.length : Nat) : Int) + 2 by simp; omega] at this
  show Je K (toP b) m (out ++ [⟨s.1, b.1, s.2, b.2.1⟩]) _ = _
  rw [this]
  simp
theorem zDi {l : List Bd} (h : Small l) : Jb N (l.map toP) = some (QJ l) := by
 have key : ∀ (suf : List Bd) (i : Nat) (out : List zK), (∀ b ∈ suf, b.2.2.length ≤ 100000000) → out.length + (QJ suf).length ≤ 4294967296 → Qs N (suf.map toP) i out = some (out ++ QJ suf) := by
  intro suf
  induction suf with
  | nil => intro i out _ _; rw [List.map_nil, Qs.eq_1]; simp [QJ]
  | cons b suf ih =>
   intro i out hb ho
   have hb0 := hb b (by simp)
   rw [zBW, List.length_append, zDH] at ho
   rw [List.map_cons, Qs.eq_2]
   have := zUN (K := Qs N (suf.map toP) (i + 1)) hb0 b.2.2 [] N out rfl (by omega) (by omega)
   rw [show ((2 * ([] : List (Int × Int)).length : Nat) : Int) = 0 from rfl] at this
   rw [this, ih (i + 1) _ (fun c hc => hb c (by simp [hc])) (by simp; omega), zBW, List.append_assoc]
   rfl
 have := key l 0 [] h.row (by have := h.tot; simp; omega)
 rw [List.nil_append] at this
 exact this
omit hN in
theorem zSE {l : List Bd} (h : (QJ l).length ≤ 1000000000000000000) : Wd (l.map toP) = some ((QJ l).length : Int) := by
 have key : ∀ (suf : List Bd) (i : Nat) (c : Int), 0 ≤ c → c + (QJ suf).length ≤ 1000000000000000000 → Jp (suf.map toP) i c = some (c + ((QJ suf).length : Int)) := by
  intro suf
  induction suf with
  | nil => intro i c _ _; rw [List.map_nil, Jp.eq_1]; simp [QJ]
  | cons b suf ih =>
   intro i c h0 ho
   rw [zBW, List.length_append, zDH] at ho
   have e : Int.tdiv ((toP b).Xs.length : Int) 2 = (b.2.2.length : Int) := by
    show Int.tdiv ((Qo b.2.2).length : Int) 2 = _
    rw [KE, Int.tdiv_eq_ediv_of_nonneg (by omega)]; omega
   rw [List.map_cons, Jp.eq_2, e, QQ (x := (b.2.2.length : Int)) (by omega) (by omega), QQ (by omega) (by omega), ih (i + 1) _ (by omega) (by omega), zBW, List.length_append, zDH]
   congr 1
   omega
 have := key l 0 0 (by omega) (by omega)
 rw [Int.zero_add] at this
 exact this
def zVn (l : List Bd) : List zK × Int := if 2000 < (QJ l).length then ([], 2) else (QJ l, 0)
end
instance : DecidableEq zK := fun _ _ => decidable_of_iff _ zIr
def zRS (r : zK) : Int :=
 if (((within r.X0 (-1000000) 1000000 && within r.Y0 (-1000000) 1000000) && within r.X1 (-1000000) 1000000) && within r.Y1 (-1000000) 1000000) = false then 1
 else if (decide (r.X1 ≤ r.X0) || decide (r.Y1 ≤ r.Y0)) = true then 13 else 0
def zKn : List zK → Int
 | [] => 0
 | r :: l => if zRS r = 0 then zKn l else zRS r
def zCH (l : List zK) : Int := if 2000 < l.length then 2 else zKn l
theorem zcD {r : zK} (h : zRS r = 0) : ROk r := by
 unfold zRS at h
 split at h
 ·omega
 ·rename_i h1
  split at h
  ·omega
  ·rename_i h2
   rw [Bool.not_eq_false, Bool.and_eq_true, Bool.and_eq_true, Bool.and_eq_true, within_iff, within_iff, within_iff, within_iff] at h1
   rw [Bool.or_eq_true, not_or, decide_eq_true_eq, decide_eq_true_eq] at h2
   exact ⟨h1.1.1.1, h1.1.1.2, h1.1.2, h1.2, by omega, by omega⟩
theorem zcE {r : zK} (h : ROk r) : zRS r = 0 := by
 unfold zRS
 have a := h.x0; have b := h.y0; have c := h.x1; have d := h.y1; have e := h.x; have f := h.y
 rw [if_neg (by rw [Bool.not_eq_false, Bool.and_eq_true, Bool.and_eq_true, Bool.and_eq_true, within_iff, within_iff, within_iff, within_iff]; exact ⟨⟨⟨a, b⟩, c⟩, d⟩), if_neg (by rw [Bool.or_eq_true, not_or, decide_eq_true_eq, decide_eq_true_eq]; omega)]
theorem zSr : ∀ {l : List zK}, zKn l = 0 → ∀ r ∈ l, ROk r
 | [], _, r, hr => by simp at hr
 | a :: l, h, r, hr => by
  unfold zKn at h
  split at h
  ·rename_i h1
   rcases List.mem_cons.1 hr with rfl | hr
   ·exact zcD h1
   ·exact zSr h r hr
  ·rename_i h1; exact absurd h h1
theorem zSs : ∀ {l : List zK}, (∀ r ∈ l, ROk r) → zKn l = 0
 | [], _ => rfl
 | a :: l, h => by
  unfold zKn
  rw [if_pos (zcE (h a (by simp)))]
  exact zSs fun r hr => h r (by simp [hr])
theorem zMt {l : List zK} (h : zCH l = 0) : l.length ≤ 2000 ∧ ∀ r ∈ l, ROk r := by
 unfold zCH at h
 split at h
 ·omega
 ·exact ⟨by omega, zSr h⟩
theorem zQN (r : zK) : zBL r = some (((within r.X0 (-1000000) 1000000 && within r.Y0 (-1000000) 1000000) && within r.X1 (-1000000) 1000000) && within r.Y1 (-1000000) 1000000) := by
 unfold zBL Vn WO within
 simp only [Option.bind_some]
 cases decide (-1000000 ≤ r.X0) && decide (r.X0 ≤ 1000000) <;> cases decide (-1000000 ≤ r.Y0) && decide (r.Y0 ≤ 1000000) <;> cases decide (-1000000 ≤ r.X1) && decide (r.X1 ≤ 1000000) <;> rfl
theorem zPw (l : List zK) : zAW l = some (zCH l) := by
 have key : ∀ (l : List zK) (i : Nat), Jf l i = some (zKn l) := by
  intro l
  induction l with
  | nil => intro i; rw [Jf.eq_1]; rfl
  | cons r l ih =>
   intro i
   rw [Jf.eq_2, zQN, Option.bind_some, ih]
   show _ = some (if zRS r = 0 then zKn l else zRS r)
   generalize zKn l = z
   unfold zRS
   cases (((within r.X0 (-1000000) 1000000 && within r.Y0 (-1000000) 1000000) && within r.X1 (-1000000) 1000000) && within r.Y1 (-1000000) 1000000)
   ·simp
   ·cases (decide (r.X1 ≤ r.X0) || decide (r.Y1 ≤ r.Y0)) <;> simp
 unfold zAW zCH
 by_cases h : 2000 < l.length
 ·rw [if_pos (by simp; omega), if_pos h]
 ·rw [if_neg (by simp; omega), if_neg h, key]
def ltR (a b : zK) : Bool := decide (a.Y0 < b.Y0) || (decide (a.Y0 = b.Y0) && decide (a.X0 < b.X0))
def zKx : List zK → Bool
 | a :: b :: l => ltR a b && zKx (b :: l)
 | _ => true
def zBu (l : List zK) : Int := if zCH l = 0 then if zKx l = true then if QJ (zAQ l) = l then 0 else 3 else 8 else zCH l
theorem zPT {N : Nat} (hN : 10000000000 ≤ N) (l : List zK) : Wx N l = some (zBu l) := by
 unfold Wx zBu
 rw [zPw, Option.bind_some]
 by_cases he : zCH l = 0
 ·obtain ⟨hl, hok⟩ := zMt he
  rw [if_neg (by simpa using he), if_pos he]
  have hend : (Vi N l).bind (fun Wl => (Jb N Wl).bind fun zGZ => (KJ zGZ l).bind fun zFy => if (!zFy) then some 3 else some 0) = some (if QJ (zAQ l) = l then (0 : Int) else 3) := by
   rw [zI1 hN (by omega) (fun r hr => (hok r hr).r9), Option.bind_some, zDi hN (zKC (by omega)), Option.bind_some]
   obtain ⟨b, h1, h2⟩ := zMh (QJ (zAQ l)) l
   rw [h1, Option.bind_some]
   cases b
   ·rw [if_pos (by simp), if_neg (fun h => by have := h2.2 h; cases this)]
   ·rw [if_neg (by simp), if_pos (h2.1 rfl)]
  have key : ∀ (suf pre : List zK) (a : zK) (m : Nat), l = pre ++ a :: suf → suf.length < m → Qn N l m ((pre.length : Int) + 1) = some (if zKx (a :: suf) = true then if QJ (zAQ l) = l then 0 else 3 else 8) := by
   intro suf
   induction suf with
   | nil =>
    intro pre a m h1 h2
    obtain ⟨m, rfl⟩ : ∃ k, m = k + 1 := ⟨m - 1, by omega⟩
    rw [Qn.eq_2, if_neg (by rw [h1]; simp), hend]
    rfl
   | cons b suf ih =>
    intro pre a m h1 h2
    obtain ⟨m, rfl⟩ : ∃ k, m = k + 1 := ⟨m - 1, by omega⟩
    have hpl : pre.length ≤ 2000 := by rw [h1] at hl; simp at hl; omega
    have ha : idx l (pre.length : Int) = some a := by rw [h1]; exact KQ pre _ a
    have hb : idx l ((pre.length : Int) + 1) = some b := by
     rw [h1, show pre ++ a :: b :: suf = (pre ++ [a]) ++ b :: suf by simp, show ((pre.length : Int) + 1) = ((pre ++ [a]).length : Int) by simp]
     exact KQ (pre ++ [a]) _ b
    rw [Qn.eq_2, if_pos (by rw [h1]; simp; omega), QQ (x := (pre.length : Int) + 1 - 1) (by omega) (by omega), show ((pre.length : Int) + 1 - 1) = (pre.length : Int) by omega, ha, Option.bind_some, hb, Option.bind_some, QQ (by omega) (by omega)]
    have hlt : ((decide (b.Y0 < a.Y0)) || ((b.Y0 == a.Y0) && (decide (b.X0 ≤ a.X0)))) = !ltR a b := by
     unfold ltR
     rw [Bool.eq_iff_iff]
     simp
     omega
    rw [hlt]
    have hor : zKx (a :: b :: suf) = (ltR a b && zKx (b :: suf)) := rfl
    rw [hor]
    cases ltR a b
    ·simp
    ·have := ih (pre ++ [a]) b m (by rw [h1]; simp) (by simp at h2; omega)
     rw [show (((pre ++ [a]).length : Int) + 1) = (pre.length : Int) + 1 + 1 by simp] at this
     rw [this]
     simp
  cases l with
  | nil =>
   obtain ⟨m, hm⟩ : ∃ k, N = k + 1 := ⟨N - 1, by omega⟩
   have hf : Qn N ([] : List zK) N 1 = Qn N ([] : List zK) (m + 1) 1 := congrArg (fun z => Qn N ([] : List zK) z 1) hm
   rw [hf, Qn.eq_2, if_neg (by simp), hend]
   rfl
  | cons a suf =>
   exact key suf [] a N rfl (by simp at hl; omega)
 ·rw [if_pos (by simpa using he), if_neg he]
def rowAt : List Bd → Int → List (Int × Int)
 | [], _ => []
 | b :: l, y => if b.1 ≤ y ∧ y < b.2.1 then b.2.2 else rowAt l y
def zCU : Int → List Bd → Prop
 | _, [] => True
 | lo, b :: l => lo ≤ b.1 ∧ b.1 < b.2.1 ∧ b.2.2 ≠ [] ∧ (∀ d, l.head? = some d → d.1 = b.2.1 → d.2.2 ≠ b.2.2) ∧ zCU b.2.1 l
theorem zFg : ∀ {l : List Bd} {lo y : Int}, zCU lo l → y < lo → rowAt l y = []
 | [], _, _, _, _ => rfl
 | b :: l, lo, y, h, hy => by
  unfold rowAt
  rw [if_neg (by have := h.1; omega)]
  exact zFg h.2.2.2.2 (by have := h.1; have := h.2.1; omega)
theorem zCU.uniq : ∀ {l m : List Bd} {lo lo' : Int}, zCU lo l → zCU lo' m → (∀ y, rowAt l y = rowAt m y) → l = m
 | [], [], _, _, _, _, _ => rfl
 | [], b :: m, _, _, _, h2, h => by
  have := h b.1
  unfold rowAt at this
  rw [if_pos ⟨Int.le_refl _, h2.2.1⟩] at this
  exact absurd this.symm h2.2.2.1
 | b :: l, [], _, _, h1, _, h => by
  have := h b.1
  unfold rowAt at this
  rw [if_pos ⟨Int.le_refl _, h1.2.1⟩] at this
  exact absurd this h1.2.2.1
 | b :: l, d :: m, lo, lo', h1, h2, h => by
  obtain ⟨a1, a2, a3, a4, a5⟩ := h1
  obtain ⟨b1, b2, b3, b4, b5⟩ := h2
  have fst : ∀ {l : List Bd} {b : Bd} {y : Int}, b.1 ≤ y → y < b.2.1 → rowAt (b :: l) y = b.2.2 := fun h1 h2 => by unfold rowAt; rw [if_pos ⟨h1, h2⟩]
  have low : ∀ {l : List Bd} {b : Bd} {y : Int}, zCU b.2.1 l → b.1 < b.2.1 → y < b.1 → rowAt (b :: l) y = [] := fun h1 h2 h3 => by
   unfold rowAt
   rw [if_neg (by omega)]
   exact zFg h1 (by omega)
  have e1 : b.1 = d.1 := by
   have hb := h b.1
   have hd := h d.1
   rw [fst (Int.le_refl _) a2] at hb
   rw [fst (l := m) (b := d) (Int.le_refl _) b2] at hd
   rcases Int.lt_trichotomy b.1 d.1 with hlt | heq | hgt
   ·rw [low b5 b2 hlt] at hb; exact absurd hb a3
   ·exact heq
   ·rw [low a5 a2 hgt] at hd; exact absurd hd.symm b3
  have e2 : b.2.2 = d.2.2 := by
   have hb := h b.1
   rw [fst (Int.le_refl _) a2, e1, fst (Int.le_refl _) b2] at hb
   exact hb
  have past : ∀ {l : List Bd} {b : Bd}, zCU b.2.1 l → (∀ d, l.head? = some d → d.1 = b.2.1 → d.2.2 ≠ b.2.2) → b.2.2 ≠ [] → rowAt (b :: l) b.2.1 ≠ b.2.2 := fun {l b} h1 h2 h3 => by
   unfold rowAt
   rw [if_neg (by omega)]
   cases l with
   | nil => exact fun h => h3 h.symm
   | cons e l =>
    unfold rowAt
    by_cases he : e.1 = b.2.1
    ·rw [if_pos ⟨by omega, by have := h1.2.1; omega⟩]
     exact h2 e rfl he
    ·have hlt : b.2.1 < e.1 := by have := h1.1; omega
     rw [if_neg (by omega), zFg h1.2.2.2.2 (by have := h1.2.1; omega)]
     exact fun h => h3 h.symm
  have e3 : b.2.1 = d.2.1 := by
   rcases Int.lt_trichotomy b.2.1 d.2.1 with hlt | heq | hgt
   ·have := h b.2.1
    rw [fst (l := m) (b := d) (by omega) hlt, ← e2] at this
    exact absurd this (past a5 a4 a3)
   ·exact heq
   ·have := h d.2.1
    rw [fst (l := l) (b := b) (by omega) hgt, e2] at this
    exact absurd this.symm (past b5 b4 b3)
  have hbd : b = d := by
   obtain ⟨x, y, z⟩ := b
   obtain ⟨x', y', z'⟩ := d
   simp only at e1 e2 e3
   rw [e1, e2, e3]
  subst hbd
  rw [zCU.uniq a5 b5 fun y => by
   by_cases hy : y < b.2.1
   ·rw [zFg a5 hy, zFg b5 hy]
   ·have := h y
    unfold rowAt at this
    rw [if_neg (by omega), if_neg (by omega)] at this
    exact this]
def InB (x y : Int) (l : List Bd) : Prop := InS x (rowAt l y)
def InR (x y : Int) (l : List zK) : Prop := ∃ r ∈ l, (r.X0 ≤ x ∧ x < r.X1) ∧ (r.Y0 ≤ y ∧ y < r.Y1)
structure BOk (l : List Bd) : Prop where
 can : ∃ lo, zCU lo l
 row : ∀ b ∈ l, ∃ lo, Can lo b.2.2
theorem zJI : ∀ {l : List Bd} {y : Int}, rowAt l y = [] ∨ ∃ b ∈ l, b.1 ≤ y ∧ y < b.2.1 ∧ rowAt l y = b.2.2
 | [], _ => .inl rfl
 | b :: l, y => by
  unfold rowAt
  by_cases h : b.1 ≤ y ∧ y < b.2.1
  ·rw [if_pos h]; exact .inr ⟨b, by simp, h.1, h.2, rfl⟩
  ·rw [if_neg h]
   rcases zJI (l := l) (y := y) with h1 | ⟨c, h1, h2⟩
   ·exact .inl h1
   ·exact .inr ⟨c, by simp [h1], h2⟩
theorem BOk.at {l : List Bd} (h : BOk l) (y : Int) : ∃ lo, Can lo (rowAt l y) := by
 rcases zJI (l := l) (y := y) with h1 | ⟨b, h1, _, _, h2⟩
 ·rw [h1]; exact ⟨0, trivial⟩
 ·rw [h2]; exact h.row b h1
theorem zCU.mem : ∀ {l : List Bd} {lo : Int}, zCU lo l → ∀ b ∈ l, lo ≤ b.1 ∧ b.1 < b.2.1 ∧ b.2.2 ≠ []
 | [], _, _, b, hb => by simp at hb
 | c :: l, lo, h, b, hb => by
  rcases List.mem_cons.1 hb with rfl | hb
  ·exact ⟨h.1, h.2.1, h.2.2.1⟩
  ·have hm := h.2.2.2.2.mem b hb
   have := h.1; have := h.2.1
   exact ⟨by omega, hm.2.1, hm.2.2⟩
theorem zKp : ∀ {l : List Bd} {lo y : Int} {b : Bd}, zCU lo l → b ∈ l → b.1 ≤ y → y < b.2.1 → rowAt l y = b.2.2
 | [], _, _, _, _, hb, _, _ => by simp at hb
 | c :: l, lo, y, b, h, hb, h1, h2 => by
  unfold rowAt
  rcases List.mem_cons.1 hb with rfl | hb
  ·rw [if_pos ⟨h1, h2⟩]
  ·have := h.2.2.2.2.mem b hb
   rw [if_neg (by omega)]
   exact zKp h.2.2.2.2 hb h1 h2
theorem BOk.uniq {l m : List Bd} (h1 : BOk l) (h2 : BOk m) (h : ∀ x y, InB x y l ↔ InB x y m) : l = m := by
 obtain ⟨lo, c1⟩ := h1.can
 obtain ⟨lo', c2⟩ := h2.can
 refine c1.uniq c2 fun y => ?_
 obtain ⟨a, ha⟩ := h1.at y
 obtain ⟨b, hb⟩ := h2.at y
 exact ha.uniq hb fun x => h x y
theorem zZH : ∀ (l : List (Int × Int)), ∃ lo, ∀ p ∈ l, lo < p.1
 | [] => ⟨0, by simp⟩
 | q :: l => by
  obtain ⟨lo, h⟩ := zZH l
  refine ⟨min lo (q.1 - 1), fun p hp => ?_⟩
  rcases List.mem_cons.1 hp with rfl | hp
  ·omega
  ·have := h p hp; omega
theorem zir {l : List (Int × Int)} (h : ∀ p ∈ l, p.1 < p.2) : (∃ lo, Can lo (zJq l)) ∧ ∀ x, InS x (zJq l) ↔ InS x l := by
 obtain ⟨lo, hlo⟩ := zZH l
 obtain ⟨h1, h2⟩ := zNn (lo := lo) (l := l) fun p hp => ⟨hlo p hp, h p hp⟩
 exact ⟨⟨lo, h1⟩, h2⟩
theorem zKo {l : List zK} (h : ∀ r ∈ l, r.X0 < r.X1) (y : Int) : (∃ lo, Can lo (zFf l y)) ∧ ∀ x, InS x (zFf l y) ↔ InR x y l := by
 obtain ⟨h1, h2⟩ := zir (l := (l.filter fun r => decide (r.Y0 ≤ y) && decide (y < r.Y1)).map xsR) fun p hp => by
  obtain ⟨r, hr, rfl⟩ := List.mem_map.1 hp
  exact h r (List.mem_filter.1 hr).1
 refine ⟨h1, fun x => (h2 x).trans ?_⟩
 unfold InS InR
 constructor
 ·rintro ⟨p, hp, hx⟩
  obtain ⟨r, hr, rfl⟩ := List.mem_map.1 hp
  obtain ⟨hr, hy⟩ := List.mem_filter.1 hr
  simp at hy
  exact ⟨r, hr, hx, hy⟩
 ·rintro ⟨r, hr, hx, hy⟩
  exact ⟨xsR r, List.mem_map.2 ⟨r, List.mem_filter.2 ⟨hr, by simp [hy]⟩, rfl⟩, hx⟩
theorem zbG {l m : List (Int × Int)} (h1 : ∃ lo, Can lo l) (h2 : ∃ lo, Can lo m) (h : ∀ x, InS x l ↔ InS x m) : l = m := by
 obtain ⟨_, h1⟩ := h1
 obtain ⟨_, h2⟩ := h2
 exact h1.uniq h2 h
theorem zdW {l : List (Int × Int)} (h1 : ∃ lo, Can lo l) (h : ∀ x, ¬ InS x l) : l = [] := zbG h1 ⟨0, trivial⟩ fun x => ⟨fun hx => absurd hx (h x), fun hx => absurd hx zAb⟩
theorem zOM {c : Bd} {l : List Bd} {b : Bd} (h : l ≠ []) : pushB (c :: l) b = c :: pushB l b := by
 by_cases he : b.2.2 = []
 ·rw [zBX he, zBX he]
 ·rcases List.eq_nil_or_concat l with rfl | ⟨j, d, hc⟩
  ·exact absurd rfl h
  ·rw [List.concat_eq_append] at hc
   subst hc
   rw [← List.cons_append, zDB he, zDB he]
   split <;> rfl
theorem zUy {c : Bd} {l : List Bd} {b : Bd} : ∃ e m, pushB (c :: l) b = e :: m ∧ e.1 = c.1 ∧ e.2.2 = c.2.2 := by
 by_cases hl : l = []
 ·subst hl
  by_cases he : b.2.2 = []
  ·rw [zBX he]; exact ⟨c, [], rfl, rfl, rfl⟩
  ·have := zDB (l := []) (c := c) he
   rw [List.nil_append] at this
   rw [this]
   split
   ·exact ⟨_, _, rfl, rfl, rfl⟩
   ·exact ⟨_, _, rfl, rfl, rfl⟩
 ·rw [zOM hl]; exact ⟨_, _, rfl, rfl, rfl⟩
theorem zCU.push : ∀ {l : List Bd} {lo : Int} {b : Bd}, zCU lo l → (∀ c ∈ l, c.2.1 ≤ b.1) → lo ≤ b.1 → b.1 < b.2.1 →
  zCU lo (pushB l b) ∧ (∀ c ∈ pushB l b, c.2.1 ≤ b.2.1 ∧ (c.2.2 = b.2.2 ∨ ∃ d ∈ l, c.2.2 = d.2.2)) ∧ ∀ y, rowAt (pushB l b) y = if b.1 ≤ y ∧ y < b.2.1 then b.2.2 else rowAt l y
 | [], lo, b, h, h1, h2, h3 => by
  by_cases he : b.2.2 = []
  ·rw [zBX he]
   exact ⟨h, by simp, fun y => by unfold rowAt; split <;> simp [he]⟩
  ·rw [zJJ he]
   exact ⟨⟨h2, h3, he, by simp, trivial⟩, by simp, fun y => by unfold rowAt; rfl⟩
 | [c], lo, b, h, h1, h2, h3 => by
  have hc := h1 c (by simp)
  have h4 := h.2.1
  by_cases he : b.2.2 = []
  ·rw [zBX he]
   refine ⟨h, fun d hd => ⟨by have := h1 d hd; omega, .inr ⟨d, hd, rfl⟩⟩, fun y => ?_⟩
   by_cases hy : b.1 ≤ y ∧ y < b.2.1
   ·rw [if_pos hy, he]; unfold rowAt; rw [if_neg (by omega)]; rfl
   ·rw [if_neg hy]
  ·have hp := zDB (l := []) (c := c) he
   rw [List.nil_append] at hp
   rw [hp]
   by_cases hj : c.2.1 = b.1 ∧ c.2.2 = b.2.2
   ·rw [if_pos hj]
    refine ⟨⟨h.1, by show c.1 < b.2.1; omega, h.2.2.1, by simp, trivial⟩, fun d hd => ?_, fun y => ?_⟩
    ·simp at hd; subst hd; exact ⟨Int.le_refl _, .inr ⟨c, by simp, rfl⟩⟩
    ·show (if c.1 ≤ y ∧ y < b.2.1 then c.2.2 else []) = if b.1 ≤ y ∧ y < b.2.1 then b.2.2 else if c.1 ≤ y ∧ y < c.2.1 then c.2.2 else []
     rw [hj.2]
     by_cases ha : b.1 ≤ y ∧ y < b.2.1
     ·rw [if_pos ha, if_pos (by omega)]
     ·rw [if_neg ha]
      by_cases hb : c.1 ≤ y ∧ y < c.2.1
      ·rw [if_pos hb, if_pos (by omega)]
      ·rw [if_neg hb, if_neg (by omega)]
   ·rw [if_neg hj]
    refine ⟨⟨h.1, h.2.1, h.2.2.1, fun d hd e => ?_, ⟨hc, h3, he, by simp, trivial⟩⟩, fun d hd => ?_, fun y => ?_⟩
    ·simp at hd; subst hd
     exact fun h' => hj ⟨e.symm, h'.symm⟩
    ·simp at hd
     rcases hd with rfl | rfl
     ·exact ⟨by omega, .inr ⟨d, by simp, rfl⟩⟩
     ·exact ⟨Int.le_refl _, .inl rfl⟩
    ·show (if c.1 ≤ y ∧ y < c.2.1 then c.2.2 else if b.1 ≤ y ∧ y < b.2.1 then b.2.2 else []) = if b.1 ≤ y ∧ y < b.2.1 then b.2.2 else if c.1 ≤ y ∧ y < c.2.1 then c.2.2 else []
     by_cases ha : b.1 ≤ y ∧ y < b.2.1
     ·rw [if_pos ha, if_neg (by omega), if_pos ha]
     ·rw [if_neg ha, if_neg ha]
 | c :: d :: l, lo, b, h, h1, h2, h3 => by
  obtain ⟨i1, i2, i3⟩ := zCU.push (l := d :: l) (lo := c.2.1) (b := b) h.2.2.2.2 (fun e he => h1 e (by simp [List.mem_cons.1 he])) (h1 c (by simp)) h3
  rw [zOM (by simp)]
  have hc := h1 c (by simp)
  have h4 := h.2.1
  refine ⟨⟨h.1, h.2.1, h.2.2.1, fun e he e1 => ?_, i1⟩, fun e he => ?_, fun y => ?_⟩
  ·obtain ⟨f, m, p1, p2, p3⟩ := zUy (c := d) (l := l) (b := b)
   rw [p1] at he
   simp at he
   subst he
   rw [p3]
   exact h.2.2.2.1 d rfl (by omega)
  ·rcases List.mem_cons.1 he with rfl | he
   ·exact ⟨by omega, .inr ⟨e, by simp, rfl⟩⟩
   ·obtain ⟨j1, j2 | ⟨f, j2, j3⟩⟩ := i2 e he
    ·exact ⟨j1, .inl j2⟩
    ·exact ⟨j1, .inr ⟨f, by simp [List.mem_cons.1 j2], j3⟩⟩
  ·show (if c.1 ≤ y ∧ y < c.2.1 then c.2.2 else rowAt (pushB (d :: l) b) y) = if b.1 ≤ y ∧ y < b.2.1 then b.2.2 else if c.1 ≤ y ∧ y < c.2.1 then c.2.2 else rowAt (d :: l) y
   rw [i3 y]
   by_cases ha : b.1 ≤ y ∧ y < b.2.1
   ·rw [if_pos ha, if_pos ha, if_neg (by omega)]
   ·rw [if_neg ha, if_neg ha]
def zCN (f : Int → List (Int × Int)) : List Int → List Bd → List Bd
 | a :: b :: ys, out => zCN f (b :: ys) (pushB out (a, b, f a))
 | _, out => out
theorem zQ7 (l : List zK) : ∀ (ys : List Int) (out : List Bd), zEM l ys out = zCN (zFf l) ys out
 | [], _ => rfl
 | [_], _ => rfl
 | a :: b :: ys, out => zQ7 l (b :: ys) (pushB out (a, b, zFf l a))
def zSG (f : Int → List (Int × Int)) : List Int → Prop
 | a :: b :: ys => (∀ y, a ≤ y → y < b → f y = f a) ∧ zSG f (b :: ys)
 | _ => True
theorem zW3 {f : Int → List (Int × Int)} {zs : List Int} (hc : ∀ a y, a ≤ y → (∀ z ∈ zs, z ≤ a ∨ y < z) → f y = f a) : ∀ {ys pre : List Int}, zs = pre ++ ys → zs.Pairwise (fun x y => x < y) → zSG f ys
 | [], _, _, _ => trivial
 | [_], _, _, _ => trivial
 | a :: b :: ys, pre, e, h => by
  refine ⟨fun y h1 h2 => hc a y h1 fun z hz => ?_, zW3 hc (ys := b :: ys) (pre := pre ++ [a]) (by rw [e]; simp) h⟩
  rw [e] at hz h
  obtain ⟨_, k1, k2⟩ := List.pairwise_append.1 h
  rcases List.mem_append.1 hz with hz | hz
  ·have := k2 z hz a (by simp); exact .inl (by omega)
  ·rcases List.mem_cons.1 hz with rfl | hz
   ·exact .inl (Int.le_refl _)
   ·rcases List.mem_cons.1 hz with rfl | hz
    ·exact .inr h2
    ·have := (List.pairwise_cons.1 (List.pairwise_cons.1 k1).2).1 z hz; exact .inr (by omega)
theorem zUE {f : Int → List (Int × Int)} {lo : Int} (hf : ∀ y, ∃ lo, Can lo (f y)) : ∀ (ys : List Int) (out : List Bd), ys.Pairwise (fun x y => x < y) → zSG f ys → zCU lo out → (∀ b ∈ out, ∃ lo, Can lo b.2.2) → (∀ a, ys.head? = some a → lo ≤ a ∧ (∀ c ∈ out, c.2.1 ≤ a)) →
  zCU lo (zCN f ys out) ∧ (∀ b ∈ zCN f ys out, ∃ lo, Can lo b.2.2) ∧ ∀ y, rowAt (zCN f ys out) y = if (∃ a ∈ ys, a ≤ y) ∧ (∃ z ∈ ys, y < z) then f y else rowAt out y
 | [], out, _, _, h1, h2, _ => ⟨h1, h2, fun y => by rw [if_neg (by simp)]; rfl⟩
 | [a], out, _, _, h1, h2, _ => ⟨h1, h2, fun y => by rw [if_neg (by rintro ⟨⟨c, hc, h1⟩, z, hz, h2⟩; simp at hc hz; omega)]; rfl⟩
 | a :: b :: ys, out, hs, hc, h1, h2, h3 => by
  have hab : a < b := (List.pairwise_cons.1 hs).1 b (by simp)
  have hs2 := (List.pairwise_cons.1 hs).2
  obtain ⟨h5, h6⟩ := h3 a rfl
  obtain ⟨p1, p2, p3⟩ := h1.push (b := (a, b, f a)) h6 h5 hab
  obtain ⟨i1, i2, i3⟩ := zUE hf (b :: ys) (pushB out (a, b, f a)) hs2 hc.2 p1 (fun c hc => by
   rcases (p2 c hc).2 with e | ⟨d, hd, e⟩
   ·rw [e]; exact hf a
   ·rw [e]; exact h2 d hd) (fun z hz => by
   simp at hz; subst hz
   exact ⟨by omega, fun c hc => (p2 c hc).1⟩)
  refine ⟨i1, i2, fun y => ?_⟩
  show rowAt (zCN f (b :: ys) (pushB out (a, b, f a))) y = _
  rw [i3 y, p3 y]
  show (if (∃ c ∈ b :: ys, c ≤ y) ∧ (∃ z ∈ b :: ys, y < z) then f y else if a ≤ y ∧ y < b then f a else rowAt out y) = _
  by_cases ya : y < a
  ·rw [if_neg (fun h => by
    obtain ⟨⟨c, hc, hcy⟩, _⟩ := h
    rcases List.mem_cons.1 hc with rfl | hc
    ·omega
    ·have := (List.pairwise_cons.1 hs2).1 c hc; omega), if_neg (by omega), if_neg (fun h => by
    obtain ⟨⟨c, hc, hcy⟩, _⟩ := h
    rcases List.mem_cons.1 hc with rfl | hc
    ·omega
    ·have := (List.pairwise_cons.1 hs).1 c hc; omega)]
  ·by_cases yb : y < b
   ·rw [if_neg (fun h => by
     obtain ⟨⟨c, hc, hcy⟩, _⟩ := h
     rcases List.mem_cons.1 hc with rfl | hc
     ·omega
     ·have := (List.pairwise_cons.1 hs2).1 c hc; omega), if_pos (by omega), if_pos ⟨⟨a, by simp, by omega⟩, ⟨b, by simp, yb⟩⟩]
    exact (hc.1 y (by omega) yb).symm
   ·by_cases hz : ∃ z ∈ b :: ys, y < z
    ·obtain ⟨z, hz, hyz⟩ := hz
     rw [if_pos ⟨⟨b, by simp, by omega⟩, z, hz, hyz⟩, if_pos ⟨⟨a, by simp, by omega⟩, z, List.mem_cons_of_mem _ hz, hyz⟩]
    ·rw [if_neg (fun h => hz h.2), if_neg (by omega), if_neg (fun h => by
      obtain ⟨_, z, hm, hyz⟩ := h
      rcases List.mem_cons.1 hm with rfl | hm
      ·omega
      ·exact hz ⟨z, hm, hyz⟩)]
theorem zPL {f : Int → List (Int × Int)} {ys : List Int} (hs : ys.Pairwise fun x y => x < y) (hf : ∀ y, ∃ lo, Can lo (f y)) (hc : ∀ a y, a ≤ y → (∀ z ∈ ys, z ≤ a ∨ y < z) → f y = f a) (h0 : ∀ y, (∀ a ∈ ys, y < a) → f y = []) (h1 : ∀ y, (∀ a ∈ ys, a ≤ y) → f y = []) : BOk (zCN f ys []) ∧ ∀ y, rowAt (zCN f ys []) y = f y := by
 obtain ⟨lo, hlo⟩ : ∃ lo : Int, ∀ z ∈ ys, lo ≤ z := by
  have : ∀ m : List Int, ∃ lo : Int, ∀ z ∈ m, lo ≤ z := by
   intro m
   induction m with
   | nil => exact ⟨0, by simp⟩
   | cons a m ih =>
    obtain ⟨lo, h⟩ := ih
    refine ⟨min lo a, fun z hz => ?_⟩
    rcases List.mem_cons.1 hz with rfl | hz
    ·omega
    ·have := h z hz; omega
  exact this _
 obtain ⟨i1, i2, i3⟩ := zUE (lo := lo) hf ys [] hs (zW3 hc (ys := ys) (pre := []) rfl hs) trivial (by simp) (fun a ha => ⟨hlo a (List.mem_of_mem_head? (by rw [ha]; rfl)), by simp⟩)
 refine ⟨⟨⟨lo, i1⟩, i2⟩, fun y => ?_⟩
 rw [i3 y]
 by_cases ha : ∃ a ∈ ys, a ≤ y
 ·by_cases hz : ∃ z ∈ ys, y < z
  ·rw [if_pos ⟨ha, hz⟩]
  ·rw [if_neg (fun h => hz h.2), h1 y (fun a ham => by
    rcases Int.lt_or_le y a with h | h
    ·exact absurd ⟨a, ham, h⟩ hz
    ·exact h)]; rfl
 ·rw [if_neg (fun h => ha h.1), h0 y (fun a ham => by
   rcases Int.lt_or_le y a with h | h
   ·exact h
   ·exact absurd ⟨a, ham, h⟩ ha)]; rfl
theorem zSt {l : List zK} (hl : ∀ r ∈ l, r.X0 < r.X1) {y : Int} (h : ∀ r ∈ l, ¬ (r.Y0 ≤ y ∧ y < r.Y1)) : zFf l y = [] := by
 obtain ⟨c1, c2⟩ := zKo hl y
 exact zdW c1 fun x hx => by
  obtain ⟨r, hr, _, hy⟩ := (c2 x).1 hx
  exact h r hr hy
theorem zUu {l : List zK} (hl : ∀ r ∈ l, r.X0 < r.X1) {a y : Int} (h : ∀ r ∈ l, (r.Y0 ≤ y ∧ y < r.Y1) ↔ (r.Y0 ≤ a ∧ a < r.Y1)) : zFf l y = zFf l a := by
 obtain ⟨c1, c2⟩ := zKo hl y
 obtain ⟨c3, c4⟩ := zKo hl a
 refine zbG c1 c3 fun x => (c2 x).trans (Iff.trans ?_ (c4 x).symm)
 unfold InR
 constructor
 ·rintro ⟨r, hr, hx, hy⟩; exact ⟨r, hr, hx, (h r hr).1 hy⟩
 ·rintro ⟨r, hr, hx, hy⟩; exact ⟨r, hr, hx, (h r hr).2 hy⟩
theorem zSu {l : List zK} {ys : List Int} (hl : ∀ r ∈ l, r.X0 < r.X1 ∧ r.Y0 < r.Y1) (hy : ∀ r ∈ l, r.Y0 ∈ ys ∧ r.Y1 ∈ ys) : (∀ a y, a ≤ y → (∀ z ∈ ys, z ≤ a ∨ y < z) → zFf l y = zFf l a) ∧ (∀ y, (∀ a ∈ ys, y < a) → zFf l y = []) ∧ (∀ y, (∀ a ∈ ys, a ≤ y) → zFf l y = []) := by
 have hx : ∀ r ∈ l, r.X0 < r.X1 := fun r hr => (hl r hr).1
 refine ⟨fun a y hay h => zUu hx fun r hr => ?_, fun y h => zSt hx fun r hr hh => ?_, fun y h => zSt hx fun r hr hh => ?_⟩
 ·have := h _ (hy r hr).1; have := h _ (hy r hr).2; omega
 ·have := h _ (hy r hr).1; omega
 ·have := h _ (hy r hr).2; omega
theorem zYy {l : List zK} (hl : ∀ r ∈ l, r.X0 < r.X1 ∧ r.Y0 < r.Y1) : BOk (zAQ l) ∧ ∀ y, rowAt (zAQ l) y = zFf l y := by
 obtain ⟨h1, h2, h3⟩ := zSu (ys := zGa (zES l)) hl fun r hr => ⟨(zEV _ _).2 (zFX.2 ⟨r, hr, .inl rfl⟩), (zEV _ _).2 (zFX.2 ⟨r, hr, .inr rfl⟩)⟩
 have := zPL (zDG (zES l)) (fun y => (zKo (fun r hr => (hl r hr).1) y).1) h1 h2 h3
 unfold zAQ
 rw [zQ7]
 exact this
theorem zEB {l : List zK} (hl : ∀ r ∈ l, r.X0 < r.X1 ∧ r.Y0 < r.Y1) : BOk (zAQ l) ∧ ∀ x y, InB x y (zAQ l) ↔ InR x y l := by
 obtain ⟨h1, h2⟩ := zYy hl
 refine ⟨h1, fun x y => ?_⟩
 unfold InB
 rw [h2]
 exact (zKo (fun r hr => (hl r hr).1) y).2 x
theorem zUp {l m : List zK} (hl : ∀ r ∈ l, r.X0 < r.X1 ∧ r.Y0 < r.Y1) (hm : ∀ r ∈ m, r.X0 < r.X1 ∧ r.Y0 < r.Y1) (h : ∀ x y, InR x y l ↔ InR x y m) : zAQ l = zAQ m := by
 obtain ⟨a1, a2⟩ := zEB hl
 obtain ⟨b1, b2⟩ := zEB hm
 exact a1.uniq b1 fun x y => by rw [a2, b2, h]
theorem zHX {l : List Bd} {r : zK} : r ∈ QJ l ↔ ∃ b ∈ l, ∃ s ∈ b.2.2, r = ⟨s.1, b.1, s.2, b.2.1⟩ := by
 unfold QJ zKs
 simp only [List.mem_flatMap, List.mem_map]
 constructor
 ·rintro ⟨b, hb, s, hs, rfl⟩; exact ⟨b, hb, s, hs, rfl⟩
 ·rintro ⟨b, hb, s, hs, rfl⟩; exact ⟨b, hb, s, hs, rfl⟩
theorem zCO {l : List Bd} (h : BOk l) (x y : Int) : InR x y (QJ l) ↔ InB x y l := by
 obtain ⟨lo, hc⟩ := h.can
 unfold InR InB
 constructor
 ·rintro ⟨r, hr, hx, hy⟩
  obtain ⟨b, hb, s, hs, rfl⟩ := zHX.1 hr
  rw [zKp hc hb hy.1 hy.2]
  exact ⟨s, hs, hx⟩
 ·intro hx
  rcases zJI (l := l) (y := y) with h1 | ⟨b, hb, h1, h2, h3⟩
  ·rw [h1] at hx; exact absurd hx zAb
  ·rw [h3] at hx
   obtain ⟨s, hs, hx⟩ := hx
   exact ⟨_, zHX.2 ⟨b, hb, s, hs, rfl⟩, hx, h1, h2⟩
theorem zFV {l : List Bd} (h : BOk l) : ∀ r ∈ QJ l, r.X0 < r.X1 ∧ r.Y0 < r.Y1 := fun r hr => by
 obtain ⟨lo, hc⟩ := h.can
 obtain ⟨b, hb, s, hs, rfl⟩ := zHX.1 hr
 obtain ⟨lo', hr⟩ := h.row b hb
 exact ⟨(hr.mem s hs).2, (hc.mem b hb).2.1⟩
theorem zMr {l : List Bd} (h : BOk l) : zAQ (QJ l) = l := by
 obtain ⟨a1, a2⟩ := zEB (zFV h)
 exact a1.uniq h fun x y => by rw [a2, zCO h]
theorem zUv {l : List Bd} (h : BOk l) (hx : ∀ x y, InB x y l → (-1000000 ≤ x ∧ x < 1000000) ∧ (-1000000 ≤ y ∧ y < 1000000)) : ∀ r ∈ QJ l, ROk r := fun r hr => by
 have hne := zFV h r hr
 have h1 := hx r.X0 r.Y0 ((zCO h _ _).1 ⟨r, hr, ⟨Int.le_refl _, hne.1⟩, ⟨Int.le_refl _, hne.2⟩⟩)
 have h2 := hx (r.X1 - 1) (r.Y1 - 1) ((zCO h _ _).1 ⟨r, hr, ⟨by omega, by omega⟩, ⟨by omega, by omega⟩⟩)
 exact ⟨by omega, by omega, by omega, by omega, hne.1, hne.2⟩
theorem zMw : ∀ {l m : List zK}, zKx l = true → zKx m = true → (∀ a ∈ l, ∀ b ∈ m, ltR a b = true) → zKx (l ++ m) = true
 | [], _, _, h, _ => h
 | [a], [], _, _, _ => rfl
 | [a], b :: m, _, h2, h3 => by
  show (ltR a b && zKx (b :: m)) = true
  rw [h3 a (by simp) b (by simp), h2]; rfl
 | a :: c :: l, m, h1, h2, h3 => by
  have h1 : (ltR a c && zKx (c :: l)) = true := h1
  rw [Bool.and_eq_true] at h1
  show (ltR a c && zKx (c :: l ++ m)) = true
  rw [h1.1, zMw h1.2 h2 fun x hx y hy => h3 x (by simp [List.mem_cons.1 hx]) y hy]; rfl
theorem zKw {b : Bd} : ∀ {l : List (Int × Int)} {lo : Int}, Can lo l → zKx (l.map fun s => (⟨s.1, b.1, s.2, b.2.1⟩ : zK)) = true
 | [], _, _ => rfl
 | [p], _, _ => rfl
 | p :: q :: l, lo, h => by
  show (ltR _ _ && zKx (List.map (fun s => (⟨s.1, b.1, s.2, b.2.1⟩ : zK)) (q :: l))) = true
  rw [zKw h.2.2, Bool.and_true]
  unfold ltR
  have := h.2.1; have := h.2.2.1
  simp
  omega
theorem zMv : ∀ {l : List Bd} {lo : Int}, zCU lo l → (∀ b ∈ l, ∃ lo, Can lo b.2.2) → zKx (QJ l) = true
 | [], _, _, _ => rfl
 | b :: l, lo, h, hr => by
  rw [zBW]
  obtain ⟨lo', h1⟩ := hr b (by simp)
  refine zMw (zKw h1) (zMv h.2.2.2.2 fun c hc => hr c (by simp [hc])) fun x hx y hy => ?_
  obtain ⟨s, hs, rfl⟩ := List.mem_map.1 hx
  obtain ⟨c, hc, t, ht, rfl⟩ := zHX.1 hy
  have := h.2.2.2.2.mem c hc
  have := h.2.1
  unfold ltR
  simp
  omega
theorem zCU.mono {l : List Bd} {lo lo' : Int} (h : zCU lo l) (hl : lo' ≤ lo) : zCU lo' l := by
 cases l with
 | nil => trivial
 | cons b l => exact ⟨by have := h.1; omega, h.2⟩
theorem zX1 {l : List Bd} (h : BOk l) (hx : ∀ x y, InB x y l → (-1000000 ≤ x ∧ x < 1000000) ∧ (-1000000 ≤ y ∧ y < 1000000)) (hn : (QJ l).length ≤ 2000) : zBu (QJ l) = 0 := by
 unfold zBu
 have h1 : zCH (QJ l) = 0 := by
  unfold zCH
  rw [if_neg (by omega)]
  exact zSs (zUv h hx)
 obtain ⟨lo, hc⟩ := h.can
 rw [if_pos h1, if_pos (zMv hc h.row), if_pos (by rw [zMr h])]
theorem zKr {l : List zK} (h : zBu l = 0) : zCH l = 0 ∧ l.length ≤ 2000 ∧ (∀ r ∈ l, ROk r) ∧ QJ (zAQ l) = l := by
 unfold zBu at h
 by_cases h1 : zCH l = 0
 ·obtain ⟨h2, h3⟩ := zMt h1
  rw [if_pos h1] at h
  split at h
  ·split at h
   ·rename_i h4; exact ⟨h1, h2, h3, h4⟩
   ·omega
  ·omega
 ·rw [if_neg h1] at h; exact absurd h h1
theorem ROk.ne {l : List zK} (h : ∀ r ∈ l, ROk r) : ∀ r ∈ l, r.X0 < r.X1 ∧ r.Y0 < r.Y1 := fun r hr => ⟨(h r hr).x, (h r hr).y⟩
def stk (xs : List Int) (x : Int) : List Int := if xs.getLast? = some x then xs.dropLast else xs ++ [x]
def zUB (l : List Int) : List Int := l.foldl stk []
def cle (x : Int) (l : List Int) : Nat := (l.filter fun z => decide (z ≤ x)).length
theorem zEA (x : Int) (l m : List Int) : cle x (l ++ m) = cle x l + cle x m := by unfold cle; rw [List.filter_append, List.length_append]
theorem zW4 (x z : Int) : cle x [z] = if z ≤ x then 1 else 0 := by
 unfold cle
 by_cases h : z ≤ x <;> simp [h]
structure zUK (xs done : List Int) : Prop where
 inc : xs.Pairwise fun a b => a < b
 par : ∀ x, cle x xs % 2 = cle x done % 2
 len : xs.length % 2 = done.length % 2
 sub : ∀ x ∈ xs, x ∈ done
theorem ze9 {xs done : List Int} {x : Int} (h : zUK xs done) (hx : ∀ z ∈ done, z ≤ x) : zUK (stk xs x) (done ++ [x]) := by
 obtain ⟨h1, h2, h3, h4⟩ := h
 unfold stk
 by_cases hl : xs.getLast? = some x
 ·rw [if_pos hl]
  obtain ⟨ys, rfl⟩ := List.getLast?_eq_some_iff.1 hl
  rw [List.dropLast_concat]
  rw [List.pairwise_append] at h1
  refine ⟨h1.1, fun z => ?_, ?_, fun z hz => List.mem_append_left _ (h4 z (List.mem_append_left _ hz))⟩
  ·have := h2 z
   rw [zEA] at this
   rw [zEA]; omega
  ·rw [List.length_append] at h3 ⊢
   simp only [List.length_singleton] at h3 ⊢
   omega
 ·rw [if_neg hl]
  refine ⟨?_, fun z => ?_, ?_, fun z hz => ?_⟩
  ·rw [List.pairwise_append]
   refine ⟨h1, by simp, fun a ha b hb => ?_⟩
   simp at hb; subst hb
   have hle := hx a (h4 a ha)
   rcases Int.lt_or_eq_of_le hle with h | h
   ·exact h
   ·subst h
    exfalso
    apply hl
    rcases List.eq_nil_or_concat xs with e | ⟨ys, y, e⟩
    ·subst e; cases ha
    ·rw [List.concat_eq_append] at e
     subst e
     have hy := hx y (h4 y (by simp))
     rw [List.pairwise_append] at h1
     rcases List.mem_append.1 ha with ha | ha
     ·have := h1.2.2 a ha y (by simp)
      omega
     ·simp at ha; subst ha; simp
  ·have := h2 z
   rw [zEA, zEA]; omega
  ·rw [List.length_append, List.length_append]
   simp only [List.length_singleton]; omega
  ·rcases List.mem_append.1 hz with hz | hz
   ·exact List.mem_append_left _ (h4 z hz)
   ·exact List.mem_append_right _ hz
theorem zW5 : ∀ (suf done xs : List Int), zUK xs done → (∀ z ∈ done, ∀ y ∈ suf, z ≤ y) → suf.Pairwise (fun a b => a ≤ b) → zUK (suf.foldl stk xs) (done ++ suf)
 | [], done, xs, h, _, _ => by simpa using h
 | x :: l, done, xs, h, hd, hs => by
  obtain ⟨s1, s2⟩ := List.pairwise_cons.1 hs
  have := zW5 l (done ++ [x]) (stk xs x) (ze9 h fun z hz => hd z hz x List.mem_cons_self) (fun z hz y hy => by
   rcases List.mem_append.1 hz with hz | hz
   ·exact hd z hz y (List.mem_cons_of_mem _ hy)
   ·simp at hz; subst hz; exact s1 y hy) s2
  rw [List.foldl_cons]
  simpa using this
theorem zdV {l : List Int} (hs : l.Pairwise fun a b => a ≤ b) : zUK (zUB l) l := by
 have := zW5 l [] [] ⟨.nil, fun _ => rfl, rfl, fun _ h => (by cases h)⟩ (fun _ h => by cases h) hs
 unfold zUB
 simpa using this
def prs : List Int → List (Int × Int)
 | a :: b :: l => (a, b) :: prs l
 | _ => []
theorem zZD : ∀ {xs : List Int} {lo : Int}, xs.Pairwise (fun a b => a < b) → xs.length % 2 = 0 → (∀ x ∈ xs, lo < x) → Qo (prs xs) = xs ∧ Can lo (prs xs) ∧ ∀ x, InS x (prs xs) ↔ cle x xs % 2 = 1
 | [], lo, _, _, _ => ⟨rfl, trivial, fun x => ⟨fun h => absurd h zAb, fun h => by simp [cle] at h⟩⟩
 | [a], lo, _, h, _ => by simp at h
 | a :: b :: l, lo, hp, hl, hlo => by
  obtain ⟨p1, p2⟩ := List.pairwise_cons.1 hp
  obtain ⟨p3, p4⟩ := List.pairwise_cons.1 p2
  have hab := p1 b List.mem_cons_self
  obtain ⟨i1, i2, i3⟩ := zZD (xs := l) (lo := b) p4 (by simp at hl; omega) p3
  refine ⟨by rw [prs, zBd, i1], ⟨hlo a List.mem_cons_self, hab, i2⟩, fun x => ?_⟩
  rw [prs, VJ, i3]
  have e : cle x (a :: b :: l) = (if a ≤ x then 1 else 0) + ((if b ≤ x then 1 else 0) + cle x l) := by
   rw [show a :: b :: l = [a] ++ ([b] ++ l) from rfl, zEA, zEA, zW4, zW4]
  rw [e]
  have h0 : x < b → cle x l = 0 := fun h => by
   unfold cle
   rw [List.length_eq_zero_iff, List.filter_eq_nil_iff]
   intro z hz
   have := p3 z hz
   simp; omega
  by_cases ha : a ≤ x <;> by_cases hb : b ≤ x <;> simp only [ha, hb, if_true, if_false, true_and, false_and, and_false, false_or, true_or, iff_true] <;> first | omega | (have := h0 (by omega); omega)
def nxt (p0 : zI) : List zI → List (zI × zI)
 | [] => []
 | [x] => [(x, p0)]
 | x :: y :: r => (x, y) :: nxt p0 (y :: r)
def VK : List zI → List (zI × zI)
 | [] => []
 | x :: r => nxt x (x :: r)
def axS (l : List (zI × zI)) : Prop := ∀ s ∈ l, (s.1.X = s.2.X) ≠ (s.1.Y = s.2.Y)
def zGe (y : Int) (l : List (zI × zI)) : List (zI × zI) := l.filter fun s => decide (s.1.X = s.2.X) && (decide (min s.1.Y s.2.Y ≤ y) && decide (y < max s.1.Y s.2.Y))
theorem zQ1 {y : Int} {s : zI × zI} (h : s.1.X ≠ s.2.X → s.1.Y = s.2.Y) : (decide (s.1.X = s.2.X) && (decide (min s.1.Y s.2.Y ≤ y) && decide (y < max s.1.Y s.2.Y))) = (decide (s.1.Y ≤ y) != decide (s.2.Y ≤ y)) := by
 by_cases hx : s.1.X = s.2.X
 ·rw [decide_eq_true hx, Bool.true_and, Bool.eq_iff_iff]
  simp only [Bool.and_eq_true, decide_eq_true_eq, bne_iff_ne, ne_eq, decide_eq_decide]
  omega
 ·have hy := h hx
  rw [decide_eq_false hx, Bool.false_and, hy]; simp
theorem zV3 (y : Int) (p0 : zI) : ∀ (r : List zI) (x : zI), axS (nxt p0 (x :: r)) → (zGe y (nxt p0 (x :: r))).length % 2 = (if (decide (x.Y ≤ y) != decide (p0.Y ≤ y)) then 1 else 0)
 | [], x, h => by
  have hs := h (x, p0) (by simp [nxt])
  have := zQ1 (y := y) (s := (x, p0)) (fun hx => by
   by_cases hy : x.Y = p0.Y
   ·exact hy
   ·exact absurd (propext ⟨fun h => absurd h hx, fun h => absurd h hy⟩) hs)
  unfold zGe
  rw [nxt, List.filter_cons, List.filter_nil, this]
  split <;> rfl
 | z :: r, x, h => by
  have hs := h (x, z) (by simp [nxt])
  have hc := zQ1 (y := y) (s := (x, z)) (fun hx => by
   by_cases hy : x.Y = z.Y
   ·exact hy
   ·exact absurd (propext ⟨fun h => absurd h hx, fun h => absurd h hy⟩) hs)
  have ih := zV3 y p0 r z (fun s hs => h s (by rw [nxt]; exact List.mem_cons_of_mem _ hs))
  unfold zGe at ih ⊢
  rw [nxt, List.filter_cons, hc]
  simp only at hc ⊢
  cases h1 : decide (x.Y ≤ y) <;> cases h2 : decide (z.Y ≤ y) <;> cases h3 : decide (p0.Y ≤ y) <;> rw [h2, h3] at ih <;> simp at ih ⊢ <;> omega
theorem zVX (y : Int) {l : List zI} (h : axS (VK l)) : (zGe y (VK l)).length % 2 = 0 := by
 cases l with
 | nil => rfl
 | cons x r =>
  have := zV3 y x r x h
  rw [VK, this]; simp
def zC9 (up : List zK) (y : Int) : List Int := (up.filter fun s => decide (s.Y0 ≤ y) && decide (y < s.Y1)).map (·.X0)
def fA (up : List zK) (y : Int) : List (Int × Int) := prs (zUB (zC9 up y))
theorem zV7 : ∀ (l : List Int), ∃ lo, ∀ x ∈ l, lo < x
 | [] => ⟨0, fun _ h => by cases h⟩
 | a :: l => by
  obtain ⟨lo, h⟩ := zV7 l
  refine ⟨min lo (a - 1), fun x hx => ?_⟩
  rcases List.mem_cons.1 hx with rfl | hx
  ·omega
  ·have := h x hx; omega
theorem zWb {up : List zK} (hs : up.Pairwise fun a b => a.X0 ≤ b.X0) (hev : ∀ y, (zC9 up y).length % 2 = 0) (y : Int) : Qo (fA up y) = zUB (zC9 up y) ∧ (∃ lo, Can lo (fA up y)) ∧ (∀ x, InS x (fA up y) ↔ cle x (zC9 up y) % 2 = 1) ∧ ∀ z ∈ zUB (zC9 up y), z ∈ zC9 up y := by
 have hp : (zC9 up y).Pairwise fun a b => a ≤ b := by
  unfold zC9
  rw [List.pairwise_map]
  exact hs.filter _
 have hc := zdV hp
 obtain ⟨lo, hlo⟩ := zV7 (zUB (zC9 up y))
 obtain ⟨a1, a2, a3⟩ := zZD (lo := lo) hc.inc (by rw [hc.len, hev]) hlo
 exact ⟨a1, ⟨lo, a2⟩, fun x => by unfold fA; rw [a3, hc.par], hc.sub⟩
theorem zUY {up : List zK} {ys : List Int} (hm : ∀ s ∈ up, s.Y0 ∈ ys ∧ s.Y1 ∈ ys) {a y : Int} (hay : a ≤ y) (h : ∀ z ∈ ys, z ≤ a ∨ y < z) : zC9 up y = zC9 up a := by
 unfold zC9
 congr 1
 apply List.filter_congr
 intro s hs
 obtain ⟨h1, h2⟩ := hm s hs
 have k1 := h _ h1
 have k2 := h _ h2
 rw [Bool.eq_iff_iff]
 simp only [Bool.and_eq_true, decide_eq_true_eq]
 omega
theorem zax {up : List zK} {ys : List Int} (hy : ys.Pairwise fun x y => x < y) (hs : up.Pairwise fun a b => a.X0 ≤ b.X0) (hev : ∀ y, (zC9 up y).length % 2 = 0) (hm : ∀ s ∈ up, s.Y0 ∈ ys ∧ s.Y1 ∈ ys) : BOk (zCN (fA up) ys []) ∧ ∀ x y, InB x y (zCN (fA up) ys []) ↔ cle x (zC9 up y) % 2 = 1 := by
 have hnil : ∀ y, (∀ s ∈ up, ¬ (s.Y0 ≤ y ∧ y < s.Y1)) → fA up y = [] := fun y h => by
  have : zC9 up y = [] := by
   unfold zC9
   rw [List.map_eq_nil_iff, List.filter_eq_nil_iff]
   intro s hs
   have := h s hs
   simpa using this
  unfold fA; rw [this]; rfl
 obtain ⟨b1, b2⟩ := zPL (f := fA up) hy (fun y => (zWb hs hev y).2.1) (fun a y hay h => by unfold fA; rw [zUY hm hay h])
  (fun y h => hnil y fun s hs hh => by have := h _ (hm s hs).1; omega) (fun y h => hnil y fun s hs hh => by have := h _ (hm s hs).2; omega)
 refine ⟨b1, fun x y => ?_⟩
 unfold InB
 rw [b2, (zWb hs hev y).2.2.1]
def par (x : Int) : List Int → Bool
 | [] => false
 | a :: l => xor (decide (a ≤ x)) (par x l)
theorem zKF (x : Int) : ∀ l m : List Int, par x (l ++ m) = xor (par x l) (par x m)
 | [], m => by simp [par]
 | a :: l, m => by rw [List.cons_append, par, zKF x l m, par, Bool.xor_assoc]
theorem zHU {x : Int} : ∀ {l : List Int}, (∀ a ∈ l, x < a) → par x l = false
 | [], _ => rfl
 | a :: l, h => by
  rw [par, zHU fun b hb => h b (by simp [hb]), decide_eq_false (by have := h a (by simp); omega)]; rfl
theorem zKy (n : Nat) : ((n + 1) % 2 == 1) = !(n % 2 == 1) := by
 rcases Nat.mod_two_eq_zero_or_one n with h | h
 ·have : (n + 1) % 2 = 1 := by omega
  rw [h, this]; rfl
 ·have : (n + 1) % 2 = 0 := by omega
  rw [h, this]; rfl
theorem zL8 {x : Int} : ∀ {l : List Int}, (∀ a ∈ l, a ≤ x) → par x l = (l.length % 2 == 1)
 | [], _ => rfl
 | a :: l, h => by
  rw [par, zL8 fun b hb => h b (by simp [hb]), decide_eq_true (h a (by simp)), List.length_cons, zKy, Bool.true_xor]
theorem zJf : ∀ {l : List (Int × Int)} {lo x : Int}, Can lo l → (InS x l ↔ par x (Qo l) = true)
 | [], _, _, _ => by simp [zAb, zFZ, par]
 | p :: l, lo, x, h => by
  obtain ⟨h1, h2, h3⟩ := h
  have ih := zJf (x := x) h3
  have hl := fun hx : InS x l => h3.lt hx
  rw [VJ, zBd, par, par]
  cases hp : par x (Qo l)
  ·rw [hp] at ih
   have : ¬ InS x l := fun hx => by have := ih.1 hx; cases this
   by_cases a : p.1 ≤ x <;> by_cases b : p.2 ≤ x <;> simp [a, b, this] <;> omega
  ·rw [hp] at ih
   have h4 := ih.2 rfl
   have := hl h4
   have a : p.1 ≤ x := by omega
   have b : p.2 ≤ x := by omega
   simp [a, b, h4]
theorem Can.strict : ∀ {l : List (Int × Int)} {lo : Int}, Can lo l → (Qo l).Pairwise (fun x y => x < y) ∧ ∀ z ∈ Qo l, lo < z
 | [], _, _ => ⟨List.Pairwise.nil, by simp [zFZ]⟩
 | p :: l, lo, h => by
  obtain ⟨h1, h2, h3⟩ := h
  obtain ⟨i1, i2⟩ := h3.strict
  rw [zBd]
  refine ⟨List.pairwise_cons.2 ⟨fun z hz => ?_, List.pairwise_cons.2 ⟨i2, i1⟩⟩, fun z hz => ?_⟩
  ·rcases List.mem_cons.1 hz with rfl | hz
   ·exact h2
   ·have := i2 z hz; omega
  ·rcases List.mem_cons.1 hz with rfl | hz
   ·exact h1
   ·rcases List.mem_cons.1 hz with rfl | hz
    ·omega
    ·have := i2 z hz; omega
theorem zN9 : ∀ (l : List Int) (lo : Int), l.Pairwise (fun x y => x < y) → (∀ z ∈ l, lo < z) → (l.length % 2 == 1) = false → ∃ C, Can lo C ∧ Qo C = l
 | [], _, _, _, _ => ⟨[], trivial, rfl⟩
 | [a], _, _, _, h => by simp at h
 | a :: b :: l, lo, h1, h2, h3 => by
  have k := List.pairwise_cons.1 h1
  have k2 := List.pairwise_cons.1 k.2
  obtain ⟨C, c1, c2⟩ := zN9 l b k2.2 k2.1 (by rw [List.length_cons, List.length_cons, zKy, zKy, Bool.not_not] at h3; exact h3)
  exact ⟨(a, b) :: C, ⟨h2 a (by simp), k.1 b (by simp), c1⟩, by rw [zBd, c2]⟩
theorem zFm {α : Type} (x : α) (l : List α) : cut (x :: l) 1 ((x :: l).length : Int) = some l := by
 unfold cut
 rw [if_pos ⟨by omega, by simp; omega, by omega⟩]
 simp
structure zVk (k : Bool → Bool → Bool) (a b out : List Int) (inA inB : Bool) (r : List Int) : Prop where
 strict : r.Pairwise fun x y => x < y
 mem : ∀ z ∈ r, z ∈ out ∨ z ∈ a ∨ z ∈ b
 len : r.length ≤ out.length + a.length + b.length
 hi : ∀ z, (∀ o ∈ out, o ≤ z) → par z r = k (xor inA (par z a)) (xor inB (par z b))
 lo : ∀ z, (∃ o ∈ out, z < o) → par z r = par z out
theorem zGu {k : Bool → Bool → Bool} {f : Bool → Bool → Option Bool} (hf : ∀ a b, f a b = some (k a b)) {m : Nat} {a b a1 b1 out : List Int} {inA inB inA1 inB1 is : Bool} {X : Int}
  (ih : ∀ (out : List Int) (is : Bool), out.Pairwise (fun x y => x < y) → (∀ o ∈ out, (∀ x ∈ a1, o < x) ∧ ∀ x ∈ b1, o < x) → is = k inA1 inB1 → is = (out.length % 2 == 1) → out.length + a1.length + b1.length ≤ 4000000000 → ∃ r, Qm f m a1 b1 out inA1 inB1 is = some r ∧ zVk k a1 b1 out inA1 inB1 r)
  (hs : out.Pairwise fun x y => x < y) (ho : ∀ o ∈ out, o < X) (ha1 : ∀ x ∈ a1, X < x) (hb1 : ∀ x ∈ b1, X < x) (hi : is = k inA inB) (hp : is = (out.length % 2 == 1)) (hl : out.length + a1.length + b1.length + 1 ≤ out.length + a.length + b.length) (hl2 : out.length + a.length + b.length ≤ 4000000000)
  (pa : ∀ z, X ≤ z → xor inA (par z a) = xor inA1 (par z a1)) (pb : ∀ z, X ≤ z → xor inB (par z b) = xor inB1 (par z b1)) (pa0 : ∀ z, z < X → par z a = false) (pb0 : ∀ z, z < X → par z b = false)
  (hm : ∀ z, z ∈ a1 → z ∈ a) (hm2 : ∀ z, z ∈ b1 → z ∈ b) (hX : X ∈ a ∨ X ∈ b) :
  ∃ r, Wo f out is (Qm f m) X a1 inA1 b1 inB1 = some r ∧ zVk k a b out inA inB r := by
 unfold Wo
 rw [hf, Option.bind_some]
 by_cases hk : k inA1 inB1 = is
 ·rw [if_neg (by simp [hk])]
  obtain ⟨r, h1, h2⟩ := ih out is hs (fun o h => ⟨fun x hx => by have := ho o h; have := ha1 x hx; omega, fun x hx => by have := ho o h; have := hb1 x hx; omega⟩) hk.symm hp (by omega)
  refine ⟨r, h1, h2.strict, fun z hz => ?_, by have := h2.len; omega, fun z hz => ?_, h2.lo⟩
  ·rcases h2.mem z hz with h | h | h
   ·exact .inl h
   ·exact .inr (.inl (hm z h))
   ·exact .inr (.inr (hm2 z h))
  ·rw [h2.hi z hz]
   by_cases hxz : X ≤ z
   ·rw [pa z hxz, pb z hxz]
   ·rw [pa0 z (by omega), pb0 z (by omega), zHU fun x hx => by have := ha1 x hx; omega, zHU fun x hx => by have := hb1 x hx; omega, Bool.xor_false, Bool.xor_false, Bool.xor_false, Bool.xor_false, hk, hi]
 ·rw [if_pos (by simpa using hk), zB0 (by simp; omega), Option.bind_some]
  obtain ⟨r, h1, h2⟩ := ih (out ++ [X]) (k inA1 inB1) (List.pairwise_append.2 ⟨hs, List.pairwise_singleton _ _, fun o h x hx => by simp at hx; subst hx; exact ho o h⟩) (fun o h => by
   rcases List.mem_append.1 h with h | h
   ·exact ⟨fun x hx => by have := ho o h; have := ha1 x hx; omega, fun x hx => by have := ho o h; have := hb1 x hx; omega⟩
   ·simp at h; subst h; exact ⟨ha1, hb1⟩) rfl (by
   rw [List.length_append, List.length_singleton, zKy, ← hp]
   cases hv : k inA1 inB1 <;> cases is <;> simp_all) (by simp; omega)
  refine ⟨r, h1, h2.strict, fun z hz => ?_, by have := h2.len; simp at this; omega, fun z hz => ?_, fun z hz => ?_⟩
  ·rcases h2.mem z hz with h | h | h
   ·rcases List.mem_append.1 h with h | h
    ·exact .inl h
    ·simp at h; subst h
     rcases hX with h | h
     ·exact .inr (.inl h)
     ·exact .inr (.inr h)
   ·exact .inr (.inl (hm z h))
   ·exact .inr (.inr (hm2 z h))
  ·by_cases hxz : X ≤ z
   ·rw [h2.hi z (fun o h => by
     rcases List.mem_append.1 h with h | h
     ·exact hz o h
     ·simp at h; omega), pa z hxz, pb z hxz]
   ·rw [h2.lo z ⟨X, by simp, by omega⟩, zKF, pa0 z (by omega), pb0 z (by omega), Bool.xor_false, Bool.xor_false, zL8 hz, ← hp, hi, zHU (l := [X]) (fun x hx => by simp at hx; omega), Bool.xor_false]
  ·obtain ⟨o, h, hzo⟩ := hz
   rw [h2.lo z ⟨o, by simp [h], hzo⟩, zKF, zHU (l := [X]) (fun x hx => by simp at hx; have := ho o h; omega), Bool.xor_false]
theorem zJL {k : Bool → Bool → Bool} {f : Bool → Bool → Option Bool} (hf : ∀ a b, f a b = some (k a b)) : ∀ (m : Nat) (a b out : List Int) (inA inB is : Bool), a.length + b.length < m → a.Pairwise (fun x y => x < y) → b.Pairwise (fun x y => x < y) → out.Pairwise (fun x y => x < y) → (∀ o ∈ out, (∀ x ∈ a, o < x) ∧ ∀ x ∈ b, o < x) → is = k inA inB → is = (out.length % 2 == 1) → out.length + a.length + b.length ≤ 4000000000 →
  ∃ r, Qm f m a b out inA inB is = some r ∧ zVk k a b out inA inB r
 | 0, _, _, _, _, _, _, h, _, _, _, _, _, _, _ => absurd h (Nat.not_lt_zero _)
 | m + 1, [], [], out, inA, inB, is, _, _, _, hs, _, hi, hp, _ => by
  rw [Qm.eq_2, if_neg (by simp)]
  exact ⟨out, rfl, hs, fun z hz => .inl hz, by simp, fun z hz => by rw [zL8 hz, ← hp, hi]; simp [par], fun _ _ => rfl⟩
 | m + 1, x :: a, [], out, inA, inB, is, hm, sa, sb, hs, ho, hi, hp, hl => by
  have ha := List.pairwise_cons.1 sa
  rw [Qm.eq_2, if_pos (by simp), if_pos (by simp), Option.bind_some, if_pos rfl, show idx (x :: a) 0 = some x from rfl, Option.bind_some]
  unfold VF
  rw [if_pos (by simp), show idx (x :: a) 0 = some x from rfl, Option.bind_some, Option.bind_some, if_pos (by simp), zFm, Option.bind_some]
  unfold VV
  rw [if_neg (by simp), Option.bind_some, if_neg (by simp)]
  simp only [List.length_cons, List.length_nil] at hm hl
  refine zGu (m := m) (a := x :: a) (b := []) hf (fun o i k1 k2 k3 k4 k5 => zJL hf m a [] o (!inA) inB i (by simp; omega) ha.2 sb k1 k2 k3 k4 k5) hs (fun o h => (ho o h).1 x (by simp)) ha.1 (by simp) hi hp (by simp; omega) (by simp; omega) (fun z hz => ?_) (fun _ _ => rfl) (fun z hz => zHU fun y hy => ?_) (fun _ _ => rfl) (fun z h => by simp [h]) (fun z h => h) (.inl (by simp))
  ·rw [par, decide_eq_true hz]; cases inA <;> cases par z a <;> rfl
  ·rcases List.mem_cons.1 hy with rfl | hy
   ·exact hz
   ·have := ha.1 y hy; omega
 | m + 1, [], y :: b, out, inA, inB, is, hm, sa, sb, hs, ho, hi, hp, hl => by
  have hb := List.pairwise_cons.1 sb
  rw [Qm.eq_2, if_pos (by simp), if_neg (by simp; omega), if_neg (by simp), Option.bind_some, Option.bind_some, if_neg (by simp), show idx (y :: b) 0 = some y from rfl, Option.bind_some]
  unfold VF
  rw [if_neg (by simp), Option.bind_some, if_neg (by simp)]
  unfold VV
  rw [if_pos (by simp), show idx (y :: b) 0 = some y from rfl, Option.bind_some, Option.bind_some, if_pos (by simp), zFm, Option.bind_some]
  simp only [List.length_cons, List.length_nil] at hm hl
  refine zGu (m := m) (a := []) (b := y :: b) hf (fun o i k1 k2 k3 k4 k5 => zJL hf m [] b o inA (!inB) i (by simp; omega) sa hb.2 k1 k2 k3 k4 k5) hs (fun o h => (ho o h).2 y (by simp)) (by simp) hb.1 hi hp (by simp; omega) (by simp; omega) (fun _ _ => rfl) (fun z hz => ?_) (fun _ _ => rfl) (fun z hz => zHU fun x hx => ?_) (fun z h => h) (fun z h => by simp [h]) (.inr (by simp))
  ·rw [par, decide_eq_true hz]; cases inB <;> cases par z b <;> rfl
  ·rcases List.mem_cons.1 hx with rfl | hx
   ·exact hz
   ·have := hb.1 x hx; omega
 | m + 1, x :: a, y :: b, out, inA, inB, is, hm, sa, sb, hs, ho, hi, hp, hl => by
  have ha := List.pairwise_cons.1 sa
  have hb := List.pairwise_cons.1 sb
  have e1 : idx (x :: a) 0 = some x := rfl
  have e2 : idx (y :: b) 0 = some y := rfl
  simp only [List.length_cons] at hm hl
  rw [Qm.eq_2, if_pos (by simp), if_neg (by simp; omega), if_pos (by simp), e1, Option.bind_some, e2, Option.bind_some, Option.bind_some, Option.bind_some]
  simp only [Option.bind_some]
  have hxa : ∀ z, x ≤ z → xor inA (par z (x :: a)) = xor (!inA) (par z a) := fun z hz => by rw [par, decide_eq_true hz]; cases inA <;> cases par z a <;> rfl
  have hyb : ∀ z, y ≤ z → xor inB (par z (y :: b)) = xor (!inB) (par z b) := fun z hz => by rw [par, decide_eq_true hz]; cases inB <;> cases par z b <;> rfl
  have hax : ∀ z, z < x → par z (x :: a) = false := fun z hz => zHU fun v hv => by
   rcases List.mem_cons.1 hv with rfl | hv
   ·exact hz
   ·have := ha.1 v hv; omega
  have hby : ∀ z, z < y → par z (y :: b) = false := fun z hz => zHU fun v hv => by
   rcases List.mem_cons.1 hv with rfl | hv
   ·exact hz
   ·have := hb.1 v hv; omega
  by_cases hxy : x ≤ y
  ·rw [if_pos (by simpa using hxy)]
   unfold VF
   rw [if_pos (by simp), e1, Option.bind_some, Option.bind_some, if_pos (by simp), zFm, Option.bind_some]
   unfold VV
   rw [if_pos (by simp), e2, Option.bind_some, Option.bind_some]
   by_cases he : y = x
   ·subst he
    rw [if_pos (by simp), zFm, Option.bind_some]
    exact zGu (m := m) (a := y :: a) (b := y :: b) hf (fun o i k1 k2 k3 k4 k5 => zJL hf m a b o (!inA) (!inB) i (by omega) ha.2 hb.2 k1 k2 k3 k4 k5) hs (fun o h => (ho o h).1 y (by simp)) ha.1 hb.1 hi hp (by simp; omega) (by simp; omega) hxa hyb hax hby (fun z h => by simp [h]) (fun z h => by simp [h]) (.inl (by simp))
   ·rw [if_neg (by simpa using he)]
    exact zGu (m := m) (a := x :: a) (b := y :: b) hf (fun o i k1 k2 k3 k4 k5 => zJL hf m a (y :: b) o (!inA) inB i (by simp; omega) ha.2 sb k1 k2 k3 k4 k5) hs (fun o h => (ho o h).1 x (by simp)) ha.1 (fun v hv => by
     rcases List.mem_cons.1 hv with rfl | hv
     ·omega
     ·have := hb.1 v hv; omega) hi hp (by simp; omega) (by simp; omega) hxa (fun _ _ => rfl) hax (fun z hz => hby z (by omega)) (fun z h => by simp [h]) (fun z h => h) (.inl (by simp))
  ·rw [if_neg (by simpa using hxy)]
   unfold VF
   rw [if_pos (by simp), e1, Option.bind_some, Option.bind_some, if_neg (by simp; omega)]
   unfold VV
   rw [if_pos (by simp), e2, Option.bind_some, Option.bind_some, if_pos (by simp), zFm, Option.bind_some]
   exact zGu (m := m) (a := x :: a) (b := y :: b) hf (fun o i k1 k2 k3 k4 k5 => zJL hf m (x :: a) b o inA (!inB) i (by simp; omega) sa hb.2 k1 k2 k3 k4 k5) hs (fun o h => (ho o h).2 y (by simp)) (fun v hv => by
     rcases List.mem_cons.1 hv with rfl | hv
     ·omega
     ·have := ha.1 v hv; omega) hb.1 hi hp (by simp; omega) (by simp; omega) (fun _ _ => rfl) hyb (fun z hz => hax z (by omega)) hby (fun z h => h) (fun z h => by simp [h]) (.inr (by simp))
theorem zds : ∀ l : List Int, ∃ z, ∀ a ∈ l, a ≤ z
 | [] => ⟨0, by simp⟩
 | b :: l => by
  obtain ⟨z, h⟩ := zds l
  refine ⟨max z b, fun a ha => ?_⟩
  rcases List.mem_cons.1 ha with rfl | ha
  ·omega
  ·have := h a ha; omega
theorem zd3 : ∀ l : List Int, ∃ z, ∀ a ∈ l, z < a
 | [] => ⟨0, by simp⟩
 | b :: l => by
  obtain ⟨z, h⟩ := zd3 l
  refine ⟨min z (b - 1), fun a ha => ?_⟩
  rcases List.mem_cons.1 ha with rfl | ha
  ·omega
  ·have := h a ha; omega
theorem zT2 (n : Nat) : (2 * n % 2 == 1) = false := by
 have : 2 * n % 2 = 0 := by omega
 rw [this]; rfl
theorem zcP {k : Bool → Bool → Bool} {f : Bool → Bool → Option Bool} (hf : ∀ a b, f a b = some (k a b)) (hk : k false false = false) {N : Nat} {l m : List (Int × Int)} (hl : ∃ lo, Can lo l) (hm : ∃ lo, Can lo m) (hlen : 2 * l.length + 2 * m.length < N) (hlen2 : 2 * l.length + 2 * m.length ≤ 4000000000) :
  ∃ C, zDl N (Qo l) (Qo m) f = some (Qo C) ∧ (∃ lo, Can lo C) ∧ C.length ≤ l.length + m.length ∧ ∀ x, InS x C ↔ ∃ p q, (p = true ↔ InS x l) ∧ (q = true ↔ InS x m) ∧ k p q = true := by
 obtain ⟨lo1, c1⟩ := hl
 obtain ⟨lo2, c2⟩ := hm
 obtain ⟨r, h1, h2⟩ := zJL hf N (Qo l) (Qo m) [] false false false (by rw [KE, KE]; exact hlen) c1.strict.1 c2.strict.1 List.Pairwise.nil (by simp) hk.symm rfl (by rw [KE, KE]; simpa using hlen2)
 have hpar : ∀ z, par z r = k (par z (Qo l)) (par z (Qo m)) := fun z => by
  have := h2.hi z (by simp)
  rw [Bool.false_xor, Bool.false_xor] at this
  exact this
 have hodd : (r.length % 2 == 1) = false := by
  obtain ⟨z, hz⟩ := zds (r ++ Qo l ++ Qo m)
  rw [← zL8 (x := z) (l := r) (fun a ha => hz a (by simp [ha])), hpar z, zL8 (x := z) (l := Qo l) (fun a ha => hz a (by simp [ha])), zL8 (x := z) (l := Qo m) (fun a ha => hz a (by simp [ha])), KE, KE, zT2, zT2, hk]
 obtain ⟨lo, hlo⟩ := zd3 r
 obtain ⟨C, d1, d2⟩ := zN9 r lo h2.strict hlo hodd
 refine ⟨C, by rw [d2]; exact h1, ⟨lo, d1⟩, ?_, fun x => ?_⟩
 ·have := h2.len
  rw [← d2, KE, KE, KE] at this
  simp at this
  omega
 ·rw [zJf d1, d2, hpar]
  constructor
  ·intro h
   exact ⟨_, _, (zJf c1).symm, (zJf c2).symm, h⟩
  ·rintro ⟨p, q, hp, hq, h⟩
   have e1 : p = par x (Qo l) := by rw [Bool.eq_iff_iff, hp, zJf c1]
   have e2 : q = par x (Qo m) := by rw [Bool.eq_iff_iff, hq, zJf c2]
   rw [← e1, ← e2]; exact h
def zBI (y : Int) : List Bd → List Bd
 | [] => []
 | b :: l => if b.2.1 ≤ y then zBI y l else b :: l
theorem zMY (y : Int) : ∀ l : List Bd, ∀ b ∈ zBI y l, b ∈ l
 | [], b, h => h
 | c :: l, b, h => by
  unfold zBI at h
  split at h
  ·exact List.mem_cons_of_mem _ (zMY y l b h)
  ·exact h
theorem zMZ (y : Int) : ∀ l : List Bd, (zBI y l).length ≤ l.length
 | [] => by simp [zBI]
 | c :: l => by
  unfold zBI
  split
  ·have := zMZ y l; simp; omega
  ·simp
theorem zMa (y : Int) : ∀ {l : List Bd} {lo : Int}, zCU lo l → ∃ lo, zCU lo (zBI y l)
 | [], lo, h => ⟨lo, h⟩
 | c :: l, lo, h => by
  unfold zBI
  split
  ·exact zMa y h.2.2.2.2
  ·exact ⟨lo, h⟩
theorem zG5 {y z : Int} (hz : y ≤ z) : ∀ l : List Bd, rowAt (zBI y l) z = rowAt l z
 | [] => rfl
 | c :: l => by
  unfold zBI
  split
  ·rw [zG5 hz l]
   show _ = if c.1 ≤ z ∧ z < c.2.1 then c.2.2 else rowAt l z
   rw [if_neg (by omega)]
  ·rfl
theorem zKM {y : Int} : ∀ {l : List Bd} {b : Bd}, (zBI y l).head? = some b → y < b.2.1
 | [], b, h => by simp [zBI] at h
 | c :: l, b, h => by
  unfold zBI at h
  split at h
  ·exact zKM h
  ·simp at h; subst h; omega
def zRR : List Bd → Int → List (Int × Int)
 | [], _ => []
 | b :: _, y => if y < b.1 then [] else b.2.2
def zCp (e : Int) : List Bd → Int → Int
 | [], _ => e
 | b :: _, y => if y < b.1 then min e b.1 else min e b.2.1
theorem zW7 (l : List Bd) (y e : Int) : zAj (l.map toP) y e = some (Qo (zRR l y), zCp e l y) := by
 unfold zAj
 cases l with
 | nil => rfl
 | cons b l =>
  rw [if_neg (by simp; omega), List.map_cons, show idx (toP b :: l.map toP) 0 = some (toP b) from rfl, Option.bind_some]
  simp only [zRR, zCp]
  by_cases h : y < b.1
  ·rw [if_pos (decide_eq_true (show y < (toP b).Y0 from h)), if_pos h, if_pos h, Option.bind_some]; rfl
  ·rw [if_neg (show ¬ decide (y < (toP b).Y0) = true from by rw [decide_eq_true_eq]; exact h), if_neg h, if_neg h, Option.bind_some, Option.bind_some]; rfl
theorem zVy {l : List Bd} {lo y e : Int} (h : zCU lo l) (hh : ∀ b, l.head? = some b → y < b.2.1) (hy : y < e) : y < zCp e l y ∧ zCp e l y ≤ e ∧ (∀ z, y ≤ z → z < zCp e l y → rowAt l z = zRR l y) ∧ (zCp e l y = e ∨ ∃ b ∈ l, zCp e l y = b.1 ∨ zCp e l y = b.2.1) := by
 cases l with
 | nil => exact ⟨hy, Int.le_refl _, fun _ _ _ => rfl, .inl rfl⟩
 | cons b l =>
  have hb := hh b rfl
  simp only [zRR, zCp]
  by_cases h1 : y < b.1
  ·rw [if_pos h1, if_pos h1]
   refine ⟨by omega, by omega, fun z k1 k2 => ?_, ?_⟩
   ·show (if b.1 ≤ z ∧ z < b.2.1 then b.2.2 else rowAt l z) = []
    rw [if_neg (by omega)]
    exact zFg h.2.2.2.2 (by have := h.2.1; omega)
   ·by_cases k : e ≤ b.1
    ·exact .inl (by omega)
    ·exact .inr ⟨b, by simp, .inl (by omega)⟩
  ·rw [if_neg h1, if_neg h1]
   refine ⟨by omega, by omega, fun z k1 k2 => ?_, ?_⟩
   ·show (if b.1 ≤ z ∧ z < b.2.1 then b.2.2 else rowAt l z) = b.2.2
    rw [if_pos (by omega)]
   ·by_cases k : e ≤ b.2.1
    ·exact .inl (by omega)
    ·exact .inr ⟨b, by simp, .inr (by omega)⟩
section
variable {N : Nat} {f : Bool → Bool → Option Bool} {e : Int} {out : List zZ} {y : Int} {K : List zZ → List zZ → List zZ → Int → Option (List zZ)}
def zbM (N : Nat) (f : Bool → Bool → Option Bool) (e : Int) (out : List zZ) (y : Int) (K : List zZ → List zZ → List zZ → Int → Option (List zZ)) (a b : List Bd) : Option (List zZ) :=
 (zDl N (Qo (zRR a y)) (Qo (zRR b y)) f).bind fun zNG =>
 (JZ out (zZ.mk y (min (zCp e a y) (zCp e b y)) zNG)).bind fun zPX =>
 K (a.map toP) (b.map toP) zPX (min (zCp e a y) (zCp e b y))
theorem zVl (a : List Bd) : ∀ (b : List Bd) (m : Nat), b.length < m → VN N f e out y K (a.map toP) m (b.map toP) = zbM N f e out y K a (zBI y b)
 | b, 0, h => absurd h (Nat.not_lt_zero _)
 | [], m + 1, h => by
  rw [VN.eq_2, if_neg (by simp), Option.bind_some, if_neg (by simp), zW7, Option.bind_some, zW7, Option.bind_some]; rfl
 | c :: b, m + 1, h => by
  simp only [List.length_cons] at h
  rw [VN.eq_2, if_pos (by simp), List.map_cons, show idx (toP c :: b.map toP) 0 = some (toP c) from rfl, Option.bind_some, Option.bind_some]
  unfold zBI
  by_cases hc : c.2.1 ≤ y
  ·rw [if_pos (decide_eq_true (show (toP c).Y1 ≤ y from hc)), if_pos hc, zFm, Option.bind_some]
   exact zVl a b m (by omega)
  ·rw [if_neg (show ¬ decide ((toP c).Y1 ≤ y) = true from by rw [decide_eq_true_eq]; exact hc), if_neg hc, ← List.map_cons, zW7, Option.bind_some, zW7, Option.bind_some]; rfl
theorem zba {b : List Bd} (hb : b.length < N) : ∀ (a : List Bd) (m : Nat), a.length < m → VO N f e (b.map toP) out y K m (a.map toP) = zbM N f e out y K (zBI y a) (zBI y b)
 | a, 0, h => absurd h (Nat.not_lt_zero _)
 | [], m + 1, h => by
  rw [VO.eq_2, if_neg (by simp), Option.bind_some, if_neg (by simp)]
  exact zVl [] b N hb
 | c :: a, m + 1, h => by
  simp only [List.length_cons] at h
  rw [VO.eq_2, if_pos (by simp), List.map_cons, show idx (toP c :: a.map toP) 0 = some (toP c) from rfl, Option.bind_some, Option.bind_some]
  have hd : zBI y (c :: a) = if c.2.1 ≤ y then zBI y a else c :: a := rfl
  rw [hd]
  by_cases hc : c.2.1 ≤ y
  ·rw [if_pos (decide_eq_true (show (toP c).Y1 ≤ y from hc)), if_pos hc, zFm, Option.bind_some]
   exact zba hb a m (by omega)
  ·rw [if_neg (show ¬ decide ((toP c).Y1 ≤ y) = true from by rw [decide_eq_true_eq]; exact hc), if_neg hc, ← List.map_cons]
   exact zVl (c :: a) b N hb
end
def aft (ev : List Int) (y : Int) : Nat := (ev.filter fun z => decide (y < z)).length
theorem ziw {y z : Int} (hyz : y < z) : ∀ {ev : List Int}, z ∈ ev → aft ev z < aft ev y := by
 have mono : ∀ ev : List Int, aft ev z ≤ aft ev y := by
  intro ev
  induction ev with
  | nil => simp [aft]
  | cons a ev ih =>
   unfold aft at *
   rw [List.filter_cons, List.filter_cons]
   by_cases h1 : z < a
   ·rw [if_pos (by simpa using h1), if_pos (by simp; omega)]; simp; exact ih
   ·rw [if_neg (by simpa using h1)]
    split
    ·simp; omega
    ·exact ih
 intro ev
 induction ev with
 | nil => intro h; simp at h
 | cons a ev ih =>
  intro h
  have hm := mono ev
  unfold aft at *
  rw [List.filter_cons, List.filter_cons]
  rcases List.mem_cons.1 h with rfl | h
  ·rw [if_neg (by simp), if_pos (by simpa using hyz)]
   simp; omega
  ·have := ih h
   by_cases h1 : z < a
   ·rw [if_pos (by simpa using h1), if_pos (by simp; omega)]; simp; exact this
   ·rw [if_neg (by simpa using h1)]
    split
    ·simp; omega
    ·exact this
theorem zdb (ev : List Int) (y : Int) : aft ev y ≤ ev.length := List.length_filter_le _ _
def Kept (k : Bool → Bool → Bool) (A B : List Bd) (x y : Int) : Prop := ∃ p q, (p = true ↔ InB x y A) ∧ (q = true ↔ InB x y B) ∧ k p q = true
theorem zS9 {k : Bool → Bool → Bool} {f : Bool → Bool → Option Bool} (hf : ∀ a b, f a b = some (k a b)) (hk : k false false = false) {N : Nat} (hN : 10000000000 ≤ N) {A B : List Bd} {R1 R2 : Nat} (hrA : ∀ b ∈ A, (∃ lo, Can lo b.2.2) ∧ b.2.2.length ≤ R1) (hrB : ∀ b ∈ B, (∃ lo, Can lo b.2.2) ∧ b.2.2.length ≤ R2) (hR : R1 + R2 ≤ 500000000) (hAl : A.length ≤ 500000000) (hBl : B.length ≤ 500000000) {ev : List Int} {e lo : Int} (hev : e ∈ ev) (hevA : ∀ b ∈ A, b.1 ∈ ev ∧ b.2.1 ∈ ev) (hevB : ∀ b ∈ B, b.1 ∈ ev ∧ b.2.1 ∈ ev) :
  ∀ (m : Nat) (a b out : List Bd) (y : Int), (∃ lo, zCU lo a) → (∃ lo, zCU lo b) → (∀ c ∈ a, c ∈ A) → (∀ c ∈ b, c ∈ B) → a.length ≤ A.length → b.length ≤ B.length → (∀ z, y ≤ z → rowAt a z = rowAt A z) → (∀ z, y ≤ z → rowAt b z = rowAt B z) → zCU lo out → lo ≤ y → (∀ c ∈ out, c.2.1 ≤ y ∧ (∃ lo, Can lo c.2.2) ∧ c.2.2.length ≤ R1 + R2) → (∀ x z, InB x z out ↔ z < y ∧ Kept k A B x z) → aft ev y < m → out.length + aft ev y ≤ 900000000 → (∀ x z, e ≤ z → ¬ Kept k A B x z) →
  ∃ C, JY N f e m (a.map toP) (b.map toP) (out.map toP) y = some (C.map toP) ∧ BOk C ∧ (∀ x z, InB x z C ↔ Kept k A B x z) ∧ C.length ≤ out.length + aft ev y ∧ ∀ c ∈ C, c.2.2.length ≤ R1 + R2
 | 0, _, _, _, _, _, _, _, _, _, _, _, _, _, _, _, _, h, _, _ => absurd h (Nat.not_lt_zero _)
 | m + 1, a, b, out, y, ⟨la, ca⟩, ⟨lb, cb⟩, sa, sb, hal, hbl, ra, rb, co, hlo, ho, hin, hm, hl, hend => by
  by_cases hye : y < e
  ·rw [JY.eq_2, if_pos (by simpa using hye), zba (by omega) a N (by omega)]
   obtain ⟨la', ca'⟩ := zMa y ca
   obtain ⟨lb', cb'⟩ := zMa y cb
   have sa' : ∀ c ∈ zBI y a, c ∈ A := fun c hc => sa c (zMY y a c hc)
   have sb' : ∀ c ∈ zBI y b, c ∈ B := fun c hc => sb c (zMY y b c hc)
   obtain ⟨na, na2, wa, va⟩ := zVy (e := e) ca' (fun c hc => zKM hc) hye
   obtain ⟨nb, nb2, wb, vb⟩ := zVy (e := e) cb' (fun c hc => zKM hc) hye
   have rowcan : ∀ {l : List Bd} {L : List Bd} {R : Nat}, (∀ b ∈ L, (∃ lo, Can lo b.2.2) ∧ b.2.2.length ≤ R) → (∀ c ∈ l, c ∈ L) → (∃ lo, Can lo (zRR l y)) ∧ (zRR l y).length ≤ R := fun {l L R} h1 h2 => by
    cases l with
    | nil => exact ⟨⟨0, trivial⟩, Nat.zero_le _⟩
    | cons c l =>
     simp only [zRR]
     split
     ·exact ⟨⟨0, trivial⟩, Nat.zero_le _⟩
     ·exact h1 c (h2 c (by simp))
   obtain ⟨ra1, ra2⟩ := rowcan hrA sa'
   obtain ⟨rb1, rb2⟩ := rowcan hrB sb'
   obtain ⟨C0, k1, k2, k3, k4⟩ := zcP hf hk (N := N) ra1 rb1 (by omega) (by omega)
   unfold zbM
   rw [k1, Option.bind_some]
   generalize hn : min (zCp e (zBI y a) y) (zCp e (zBI y b) y) = n
   have hyn : y < n := by omega
   have hne : n ≤ e := by omega
   have hnev : n ∈ ev := by
    have key : ∀ {l L : List Bd}, (∀ c ∈ l, c ∈ L) → (∀ b ∈ L, b.1 ∈ ev ∧ b.2.1 ∈ ev) → (zCp e l y = e ∨ ∃ b ∈ l, zCp e l y = b.1 ∨ zCp e l y = b.2.1) → zCp e l y ∈ ev := fun h1 h2 h3 => by
     rcases h3 with h | ⟨c, hc, h | h⟩
     ·rw [h]; exact hev
     ·rw [h]; exact (h2 c (h1 c hc)).1
     ·rw [h]; exact (h2 c (h1 c hc)).2
    have e1 := key sa' hevA va
    have e2 := key sb' hevB vb
    rcases Int.le_total (zCp e (zBI y a) y) (zCp e (zBI y b) y) with h | h
    ·rw [← hn, Int.min_eq_left h]; exact e1
    ·rw [← hn, Int.min_eq_right h]; exact e2
   have haft := ziw hyn hnev
   have hp : JZ (out.map toP) (zZ.mk y n (Qo C0)) = some ((pushB out (y, n, C0)).map toP) := zNU (l := out) (b := (y, n, C0)) (by omega) hyn
   rw [hp, Option.bind_some]
   obtain ⟨p1, p2, p3⟩ := co.push (b := (y, n, C0)) (fun c hc => (ho c hc).1) hlo hyn
   have hpl := zGs out (y, n, C0)
   have hkept : ∀ x z, y ≤ z → z < n → (InS x C0 ↔ Kept k A B x z) := fun x z z1 z2 => by
    rw [k4 x, ← wa z z1 (by omega), ← wb z z1 (by omega), zG5 z1, zG5 z1, ra z z1, rb z z1]
    exact Iff.rfl
   obtain ⟨C, i1, i2, i3, i4, i5⟩ := zS9 hf hk hN hrA hrB hR hAl hBl hev hevA hevB m (zBI y a) (zBI y b) (pushB out (y, n, C0)) n ⟨la', ca'⟩ ⟨lb', cb'⟩ sa' sb' (Nat.le_trans (zMZ y a) hal) (Nat.le_trans (zMZ y b) hbl) (fun z hz => by rw [zG5 (by omega), ra z (by omega)]) (fun z hz => by rw [zG5 (by omega), rb z (by omega)]) p1 (by omega) (fun c hc => by
    obtain ⟨q1, q2 | ⟨d, q2, q3⟩⟩ := p2 c hc
    ·exact ⟨q1, by rw [q2]; exact k2, by rw [q2]; show C0.length ≤ _; omega⟩
    ·exact ⟨q1, by rw [q3]; exact (ho d q2).2.1, by rw [q3]; exact (ho d q2).2.2⟩) (fun x z => by
    have h1 : InB x z (pushB out (y, n, C0)) ↔ InS x (if y ≤ z ∧ z < n then C0 else rowAt out z) := by
     unfold InB
     rw [p3 z]
    rw [h1]
    by_cases hz : y ≤ z ∧ z < n
    ·rw [if_pos hz, hkept x z hz.1 hz.2]
     exact ⟨fun h => ⟨hz.2, h⟩, fun h => h.2⟩
    ·rw [if_neg hz]
     refine (hin x z).trans ⟨fun h => ⟨by omega, h.2⟩, fun h => ⟨by omega, h.2⟩⟩) (by omega) (by omega) hend
   exact ⟨C, i1, i2, i3, by omega, i5⟩
  ·rw [JY.eq_2, if_neg (by simpa using hye)]
   refine ⟨out, rfl, ⟨⟨lo, co⟩, fun c hc => (ho c hc).2.1⟩, fun x z => ?_, by omega, fun c hc => (ho c hc).2.2⟩
   rw [hin]
   exact ⟨fun h => h.2, fun h => ⟨by
    rcases Int.lt_or_le z y with hz | hz
    ·exact hz
    ·exact absurd h (hend x z (by omega)), h⟩⟩
theorem zUO {k : Bool → Bool → Bool} {f : Bool → Bool → Option Bool} (hf : ∀ a b, f a b = some (k a b)) (hk : k false false = false) {N : Nat} (hN : 10000000000 ≤ N) {A B : List Bd} {R1 R2 : Nat} (hA : BOk A) (hB : BOk B) (hrA : ∀ b ∈ A, b.2.2.length ≤ R1) (hrB : ∀ b ∈ B, b.2.2.length ≤ R2) (hR : R1 + R2 ≤ 500000000) (hl : A.length + B.length ≤ 200000000) :
  ∃ C, zBx N (A.map toP) (B.map toP) f = some (C.map toP) ∧ BOk C ∧ (∀ x z, InB x z C ↔ Kept k A B x z) ∧ C.length ≤ 2 * A.length + 2 * B.length + 1 ∧ ∀ c ∈ C, c.2.2.length ≤ R1 + R2 := by
 have hnot : ∀ {A B : List Bd} {x z : Int}, ¬ InB x z A → ¬ InB x z B → ¬ Kept k A B x z := fun h1 h2 ⟨p, q, hp, hq, h⟩ => by
  have e1 : p = false := by rw [Bool.eq_false_iff]; exact fun h => h1 (hp.1 h)
  have e2 : q = false := by rw [Bool.eq_false_iff]; exact fun h => h2 (hq.1 h)
  rw [e1, e2, hk] at h; cases h
 have inlo : ∀ {l : List Bd} {lo x z : Int}, zCU lo l → InB x z l → lo ≤ z := fun {l lo x z} h hx => by
  rcases Int.lt_or_le z lo with hz | hz
  ·unfold InB at hx
   rw [zFg h hz] at hx
   exact absurd hx zAb
  ·exact hz
 have inhi : ∀ {l : List Bd} {b : Bd} {lo x z : Int}, zCU lo (l ++ [b]) → InB x z (l ++ [b]) → z < b.2.1 := by
  intro l
  induction l with
  | nil =>
   intro b lo x z h hx
   unfold InB at hx
   by_cases hz : b.1 ≤ z ∧ z < b.2.1
   ·exact hz.2
   ·have : rowAt ([] ++ [b]) z = [] := by show (if b.1 ≤ z ∧ z < b.2.1 then b.2.2 else []) = []; rw [if_neg hz]
    rw [this] at hx; exact absurd hx zAb
  | cons c l ih =>
   intro b lo x z h hx
   have hcan : zCU c.2.1 (l ++ [b]) := h.2.2.2.2
   by_cases hz : c.1 ≤ z ∧ z < c.2.1
   ·have := hcan.mem b (by simp)
    omega
   ·refine ih hcan (x := x) ?_
    unfold InB at hx ⊢
    have : rowAt (c :: l ++ [b]) z = rowAt (l ++ [b]) z := by show (if c.1 ≤ z ∧ z < c.2.1 then c.2.2 else rowAt (l ++ [b]) z) = _; rw [if_neg hz]
    rw [← this]; exact hx
 obtain ⟨la, ca⟩ := hA.can
 obtain ⟨lb, cb⟩ := hB.can
 have go : ∀ (y e : Int), (∀ x z, InB x z A → y ≤ z ∧ z < e) → (∀ x z, InB x z B → y ≤ z ∧ z < e) → ∃ C, JY N f e N (A.map toP) (B.map toP) ([] : List zZ) y = some (C.map toP) ∧ BOk C ∧ (∀ x z, InB x z C ↔ Kept k A B x z) ∧ C.length ≤ 2 * A.length + 2 * B.length + 1 ∧ ∀ c ∈ C, c.2.2.length ≤ R1 + R2 := fun y e h1 h2 => by
  have hlen : (e :: (A.flatMap (fun b => [b.1, b.2.1]) ++ B.flatMap fun b => [b.1, b.2.1])).length = 2 * A.length + 2 * B.length + 1 := by
   have : ∀ l : List Bd, (l.flatMap fun b => [b.1, b.2.1]).length = 2 * l.length := by
    intro l
    induction l with
    | nil => rfl
    | cons b l ih => rw [List.flatMap_cons, List.length_append, ih]; simp; omega
   rw [List.length_cons, List.length_append, this, this]
  have haf := zdb (e :: (A.flatMap (fun b => [b.1, b.2.1]) ++ B.flatMap fun b => [b.1, b.2.1])) y
  rw [hlen] at haf
  have hmem : ∀ l : List Bd, ∀ b ∈ l, b.1 ∈ l.flatMap (fun b => [b.1, b.2.1]) ∧ b.2.1 ∈ l.flatMap (fun b => [b.1, b.2.1]) := fun l b hb => ⟨List.mem_flatMap.2 ⟨b, hb, by simp⟩, List.mem_flatMap.2 ⟨b, hb, by simp⟩⟩
  obtain ⟨C, c1, c2, c3, c4, c5⟩ := zS9 hf hk hN (A := A) (B := B) (R1 := R1) (R2 := R2) (fun b hb => ⟨hA.row b hb, hrA b hb⟩) (fun b hb => ⟨hB.row b hb, hrB b hb⟩) hR (by omega) (by omega) (ev := e :: (A.flatMap (fun b => [b.1, b.2.1]) ++ B.flatMap fun b => [b.1, b.2.1])) (e := e) (lo := y) (by simp) (fun b hb => ⟨List.mem_cons_of_mem _ (List.mem_append_left _ (hmem A b hb).1), List.mem_cons_of_mem _ (List.mem_append_left _ (hmem A b hb).2)⟩) (fun b hb => ⟨List.mem_cons_of_mem _ (List.mem_append_right _ (hmem B b hb).1), List.mem_cons_of_mem _ (List.mem_append_right _ (hmem B b hb).2)⟩)
   N A B [] y hA.can hB.can (fun _ h => h) (fun _ h => h) (Nat.le_refl _) (Nat.le_refl _) (fun _ _ => rfl) (fun _ _ => rfl) trivial (Int.le_refl _) (by simp) (fun x z => by
    constructor
    ·intro h; unfold InB at h; exact absurd h zAb
    ·rintro ⟨hz, h⟩
     exact absurd h (hnot (fun h => by have := h1 x z h; omega) (fun h => by have := h2 x z h; omega))) (by omega) (by simp; omega) (fun x z hz => hnot (fun h => by have := h1 x z h; omega) (fun h => by have := h2 x z h; omega))
  exact ⟨C, c1, c2, c3, by simp at c4; omega, c5⟩
 have two : ∀ {l : List Bd}, l ≠ [] → BOk l → l.length ≤ 200000000 → ∃ b c, idx (l.map toP) 0 = some (toP b) ∧ idx (l.map toP) (w64 (((l.map toP).length : Int) - 1)) = some (toP c) ∧ ∀ x z, InB x z l → b.1 ≤ z ∧ z < c.2.1 := fun {l} hne hok hlen => by
  obtain ⟨lo, hc⟩ := hok.can
  have h1 : ∃ b, idx (l.map toP) 0 = some (toP b) ∧ ∀ x z, InB x z l → b.1 ≤ z := by
   cases l with
   | nil => exact absurd rfl hne
   | cons b l => exact ⟨b, rfl, fun x z h => inlo (l := b :: l) (lo := b.1) (show zCU b.1 (b :: l) from ⟨Int.le_refl _, hc.2⟩) h⟩
  have h2 : ∃ c, idx (l.map toP) (w64 (((l.map toP).length : Int) - 1)) = some (toP c) ∧ ∀ x z, InB x z l → z < c.2.1 := by
   rcases List.eq_nil_or_concat l with h | ⟨j, c, h⟩
   ·exact absurd h hne
   ·rw [List.concat_eq_append] at h
    subst h
    refine ⟨c, ?_, fun x z h => inhi hc h⟩
    have e1 : w64 ((((j ++ [c]).map toP).length : Int) - 1) = ((j.map toP).length : Int) := by
     rw [QQ (by first | (simp; done) | (simp; omega)) (by simp at hlen ⊢; omega)]; simp
    rw [e1, List.map_append]
    exact KQ _ [] _
  obtain ⟨b, b1, b2⟩ := h1
  obtain ⟨c, c1, c2⟩ := h2
  exact ⟨b, c, b1, c1, fun x z h => ⟨b2 x z h, c2 x z h⟩⟩
 unfold zBx
 have hz : w64 (((A.map toP).length : Int) + ((B.map toP).length : Int)) = (A.length : Int) + (B.length : Int) := by rw [QQ (by simp; omega) (by simp; omega)]; simp
 rw [hz]
 by_cases h0 : A.length + B.length = 0
 ·have eA : A = [] := List.eq_nil_of_length_eq_zero (by omega)
  have eB : B = [] := List.eq_nil_of_length_eq_zero (by omega)
  subst eA eB
  rw [if_pos (by simp)]
  exact ⟨[], rfl, ⟨⟨0, trivial⟩, by simp⟩, fun x z => ⟨fun h => absurd h zAb, fun h => absurd h (hnot zAb zAb)⟩, by simp, by simp⟩
 ·rw [if_neg (by simp; omega)]
  obtain ⟨m, hm⟩ : ∃ k, N = k + 3 := ⟨N - 3, by omega⟩
  have hfu : Qi N (A.map toP) (B.map toP) f N 0 0 [A.map toP, B.map toP] 0 = Qi N (A.map toP) (B.map toP) f (m + 3) 0 0 [A.map toP, B.map toP] 0 := congrArg (fun z => Qi N (A.map toP) (B.map toP) f z 0 0 [A.map toP, B.map toP] 0) hm
  rw [hfu, Qi.eq_2, if_pos (by decide), show idx [A.map toP, B.map toP] 0 = some (A.map toP) from rfl, Option.bind_some, show w64 (0 + 1) = 1 from rfl]
  by_cases hA0 : A = []
  ·have hB0 : B ≠ [] := fun h => h0 (by rw [hA0, h]; rfl)
   obtain ⟨b, c, b1, b2, b3⟩ := two hB0 hB (by omega)
   rw [if_neg (by rw [hA0]; simp), Qi.eq_2, if_pos (by decide), show idx [A.map toP, B.map toP] 1 = some (B.map toP) from rfl, Option.bind_some, if_pos (by have := List.length_pos_iff.2 hB0; simp; omega), if_pos (by rw [hA0]; rfl), b1, Option.bind_some, b2, Option.bind_some]
   unfold Ve
   rw [b1, Option.bind_some, b2, Option.bind_some, show w64 (1 + 1) = 2 from rfl, Qi.eq_2, if_neg (by decide)]
   exact go _ _ (fun x z h => by rw [hA0] at h; exact absurd h zAb) (fun x z h => by have := b3 x z h; show min b.1 b.1 ≤ z ∧ z < max c.2.1 c.2.1; omega)
  ·obtain ⟨b, c, b1, b2, b3⟩ := two hA0 hA (by omega)
   rw [if_pos (by have := List.length_pos_iff.2 hA0; simp; omega), if_pos (by rfl), b1, Option.bind_some, b2, Option.bind_some]
   unfold Ve
   rw [b1, Option.bind_some, b2, Option.bind_some, show w64 (0 + 1) = 1 from rfl, Qi.eq_2, if_pos (by decide), show idx [A.map toP, B.map toP] 1 = some (B.map toP) from rfl, Option.bind_some]
   by_cases hB0 : B = []
   ·rw [if_neg (by rw [hB0]; simp), show w64 (1 + 1) = 2 from rfl, Qi.eq_2, if_neg (by decide)]
    exact go _ _ (fun x z h => by have := b3 x z h; show min b.1 b.1 ≤ z ∧ z < max c.2.1 c.2.1; omega) (fun x z h => by rw [hB0] at h; exact absurd h zAb)
   ·obtain ⟨d, g, d1, d2, d3⟩ := two hB0 hB (by omega)
    have hAl := List.length_pos_iff.2 hA0
    rw [if_pos (by have := List.length_pos_iff.2 hB0; simp; omega), if_neg (by simp; exact hA0)]
    unfold Ve
    rw [d1, Option.bind_some, d2, Option.bind_some, show w64 (1 + 1) = 2 from rfl, Qi.eq_2, if_neg (by decide)]
    exact go _ _ (fun x z h => by have := b3 x z h; show min (min b.1 b.1) d.1 ≤ z ∧ z < max (max c.2.1 c.2.1) g.2.1; omega) (fun x z h => by have := d3 x z h; show min (min b.1 b.1) d.1 ≤ z ∧ z < max (max c.2.1 c.2.1) g.2.1; omega)
def Deep (n : Int) (S : Int → Int → Prop) (x y : Int) : Prop := ∀ u v, (x - n ≤ u ∧ u ≤ x + n) → (y - n ≤ v ∧ v ≤ y + n) → S u v
theorem zbO {C : List Bd} (h : ∀ b ∈ C, b.2.2 ≠ []) : C.length ≤ (QJ C).length := by
 induction C with
 | nil => simp
 | cons b l ih =>
  rw [zBW, List.length_append, zDH, List.length_cons]
  have := ih fun c hc => h c (by simp [hc])
  have := List.length_pos_iff.2 (h b (by simp))
  omega
theorem BOk.le {C : List Bd} (h : BOk C) : C.length ≤ (QJ C).length := by
 obtain ⟨lo, hc⟩ := h.can
 exact zbO fun b hb => (hc.mem b hb).2.2
theorem zOJ {C : List Bd} (h : BOk C) {m : Int} (hx : ∀ x y, InB x y C → (-m ≤ x ∧ x < m) ∧ (-m ≤ y ∧ y < m)) : ∀ r ∈ QJ C, (-m ≤ r.X0 ∧ r.X0 < r.X1 ∧ r.X1 ≤ m) ∧ (-m ≤ r.Y0 ∧ r.Y0 < r.Y1 ∧ r.Y1 ≤ m) := fun r hr => by
 have hne := zFV h r hr
 have h1 := hx r.X0 r.Y0 ((zCO h _ _).1 ⟨r, hr, ⟨Int.le_refl _, hne.1⟩, ⟨Int.le_refl _, hne.2⟩⟩)
 have h2 := hx (r.X1 - 1) (r.Y1 - 1) ((zCO h _ _).1 ⟨r, hr, ⟨by omega, by omega⟩, ⟨by omega, by omega⟩⟩)
 omega
section
variable {N : Nat} (hN : 10000000000 ≤ N) {n : Int} (hn : 0 ≤ n ∧ n ≤ 100000)
include hN hn
end
structure zXB (S : Int → Int → Prop) (r : zK) : Prop where
 all : ∀ x y, S x y → (r.X0 ≤ x ∧ x < r.X1) ∧ (r.Y0 ≤ y ∧ y < r.Y1)
 x0 : ∃ y, S r.X0 y
 x1 : ∃ y, S (r.X1 - 1) y
 y0 : ∃ x, S x r.Y0
 y1 : ∃ x, S x (r.Y1 - 1)
theorem zXB.uniq {S T : Int → Int → Prop} {r q : zK} (h1 : zXB S r) (h2 : zXB T q) (h : ∀ x y, S x y ↔ T x y) : r = q := by
 obtain ⟨a, ha⟩ := h1.x0
 obtain ⟨b, hb⟩ := h1.x1
 obtain ⟨c, hc⟩ := h1.y0
 obtain ⟨d, hd⟩ := h1.y1
 obtain ⟨a', ha'⟩ := h2.x0
 obtain ⟨b', hb'⟩ := h2.x1
 obtain ⟨c', hc'⟩ := h2.y0
 obtain ⟨d', hd'⟩ := h2.y1
 have e1 := h2.all _ _ ((h _ _).1 ha)
 have e2 := h2.all _ _ ((h _ _).1 hb)
 have e3 := h2.all _ _ ((h _ _).1 hc)
 have e4 := h2.all _ _ ((h _ _).1 hd)
 have f1 := h1.all _ _ ((h _ _).2 ha')
 have f2 := h1.all _ _ ((h _ _).2 hb')
 have f3 := h1.all _ _ ((h _ _).2 hc')
 have f4 := h1.all _ _ ((h _ _).2 hd')
 obtain ⟨x0, y0, x1, y1⟩ := r
 obtain ⟨x0', y0', x1', y1'⟩ := q
 simp only at *
 congr 1 <;> omega
theorem zCU.init : ∀ {l : List Bd} {b : Bd} {lo : Int}, zCU lo (l ++ [b]) → ∀ c ∈ l, c.2.1 ≤ b.1
 | [], _, _, _, c, hc => by simp at hc
 | d :: l, b, lo, h, c, hc => by
  have h' : zCU d.2.1 (l ++ [b]) := h.2.2.2.2
  rcases List.mem_cons.1 hc with rfl | hc
  ·exact (h'.mem b (by simp)).1
  ·exact h'.init c hc
theorem zVT {l : List (Int × Int)} {q : Int × Int} (hl : l.length ≤ 1000000000) : idx (Qo (l ++ [q])) (w64 (((Qo (l ++ [q])).length : Int) - 1)) = some q.2 := by
 have e : Qo (l ++ [q]) = (Qo l ++ [q.1]) ++ q.2 :: [] := by rw [zDf]; simp [Qo]
 have e2 : w64 (((Qo (l ++ [q])).length : Int) - 1) = ((Qo l ++ [q.1]).length : Int) := by
  rw [QQ (by rw [KE]; simp; omega) (by rw [KE]; simp; omega), KE]; simp [KE]; omega
 rw [e2, e]
 exact KQ _ [] _
theorem zYI {l : List Bd} (h : BOk l) (hne : l ≠ []) (hl : l.length ≤ 1000000000) (hr : ∀ b ∈ l, b.2.2.length ≤ 1000000000) : ∃ r, Ww (l.map toP) = some r ∧ zXB (fun x y => InB x y l) r := by
 obtain ⟨lo, hc⟩ := h.can
 have loop : ∀ (f g : zZ) (suf : List Bd) (i : Nat) (u v : Int), (∀ b ∈ suf, b ∈ l) → ∃ u' v', Jq f g (suf.map toP) i u v = some ⟨u', f.Y0, v', g.Y1⟩ ∧ u' ≤ u ∧ v ≤ v' ∧ (u' = u ∨ ∃ b ∈ suf, ∃ p ∈ b.2.2, u' = p.1) ∧ (v' = v ∨ ∃ b ∈ suf, ∃ p ∈ b.2.2, v' = p.2) ∧ ∀ b ∈ suf, ∀ p ∈ b.2.2, u' ≤ p.1 ∧ p.2 ≤ v' := by
  intro f g suf
  induction suf with
  | nil => intro i u v _; exact ⟨u, v, rfl, Int.le_refl _, Int.le_refl _, .inl rfl, .inl rfl, by simp⟩
  | cons b suf ih =>
   intro i u v hb
   have hbl := hb b (by simp)
   have hbne := (hc.mem b hbl).2.2
   obtain ⟨lo', hcan⟩ := h.row b hbl
   have hlen := hr b hbl
   obtain ⟨p, t, hp⟩ : ∃ p t, b.2.2 = p :: t := by cases hx : b.2.2 with | nil => exact absurd hx hbne | cons p t => exact ⟨p, t, rfl⟩
   obtain ⟨j, q, hq⟩ : ∃ j q, b.2.2 = j ++ [q] := by
    rcases List.eq_nil_or_concat b.2.2 with hx | ⟨j, q, hx⟩
    ·exact absurd hx hbne
    ·exact ⟨j, q, by simpa using hx⟩
   have e1 : idx (toP b).Xs 0 = some p.1 := by show idx (Qo b.2.2) 0 = _; rw [hp]; rfl
   have e2 : idx (toP b).Xs (w64 (((toP b).Xs.length : Int) - 1)) = some q.2 := by
    show idx (Qo b.2.2) (w64 (((Qo b.2.2).length : Int) - 1)) = _
    rw [hq]
    exact zVT (by rw [hq] at hlen; simp at hlen; omega)
   obtain ⟨u', v', i1, i2, i3, i4, i5, i6⟩ := ih (i + 1) (min u p.1) (max v q.2) (fun c hc => hb c (by simp [hc]))
   have hfirst : ∀ r ∈ b.2.2, p.1 ≤ r.1 := fun r hr => by
    rw [hp] at hr hcan
    rcases List.mem_cons.1 hr with rfl | hr
    ·exact Int.le_refl _
    ·have := hcan.2.2.mem r hr; have := hcan.2.1; omega
   have hlast : ∀ r ∈ b.2.2, r.2 ≤ q.2 := fun r hr => by
    rw [hq] at hr hcan
    obtain ⟨_, c2, c3, c4⟩ := hcan.init
    rcases List.mem_append.1 hr with hr | hr
    ·have := c2 r hr; omega
    ·simp at hr; subst hr; exact Int.le_refl _
   refine ⟨u', v', ?_, Int.le_trans i2 (Int.min_le_left _ _), Int.le_trans (Int.le_max_left _ _) i3, ?_, ?_, fun c hcm r hrm => ?_⟩
   ·rw [List.map_cons, Jq.eq_2, e1, Option.bind_some, e2, Option.bind_some]; exact i1
   ·rcases i4 with k | ⟨c, hc1, r, hr1, k⟩
    ·by_cases hu : u ≤ p.1
     ·exact .inl (k.trans (Int.min_eq_left hu))
     ·exact .inr ⟨b, by simp, p, by rw [hp]; simp, k.trans (Int.min_eq_right (by omega))⟩
    ·exact .inr ⟨c, by simp [hc1], r, hr1, k⟩
   ·rcases i5 with k | ⟨c, hc1, r, hr1, k⟩
    ·by_cases hv : q.2 ≤ v
     ·exact .inl (k.trans (Int.max_eq_left hv))
     ·exact .inr ⟨b, by simp, q, by rw [hq]; simp, k.trans (Int.max_eq_right (by omega))⟩
    ·exact .inr ⟨c, by simp [hc1], r, hr1, k⟩
   ·rcases List.mem_cons.1 hcm with rfl | hcm
    ·exact ⟨Int.le_trans i2 (Int.le_trans (Int.min_le_right _ _) (hfirst r hrm)), Int.le_trans (hlast r hrm) (Int.le_trans (Int.le_max_right _ _) i3)⟩
    ·exact i6 c hcm r hrm
 obtain ⟨b, t, hbt⟩ : ∃ b t, l = b :: t := by cases l with | nil => exact absurd rfl hne | cons b t => exact ⟨b, t, rfl⟩
 obtain ⟨j, c, hjc⟩ : ∃ j c, l = j ++ [c] := by
  rcases List.eq_nil_or_concat l with hx | ⟨j, q, hx⟩
  ·exact absurd hx hne
  ·exact ⟨j, q, by simpa using hx⟩
 have hbl : b ∈ l := by rw [hbt]; simp
 have hcl : c ∈ l := by rw [hjc]; simp
 have hbm := hc.mem b hbl
 have hcm := hc.mem c hcl
 obtain ⟨p, s, hp⟩ : ∃ p s, b.2.2 = p :: s := by cases hx : b.2.2 with | nil => exact absurd hx hbm.2.2 | cons p t => exact ⟨p, t, rfl⟩
 obtain ⟨p2, s2, hp2⟩ : ∃ p s, c.2.2 = p :: s := by cases hx : c.2.2 with | nil => exact absurd hx hcm.2.2 | cons p t => exact ⟨p, t, rfl⟩
 have e0 : idx (l.map toP) 0 = some (toP b) := by rw [hbt]; rfl
 have e1 : idx (toP b).Xs 0 = some p.1 := by show idx (Qo b.2.2) 0 = _; rw [hp]; rfl
 have e2 : idx (toP b).Xs 1 = some p.2 := by show idx (Qo b.2.2) 1 = _; rw [hp]; rfl
 have e3 : idx (l.map toP) (w64 (((l.map toP).length : Int) - 1)) = some (toP c) := by
  have : w64 (((l.map toP).length : Int) - 1) = ((j.map toP).length : Int) := by
   rw [QQ (by simp; omega) (by simp; omega), hjc]; simp
  rw [this, hjc, List.map_append]
  exact KQ _ [] _
 obtain ⟨u, v, k1, k2, k3, k4, k5, k6⟩ := loop (toP b) (toP c) l 0 p.1 p.2 (fun _ h => h)
 have inb : ∀ d ∈ l, ∀ r ∈ d.2.2, InB r.1 d.1 l ∧ InB (r.2 - 1) d.1 l ∧ InB r.1 (d.2.1 - 1) l := fun d hd r hr => by
  have hdm := hc.mem d hd
  obtain ⟨_, hcan⟩ := h.row d hd
  have hrm := hcan.mem r hr
  unfold InB
  rw [zKp hc hd (Int.le_refl _) hdm.2.1, zKp hc hd (y := d.2.1 - 1) (by omega) (by omega)]
  exact ⟨⟨r, hr, Int.le_refl _, hrm.2⟩, ⟨r, hr, by omega, by omega⟩, ⟨r, hr, Int.le_refl _, hrm.2⟩⟩
 refine ⟨⟨u, b.1, v, c.2.1⟩, ?_, fun x y hxy => ?_, ?_, ?_, ?_, ?_⟩
 ·unfold Ww
  rw [e0, Option.bind_some, e1, Option.bind_some, Option.bind_some, Option.bind_some, e2, Option.bind_some, e3, Option.bind_some]
  exact k1
 ·have hxy : InB x y l := hxy
  unfold InB at hxy
  rcases zJI (l := l) (y := y) with h1 | ⟨d, hd, h1, h2, h3⟩
  ·rw [h1] at hxy; exact absurd hxy zAb
  ·rw [h3] at hxy
   obtain ⟨r, hr, hx⟩ := hxy
   have := k6 d hd r hr
   have hlo : b.1 ≤ d.1 := by
    have hc' := hc
    rw [hbt] at hd hc'
    rcases List.mem_cons.1 hd with rfl | hd
    ·exact Int.le_refl _
    ·have := hc'.2.2.2.2.mem d hd; have := hc'.2.1; omega
   have hhi : d.2.1 ≤ c.2.1 := by
    have hc' := hc
    rw [hjc] at hd hc'
    rcases List.mem_append.1 hd with hd | hd
    ·have := hc'.init d hd; omega
    ·simp at hd; subst hd; exact Int.le_refl _
   show (u ≤ x ∧ x < v) ∧ (b.1 ≤ y ∧ y < c.2.1)
   omega
 ·rcases k4 with k | ⟨d, hd, r, hr, k⟩
  ·rw [k]; exact ⟨b.1, (inb b hbl p (by rw [hp]; simp)).1⟩
  ·rw [k]; exact ⟨d.1, (inb d hd r hr).1⟩
 ·rcases k5 with k | ⟨d, hd, r, hr, k⟩
  ·show ∃ y, InB (v - 1) y l
   rw [k]; exact ⟨b.1, (inb b hbl p (by rw [hp]; simp)).2.1⟩
  ·show ∃ y, InB (v - 1) y l
   rw [k]; exact ⟨d.1, (inb d hd r hr).2.1⟩
 ·exact ⟨p.1, (inb b hbl p (by rw [hp]; simp)).1⟩
 ·exact ⟨p2.1, (inb c hcl p2 (by rw [hp2]; simp)).2.2⟩
def lim (r : zK) : Bool := ((within r.X0 (-1000000) 1000000 && within r.Y0 (-1000000) 1000000) && within r.X1 (-1000000) 1000000) && within r.Y1 (-1000000) 1000000
theorem zFC {r : zK} : lim r = true ↔ ((((-1000000 ≤ r.X0 ∧ r.X0 ≤ 1000000) ∧ (-1000000 ≤ r.Y0 ∧ r.Y0 ≤ 1000000)) ∧ (-1000000 ≤ r.X1 ∧ r.X1 ≤ 1000000)) ∧ (-1000000 ≤ r.Y1 ∧ r.Y1 ≤ 1000000)) := by
 unfold lim
 rw [Bool.and_eq_true, Bool.and_eq_true, Bool.and_eq_true, within_iff, within_iff, within_iff, within_iff]
theorem zXD {L : List zK} (hL : L.length ≤ 100000000) (hne : ∀ r ∈ L, r.X0 < r.X1 ∧ r.Y0 < r.Y1) : Wh ((zAQ L).map toP) = some (L.all lim) := by
 unfold Wh
 obtain ⟨c1, c2⟩ := zEB hne
 obtain ⟨s1, s2⟩ := zIb L
 by_cases h : zAQ L = []
 ·have hnil : L = [] := by
   cases L with
   | nil => rfl
   | cons a l =>
    have ha := hne a (by simp)
    have := (c2 a.X0 a.Y0).2 ⟨a, by simp, ⟨by omega, by omega⟩, by omega, by omega⟩
    rw [h] at this
    exact absurd this zAb
  subst hnil
  rw [h]; rfl
 ·have hlen := List.length_pos_iff.2 h
  obtain ⟨b, b1, b2⟩ := zYI c1 h (by omega) (fun c hc => by have := s2 c hc; omega)
  rw [if_neg (by simp; exact h), b1, Option.bind_some, zQN, Option.bind_some, Option.bind_some]
  congr 1
  show lim b = L.all lim
  rw [Bool.eq_iff_iff, List.all_eq_true]
  constructor
  ·intro hb r hr
   have hr' := hne r hr
   have k1 := b2.all _ _ ((c2 r.X0 r.Y0).2 ⟨r, hr, ⟨by omega, by omega⟩, by omega, by omega⟩)
   have k2 := b2.all _ _ ((c2 (r.X1 - 1) (r.Y1 - 1)).2 ⟨r, hr, ⟨by omega, by omega⟩, by omega, by omega⟩)
   rw [zFC] at hb ⊢
   omega
  ·intro hall
   obtain ⟨y, hx0⟩ := b2.x0
   obtain ⟨y', hx1⟩ := b2.x1
   obtain ⟨x, hy0⟩ := b2.y0
   obtain ⟨x', hy1⟩ := b2.y1
   obtain ⟨r1, m1, e1⟩ := (c2 _ _).1 hx0
   obtain ⟨r2, m2, e2⟩ := (c2 _ _).1 hx1
   obtain ⟨r3, m3, e3⟩ := (c2 _ _).1 hy0
   obtain ⟨r4, m4, e4⟩ := (c2 _ _).1 hy1
   have l1 := zFC.1 (hall r1 m1)
   have l2 := zFC.1 (hall r2 m2)
   have l3 := zFC.1 (hall r3 m3)
   have l4 := zFC.1 (hall r4 m4)
   rw [zFC]
   omega
def swR (x0 x1 y0 y1 : Int) (r : zK) : zK := ⟨r.X0 + x0, r.Y0 + y0, r.X1 + x1, r.Y1 + y1⟩
def Ne (l : List zK) : Prop := ∀ r ∈ l, r.X0 < r.X1 ∧ r.Y0 < r.Y1
theorem zVp {x0 x1 y0 y1 : Int} (hx : x0 ≤ x1) (hy : y0 ≤ y1) {l : List zK} (h : Ne l) : Ne (l.map (swR x0 x1 y0 y1)) := fun r hr => by
 obtain ⟨q, hq, rfl⟩ := List.mem_map.1 hr
 have := h q hq
 simp only [swR]; omega
theorem zbd {x0 x1 y0 y1 : Int} (hx : x0 ≤ x1) (hy : y0 ≤ y1) {l : List zK} (h : Ne l) (x y : Int) : InR x y (l.map (swR x0 x1 y0 y1)) ↔ ∃ u v, InR u v l ∧ (x - x1 ≤ u ∧ u ≤ x - x0) ∧ (y - y1 ≤ v ∧ v ≤ y - y0) := by
 constructor
 ·rintro ⟨r, hr, h1, h2⟩
  obtain ⟨q, hq, rfl⟩ := List.mem_map.1 hr
  have := h q hq
  simp only [swR] at h1 h2
  exact ⟨max q.X0 (x - x1), max q.Y0 (y - y1), ⟨q, hq, by omega, by omega⟩, by omega, by omega⟩
 ·rintro ⟨u, v, ⟨q, hq, h1, h2⟩, h3, h4⟩
  refine ⟨swR x0 x1 y0 y1 q, List.mem_map.2 ⟨q, hq, rfl⟩, ?_, ?_⟩ <;> simp only [swR] <;> omega
theorem ze8 {x0 x1 y0 y1 : Int} (hx : x0 ≤ x1) (hy : y0 ≤ y1) {l : List zK} (h : Ne l) : zAQ ((QJ (zAQ l)).map (swR x0 x1 y0 y1)) = zAQ (l.map (swR x0 x1 y0 y1)) := by
 obtain ⟨b1, b2⟩ := zEB h
 have hr : Ne (QJ (zAQ l)) := zFV b1
 refine zUp (zVp hx hy hr) (zVp hx hy h) fun x y => ?_
 rw [zbd hx hy hr, zbd hx hy h]
 refine exists_congr fun u => exists_congr fun v => and_congr_left fun _ => ?_
 rw [zCO b1, b2]
section
variable {N : Nat} (hN : 10000000000 ≤ N)
include hN
theorem zVj {a b c d : Int} (ha : -10000000 ≤ a ∧ a ≤ 10000000) (hb : -10000000 ≤ b ∧ b ≤ 10000000) (hc : -10000000 ≤ c ∧ c ≤ 10000000) (hd : -10000000 ≤ d ∧ d ≤ 10000000) (hab : 0 ≤ a + b) (hcd : 0 ≤ c + d) {S : List Bd} (hS : BOk S) (ht : (QJ S).length ≤ 100000000)
  (hlim : ∀ r ∈ QJ S, (-1900000000 ≤ r.X0 ∧ r.X0 < r.X1 ∧ r.X1 ≤ 1900000000) ∧ (-1900000000 ≤ r.Y0 ∧ r.Y0 < r.Y1 ∧ r.Y1 ≤ 1900000000)) : Wu N (S.map toP) a b c d = some ((zAQ ((QJ S).map (swR (-a) b (-c) d))).map toP) := by
 have hle := hS.le
 have hr9 : ∀ r ∈ (QJ S).map (swR (-a) b (-c) d), R9 r := fun r hr => by
  obtain ⟨q, hq, rfl⟩ := List.mem_map.1 hr
  have := hlim q hq
  constructor <;> simp only [swR] <;> omega
 have loop : ∀ (suf pre : List zK) (m : Nat), QJ S = pre ++ suf → suf.length < m → Jo N a b c d (QJ S) m (pre.map (swR (-a) b (-c) d) ++ suf) pre.length = some ((zAQ ((QJ S).map (swR (-a) b (-c) d))).map toP) := by
  intro suf
  induction suf with
  | nil =>
   intro pre m h1 h2
   obtain ⟨m, rfl⟩ : ∃ k, m = k + 1 := ⟨m - 1, by omega⟩
   rw [List.append_nil] at h1
   rw [Jo.eq_2, if_neg (by rw [h1]; simp), List.append_nil, ← h1, zI1 hN (by simp; omega) hr9]; rfl
  | cons r suf ih =>
   intro pre m h1 h2
   obtain ⟨m, rfl⟩ : ∃ k, m = k + 1 := ⟨m - 1, by omega⟩
   have hpl : pre.length ≤ 100000000 := by rw [h1] at ht; simp at ht; omega
   have hr := hlim r (by rw [h1]; simp)
   have e0 : (pre.length : Int) = ((pre.map (swR (-a) b (-c) d)).length : Int) := by simp
   have hid : idx (pre.map (swR (-a) b (-c) d) ++ r :: suf) (pre.length : Int) = some r := by rw [e0]; exact KQ _ suf r
   have hset : sets (pre.map (swR (-a) b (-c) d) ++ r :: suf) (pre.length : Int) (swR (-a) b (-c) d r) = some ((pre ++ [r]).map (swR (-a) b (-c) d) ++ suf) := by
    unfold sets
    rw [if_pos ⟨by omega, by simp⟩]
    simp
   have hw : zK.mk (w64 (r.X0 - a)) (w64 (r.Y0 - c)) (w64 (r.X1 + b)) (w64 (r.Y1 + d)) = swR (-a) b (-c) d r := by
    rw [QQ (by omega) (by omega), QQ (by omega) (by omega), QQ (by omega) (by omega), QQ (by omega) (by omega)]; rfl
   rw [Jo.eq_2, if_pos (by rw [h1]; exact zRY pre suf r), hid, Option.bind_some, Option.bind_some, hw, hset, Option.bind_some, zN4 pre r (by omega)]
   exact ih (pre ++ [r]) m (by rw [h1]; simp) (by simp at h2; omega)
 unfold Wu
 rw [zDi hN ⟨by omega, fun b hb => by have := zKE hb; omega, by omega⟩, Option.bind_some]
 exact loop (QJ S) [] N rfl (by omega)
theorem zYs {T : List zK} (hT : T.length ≤ 2000) (hne : Ne T) (hl : ∀ r ∈ T, (-1000000 ≤ r.X0 ∧ r.X1 ≤ 1000000) ∧ (-1000000 ≤ r.Y0 ∧ r.Y1 ≤ 1000000)) {p q : zI} (hp : (-1000000 ≤ p.X ∧ p.X ≤ 1000000) ∧ (-1000000 ≤ p.Y ∧ p.Y ≤ 1000000)) (hq : (-1000000 ≤ q.X ∧ q.X ≤ 1000000) ∧ (-1000000 ≤ q.Y ∧ q.Y ≤ 1000000)) :
  zBj N ((zAQ T).map toP) p q = some ((zAQ (T.map (swR (min p.X q.X) (max p.X q.X) (min p.Y q.Y) (max p.Y q.Y)))).map toP) := by
 obtain ⟨b1, b2⟩ := zEB hne
 obtain ⟨s1, s2⟩ := zIb T
 have ht : (QJ (zAQ T)).length ≤ 2000 * (zAQ T).length := zDA fun b hb => Nat.le_trans (s2 b hb) hT
 have hlim := zOJ b1 (m := 1000000) fun x y hx => by
  obtain ⟨r, hr, h1, h2⟩ := (b2 x y).1 hx
  have := hl r hr
  omega
 unfold zBj
 rw [QQ (x := 0 - min p.X q.X) (by omega) (by omega), QQ (x := 0 - min p.Y q.Y) (by omega) (by omega)]
 rw [zVj hN (by omega) (by omega) (by omega) (by omega) (by omega) (by omega) b1 (by omega) (fun r hr => by have := hlim r hr; omega)]
 simp only [Option.bind_some]
 rw [show -(0 - min p.X q.X) = min p.X q.X by omega, show -(0 - min p.Y q.Y) = min p.Y q.Y by omega, ze8 (by omega) (by omega) hne]
theorem zfK {I S : List Bd} (hI : BOk I) (hS : BOk S) (h1 : ∀ b ∈ I, b.2.2.length ≤ 10000) (h2 : ∀ b ∈ S, b.2.2.length ≤ 10000) (h3 : I.length ≤ 100000) (h4 : S.length ≤ 100000) : ∃ C, zAk N (I.map toP) (S.map toP) = some (C.map toP) ∧ BOk C ∧ (∀ x y, InB x y C ↔ InB x y I ∨ InB x y S) ∧ (QJ C).length ≤ 1000000000000 := by
 obtain ⟨C, c1, c2, c3, c4, c5⟩ := zUO (k := fun p q => p || q) (f := fun z0 z1 => zAy z0 z1) (fun _ _ => rfl) rfl hN (R1 := 10000) (R2 := 10000) hI hS h1 h2 (by omega) (by omega)
 have ht := zDA (R := 20000) (l := C) fun c hc => by have := c5 c hc; omega
 refine ⟨C, by unfold zAk; rw [c1]; rfl, c2, fun x y => ?_, by omega⟩
 rw [c3]
 constructor
 ·rintro ⟨p, q, hp, hq, h⟩
  rcases Bool.or_eq_true_iff.1 h with h | h
  ·exact .inl (hp.1 h)
  ·exact .inr (hq.1 h)
 ·intro h
  classical
  refine ⟨decide (InB x y I), decide (InB x y S), by simp, by simp, ?_⟩
  simpa using h
theorem zZK {I S : List Bd} (hI : BOk I) (hS : BOk S) (h1 : ∀ b ∈ I, b.2.2.length ≤ 10000) (h2 : ∀ b ∈ S, b.2.2.length ≤ 10000) (h3 : I.length ≤ 100000) (h4 : S.length ≤ 100000) : ∃ C, We N (I.map toP) (S.map toP) = some (C.map toP) ∧ BOk C ∧ (∀ x y, InB x y C ↔ InB x y I ∧ ¬ InB x y S) ∧ (QJ C).length ≤ 1000000000000 := by
 obtain ⟨C, c1, c2, c3, c4, c5⟩ := zUO (k := fun p q => p && !q) (f := fun z0 z1 => Wv z0 z1) (fun _ _ => rfl) rfl hN (R1 := 10000) (R2 := 10000) hI hS h1 h2 (by omega) (by omega)
 have ht := zDA (R := 20000) (l := C) fun c hc => by have := c5 c hc; omega
 refine ⟨C, by unfold We; rw [c1]; rfl, c2, fun x y => ?_, by omega⟩
 rw [c3]
 constructor
 ·rintro ⟨p, q, hp, hq, h⟩
  simp only [Bool.and_eq_true, Bool.not_eq_true'] at h
  exact ⟨hp.1 h.1, fun hh => by rw [hq.2 hh] at h; cases h.2⟩
 ·intro h
  classical
  refine ⟨decide (InB x y I), decide (InB x y S), by simp, by simp, ?_⟩
  simp [h.1, h.2]
end
end Go.Proofs.YtneghcpnehiffaaGreatDoor
