/- Plain words: counting loops over lists, numbers in range. No program. Conditions: none beyond each theorem's own. Borders of sets of squares: steps along a border, with the set at the left hand. Plain Lean. Conditions: none beyond each theorem's own. Borders: their corners, from the least one on. Plain Lean. Conditions: none beyond each theorem's own. Borders as lists of sides, and the rows in which sides follow one another. Plain Lean. Conditions: none beyond each theorem's own. All borders of a set; what a border looks like. Plain Lean. Conditions: none beyond each theorem's own. What a border looks like: stretches along one axis and the other in turn; which borders cross a row. Plain Lean. Conditions: none beyond each theorem's own. All borders together cross a row just where the set begins and ends. Plain Lean. Conditions: none beyond each theorem's own. Sides as the program holds them; the rows in which it follows them. Plain Lean about the plain functions. Conditions: none beyond each theorem's own. The rows in which the program follows the sides of a set. Plain Lean about the plain functions. Conditions: none beyond each theorem's own. The program follows the sides of a set: it tells all borders, in order. Plain Lean about the plain functions. Conditions: none beyond each theorem's own. Integers sorted, each once. Plain Lean. Sets of numbers by stretches: their one form. Plain Lean. Sets of rectangles: the bands that cover the same. Plain Lean; the program's helpers compute it. Sets of rectangles: the program's bands are the ones. Plain Lean about the plain functions. Regions: what the program tells of sets. Plain Lean about the plain functions. Regions: what is checked; program and reference agree. Plain Lean about the plain functions. Sets of rectangles by bands: their one form, by points. Plain Lean. Sets of squares: bands in their one form, told by their points. Plain Lean. -/
import Derived.Test.YtacapjleiadkkaaJ2
import Derived.Test.YtacapjleiadkkaaXF
namespace Go.Proofs.Ytacapjleiadkkaa
theorem w64_id {x : Int} (h1 : -4611686018427387904 ≤ x) (h2 : x ≤ 4611686018427387904) : w64 x = x := w64_eq (by omega) (by omega)
theorem idx_mid {α : Type} (pre suf : List α) (x : α) : idx (pre ++ x :: suf) (pre.length : Int) = some x := by
  unfold idx
  rw [if_pos (by omega)]
  simp
theorem idx_nat {α : Type} {l : List α} {i : Nat} (h : i < l.length) : idx l (i : Int) = some l[i] := by
  unfold idx
  rw [if_pos (by omega)]
  simp [h]
theorem idx_lt {α : Type} {l : List α} {i : Int} (h0 : 0 ≤ i) (h : i < l.length) : ∃ x, idx l i = some x ∧ l[i.toNat]? = some x := by
  unfold idx
  rw [if_pos h0]
  exact ⟨l[i.toNat]'(by omega), by simp, by simp⟩
theorem lt_mid {α : Type} (pre suf : List α) (x : α) : decide ((pre.length : Int) < ((pre ++ x :: suf).length : Int)) = true := decide_eq_true (by simp; omega)
theorem lt_end {α : Type} (pre : List α) : decide ((pre.length : Int) < ((pre ++ []).length : Int)) = false := decide_eq_false (by simp)
theorem up_mid {α : Type} (pre : List α) (x : α) (h : pre.length ≤ 4611686018427387903) : w64 ((pre.length : Int) + 1) = ((pre ++ [x]).length : Int) := by
  rw [w64_id (by omega) (by omega)]; simp
theorem snoc_mid {α : Type} (pre suf : List α) (x : α) : pre ++ x :: suf = (pre ++ [x]) ++ suf := by simp
theorem apd_ok {α : Type} {l m : List α} (h : l.length + m.length ≤ 4294967296) : apd l m = some (l ++ m) := if_pos h
theorem cut_ok {α : Type} {l : List α} {n : Nat} (h : n ≤ l.length) : cut l 0 (n : Int) = some (l.take n) := by
  unfold cut
  rw [if_pos (by omega)]
  simp
theorem sEq_comm (s t : ByteArray) : sEq s t = sEq t s := by rw [sEq_dec, sEq_dec]; exact decide_eq_decide.2 eq_comm
def within (n lo hi : Int) : Bool := decide (lo ≤ n) && decide (n ≤ hi)
theorem within_iff {n lo hi : Int} : within n lo hi = true ↔ lo ≤ n ∧ n ≤ hi := by simp [within]
/-- The first place at which g holds, counted from i on; -1: none. -/
def ixOf {α : Type} (g : α → Bool) : List α → Int → Int
  | [], _ => -1
  | x :: l, i => if g x then i else ixOf g l (i + 1)
theorem ixOf_any {α : Type} (g : α → Bool) : ∀ (l : List α) (i : Int), 0 ≤ i → decide (0 ≤ ixOf g l i) = l.any g
  | [], _, _ => by simp [ixOf]
  | x :: l, i, hi => by
    unfold ixOf
    rw [List.any_cons]
    cases g x
    · simp [ixOf_any g l (i + 1) (by omega)]
    · simp [hi]
theorem ixOf_lo {α : Type} (g : α → Bool) : ∀ (l : List α) (i : Int), 0 ≤ i → (ixOf g l i = -1 ∧ l.any g = false) ∨ (i ≤ ixOf g l i ∧ ixOf g l i < i + l.length ∧ ∃ x, l[(ixOf g l i - i).toNat]? = some x ∧ g x = true)
  | [], _, _ => by simp [ixOf]
  | x :: l, i, hi => by
    have ih := ixOf_lo g l (i + 1) (by omega)
    unfold ixOf
    rw [List.any_cons]
    cases hg : g x
    · simp only [Bool.false_eq_true, if_false, Bool.false_or, List.length_cons]
      rcases ih with ih | ⟨h1, h2, y, h3, h4⟩
      · exact .inl ih
      · refine .inr ⟨by omega, by omega, y, ?_, h4⟩
        rw [show (ixOf g l (i + 1) - i).toNat = (ixOf g l (i + 1) - (i + 1)).toNat + 1 by omega]
        simpa using h3
    · right
      simp only [if_true, List.length_cons]
      exact ⟨by omega, by omega, x, by simp, hg⟩
end Go.Proofs.Ytacapjleiadkkaa
namespace Go.Proofs.Ytacapjleiadkkaa.PX
/-- Directions. -/
inductive Dir where
  | E | N | W | S
namespace Dir
def left : Dir → Dir | E => N | N => W | W => S | S => E
def right : Dir → Dir | E => S | N => E | W => N | S => W
def dx : Dir → Int | E => 1 | N => 0 | W => -1 | S => 0
def dy : Dir → Int | E => 0 | N => 1 | W => 0 | S => -1
instance : DecidableEq Dir := fun a b => by
  cases a <;> cases b <;> first | exact isTrue rfl | exact isFalse (fun h => nomatch h)
end Dir
/-- A step along a border: where it begins, and where it goes. -/
structure Ed where
  x : Int
  y : Int
  d : Dir
instance : DecidableEq Ed := fun a b => by
  obtain ⟨x, y, d⟩ := a
  obtain ⟨x', y', d'⟩ := b
  exact if h : x = x' ∧ y = y' ∧ d = d' then isTrue (by obtain ⟨rfl, rfl, rfl⟩ := h; rfl) else isFalse (fun e => h (by cases e; exact ⟨rfl, rfl, rfl⟩))
abbrev Sq := Int → Int → Bool
/-- The square at the left hand of a direction, at a point. -/
def lq (I : Sq) (x y : Int) : Dir → Bool
  | .E => I x y
  | .N => I (x - 1) y
  | .W => I (x - 1) (y - 1)
  | .S => I x (y - 1)
/-- A step of the border of a set. -/
def isB (I : Sq) (e : Ed) : Prop := lq I e.x e.y e.d = true ∧ lq I e.x e.y e.d.right = false
def Ed.tx (e : Ed) : Int := e.x + e.d.dx
def Ed.ty (e : Ed) : Int := e.y + e.d.dy
/-- The next step: left if it can be. -/
def sc (I : Sq) (e : Ed) : Ed :=
  if lq I e.tx e.ty e.d = false then ⟨e.tx, e.ty, e.d.left⟩ else if lq I e.tx e.ty e.d.right = false then ⟨e.tx, e.ty, e.d⟩ else ⟨e.tx, e.ty, e.d.right⟩
/-- The step before. -/
def pd (I : Sq) (e : Ed) : Ed :=
  if lq I e.x e.y e.d.left = false then ⟨e.x - e.d.right.dx, e.y - e.d.right.dy, e.d.right⟩ else if lq I e.x e.y e.d.left.left = false then ⟨e.x - e.d.dx, e.y - e.d.dy, e.d⟩ else ⟨e.x - e.d.left.dx, e.y - e.d.left.dy, e.d.left⟩
theorem at_to (I : Sq) (x y : Int) (d : Dir) : lq I (x + d.dx) (y + d.dy) d.left = lq I x y d ∧ lq I (x + d.dx) (y + d.dy) d.left.left = lq I x y d.right := by
  cases d <;> simp only [Dir.left, Dir.right, Dir.dx, Dir.dy, lq] <;> refine ⟨?_, ?_⟩ <;> congr 1 <;> omega
theorem at_from (I : Sq) (x y : Int) (d : Dir) : lq I (x - d.dx) (y - d.dy) d = lq I x y d.left ∧ lq I (x - d.dx) (y - d.dy) d.right = lq I x y d.left.left := by
  have h := at_to I (x - d.dx) (y - d.dy) d
  have e1 : x - d.dx + d.dx = x := by omega
  have e2 : y - d.dy + d.dy = y := by omega
  rw [e1, e2] at h
  exact ⟨h.1.symm, h.2.symm⟩
theorem Dir.lr (d : Dir) : d.left.right = d := by cases d <;> rfl
theorem Dir.rl (d : Dir) : d.right.left = d := by cases d <;> rfl
theorem Dir.rr (d : Dir) : d.right.right = d.left.left := by cases d <;> rfl
theorem Dir.lll (d : Dir) : d.left.left.left = d.right := by cases d <;> rfl
theorem sc_l {I : Sq} {e : Ed} (h : lq I e.tx e.ty e.d = false) : sc I e = ⟨e.tx, e.ty, e.d.left⟩ := if_pos h
theorem sc_s {I : Sq} {e : Ed} (h : lq I e.tx e.ty e.d = true) (h' : lq I e.tx e.ty e.d.right = false) : sc I e = ⟨e.tx, e.ty, e.d⟩ := (if_neg (by rw [h]; simp)).trans (if_pos h')
theorem sc_r {I : Sq} {e : Ed} (h : lq I e.tx e.ty e.d = true) (h' : lq I e.tx e.ty e.d.right = true) : sc I e = ⟨e.tx, e.ty, e.d.right⟩ := (if_neg (by rw [h]; simp)).trans (if_neg (by rw [h']; simp))
theorem pd_l {I : Sq} {e : Ed} (h : lq I e.x e.y e.d.left = false) : pd I e = ⟨e.x - e.d.right.dx, e.y - e.d.right.dy, e.d.right⟩ := if_pos h
theorem pd_s {I : Sq} {e : Ed} (h : lq I e.x e.y e.d.left = true) (h' : lq I e.x e.y e.d.left.left = false) : pd I e = ⟨e.x - e.d.dx, e.y - e.d.dy, e.d⟩ := (if_neg (by rw [h]; simp)).trans (if_pos h')
theorem pd_r {I : Sq} {e : Ed} (h : lq I e.x e.y e.d.left = true) (h' : lq I e.x e.y e.d.left.left = true) : pd I e = ⟨e.x - e.d.left.dx, e.y - e.d.left.dy, e.d.left⟩ := (if_neg (by rw [h]; simp)).trans (if_neg (by rw [h']; simp))
theorem bc {b : Bool} : b = false ∨ b = true := by cases b; exact .inl rfl; exact .inr rfl
/-- What follows a step: its three ways. -/
theorem sc_cases {I : Sq} {e : Ed} (_ : isB I e) : (lq I e.tx e.ty e.d = false ∧ sc I e = ⟨e.tx, e.ty, e.d.left⟩) ∨ (lq I e.tx e.ty e.d = true ∧ lq I e.tx e.ty e.d.right = false ∧ sc I e = ⟨e.tx, e.ty, e.d⟩) ∨
    (lq I e.tx e.ty e.d = true ∧ lq I e.tx e.ty e.d.right = true ∧ sc I e = ⟨e.tx, e.ty, e.d.right⟩) := by
  rcases bc (b := lq I e.tx e.ty e.d) with h1 | h1
  · exact .inl ⟨h1, sc_l h1⟩
  · rcases bc (b := lq I e.tx e.ty e.d.right) with h2 | h2
    · exact .inr (.inl ⟨h1, h2, sc_s h1 h2⟩)
    · exact .inr (.inr ⟨h1, h2, sc_r h1 h2⟩)
theorem Ed.at_to (I : Sq) (e : Ed) : lq I e.tx e.ty e.d.left = lq I e.x e.y e.d ∧ lq I e.tx e.ty e.d.left.left = lq I e.x e.y e.d.right := PX.at_to I e.x e.y e.d
theorem sc_isB {I : Sq} {e : Ed} (h : isB I e) : isB I (sc I e) := by
  obtain ⟨g1, g2⟩ := Ed.at_to I e
  rcases sc_cases h with ⟨h1, h2⟩ | ⟨h1, h2, h3⟩ | ⟨h1, h2, h3⟩
  · rw [h2]; exact ⟨g1.trans h.1, by simp only [Dir.lr]; exact h1⟩
  · rw [h3]; exact ⟨h1, h2⟩
  · rw [h3]; exact ⟨h2, by simp only [Dir.rr]; exact g2.trans h.2⟩
theorem Ed.ext' {e f : Ed} (h1 : e.x = f.x) (h2 : e.y = f.y) (h3 : e.d = f.d) : e = f := by cases e; cases f; cases h1; cases h2; cases h3; rfl
theorem pd_sc {I : Sq} {e : Ed} (h : isB I e) : pd I (sc I e) = e := by
  obtain ⟨g1, g2⟩ := Ed.at_to I e
  have a1 : e.tx - e.d.dx = e.x := by unfold Ed.tx; omega
  have a2 : e.ty - e.d.dy = e.y := by unfold Ed.ty; omega
  rcases sc_cases h with ⟨h1, h2⟩ | ⟨h1, h2, h3⟩ | ⟨h1, h2, h3⟩
  · rw [h2, pd_l (g2.trans h.2)]; exact Ed.ext' (by simp only [Dir.lr]; exact a1) (by simp only [Dir.lr]; exact a2) (Dir.lr _)
  · rw [h3, pd_s (g1.trans h.1) (g2.trans h.2)]; exact Ed.ext' a1 a2 rfl
  · rw [h3, pd_r (by simp only [Dir.rl]; exact h1) (by simp only [Dir.rl]; exact g1.trans h.1)]; exact Ed.ext' (by simp only [Dir.rl]; exact a1) (by simp only [Dir.rl]; exact a2) (Dir.rl _)
theorem pd_cases {I : Sq} {e : Ed} (_ : isB I e) : (lq I e.x e.y e.d.left = false ∧ pd I e = ⟨e.x - e.d.right.dx, e.y - e.d.right.dy, e.d.right⟩) ∨ (lq I e.x e.y e.d.left = true ∧ lq I e.x e.y e.d.left.left = false ∧ pd I e = ⟨e.x - e.d.dx, e.y - e.d.dy, e.d⟩) ∨
    (lq I e.x e.y e.d.left = true ∧ lq I e.x e.y e.d.left.left = true ∧ pd I e = ⟨e.x - e.d.left.dx, e.y - e.d.left.dy, e.d.left⟩) := by
  rcases bc (b := lq I e.x e.y e.d.left) with h1 | h1
  · exact .inl ⟨h1, pd_l h1⟩
  · rcases bc (b := lq I e.x e.y e.d.left.left) with h2 | h2
    · exact .inr (.inl ⟨h1, h2, pd_s h1 h2⟩)
    · exact .inr (.inr ⟨h1, h2, pd_r h1 h2⟩)
theorem pd_to {I : Sq} {e : Ed} (h : isB I e) : (pd I e).tx = e.x ∧ (pd I e).ty = e.y := by
  rcases pd_cases h with ⟨_, h2⟩ | ⟨_, _, h2⟩ | ⟨_, _, h2⟩ <;> rw [h2] <;> exact ⟨by simp only [Ed.tx]; omega, by simp only [Ed.ty]; omega⟩
theorem pd_isB {I : Sq} {e : Ed} (h : isB I e) : isB I (pd I e) := by
  rcases pd_cases h with ⟨h1, h2⟩ | ⟨h1, h2, h3⟩ | ⟨h1, h2, h3⟩
  · obtain ⟨g1, g2⟩ := at_from I e.x e.y e.d.right
    rw [h2]; exact ⟨g1.trans (by rw [Dir.rl]; exact h.1), g2.trans (by rw [Dir.rl]; exact h1)⟩
  · obtain ⟨g1, g2⟩ := at_from I e.x e.y e.d
    rw [h3]; exact ⟨g1.trans h1, g2.trans h2⟩
  · obtain ⟨g1, g2⟩ := at_from I e.x e.y e.d.left
    rw [h3]; exact ⟨g1.trans h2, g2.trans (by rw [Dir.lll]; exact h.2)⟩
theorem sc_pd {I : Sq} {e : Ed} (h : isB I e) : sc I (pd I e) = e := by
  obtain ⟨t1, t2⟩ := pd_to h
  rcases pd_cases h with ⟨h1, h2⟩ | ⟨h1, h2, h3⟩ | ⟨h1, h2, h3⟩
  · have hd : (pd I e).d = e.d.right := by rw [h2]
    rw [sc_l (by rw [t1, t2, hd]; exact h.2), t1, t2, hd, Dir.rl]
  · have hd : (pd I e).d = e.d := by rw [h3]
    rw [sc_s (by rw [t1, t2, hd]; exact h.1) (by rw [t1, t2, hd]; exact h.2), t1, t2, hd]
  · have hd : (pd I e).d = e.d.left := by rw [h3]
    rw [sc_r (by rw [t1, t2, hd]; exact h1) (by rw [t1, t2, hd, Dir.lr]; exact h.1), t1, t2, hd, Dir.lr]
/-- A corner: a step that goes elsewhere than the step before. -/
def isC (I : Sq) (e : Ed) : Bool := decide ((pd I e).d ≠ e.d)
/-! Many steps. -/
def it (I : Sq) : Nat → Ed → Ed
  | 0, e => e
  | k + 1, e => it I k (sc I e)
theorem it_succ (I : Sq) (k : Nat) (e : Ed) : it I (k + 1) e = sc I (it I k e) := by
  induction k generalizing e with
  | zero => rfl
  | succ k ih => exact ih (sc I e)
theorem it_add (I : Sq) (j k : Nat) (e : Ed) : it I (j + k) e = it I j (it I k e) := by
  induction k generalizing e with
  | zero => rfl
  | succ k ih => exact ih (sc I e)
theorem it_isB {I : Sq} {e : Ed} (h : isB I e) : ∀ k, isB I (it I k e)
  | 0 => h
  | k + 1 => by rw [it_succ]; exact sc_isB (it_isB h k)
theorem sc_inj {I : Sq} {e f : Ed} (he : isB I e) (hf : isB I f) (h : sc I e = sc I f) : e = f := by rw [← pd_sc he, h, pd_sc hf]
theorem it_inj {I : Sq} {e f : Ed} (he : isB I e) (hf : isB I f) : ∀ k, it I k e = it I k f → e = f
  | 0, h => h
  | k + 1, h => sc_inj he hf (it_inj (sc_isB he) (sc_isB hf) k h)
/-- A set all of whose border lies on a list. -/
def Fin_ (I : Sq) (B : List Ed) : Prop := ∀ e, isB I e → e ∈ B
theorem nodup_len {α : Type} [DecidableEq α] : ∀ {l m : List α}, l.Nodup → (∀ x ∈ l, x ∈ m) → l.length ≤ m.length
  | [], _, _, _ => Nat.zero_le _
  | x :: l, m, hn, h => by
    obtain ⟨h1, h2⟩ := List.nodup_cons.1 hn
    have hx := h x (by simp)
    have : l.length ≤ (m.erase x).length := nodup_len h2 fun y hy => (List.mem_erase_of_ne (fun (e : y = x) => h1 (e ▸ hy))).2 (h y (by simp [hy]))
    rw [List.length_erase_of_mem hx] at this
    have := List.length_pos_of_mem hx
    simp only [List.length_cons]
    omega
/-- The first so many steps. -/
def walk (I : Sq) : Nat → Ed → List Ed
  | 0, _ => []
  | k + 1, e => e :: walk I k (sc I e)
theorem walk_len (I : Sq) : ∀ (k : Nat) (e : Ed), (walk I k e).length = k
  | 0, _ => rfl
  | k + 1, e => by simp [walk, walk_len I k]
theorem walk_get (I : Sq) : ∀ (k : Nat) (e : Ed) (i : Nat), i < k → (walk I k e)[i]? = some (it I i e)
  | 0, _, _, h => absurd h (Nat.not_lt_zero _)
  | k + 1, e, 0, _ => rfl
  | k + 1, e, i + 1, h => by
    simp only [walk, List.getElem?_cons_succ]
    exact walk_get I k (sc I e) i (by omega)
theorem walk_mem {I : Sq} {k : Nat} {e f : Ed} : f ∈ walk I k e ↔ ∃ i, i < k ∧ it I i e = f := by
  constructor
  · intro h
    obtain ⟨i, hi⟩ := List.mem_iff_getElem?.1 h
    have hlt : i < k := by
      have := (List.getElem?_eq_some_iff.1 hi).1
      rwa [walk_len] at this
    rw [walk_get I k e i hlt] at hi
    exact ⟨i, hlt, by simpa using hi⟩
  · rintro ⟨i, hi, rfl⟩
    exact List.mem_iff_getElem?.2 ⟨i, walk_get I k e i hi⟩
theorem walk_add (I : Sq) : ∀ (j k : Nat) (e : Ed), walk I (j + k) e = walk I j e ++ walk I k (it I j e)
  | 0, k, e => by simp [walk, it]
  | j + 1, k, e => by
    have : j + 1 + k = (j + k) + 1 := by omega
    rw [this]
    simp only [walk, List.cons_append, it]
    rw [walk_add I j k (sc I e)]
/-- A step comes back. -/
theorem back {I : Sq} {B : List Ed} (hB : Fin_ I B) {e : Ed} (he : isB I e) : ∃ n, 0 < n ∧ it I n e = e := by
  cases Classical.em (∃ n, 0 < n ∧ it I n e = e) with
  | inl h => exact h
  | inr h =>
    have hne : ∀ i j, i < j → it I i e ≠ it I j e := fun i j hij hh => by
      refine h ⟨j - i, by omega, ?_⟩
      have : it I j e = it I i (it I (j - i) e) := by rw [← it_add]; congr 1; omega
      rw [this] at hh
      exact (it_inj he (it_isB he _) i hh).symm
    have hnd : (walk I (B.length + 1) e).Nodup := by
      rw [List.Nodup, List.pairwise_iff_getElem]
      intro i j hi hj hij
      rw [walk_len] at hi hj
      have h1 := walk_get I (B.length + 1) e i hi
      have h2 := walk_get I (B.length + 1) e j hj
      rw [List.getElem?_eq_getElem (by rw [walk_len]; exact hi)] at h1
      rw [List.getElem?_eq_getElem (by rw [walk_len]; exact hj)] at h2
      rw [Option.some.inj h1, Option.some.inj h2]
      exact hne i j hij
    have := nodup_len hnd (fun f hf => by
      obtain ⟨i, _, rfl⟩ := walk_mem.1 hf
      exact hB _ (it_isB he i))
    rw [walk_len] at this
    omega
theorem least_nat {p : Nat → Prop} : ∀ n, p n → ∃ m, p m ∧ ∀ k, k < m → ¬ p k := by
  intro n
  induction n using Nat.strongRecOn with
  | _ n ih =>
    intro hp
    cases Classical.em (∃ k, k < n ∧ p k) with
    | inl h => obtain ⟨k, h1, h2⟩ := h; exact ih k h1 h2
    | inr h => exact ⟨n, hp, fun k hk hpk => h ⟨k, hk, hpk⟩⟩
/-- A closed walk that comes back for the first time at its end. -/
def Per (I : Sq) (e : Ed) (n : Nat) : Prop := 0 < n ∧ it I n e = e ∧ ∀ k, 0 < k → k < n → it I k e ≠ e
theorem per {I : Sq} {B : List Ed} (hB : Fin_ I B) {e : Ed} (he : isB I e) : ∃ n, Per I e n := by
  obtain ⟨n, h1, h2⟩ := back hB he
  obtain ⟨m, ⟨h3, h4⟩, h5⟩ := least_nat (p := fun n => 0 < n ∧ it I n e = e) n ⟨h1, h2⟩
  exact ⟨m, h3, h4, fun k h6 h7 h8 => h5 k h7 ⟨h6, h8⟩⟩
theorem Per.uniq {I : Sq} {e : Ed} {n m : Nat} (h : Per I e n) (k : Per I e m) : n = m := by
  rcases Nat.lt_trichotomy n m with h1 | h1 | h1
  · exact absurd h.2.1 (k.2.2 n h.1 h1)
  · exact h1
  · exact absurd k.2.1 (h.2.2 m k.1 h1)
theorem Per.nodup {I : Sq} {e : Ed} {n : Nat} (he : isB I e) (h : Per I e n) : (walk I n e).Nodup := by
  rw [List.Nodup, List.pairwise_iff_getElem]
  intro i j hi hj hij
  rw [walk_len] at hi hj
  have h1 := walk_get I n e i hi
  have h2 := walk_get I n e j hj
  rw [List.getElem?_eq_getElem (by rw [walk_len]; exact hi)] at h1
  rw [List.getElem?_eq_getElem (by rw [walk_len]; exact hj)] at h2
  rw [Option.some.inj h1, Option.some.inj h2]
  intro hh
  have e1 : it I j e = it I i (it I (j - i) e) := by rw [← it_add]; congr 1; omega
  rw [e1] at hh
  exact h.2.2 (j - i) (by omega) (by omega) (it_inj he (it_isB he _) i hh).symm
theorem Per.mod {I : Sq} {e : Ed} {n : Nat} (h : Per I e n) : ∀ k, it I k e = it I (k % n) e := by
  intro k
  induction k using Nat.strongRecOn with
  | _ k ih =>
    by_cases hk : k < n
    · rw [Nat.mod_eq_of_lt hk]
    · have h1 : k = (k - n) + n := by omega
      have h2 : k % n = (k - n) % n := by rw [h1, Nat.add_mod_right]; congr 1; omega
      have h3 : it I k e = it I (k - n) e := by
        conv => lhs; rw [h1]
        rw [it_add, h.2.1]
      rw [h3, h2]
      exact ih (k - n) (by have := h.1; omega)
/-- Whoever lies on the walk has the same walk, turned. -/
theorem Per.shift {I : Sq} {e : Ed} {n : Nat} (he : isB I e) (h : Per I e n) (j : Nat) : Per I (it I j e) n := by
  refine ⟨h.1, ?_, fun k h1 h2 h3 => ?_⟩
  · rw [← it_add, Nat.add_comm, it_add, h.2.1]
  · rw [← it_add, Nat.add_comm, it_add] at h3
    exact h.2.2 k h1 h2 (it_inj (it_isB he k) he j h3)
end Go.Proofs.Ytacapjleiadkkaa.PX
namespace Go.Proofs.Ytacapjleiadkkaa.PX
/-- Points by height, then place. -/
def pl (a b : Int × Int) : Prop := a.2 < b.2 ∨ (a.2 = b.2 ∧ a.1 < b.1)
instance (a b : Int × Int) : Decidable (pl a b) := inferInstanceAs (Decidable (_ ∨ _))
theorem pl_irrefl (a : Int × Int) : ¬ pl a a := by unfold pl; omega
theorem pl_trans {a b c : Int × Int} (h : pl a b) (k : pl b c) : pl a c := by unfold pl at *; omega
theorem pl_total (a b : Int × Int) : pl a b ∨ a = b ∨ pl b a := by
  obtain ⟨a1, a2⟩ := a
  obtain ⟨b1, b2⟩ := b
  unfold pl
  simp only [Prod.mk.injEq]
  omega
def Ed.p (e : Ed) : Int × Int := (e.x, e.y)
/-- No step of the walk begins at a lesser point. -/
def Lst (I : Sq) (e : Ed) : Prop := isB I e ∧ ∀ k, ¬ pl (it I k e).p e.p
theorem lst_of {I : Sq} {e : Ed} {n : Nat} (h : Per I e n) : ∀ m, m ≤ n → 0 < m → ∃ j, j < m ∧ ∀ k, k < m → ¬ pl (it I k e).p (it I j e).p := by
  intro m
  induction m with
  | zero => intro _ h; omega
  | succ m ih =>
    intro hm _
    by_cases h0 : m = 0
    · subst h0
      exact ⟨0, by omega, fun k hk => by have : k = 0 := by omega
                                         subst this; exact pl_irrefl _⟩
    · obtain ⟨j, h1, h2⟩ := ih (by omega) (by omega)
      by_cases h3 : pl (it I m e).p (it I j e).p
      · refine ⟨m, by omega, fun k hk h4 => ?_⟩
        rcases Nat.lt_or_ge k m with h5 | h5
        · exact h2 k h5 (pl_trans h4 h3)
        · have : k = m := by omega
          subst this; exact pl_irrefl _ h4
      · refine ⟨j, by omega, fun k hk => ?_⟩
        rcases Nat.lt_or_ge k m with h5 | h5
        · exact h2 k h5
        · have : k = m := by omega
          subst this; exact h3
/-- Each walk has a least point. -/
theorem has_lst {I : Sq} {e : Ed} {n : Nat} (he : isB I e) (h : Per I e n) : ∃ j, j < n ∧ Lst I (it I j e) := by
  obtain ⟨j, h1, h2⟩ := lst_of h n (Nat.le_refl _) h.1
  refine ⟨j, h1, it_isB he j, fun k => ?_⟩
  rw [← it_add, h.mod]
  exact h2 _ (Nat.mod_lt _ h.1)
theorem Lst.pd {I : Sq} {B : List Ed} (hB : Fin_ I B) {e : Ed} (h : Lst I e) : ¬ pl (PX.pd I e).p e.p := by
  obtain ⟨n, hn⟩ := per hB h.1
  have : it I (n - 1) e = PX.pd I e := by
    have h1 : sc I (it I (n - 1) e) = e := by rw [← it_succ, show n - 1 + 1 = n from by have := hn.1; omega, hn.2.1]
    have h2 := pd_sc (it_isB h.1 (n - 1))
    rw [h1] at h2; exact h2.symm
  rw [← this]
  exact h.2 _
/-- At a least point the walk comes from above, or from the right, and goes the other one of these ways. -/
theorem Lst.ways {I : Sq} {B : List Ed} (hB : Fin_ I B) {e : Ed} (h : Lst I e) : (e.d = .E ∧ (PX.pd I e).d = .S) ∨ (e.d = .N ∧ (PX.pd I e).d = .W) := by
  have h1 := h.pd hB
  have h2 := h.2 1
  have h3 : (sc I e).p = (e.tx, e.ty) := by
    rcases sc_cases h.1 with ⟨_, h2⟩ | ⟨_, _, h2⟩ | ⟨_, _, h2⟩ <;> rw [h2] <;> rfl
  have h4 := pd_to h.1
  simp only [it] at h2
  rw [h3] at h2
  have h5 : ¬ pl ((PX.pd I e).x, (PX.pd I e).y) e.p := h1
  unfold Ed.tx at h4 h2
  unfold Ed.ty at h4 h2
  unfold Ed.p at *
  unfold pl at h5 h2
  simp only at h5 h2
  rcases pd_cases h.1 with ⟨_, g⟩ | ⟨_, _, g⟩ | ⟨_, _, g⟩
  all_goals
    rw [g] at h4 h5 ⊢
    cases hd : e.d <;> rw [hd] at h2 h5 h4 <;> simp only [Dir.dx, Dir.dy, Dir.left, Dir.right] at h2 h4 h5 ⊢
    all_goals first | omega | simp
/-- Two least steps from one point are one. -/
theorem Lst.uniq {I : Sq} {B : List Ed} (hB : Fin_ I B) {e f : Ed} (he : Lst I e) (hf : Lst I f) (h : e.p = f.p) : e = f := by
  have hx : e.x = f.x := congrArg Prod.fst h
  have hy : e.y = f.y := congrArg Prod.snd h
  refine Ed.ext' hx hy ?_
  have h1 := pd_isB he.1
  have h2 := pd_isB hf.1
  have k1 := Ed.at_to I (PX.pd I e)
  have k2 := Ed.at_to I (PX.pd I f)
  rw [(pd_to he.1).1, (pd_to he.1).2] at k1
  rw [(pd_to hf.1).1, (pd_to hf.1).2] at k2
  have a1 := he.1
  have a2 := hf.1
  unfold isB at h1 h2 a1 a2
  rcases he.ways hB with ⟨g1, g2⟩ | ⟨g1, g2⟩ <;> rcases hf.ways hB with ⟨g3, g4⟩ | ⟨g3, g4⟩
  · rw [g1, g3]
  · exfalso
    rw [g4] at k2 h2
    rw [g3] at a2
    rw [g2] at k1 h1
    rw [g1] at a1
    rw [hx, hy] at a1 k1
    simp only [Dir.left, Dir.right] at *
    rw [← k1.1] at h1
    have := a2.2
    rw [a1.1] at this
    cases this
  · exfalso
    rw [g4] at k2 h2
    rw [g3] at a2
    rw [g2] at k1 h1
    rw [g1] at a1
    rw [hx, hy] at a1 k1
    simp only [Dir.left, Dir.right] at *
    have := a1.2
    rw [a2.1] at this
    cases this
  · rw [g1, g3]
theorem Lst.uniq_it {I : Sq} {B : List Ed} (hB : Fin_ I B) {e : Ed} (h : Lst I e) {k : Nat} (hp : (it I k e).p = e.p) : it I k e = e := by
  refine Lst.uniq hB ⟨it_isB h.1 k, fun j => ?_⟩ h hp
  rw [← it_add, hp]
  exact h.2 _
theorem Lst.corner {I : Sq} {B : List Ed} (hB : Fin_ I B) {e : Ed} (h : Lst I e) : isC I e = true := by
  unfold isC
  rcases h.ways hB with ⟨g1, g2⟩ | ⟨g1, g2⟩ <;> rw [g1, g2] <;> rfl
/-- The corners of so many steps. -/
def crn (I : Sq) (k : Nat) (e : Ed) : List (Int × Int) := ((walk I k e).filter (isC I)).map Ed.p
theorem crn_add (I : Sq) (j k : Nat) (e : Ed) : crn I (j + k) e = crn I j e ++ crn I k (it I j e) := by unfold crn; rw [walk_add, List.filter_append, List.map_append]
/-- The place of the first least point. -/
def fl : List (Int × Int) → Nat × (Int × Int) → Nat → Nat
  | [], b, _ => b.1
  | p :: l, b, i => if pl p b.2 then fl l (i, p) (i + 1) else fl l b (i + 1)
/-- Corners from the least one on. -/
def lr (l : List (Int × Int)) : List (Int × Int) := let k := fl l (0, l.headD (0, 0)) 0; l.drop k ++ l.take k
theorem fl_stay : ∀ (l : List (Int × Int)) (b : Nat × (Int × Int)) (i : Nat), (∀ p ∈ l, ¬ pl p b.2) → fl l b i = b.1
  | [], _, _, _ => rfl
  | p :: l, b, i, h => by
    unfold fl
    rw [if_neg (h p (by simp))]
    exact fl_stay l b (i + 1) fun q hq => h q (by simp [hq])
theorem fl_ok : ∀ (A : List (Int × Int)) (m : Int × Int) (B : List (Int × Int)) (b : Nat × (Int × Int)) (i : Nat), (∀ p ∈ A, pl m p) → (∀ p ∈ B, ¬ pl p m) → pl m b.2 → fl (A ++ m :: B) b i = i + A.length
  | [], m, B, b, i, _, h2, h3 => by
    show fl (m :: B) b i = _
    unfold fl
    rw [if_pos h3, fl_stay _ _ _ h2]; rfl
  | p :: A, m, B, b, i, h1, h2, h3 => by
    show fl (p :: (A ++ m :: B)) b i = _
    unfold fl
    have hp := h1 p (by simp)
    have hA : ∀ q ∈ A, pl m q := fun q hq => h1 q (by simp [hq])
    split
    · rw [fl_ok A m B (i, p) (i + 1) hA h2 hp]; simp only [List.length_cons]; omega
    · rw [fl_ok A m B b (i + 1) hA h2 h3]; simp only [List.length_cons]; omega
theorem lr_ok {A B : List (Int × Int)} {m : Int × Int} (h1 : ∀ p ∈ A, pl m p) (h2 : ∀ p ∈ B, ¬ pl p m) : lr (A ++ m :: B) = m :: B ++ A := by
  have hk : fl (A ++ m :: B) (0, (A ++ m :: B).headD (0, 0)) 0 = A.length := by
    cases A with
    | nil =>
      show fl (m :: B) (0, m) 0 = 0
      rw [fl_stay]
      intro p hp
      rcases List.mem_cons.1 hp with rfl | hp
      · exact pl_irrefl _
      · exact h2 p hp
    | cons a A =>
      have := fl_ok (a :: A) m B (0, a) 0 h1 h2 (h1 a (by simp))
      simpa using this
  unfold lr
  simp only [hk]
  rw [List.drop_left, List.take_left]
/-- The corners of a closed walk, from the least one on, are those of the walk from its least step on. -/
theorem lr_crn {I : Sq} {B : List Ed} (hB : Fin_ I B) {e : Ed} {n : Nat} (he : isB I e) (h : Per I e n) {j : Nat} (hj : j < n) (hl : Lst I (it I j e)) : lr (crn I n e) = crn I n (it I j e) := by
  have e1 : crn I n e = crn I j e ++ crn I (n - j) (it I j e) := by rw [← crn_add]; congr 1; omega
  have e2 : crn I n (it I j e) = crn I (n - j) (it I j e) ++ crn I j e := by
    have : it I (n - j) (it I j e) = e := by rw [← it_add, show n - j + j = n from by omega, h.2.1]
    have h3 := crn_add I (n - j) j (it I j e)
    rw [this, show n - j + j = n from by omega] at h3
    exact h3
  obtain ⟨k, hk⟩ : ∃ k, n - j = k + 1 := ⟨n - j - 1, by omega⟩
  have e3 : crn I (n - j) (it I j e) = (it I j e).p :: crn I k (sc I (it I j e)) := by
    rw [hk]
    unfold crn
    simp only [walk, List.filter_cons, hl.corner hB, if_true, List.map_cons]
  have all : ∀ i, ¬ pl (it I i e).p (it I j e).p := fun i => by
    have h4 : it I i e = it I (i + (n - j)) (it I j e) := by
      rw [← it_add, show i + (n - j) + j = i + n from by omega, it_add, h.2.1]
    rw [h4]; exact hl.2 _
  rw [e1, e2, e3]
  refine lr_ok (fun p hp => ?_) (fun p hp => ?_)
  · obtain ⟨f, hf, rfl⟩ := List.mem_map.1 hp
    obtain ⟨i, hi, rfl⟩ := walk_mem.1 (List.mem_filter.1 hf).1
    rcases pl_total (it I j e).p (it I i e).p with h5 | h5 | h5
    · exact h5
    · exfalso
      have h6 : it I i e = it I (i + (n - j)) (it I j e) := by
        rw [← it_add, show i + (n - j) + j = i + n from by omega, it_add, h.2.1]
      have h7 := hl.uniq_it hB (k := i + (n - j)) (by rw [← h6]; exact h5.symm)
      rw [← h6] at h7
      have h8 : it I j e = it I i (it I (j - i) e) := by rw [← it_add]; congr 1; omega
      rw [h8] at h7
      exact h.2.2 (j - i) (by omega) (by omega) (it_inj he (it_isB he _) i h7).symm
    · exact absurd h5 (all i)
  · obtain ⟨f, hf, rfl⟩ := List.mem_map.1 hp
    obtain ⟨i, hi, rfl⟩ := walk_mem.1 (List.mem_filter.1 hf).1
    have : it I i (sc I (it I j e)) = it I (i + 1) (it I j e) := rfl
    rw [this]
    exact hl.2 _
end Go.Proofs.Ytacapjleiadkkaa.PX
namespace Go.Proofs.Ytacapjleiadkkaa.PX
/-- A side: where it begins, and how many steps it has. -/
abbrev Sd := Ed × Nat
def adv (e : Ed) (i : Nat) : Ed := ⟨e.x + i * e.d.dx, e.y + i * e.d.dy, e.d⟩
theorem adv_zero (e : Ed) : adv e 0 = e := Ed.ext' (by simp [adv]) (by simp [adv]) rfl
theorem adv_inj {e : Ed} {i j : Nat} (h : adv e i = adv e j) : i = j := by
  have h1 := congrArg Ed.x h
  have h2 := congrArg Ed.y h
  simp only [adv] at h1 h2
  cases hd : e.d <;> rw [hd] at h1 h2 <;> simp only [Dir.dx, Dir.dy] at h1 h2 <;> omega
theorem adv_to (e : Ed) (i : Nat) : (adv e i).tx = (adv e (i + 1)).x ∧ (adv e i).ty = (adv e (i + 1)).y := by
  unfold Ed.tx Ed.ty adv
  simp only
  cases e.d <;> simp only [Dir.dx, Dir.dy] <;> omega
theorem sc_adv {I : Sq} {e : Ed} {i : Nat} (h : isB I (adv e (i + 1))) : sc I (adv e i) = adv e (i + 1) := by
  obtain ⟨t1, t2⟩ := adv_to e i
  rw [sc_s (e := adv e i) (by rw [t1, t2]; exact h.1) (by rw [t1, t2]; exact h.2)]
  exact Ed.ext' t1 t2 rfl
structure SysB (I : Sq) (L : List Sd) : Prop where
  pos : ∀ s ∈ L, 0 < s.2
  bor : ∀ s ∈ L, ∀ i, i < s.2 → isB I (adv s.1 i)
  all : ∀ e, isB I e → ∃ s ∈ L, ∃ i, i < s.2 ∧ adv s.1 i = e
  once : ∀ (a b : Nat) (s t : Sd), L[a]? = some s → L[b]? = some t → ∀ i j : Nat, i < s.2 → j < t.2 → adv s.1 i = adv t.1 j → a = b
section
variable {I : Sq} {L : List Sd}
theorem SysB.fst (h : SysB I L) {s : Sd} (hs : s ∈ L) : isB I s.1 := by have := h.bor s hs 0 (h.pos s hs); rwa [adv_zero] at this
theorem SysB.it_adv (h : SysB I L) {s : Sd} (hs : s ∈ L) : ∀ i, i < s.2 → it I i s.1 = adv s.1 i
  | 0, _ => (adv_zero s.1).symm
  | i + 1, hi => by rw [it_succ, h.it_adv hs i (by omega)]; exact sc_adv (h.bor s hs (i + 1) hi)
/-- The last step of a side. -/
def lstE (s : Sd) : Ed := adv s.1 (s.2 - 1)
theorem SysB.last (h : SysB I L) {s : Sd} (hs : s ∈ L) : isB I (lstE s) ∧ it I s.2 s.1 = sc I (lstE s) := by
  have hp := h.pos s hs
  refine ⟨h.bor s hs _ (by omega), ?_⟩
  have : s.2 = (s.2 - 1) + 1 := by omega
  rw [this, it_succ, h.it_adv hs _ (by omega)]; rfl
theorem SysB.fin (h : SysB I L) : ∃ B, Fin_ I B := ⟨L.flatMap fun s => (List.range s.2).map fun i => adv s.1 i, fun e he => by
  obtain ⟨s, hs, i, hi, rfl⟩ := h.all e he
  exact List.mem_flatMap.2 ⟨s, hs, List.mem_map.2 ⟨i, List.mem_range.2 hi, rfl⟩⟩⟩
/-- Side b follows side a. -/
def Nx (I : Sq) (L : List Sd) (a b : Nat) : Prop := ∃ s t, L[a]? = some s ∧ L[b]? = some t ∧ t.1 = sc I (lstE s)
theorem SysB.next (h : SysB I L) {a : Nat} (ha : a < L.length) : ∃ b, b < L.length ∧ Nx I L a b := by
  have hs : L[a]? = some L[a] := List.getElem?_eq_getElem ha
  have hm : L[a] ∈ L := List.getElem_mem ha
  obtain ⟨h1, h2⟩ := h.last hm
  obtain ⟨t, ht, i, hi, he⟩ := h.all _ (sc_isB h1)
  obtain ⟨b, hb⟩ := List.mem_iff_getElem?.1 ht
  refine ⟨b, (List.getElem?_eq_some_iff.1 hb).1, L[a], t, hs, hb, ?_⟩
  cases i with
  | zero => rw [adv_zero] at he; exact he
  | succ i =>
    exfalso
    have h3 := h.bor t ht i (by omega)
    have h4 : sc I (adv t.1 i) = adv t.1 (i + 1) := sc_adv (h.bor t ht (i + 1) hi)
    have h5 : adv t.1 i = lstE L[a] := sc_inj h3 h1 (h4.trans he)
    have hp := h.pos _ hm
    have h6 := h.once b a t L[a] hb hs i (L[a].2 - 1) (by omega) (by omega) h5
    subst h6
    rw [hs] at hb
    have := Option.some.inj hb
    subst this
    have := adv_inj h5
    omega
theorem Nx.lt {a b : Nat} (h : Nx I L a b) : a < L.length ∧ b < L.length := by
  obtain ⟨s, t, h1, h2, _⟩ := h
  exact ⟨(List.getElem?_eq_some_iff.1 h1).1, (List.getElem?_eq_some_iff.1 h2).1⟩
theorem SysB.nx_r (h : SysB I L) {a b b' : Nat} (h1 : Nx I L a b) (h2 : Nx I L a b') : b = b' := by
  obtain ⟨s, t, g1, g2, g3⟩ := h1
  obtain ⟨s', t', k1, k2, k3⟩ := h2
  rw [g1] at k1
  have := Option.some.inj k1
  subst this
  exact h.once b b' t t' g2 k2 0 0 (h.pos t (List.mem_of_getElem? g2)) (h.pos t' (List.mem_of_getElem? k2)) (by rw [adv_zero, adv_zero, g3, k3])
theorem SysB.nx_l (h : SysB I L) {a a' b : Nat} (h1 : Nx I L a b) (h2 : Nx I L a' b) : a = a' := by
  obtain ⟨s, t, g1, g2, g3⟩ := h1
  obtain ⟨s', t', k1, k2, k3⟩ := h2
  rw [g2] at k2
  have := Option.some.inj k2
  subst this
  have p1 := h.pos s (List.mem_of_getElem? g1)
  have p2 := h.pos s' (List.mem_of_getElem? k1)
  exact h.once a a' s s' g1 k1 (s.2 - 1) (s'.2 - 1) (by omega) (by omega) (sc_inj (h.last (List.mem_of_getElem? g1)).1 (h.last (List.mem_of_getElem? k1)).1 (g3.symm.trans k3))
/-- Sides in a row, each behind the one before. -/
def Cn (I : Sq) (L : List Sd) : Nat → List Nat → Prop
  | _, [] => True
  | a, b :: r => Nx I L a b ∧ Cn I L b r
/-- A closed row of sides, each once. -/
def RowB (I : Sq) (L : List Sd) (r : List Nat) : Prop := ∃ a q, r = a :: q ∧ Cn I L a q ∧ Nx I L (q.getLastD a) a ∧ r.Nodup
def sdAt (L : List Sd) (a : Nat) : Sd := L.getD a (⟨0, 0, .E⟩, 0)
theorem sdAt_eq {a : Nat} {s : Sd} (h : L[a]? = some s) : sdAt L a = s := by unfold sdAt; rw [List.getD_eq_getElem?_getD, h]; rfl
/-- How many steps so many sides have. -/
def stp (L : List Sd) : List Nat → Nat
  | [] => 0
  | a :: r => (sdAt L a).2 + stp L r
/-- The corners of a row, as the program tells them. -/
def cns (L : List Sd) : Dir → List Nat → List (Int × Int)
  | _, [] => []
  | d, a :: r => if d ≠ (sdAt L a).1.d then (sdAt L a).1.p :: cns L (sdAt L a).1.d r else cns L (sdAt L a).1.d r
theorem crn_side (h : SysB I L) {s : Sd} (hs : s ∈ L) : crn I s.2 s.1 = if isC I s.1 = true then [s.1.p] else [] := by
  obtain ⟨k, hk⟩ : ∃ k, s.2 = k + 1 := ⟨s.2 - 1, by have := h.pos s hs; omega⟩
  have h0 : ∀ f ∈ walk I k (sc I s.1), isC I f = false := fun f hf => by
    obtain ⟨i, hi, rfl⟩ := walk_mem.1 hf
    have h1 : it I i (sc I s.1) = adv s.1 (i + 1) := h.it_adv hs (i + 1) (by omega)
    have h2 : pd I (adv s.1 (i + 1)) = adv s.1 i := by
      rw [← sc_adv (h.bor s hs (i + 1) (by omega))]
      exact pd_sc (h.bor s hs i (by omega))
    rw [h1]
    unfold isC
    rw [h2]
    exact decide_eq_false (fun hh => hh rfl)
  have h1 : (walk I k (sc I s.1)).filter (isC I) = [] := List.filter_eq_nil_iff.2 fun f hf => by rw [h0 f hf]; simp
  unfold crn
  rw [hk]
  simp only [walk, List.filter_cons, h1]
  by_cases hc : isC I s.1 = true
  · rw [if_pos hc, if_pos hc]; rfl
  · rw [if_neg hc, if_neg hc]; rfl
theorem cns_ok (h : SysB I L) : ∀ (q : List Nat) (a : Nat) (s : Sd), L[a]? = some s → Cn I L a q → cns L (pd I s.1).d (a :: q) = crn I (stp L (a :: q)) s.1 ∧ it I (stp L (a :: q)) s.1 = sc I (lstE (sdAt L (q.getLastD a)))
  | [], a, s, hs, _ => by
    have hm := List.mem_of_getElem? hs
    simp only [stp, cns, sdAt_eq hs, Nat.add_zero, List.getLastD_nil]
    refine ⟨?_, (h.last hm).2⟩
    rw [crn_side h hm]
    unfold isC
    simp only [decide_eq_true_eq]
  | b :: q, a, s, hs, hc => by
    have hm := List.mem_of_getElem? hs
    obtain ⟨⟨s', t, g1, g2, g3⟩, hc2⟩ := hc
    rw [hs] at g1
    have := Option.some.inj g1
    subst this
    have hl := h.last hm
    have hit : it I s.2 s.1 = t.1 := hl.2.trans g3.symm
    have hpd : (pd I t.1).d = s.1.d := by rw [g3, pd_sc hl.1]; rfl
    obtain ⟨i1, i2⟩ := cns_ok h q b t g2 hc2
    have e1 : stp L (a :: b :: q) = s.2 + stp L (b :: q) := by simp only [stp, sdAt_eq hs]
    have e2 : cns L (pd I s.1).d (a :: b :: q) = (if isC I s.1 = true then [s.1.p] else []) ++ cns L s.1.d (b :: q) := by
      simp only [cns, sdAt_eq hs]
      unfold isC
      simp only [decide_eq_true_eq]
      by_cases hd : (pd I s.1).d ≠ s.1.d
      · rw [if_pos hd, if_pos hd]; rfl
      · rw [if_neg hd, if_neg hd]; rfl
    refine ⟨?_, ?_⟩
    · rw [e2, e1, crn_add, crn_side h hm, hit, ← i1, hpd]
    · rw [e1, Nat.add_comm, it_add, hit, i2]
      cases q <;> rfl
theorem Cn.mem : ∀ {q : List Nat} {a : Nat}, Cn I L a q → ∀ b ∈ q, b < L.length
  | c :: q, a, h, b, hb => by
    rcases List.mem_cons.1 hb with rfl | hb
    · exact h.1.lt.2
    · exact Cn.mem h.2 b hb
/-- Each step of a row lies on one of its sides. -/
theorem row_steps (h : SysB I L) : ∀ (q : List Nat) (a : Nat) (s : Sd), L[a]? = some s → Cn I L a q → ∀ k, k < stp L (a :: q) → ∃ b t i, b ∈ a :: q ∧ L[b]? = some t ∧ i < t.2 ∧ it I k s.1 = adv t.1 i ∧ (b = a → (a :: q).Nodup → k = i)
  | q, a, s, hs, hc, k, hk => by
    have hm := List.mem_of_getElem? hs
    by_cases h1 : k < s.2
    · exact ⟨a, s, k, by simp, hs, h1, h.it_adv hm k h1, fun _ _ => rfl⟩
    · cases q with
      | nil => simp only [stp, sdAt_eq hs] at hk; omega
      | cons b q =>
        obtain ⟨⟨s', t, g1, g2, g3⟩, hc2⟩ := hc
        rw [hs] at g1
        have := Option.some.inj g1
        subst this
        have hit : it I s.2 s.1 = t.1 := (h.last hm).2.trans g3.symm
        have e1 : stp L (a :: b :: q) = s.2 + stp L (b :: q) := by simp only [stp, sdAt_eq hs]
        obtain ⟨c, u, i, j1, j2, j3, j4, j5⟩ := row_steps h q b t g2 hc2 (k - s.2) (by omega)
        refine ⟨c, u, i, List.mem_cons_of_mem _ j1, j2, j3, ?_, fun e hn => ?_⟩
        · rw [← j4, ← hit, ← it_add]; congr 1; omega
        · subst e
          exact absurd j1 (List.nodup_cons.1 hn).1
/-- .. and each step of one of its sides is one of the row. -/
theorem row_has (h : SysB I L) : ∀ (q : List Nat) (a : Nat) (s : Sd), L[a]? = some s → Cn I L a q → ∀ b ∈ a :: q, ∀ i, i < (sdAt L b).2 → ∃ k, k < stp L (a :: q) ∧ it I k s.1 = adv (sdAt L b).1 i
  | q, a, s, hs, hc, b, hb, i, hi => by
    have hm := List.mem_of_getElem? hs
    rcases List.mem_cons.1 hb with rfl | hb
    · rw [sdAt_eq hs] at hi ⊢
      exact ⟨i, by simp only [stp, sdAt_eq hs]; omega, h.it_adv hm i hi⟩
    · cases q with
      | nil => cases hb
      | cons c q =>
        obtain ⟨⟨s', t, g1, g2, g3⟩, hc2⟩ := hc
        rw [hs] at g1
        have := Option.some.inj g1
        subst this
        have hit : it I s.2 s.1 = t.1 := (h.last hm).2.trans g3.symm
        have e1 : stp L (a :: c :: q) = s.2 + stp L (c :: q) := by simp only [stp, sdAt_eq hs]
        obtain ⟨k, k1, k2⟩ := row_has h q c t g2 hc2 b hb i hi
        exact ⟨k + s.2, by omega, by rw [it_add, hit, k2]⟩
theorem row_per (h : SysB I L) {a : Nat} {q : List Nat} {s : Sd} (hs : L[a]? = some s) (hc : Cn I L a q) (hn : Nx I L (q.getLastD a) a) (hd : (a :: q).Nodup) : Per I s.1 (stp L (a :: q)) := by
  obtain ⟨_, h2⟩ := cns_ok h q a s hs hc
  obtain ⟨u, t, g1, g2, g3⟩ := hn
  rw [hs] at g2
  have := Option.some.inj g2
  subst this
  rw [sdAt_eq g1, ← g3] at h2
  refine ⟨?_, h2, fun k k1 k2 k3 => ?_⟩
  · have := h.pos s (List.mem_of_getElem? hs)
    simp only [stp, sdAt_eq hs]; omega
  · obtain ⟨b, t, i, j1, j2, j3, j4, j5⟩ := row_steps h q a s hs hc k k2
    rw [k3] at j4
    have h6 := h.once a b s t hs j2 0 i (h.pos s (List.mem_of_getElem? hs)) j3 (by rw [adv_zero]; exact j4)
    subst h6
    rw [hs] at j2
    have := Option.some.inj j2
    subst this
    have := j5 rfl hd
    subst this
    rw [← adv_zero s.1] at j4
    have := adv_inj (e := s.1) (i := 0) (j := k) (by rw [adv_zero] at j4 ⊢; exact j4)
    omega
/-- A border, told by its corners from its least one on. -/
def Otl (I : Sq) (e : Ed) (l : List (Int × Int)) : Prop := ∃ n, Per I e n ∧ l = crn I n e
theorem Otl.uniq {e : Ed} {l m : List (Int × Int)} (h : Otl I e l) (k : Otl I e m) : l = m := by
  obtain ⟨n, h1, rfl⟩ := h
  obtain ⟨n', h2, rfl⟩ := k
  rw [h1.uniq h2]
/-- What the program tells of a row. -/
def rowOut (L : List Sd) (r : List Nat) : List (Int × Int) := lr (cns L (sdAt L (r.getLastD 0)).1.d r)
theorem rowOut_ok (h : SysB I L) {r : List Nat} (hr : RowB I L r) : ∃ e, Lst I e ∧ Otl I e (rowOut L r) ∧ ∃ b ∈ r, ∃ i, i < (sdAt L b).2 ∧ e = adv (sdAt L b).1 i := by
  obtain ⟨a, q, rfl, hc, hn, hd⟩ := hr
  obtain ⟨B, hB⟩ := h.fin
  have ha := hn.lt.2
  have hs : L[a]? = some L[a] := List.getElem?_eq_getElem ha
  have hm : L[a] ∈ L := List.getElem_mem ha
  have hp := row_per h hs hc hn hd
  obtain ⟨h1, _⟩ := cns_ok h q a _ hs hc
  obtain ⟨j, hj, hl⟩ := has_lst (h.fst hm) hp
  have hlast : (sdAt L ((a :: q).getLastD 0)).1.d = (pd I L[a].1).d := by
    obtain ⟨u, t, g1, g2, g3⟩ := hn
    rw [hs] at g2
    have := Option.some.inj g2
    have e1 : (a :: q).getLastD 0 = q.getLastD a := by cases q <;> rfl
    rw [e1, sdAt_eq g1]
    rw [← this] at g3
    rw [g3, pd_sc (h.last (List.mem_of_getElem? g1)).1]; rfl
  refine ⟨it I j L[a].1, hl, ⟨_, hp.shift (h.fst hm) j, ?_⟩, ?_⟩
  · unfold rowOut
    rw [hlast, h1]
    exact lr_crn hB (h.fst hm) hp hj hl
  · obtain ⟨b, t, i, j1, j2, j3, j4, _⟩ := row_steps h q a _ hs hc j hj
    exact ⟨b, j1, i, by rw [sdAt_eq j2]; exact j3, by rw [sdAt_eq j2]; exact j4⟩
theorem rowOut_of (h : SysB I L) {r : List Nat} (hr : RowB I L r) {e : Ed} (he : Lst I e) {b : Nat} (hb : b ∈ r) {i : Nat} (hi : i < (sdAt L b).2) (hbe : e = adv (sdAt L b).1 i) : Otl I e (rowOut L r) := by
  obtain ⟨B, hB⟩ := h.fin
  obtain ⟨f, f1, f2, c, c1, k, c2, c3⟩ := rowOut_ok h hr
  obtain ⟨a, q, rfl, hc, hn, hd⟩ := hr
  have ha := hn.lt.2
  have hs : L[a]? = some L[a] := List.getElem?_eq_getElem ha
  obtain ⟨j, j1, j2⟩ := row_has h q a _ hs hc b hb i hi
  obtain ⟨j', j1', j2'⟩ := row_has h q a _ hs hc c c1 k c2
  have hp := row_per h hs hc hn hd
  have hm : L[a] ∈ L := List.getElem_mem ha
  -- both lie on one walk, and both are least there
  have g1 : e = it I (j + (stp L (a :: q) - j')) f := by
    rw [c3, ← j2', ← it_add, show j + (stp L (a :: q) - j') + j' = j + stp L (a :: q) from by omega, it_add, hp.2.1, j2, hbe]
  have g2 : f = it I (j' + (stp L (a :: q) - j)) e := by
    rw [hbe, ← j2, ← it_add, show j' + (stp L (a :: q) - j) + j = j' + stp L (a :: q) from by omega, it_add, hp.2.1, j2', c3]
  have g3 : e.p = f.p := by
    have n1 := f1.2 (j + (stp L (a :: q) - j'))
    rw [← g1] at n1
    have n2 := he.2 (j' + (stp L (a :: q) - j))
    rw [← g2] at n2
    rcases pl_total e.p f.p with h5 | h5 | h5
    · exact absurd h5 n1
    · exact h5
    · exact absurd h5 n2
  rw [Lst.uniq hB he f1 g3]
  exact f2
end
end Go.Proofs.Ytacapjleiadkkaa.PX
namespace Go.Proofs.Ytacapjleiadkkaa.PX
section
variable {I : Sq} {L : List Sd}
/-- All borders, in order. -/
structure Outs (I : Sq) (ls : List (List (Int × Int))) : Prop where
  is : ∀ l ∈ ls, ∃ e, Lst I e ∧ Otl I e l
  has : ∀ e, Lst I e → ∃ l ∈ ls, Otl I e l
  ord : ls.Pairwise fun a b => pl (a.headD (0, 0)) (b.headD (0, 0))
theorem Otl.head {B : List Ed} (hB : Fin_ I B) {e : Ed} {l : List (Int × Int)} (he : Lst I e) (h : Otl I e l) : ∃ r, l = e.p :: r := by
  obtain ⟨n, h1, rfl⟩ := h
  obtain ⟨k, rfl⟩ : ∃ k, n = k + 1 := ⟨n - 1, by have := h1.1; omega⟩
  unfold crn
  simp only [walk, List.filter_cons, he.corner hB, if_true, List.map_cons]
  exact ⟨_, rfl⟩
theorem Otl.headD {B : List Ed} (hB : Fin_ I B) {e : Ed} {l : List (Int × Int)} (he : Lst I e) (h : Otl I e l) : l.headD (0, 0) = e.p := by
  obtain ⟨r, rfl⟩ := h.head hB he; rfl
theorem pl_sorted_uniq : ∀ {a b : List (List (Int × Int))}, a.Pairwise (fun x y => pl (x.headD (0, 0)) (y.headD (0, 0))) → b.Pairwise (fun x y => pl (x.headD (0, 0)) (y.headD (0, 0))) → (∀ x, x ∈ a ↔ x ∈ b) → a = b
  | [], [], _, _, _ => rfl
  | [], y :: b, _, _, h => by have := (h y).2 (by simp); cases this
  | x :: a, [], _, _, h => by have := (h x).1 (by simp); cases this
  | x :: a, y :: b, ha, hb, h => by
    obtain ⟨a1, a2⟩ := List.pairwise_cons.1 ha
    obtain ⟨b1, b2⟩ := List.pairwise_cons.1 hb
    have hxy : x = y := by
      rcases List.mem_cons.1 ((h x).1 (by simp)) with h1 | h1
      · exact h1
      · rcases List.mem_cons.1 ((h y).2 (by simp)) with h2 | h2
        · exact h2.symm
        · exact absurd (pl_trans (a1 y h2) (b1 x h1)) (pl_irrefl _)
    subst hxy
    congr 1
    refine pl_sorted_uniq a2 b2 fun z => ⟨fun hz => ?_, fun hz => ?_⟩
    · rcases List.mem_cons.1 ((h z).1 (by simp [hz])) with h1 | h1
      · subst h1; exact absurd (a1 z hz) (pl_irrefl _)
      · exact h1
    · rcases List.mem_cons.1 ((h z).2 (by simp [hz])) with h1 | h1
      · subst h1; exact absurd (b1 z hz) (pl_irrefl _)
      · exact h1
theorem Outs.uniq {a b : List (List (Int × Int))} (ha : Outs I a) (hb : Outs I b) : a = b := by
  refine pl_sorted_uniq ha.ord hb.ord fun l => ⟨fun h => ?_, fun h => ?_⟩
  · obtain ⟨e, h1, h2⟩ := ha.is l h
    obtain ⟨m, h3, h4⟩ := hb.has e h1
    rw [h2.uniq h4]; exact h3
  · obtain ⟨e, h1, h2⟩ := hb.is l h
    obtain ⟨m, h3, h4⟩ := ha.has e h1
    rw [h2.uniq h4]; exact h3
/-- RowsB that have all sides, each once. -/
structure RowsB (I : Sq) (L : List Sd) (rs : List (List Nat)) : Prop where
  row : ∀ r ∈ rs, RowB I L r
  all : ∀ a, a < L.length → ∃ r ∈ rs, a ∈ r
  once : rs.Pairwise fun r r' => ∀ a ∈ r, a ∉ r'
theorem sd_lt {b i : Nat} (h : i < (sdAt L b).2) : b < L.length := by
  rcases Nat.lt_or_ge b L.length with h1 | h1
  · exact h1
  · have : sdAt L b = (⟨0, 0, .E⟩, 0) := by unfold sdAt; rw [List.getD_eq_getElem?_getD, List.getElem?_eq_none h1]; rfl
    rw [this] at h; cases h
theorem sd_get {b : Nat} (h : b < L.length) : L[b]? = some (sdAt L b) := by
  rw [sdAt_eq (List.getElem?_eq_getElem h)]; exact List.getElem?_eq_getElem h
theorem RowsB.heads {rs : List (List Nat)} (hL : SysB I L) (h : RowsB I L rs) : (rs.map (rowOut L)).Pairwise fun a b => a.headD (0, 0) ≠ b.headD (0, 0) := by
  obtain ⟨B, hB⟩ := hL.fin
  rw [List.pairwise_map]
  refine List.Pairwise.imp_of_mem (R := fun r r' => ∀ a ∈ r, a ∉ r') (fun {r r'} hr hr' hd heq => ?_) h.once
  obtain ⟨e, e1, e2, b, b1, i, b2, b3⟩ := rowOut_ok hL (h.row r hr)
  obtain ⟨f, f1, f2, c, c1, j, c2, c3⟩ := rowOut_ok hL (h.row r' hr')
  rw [e2.headD hB e1, f2.headD hB f1] at heq
  have := Lst.uniq hB e1 f1 heq
  subst this
  rw [b3] at c3
  have := hL.once b c _ _ (sd_get (sd_lt b2)) (sd_get (sd_lt c2)) i j b2 c2 c3
  subst this
  exact hd b b1 c1
theorem RowsB.is {rs : List (List Nat)} (hL : SysB I L) (h : RowsB I L rs) : ∀ l ∈ rs.map (rowOut L), ∃ e, Lst I e ∧ Otl I e l := fun l hl => by
  obtain ⟨r, hr, rfl⟩ := List.mem_map.1 hl
  obtain ⟨e, e1, e2, _⟩ := rowOut_ok hL (h.row r hr)
  exact ⟨e, e1, e2⟩
theorem RowsB.has {rs : List (List Nat)} (hL : SysB I L) (h : RowsB I L rs) : ∀ e, Lst I e → ∃ l ∈ rs.map (rowOut L), Otl I e l := fun e he => by
  obtain ⟨s, hs, i, hi, hse⟩ := hL.all e he.1
  obtain ⟨b, hb⟩ := List.mem_iff_getElem?.1 hs
  obtain ⟨r, hr, hbr⟩ := h.all b (List.getElem?_eq_some_iff.1 hb).1
  exact ⟨_, List.mem_map.2 ⟨r, hr, rfl⟩, rowOut_of hL (h.row r hr) he hbr (i := i) (by rw [sdAt_eq hb]; exact hi) (by rw [sdAt_eq hb]; exact hse.symm)⟩
theorem RowsB.outs {rs : List (List Nat)} {ls : List (List (Int × Int))} (hL : SysB I L) (h : RowsB I L rs) (hp : ls.Perm (rs.map (rowOut L))) (ho : ls.Pairwise fun a b => pl (a.headD (0, 0)) (b.headD (0, 0))) : Outs I ls :=
  ⟨fun l hl => h.is hL l (hp.mem_iff.1 hl), fun e he => by obtain ⟨l, h1, h2⟩ := h.has hL e he; exact ⟨l, hp.mem_iff.2 h1, h2⟩, ho⟩
/-! A border in straight stretches. -/
theorem sc_perp {e : Ed} (h : isB I e) : (sc I e).d = e.d ∨ (sc I e).d = e.d.left ∨ (sc I e).d = e.d.right := by
  rcases sc_cases h with ⟨_, h2⟩ | ⟨_, _, h2⟩ | ⟨_, _, h2⟩ <;> rw [h2] <;> simp
theorem sc_p (e : Ed) : (sc I e).p = (e.tx, e.ty) := by
  unfold sc
  by_cases h1 : lq I e.tx e.ty e.d = false
  · rw [if_pos h1]; rfl
  · rw [if_neg h1]
    by_cases h2 : lq I e.tx e.ty e.d.right = false
    · rw [if_pos h2]; rfl
    · rw [if_neg h2]; rfl
/-- Stretches, each behind the one before, that end at a step. -/
def Str (I : Sq) : List Sd → Ed → Prop
  | [], _ => True
  | s :: r, z => 0 < s.2 ∧ isC I s.1 = true ∧ (∀ i, i < s.2 → it I i s.1 = adv s.1 i) ∧ it I s.2 s.1 = (match r with | [] => z | t :: _ => t.1) ∧ Str I r z
def unit (s : Sd) : List Ed := (List.range s.2).map (adv s.1)
theorem walk_unit {s : Sd} (h : ∀ i, i < s.2 → it I i s.1 = adv s.1 i) : walk I s.2 s.1 = unit s := by
  apply List.ext_getElem?
  intro i
  by_cases hi : i < s.2
  · rw [walk_get I s.2 s.1 i hi, h i hi]
    unfold unit
    rw [List.getElem?_map, List.getElem?_range hi]; rfl
  · rw [List.getElem?_eq_none (by rw [walk_len]; omega), List.getElem?_eq_none (by unfold unit; simp; omega)]
theorem crn_str {s : Sd} (h0 : 0 < s.2) (hb : isB I s.1) (hc : isC I s.1 = true) (h : ∀ i, i < s.2 → it I i s.1 = adv s.1 i) : crn I s.2 s.1 = [s.1.p] := by
  obtain ⟨k, hk⟩ : ∃ k, s.2 = k + 1 := ⟨s.2 - 1, by omega⟩
  have h1 : (walk I k (sc I s.1)).filter (isC I) = [] := List.filter_eq_nil_iff.2 fun f hf => by
    obtain ⟨i, hi, rfl⟩ := walk_mem.1 hf
    have h1 : it I i (sc I s.1) = adv s.1 (i + 1) := h (i + 1) (by omega)
    have h2 : pd I (adv s.1 (i + 1)) = adv s.1 i := by
      rw [← h (i + 1) (by omega), ← h i (by omega), it_succ]
      exact pd_sc (it_isB hb i)
    rw [h1]
    unfold isC
    rw [h2]
    simp [adv]
  unfold crn
  rw [hk]
  simp only [walk, List.filter_cons, h1, hc, if_true]; rfl
/-- A walk from a corner to a corner is a row of stretches. -/
theorem stretches (I : Sq) : ∀ (k : Nat) (e : Ed), isB I e → isC I e = true → isC I (it I k e) = true → ∃ sl : List Sd, Str I sl (it I k e) ∧ (0 < k → ∃ m r, sl = (e, m) :: r) ∧ sl.map (fun s => s.1.p) = crn I k e ∧ walk I k e = sl.flatMap unit := by
  intro k
  induction k using Nat.strongRecOn with
  | _ k ih =>
    intro e he hc hz
    by_cases h0 : k = 0
    · subst h0
      exact ⟨[], trivial, fun h => absurd h (Nat.lt_irrefl 0), rfl, rfl⟩
    · obtain ⟨m, ⟨m1, m2⟩, m3⟩ := least_nat (p := fun n => 0 < n ∧ isC I (it I n e) = true) k ⟨by omega, hz⟩
      have mk : m ≤ k := by
        rcases Nat.lt_or_ge k m with h | h
        · exact absurd ⟨by omega, hz⟩ (m3 k h)
        · exact h
      have hstr : ∀ i, i < m → it I i e = adv e i := by
        intro i
        induction i with
        | zero => intro _; exact (adv_zero e).symm
        | succ i ihi =>
          intro hi
          have h1 := ihi (by omega)
          have h2 : isC I (it I (i + 1) e) = false := by
            cases hh : isC I (it I (i + 1) e) with
            | false => rfl
            | true => exact absurd ⟨by omega, hh⟩ (m3 (i + 1) hi)
          have hbi := it_isB he i
          have h3 : (sc I (it I i e)).d = (it I i e).d := by
            unfold isC at h2
            rw [it_succ, pd_sc hbi] at h2
            simp only [decide_eq_false_iff_not, ne_eq, Decidable.not_not] at h2
            exact h2.symm
          rw [it_succ]
          have h4 := sc_p (I := I) (it I i e)
          rw [h1] at h3 h4 ⊢
          obtain ⟨t1, t2⟩ := adv_to e i
          exact Ed.ext' ((congrArg Prod.fst h4).trans t1) ((congrArg Prod.snd h4).trans t2) h3
      obtain ⟨sl, s1, s2, s3, s4⟩ := ih (k - m) (by omega) (it I m e) (it_isB he m) m2 (by rw [← it_add, show k - m + m = k from by omega]; exact hz)
      rw [← it_add, show k - m + m = k from by omega] at s1
      have ek : k = m + (k - m) := by omega
      refine ⟨(e, m) :: sl, ⟨m1, hc, hstr, ?_, s1⟩, fun _ => ⟨m, sl, rfl⟩, ?_, ?_⟩
      · by_cases hkm : 0 < k - m
        · obtain ⟨m', r, rfl⟩ := s2 hkm; rfl
        · have : k = m := by omega
          subst this
          cases sl with
          | nil => rfl
          | cons s r =>
            exfalso
            rw [Nat.sub_self] at s3
            cases s3
      · rw [ek, crn_add, List.map_cons, s3, crn_str (s := (e, m)) m1 he hc hstr]; rfl
      · rw [ek, walk_add, s4, walk_unit (s := (e, m)) hstr]; rfl
end
end Go.Proofs.Ytacapjleiadkkaa.PX
namespace Go.Proofs.Ytacapjleiadkkaa.PX
section
variable {I : Sq}
/-- Points, each with the one behind it; behind the last comes z. -/
def nxp (z : Int × Int) : List (Int × Int) → List ((Int × Int) × (Int × Int))
  | [] => []
  | x :: r => (x, r.headD z) :: nxp z r
theorem it_end {s : Sd} (h0 : 0 < s.2) (h : ∀ i, i < s.2 → it I i s.1 = adv s.1 i) : (it I s.2 s.1).p = (adv s.1 s.2).p := by
  obtain ⟨k, hk⟩ : ∃ k, s.2 = k + 1 := ⟨s.2 - 1, by omega⟩
  rw [hk, it_succ, sc_p, h k (by omega)]
  obtain ⟨t1, t2⟩ := adv_to s.1 k
  rw [t1, t2]; rfl
theorem nxp_str : ∀ {sl : List Sd} {z : Ed}, Str I sl z → nxp z.p (sl.map fun s => s.1.p) = sl.map fun s => (s.1.p, (adv s.1 s.2).p)
  | [], _, _ => rfl
  | s :: r, z, ⟨h0, _, h2, h3, h4⟩ => by
    rw [List.map_cons, List.map_cons]
    unfold nxp
    rw [nxp_str h4]
    congr 1
    rw [Prod.mk.injEq]
    refine ⟨rfl, ?_⟩
    rw [← it_end h0 h2, h3]
    cases r with
    | nil => rfl
    | cons t r => rfl
/-- Where a step crosses a row. -/
def vx (y : Int) (e : Ed) : Option Int :=
  match e.d with
  | .N => if e.y = y then some e.x else none
  | .S => if e.y = y + 1 then some e.x else none
  | _ => none
/-- Does a side between two points cross a row? -/
def crs2 (y : Int) (s : (Int × Int) × (Int × Int)) : Bool := decide (s.1.1 = s.2.1) && (decide (min s.1.2 s.2.2 ≤ y) && decide (y < max s.1.2 s.2.2))
theorem range_one (f : Nat → Option Int) (v : Int) : ∀ (m j : Nat), (∀ i, i < m → f i = if i = j then some v else none) → (List.range m).filterMap f = if j < m then [v] else []
  | 0, j, _ => by simp
  | m + 1, j, h => by
    rw [List.range_succ, List.filterMap_append, range_one f v m j fun i hi => h i (by omega)]
    have hm := h m (by omega)
    by_cases h1 : j < m
    · rw [if_pos h1, if_pos (by omega)]
      rw [if_neg (by omega)] at hm
      simp [hm]
    · rw [if_neg h1]
      by_cases h2 : m = j
      · subst h2
        rw [if_pos rfl] at hm
        simp [hm]
      · rw [if_neg h2] at hm
        rw [if_neg (by omega)]
        simp [hm]
theorem range_none (f : Nat → Option Int) (m : Nat) (h : ∀ i, i < m → f i = none) : (List.range m).filterMap f = [] := by
  rw [List.filterMap_eq_nil_iff]
  intro i hi
  exact h i (List.mem_range.1 hi)
theorem vx_unit (y : Int) (s : Sd) (h0 : 0 < s.2) : (unit s).filterMap (vx y) = if crs2 y (s.1.p, (adv s.1 s.2).p) = true then [s.1.x] else [] := by
  unfold unit
  rw [List.filterMap_map]
  have hc : crs2 y (s.1.p, (adv s.1 s.2).p) = (decide (s.1.x = s.1.x + s.2 * s.1.d.dx) && (decide (min s.1.y (s.1.y + s.2 * s.1.d.dy) ≤ y) && decide (y < max s.1.y (s.1.y + s.2 * s.1.d.dy)))) := rfl
  rw [hc]
  cases hd : s.1.d
  · have hv : ∀ i, (vx y ∘ adv s.1) i = none := fun i => by simp only [Function.comp, vx, adv, hd]
    rw [range_none _ _ fun i _ => hv i, if_neg]
    simp [Dir.dx]; omega
  · have hv : ∀ i : Nat, (vx y ∘ adv s.1) i = if s.1.y + i = y then some s.1.x else none := fun i => by
      simp only [Function.comp, vx, adv, hd, Dir.dx, Dir.dy]
      rw [Int.mul_one, Int.mul_zero, Int.add_zero]
    simp only [Dir.dx, Dir.dy, Int.mul_zero, Int.add_zero, Int.mul_one]
    by_cases hy : s.1.y ≤ y ∧ y < s.1.y + s.2
    · rw [range_one _ s.1.x s.2 (y - s.1.y).toNat fun i _ => (hv i).trans ?_, if_pos (by omega), if_pos]
      · have h1 : min s.1.y (s.1.y + s.2) ≤ y := by omega
        have h2 : y < max s.1.y (s.1.y + s.2) := by omega
        simp [h1, h2]
      · by_cases h1 : s.1.y + i = y
        · rw [if_pos h1, if_pos (by omega)]
        · rw [if_neg h1, if_neg (by omega)]
    · rw [range_none _ _ fun i hi => (hv i).trans (if_neg (by omega)), if_neg]
      simp only [Bool.and_eq_true, decide_eq_true_eq, not_and]
      omega
  · have hv : ∀ i, (vx y ∘ adv s.1) i = none := fun i => by simp only [Function.comp, vx, adv, hd]
    rw [range_none _ _ fun i _ => hv i, if_neg]
    simp [Dir.dx]; omega
  · have hv : ∀ i : Nat, (vx y ∘ adv s.1) i = if s.1.y - i = y + 1 then some s.1.x else none := fun i => by
      simp only [Function.comp, vx, adv, hd, Dir.dx, Dir.dy]
      have e1 : s.1.y + (i : Int) * -1 = s.1.y - i := by omega
      rw [e1, Int.mul_zero, Int.add_zero]
    have e1 : ∀ n : Nat, s.1.y + (n : Int) * Dir.S.dy = s.1.y - n := fun n => by simp [Dir.dy]; omega
    rw [e1]
    simp only [Dir.dx, Int.mul_zero, Int.add_zero]
    by_cases hy : s.1.y - s.2 ≤ y ∧ y < s.1.y
    · rw [range_one _ s.1.x s.2 (s.1.y - 1 - y).toNat fun i _ => (hv i).trans ?_, if_pos (by omega), if_pos]
      · have h1 : min s.1.y (s.1.y - s.2) ≤ y := by omega
        have h2 : y < max s.1.y (s.1.y - s.2) := by omega
        simp [h1, h2]
      · by_cases h1 : s.1.y - i = y + 1
        · rw [if_pos h1, if_pos (by omega)]
        · rw [if_neg h1, if_neg (by omega)]
    · rw [range_none _ _ fun i hi => (hv i).trans (if_neg (by omega)), if_neg]
      simp only [Bool.and_eq_true, decide_eq_true_eq, not_and]
      omega
/-- What is known of a border's points. -/
structure RowL (I : Sq) (e : Ed) (n : Nat) (l : List (Int × Int)) : Prop where
  len : 4 ≤ l.length
  ax : ∀ s ∈ nxp e.p l, (s.1.1 = s.2.1) ≠ (s.1.2 = s.2.2)
  crs : ∀ y, ((nxp e.p l).filter (crs2 y)).map (·.1.1) = (walk I n e).filterMap (vx y)
  pts : ∀ p ∈ l, ∃ f, isB I f ∧ f.p = p
theorem Str.pos : ∀ {sl : List Sd} {z : Ed}, Str I sl z → ∀ s ∈ sl, 0 < s.2 ∧ isC I s.1 = true
  | s :: r, z, ⟨h0, h1, _, _, h4⟩, t, ht => by
    rcases List.mem_cons.1 ht with rfl | ht
    · exact ⟨h0, h1⟩
    · exact Str.pos h4 t ht
theorem str_cross (y : Int) : ∀ {sl : List Sd} {z : Ed}, Str I sl z → ((sl.map fun s => (s.1.p, (adv s.1 s.2).p)).filter (crs2 y)).map (·.1.1) = (sl.flatMap unit).filterMap (vx y)
  | [], _, _ => rfl
  | s :: r, z, ⟨h0, _, _, _, h4⟩ => by
    rw [List.map_cons, List.filter_cons, List.flatMap_cons, List.filterMap_append, ← str_cross y h4, vx_unit y s h0]
    by_cases hc : crs2 y (s.1.p, (adv s.1 s.2).p) = true
    · rw [if_pos hc, if_pos hc]; rfl
    · rw [if_neg hc, if_neg hc]; rfl
def sumd (f : Ed → Int) : List Ed → Int
  | [] => 0
  | e :: l => f e + sumd f l
theorem walk_sum : ∀ (n : Nat) (e : Ed), sumd (fun e => e.d.dx) (walk I n e) = (it I n e).x - e.x ∧ sumd (fun e => e.d.dy) (walk I n e) = (it I n e).y - e.y
  | 0, e => ⟨by simp [walk, sumd, it], by simp [walk, sumd, it]⟩
  | n + 1, e => by
    obtain ⟨h1, h2⟩ := walk_sum n (sc I e)
    have h3 := sc_p (I := I) e
    have h4 : (sc I e).x = e.x + e.d.dx := congrArg Prod.fst h3
    have h5 : (sc I e).y = e.y + e.d.dy := congrArg Prod.snd h3
    simp only [walk, sumd, it]
    constructor
    · rw [h1]; omega
    · rw [h2]; omega
theorem sumd_neg {f : Ed → Int} : ∀ {l : List Ed}, (∀ e ∈ l, f e ≤ 0) → (∃ e ∈ l, f e < 0) → sumd f l < 0
  | [], _, ⟨_, h, _⟩ => by cases h
  | e :: l, h, ⟨e', h1, h2⟩ => by
    have hall : ∀ {l : List Ed}, (∀ e ∈ l, f e ≤ 0) → sumd f l ≤ 0 := by
      intro l
      induction l with
      | nil => intro _; exact Int.le_refl _
      | cons a l ih =>
        intro h
        have := ih fun e he => h e (by simp [he])
        have := h a (by simp)
        simp only [sumd]; omega
    have h3 := h e (by simp)
    have h4 := hall (l := l) fun e he => h e (by simp [he])
    simp only [sumd]
    rcases List.mem_cons.1 h1 with rfl | h1
    · omega
    · have := sumd_neg (l := l) (fun e he => h e (by simp [he])) ⟨e', h1, h2⟩
      omega
theorem sumd_opp (f : Ed → Int) : ∀ l : List Ed, sumd (fun e => - f e) l = - sumd f l
  | [] => rfl
  | e :: l => by simp only [sumd]; rw [sumd_opp f l]; omega
/-- A closed walk that goes one way goes back, too. -/
theorem goes_back {n : Nat} {e : Ed} (h : it I n e = e) {f : Ed} (hf : f ∈ walk I n e) : ∃ g ∈ walk I n e, g.d = f.d.left.left := by
  obtain ⟨s1, s2⟩ := walk_sum (I := I) n e
  rw [h] at s1 s2
  have key : ∀ F : Ed → Int, sumd F (walk I n e) = 0 → F f < 0 → ∃ g ∈ walk I n e, 0 < F g := fun F hF hFf => by
    cases Classical.em (∃ g ∈ walk I n e, 0 < F g) with
    | inl h => exact h
    | inr hno =>
      have := sumd_neg (f := F) (l := walk I n e) (fun g hg => by
        have : ¬ 0 < F g := fun hh => hno ⟨g, hg, hh⟩
        omega) ⟨f, hf, hFf⟩
      omega
  have s1' : sumd (fun e => e.d.dx) (walk I n e) = 0 := by omega
  have s2' : sumd (fun e => e.d.dy) (walk I n e) = 0 := by omega
  have o1 : sumd (fun e => - e.d.dx) (walk I n e) = 0 := by rw [sumd_opp]; omega
  have o2 : sumd (fun e => - e.d.dy) (walk I n e) = 0 := by rw [sumd_opp]; omega
  cases hd : f.d
  · obtain ⟨g, hg, hp⟩ := key (fun e => - e.d.dx) o1 (by show - f.d.dx < 0; rw [hd]; decide)
    refine ⟨g, hg, ?_⟩
    have hp : 0 < - g.d.dx := hp
    cases hgd : g.d <;> rw [hgd] at hp <;> first | rfl | (simp [Dir.dx] at hp)
  · obtain ⟨g, hg, hp⟩ := key (fun e => - e.d.dy) o2 (by show - f.d.dy < 0; rw [hd]; decide)
    refine ⟨g, hg, ?_⟩
    have hp : 0 < - g.d.dy := hp
    cases hgd : g.d <;> rw [hgd] at hp <;> first | rfl | (simp [Dir.dy] at hp)
  · obtain ⟨g, hg, hp⟩ := key (fun e => e.d.dx) s1' (by show f.d.dx < 0; rw [hd]; decide)
    refine ⟨g, hg, ?_⟩
    have hp : 0 < g.d.dx := hp
    cases hgd : g.d <;> rw [hgd] at hp <;> first | rfl | (simp [Dir.dx] at hp)
  · obtain ⟨g, hg, hp⟩ := key (fun e => e.d.dy) s2' (by show f.d.dy < 0; rw [hd]; decide)
    refine ⟨g, hg, ?_⟩
    have hp : 0 < g.d.dy := hp
    cases hgd : g.d <;> rw [hgd] at hp <;> first | rfl | (simp [Dir.dy] at hp)
theorem pd_mem {n : Nat} {e : Ed} (he : isB I e) (h : Per I e n) : pd I e ∈ walk I n e := by
  refine walk_mem.2 ⟨n - 1, by have := h.1; omega, ?_⟩
  have h1 : sc I (it I (n - 1) e) = e := by rw [← it_succ, show n - 1 + 1 = n from by have := h.1; omega, h.2.1]
  have h2 := pd_sc (it_isB he (n - 1))
  rw [h1] at h2; exact h2.symm
theorem four_dirs {l : List Dir} (h : ∀ d : Dir, d ∈ l) : 4 ≤ l.length := by
  have := nodup_len (l := [Dir.E, .N, .W, .S]) (m := l) (by decide) fun d _ => h d
  simpa using this
theorem row_ok {B : List Ed} (hB : Fin_ I B) {e : Ed} (he : Lst I e) {n : Nat} (hn : Per I e n) : RowL I e n (crn I n e) := by
  obtain ⟨sl, s1, s2, s3, s4⟩ := stretches I n e he.1 (he.corner hB) (by rw [hn.2.1]; exact he.corner hB)
  rw [hn.2.1] at s1
  have hnx : nxp e.p (crn I n e) = sl.map fun s => (s.1.p, (adv s.1 s.2).p) := by rw [← s3]; exact nxp_str s1
  have hdirs : ∀ d : Dir, d ∈ sl.map fun s => s.1.d := by
    have mem : ∀ f ∈ walk I n e, f.d ∈ sl.map fun s => s.1.d := fun f hf => by
      rw [s4] at hf
      obtain ⟨s, hs, hf⟩ := List.mem_flatMap.1 hf
      unfold unit at hf
      obtain ⟨i, _, rfl⟩ := List.mem_map.1 hf
      exact List.mem_map.2 ⟨s, hs, rfl⟩
    have m1 : e ∈ walk I n e := walk_mem.2 ⟨0, hn.1, rfl⟩
    have m2 := pd_mem he.1 hn
    obtain ⟨g1, k1, k2⟩ := goes_back hn.2.1 m1
    obtain ⟨g2, k3, k4⟩ := goes_back hn.2.1 m2
    have q1 := mem _ m1
    have q2 := mem _ m2
    have q3 := mem _ k1
    have q4 := mem _ k3
    rw [k2] at q3
    rw [k4] at q4
    rcases he.ways hB with ⟨w1, w2⟩ | ⟨w1, w2⟩ <;> rw [w1] at q1 q3 <;> rw [w2] at q2 q4 <;> intro d <;> cases d <;> assumption
  refine ⟨?_, fun s hs => ?_, fun y => ?_, fun p hp => ?_⟩
  · have := four_dirs hdirs
    rw [List.length_map] at this
    rw [← s3, List.length_map]; exact this
  · rw [hnx] at hs
    obtain ⟨t, ht, rfl⟩ := List.mem_map.1 hs
    have h0 := (s1.pos t ht).1
    show (t.1.x = t.1.x + t.2 * t.1.d.dx) ≠ (t.1.y = t.1.y + t.2 * t.1.d.dy)
    cases t.1.d <;> simp only [Dir.dx, Dir.dy] <;> intro hh
    · have : t.1.x = t.1.x + (t.2 : Int) * 1 := by rw [hh]; omega
      omega
    · have : t.1.y = t.1.y + (t.2 : Int) * 1 := by rw [← hh]; omega
      omega
    · have : t.1.x = t.1.x + (t.2 : Int) * -1 := by rw [hh]; omega
      omega
    · have : t.1.y = t.1.y + (t.2 : Int) * -1 := by rw [← hh]; omega
      omega
  · rw [hnx, str_cross y s1, ← s4]
  · unfold crn at hp
    obtain ⟨f, hf, rfl⟩ := List.mem_map.1 hp
    obtain ⟨i, _, rfl⟩ := walk_mem.1 (List.mem_filter.1 hf).1
    exact ⟨_, it_isB he.1 i, rfl⟩
end
end Go.Proofs.Ytacapjleiadkkaa.PX
namespace Go.Proofs.Ytacapjleiadkkaa.PX
section
variable {I : Sq}
/-- How many numbers lie at or before one. -/
def cl (x : Int) (l : List Int) : Nat := (l.filter fun z => decide (z ≤ x)).length
theorem cl_append (x : Int) (l m : List Int) : cl x (l ++ m) = cl x l + cl x m := by unfold cl; rw [List.filter_append, List.length_append]
theorem cl_succ {l : List Int} (hn : l.Nodup) (x : Int) : cl (x + 1) l = cl x l + if x + 1 ∈ l then 1 else 0 := by
  induction l with
  | nil => rfl
  | cons a l ih =>
    obtain ⟨h1, h2⟩ := List.nodup_cons.1 hn
    have hc : ∀ z, cl z (a :: l) = (if a ≤ z then 1 else 0) + cl z l := fun z => by
      unfold cl
      rw [List.filter_cons]
      by_cases h : a ≤ z
      · rw [if_pos (decide_eq_true h), if_pos h, List.length_cons]; omega
      · rw [if_neg (by simpa using h), if_neg h]; omega
    rw [hc, hc, ih h2]
    by_cases ha : a = x + 1
    · subst ha
      rw [if_pos (Int.le_refl _), if_neg (show ¬ x + 1 ≤ x by omega), if_neg h1, if_pos (List.mem_cons_self)]; omega
    · have : (x + 1 ∈ a :: l) ↔ x + 1 ∈ l := by rw [List.mem_cons]; exact ⟨fun h => h.resolve_left (fun h => ha h.symm), .inr⟩
      simp only [this]
      by_cases h3 : a ≤ x
      · rw [if_pos h3, if_pos (by omega)]; omega
      · rw [if_neg h3, if_neg (by omega)]; omega
/-- Where a row changes tells what it holds. -/
theorem parity {f : Int → Bool} {V : List Int} (hn : V.Nodup) (hV : ∀ x, x ∈ V ↔ f (x - 1) ≠ f x) {lo : Int} (hlo : ∀ x, x ≤ lo → f x = false) : ∀ x, (cl x V % 2 = 1) ↔ f x = true := by
  have base : ∀ x, x ≤ lo → cl x V = 0 := fun x hx => by
    unfold cl
    rw [List.filter_eq_nil_iff.2]; rfl
    intro v hv
    have h1 := (hV v).1 hv
    simp only [decide_eq_true_eq]
    intro h2
    exact h1 (by rw [hlo v (by omega), hlo (v - 1) (by omega)])
  have step : ∀ k : Nat, (cl (lo + k) V % 2 = 1) ↔ f (lo + k) = true := by
    intro k
    induction k with
    | zero => rw [base _ (by omega), hlo _ (by omega)]; simp
    | succ k ih =>
      have e1 : lo + ((k + 1 : Nat) : Int) = lo + k + 1 := by omega
      rw [e1, cl_succ hn]
      have h1 := hV (lo + k + 1)
      rw [show lo + (k : Int) + 1 - 1 = lo + k from by omega] at h1
      by_cases h2 : lo + (k : Int) + 1 ∈ V
      · rw [if_pos h2]
        have h3 := h1.1 h2
        cases ha : f (lo + k) <;> cases hb : f (lo + k + 1) <;> simp only [ha, hb] at ih h3 ⊢ <;> simp at ih h3 ⊢ <;> omega
      · rw [if_neg h2, Nat.add_zero, ih]
        have h3 : f (lo + k) = f (lo + k + 1) := by
          cases Classical.em (f (lo + k) = f (lo + k + 1)) with
          | inl h => exact h
          | inr h => exact absurd (h1.2 h) h2
        rw [h3]
  intro x
  by_cases hx : x ≤ lo
  · rw [base x hx, hlo x hx]; simp
  · have := step (x - lo).toNat
    rw [show lo + ((x - lo).toNat : Int) = x from by omega] at this
    exact this
/-- The steps that cross a row, as numbers: where it changes. -/
theorem vx_iff {y x : Int} : (∃ e, isB I e ∧ vx y e = some x) ↔ I (x - 1) y ≠ I x y := by
  constructor
  · rintro ⟨⟨a, b, d⟩, ⟨h1, h2⟩, h3⟩
    unfold vx at h3
    cases d <;> simp only at h3 h1 h2
    · cases h3
    · split at h3
      · rename_i hb
        have := Option.some.inj h3
        subst this; subst hb
        simp only [lq, Dir.right] at h1 h2
        rw [h1, h2]; simp
      · cases h3
    · cases h3
    · split at h3
      · rename_i hb
        have := Option.some.inj h3
        subst this; subst hb
        simp only [lq, Dir.right] at h1 h2
        rw [show y + 1 - 1 = y from by omega] at h1 h2
        rw [h1, h2]; simp
      · cases h3
  · intro h
    cases h1 : I x y
    · cases h2 : I (x - 1) y
      · rw [h1, h2] at h; exact absurd rfl h
      · exact ⟨⟨x, y, .N⟩, ⟨h2, h1⟩, by simp [vx]⟩
    · cases h2 : I (x - 1) y
      · refine ⟨⟨x, y + 1, .S⟩, ⟨?_, ?_⟩, by simp [vx]⟩
        · show I x (y + 1 - 1) = true
          rw [show y + 1 - 1 = y from by omega]; exact h1
        · show I (x - 1) (y + 1 - 1) = false
          rw [show y + 1 - 1 = y from by omega]; exact h2
      · rw [h1, h2] at h; exact absurd rfl h
theorem vx_inj {y x : Int} {e f : Ed} (he : isB I e) (hf : isB I f) (h1 : vx y e = some x) (h2 : vx y f = some x) : e = f := by
  obtain ⟨a, b, d⟩ := e
  obtain ⟨a', b', d'⟩ := f
  obtain ⟨e1, e2⟩ := he
  obtain ⟨f1, f2⟩ := hf
  unfold vx at h1 h2
  cases d <;> cases d' <;> simp only at h1 h2 e1 e2 f1 f2
  all_goals first | (cases h1; done) | (cases h2; done) | skip
  all_goals
    split at h1
    case isFalse => cases h1
    split at h2
    case isFalse => cases h2
    rename_i hb hb'
    have g1 := Option.some.inj h1
    have g2 := Option.some.inj h2
    subst g1
    subst g2
    first
    | (have : b = b' := by omega
       subst this; rfl)
    | (exfalso
       subst hb; subst hb'
       simp only [lq, Dir.right] at e1 e2 f1 f2
       simp only [Int.add_sub_cancel] at e1 e2 f1 f2
       rw [e1] at f2; cases f2)
theorem nodup_filterMap {α β : Type} {f : α → Option β} : ∀ {l : List α}, l.Nodup → (∀ a ∈ l, ∀ b ∈ l, ∀ x, f a = some x → f b = some x → a = b) → (l.filterMap f).Nodup
  | [], _, _ => by simp
  | a :: l, hn, h => by
    obtain ⟨h1, h2⟩ := List.nodup_cons.1 hn
    have ih := nodup_filterMap h2 fun x hx y hy => h x (by simp [hx]) y (by simp [hy])
    rw [List.filterMap_cons]
    cases hf : f a with
    | none => exact ih
    | some x =>
      refine List.nodup_cons.2 ⟨fun hx => ?_, ih⟩
      obtain ⟨b, hb, hbx⟩ := List.mem_filterMap.1 hx
      have := h a (by simp) b (by simp [hb]) x hf hbx
      subst this
      exact h1 hb
/-- The walks of all borders: each step of the border once. -/
theorem Outs.steps {B : List Ed} (hB : Fin_ I B) : ∀ {ls : List (List (Int × Int))}, (∀ l ∈ ls, ∃ e, Lst I e ∧ Otl I e l) → (ls.Pairwise fun a b => pl (a.headD (0, 0)) (b.headD (0, 0))) →
    ∃ ws : List (List Ed), ws.length = ls.length ∧ ws.flatten.Nodup ∧ (∀ (i : Nat) (l : List (Int × Int)) (w : List Ed), ls[i]? = some l → ws[i]? = some w → ∃ e n, Lst I e ∧ Per I e n ∧ l = crn I n e ∧ w = walk I n e ∧ RowL I e n l) ∧
      (∀ f ∈ ws.flatten, ∃ l ∈ ls, ∃ e n, Lst I e ∧ Per I e n ∧ l = crn I n e ∧ f ∈ walk I n e) ∧ ∀ l ∈ ls, ∀ e n, Lst I e → Per I e n → l = crn I n e → ∀ f ∈ walk I n e, f ∈ ws.flatten
  | [], _, _ => ⟨[], rfl, by simp, fun i l w h => by simp at h, fun f hf => by simp at hf, fun l hl => by cases hl⟩
  | l :: ls, h, hp => by
    obtain ⟨p1, p2⟩ := List.pairwise_cons.1 hp
    obtain ⟨ws, w1, w2, w3, w4, w5⟩ := Outs.steps hB (ls := ls) (fun l hl => h l (by simp [hl])) p2
    obtain ⟨e, he, n, hn, hl⟩ := h l (by simp)
    have head : ∀ {e n} {l : List (Int × Int)}, Lst I e → Per I e n → l = crn I n e → l.headD (0, 0) = e.p := fun he hn hl => Otl.headD hB he ⟨_, hn, hl⟩
    refine ⟨walk I n e :: ws, by simp [w1], ?_, fun i l' w hi hw => ?_, fun f hf => ?_, fun l' hl' e' n' he' hn' hle f hf => ?_⟩
    · rw [List.flatten_cons]
      refine List.nodup_append.2 ⟨hn.nodup he.1, w2, fun a ha b hb hab => ?_⟩
      subst hab
      obtain ⟨l', hl', e', n', he', hn', hle, hf⟩ := w4 a hb
      obtain ⟨i, hi, rfl⟩ := walk_mem.1 ha
      obtain ⟨j, hj, hij⟩ := walk_mem.1 hf
      have g1 : it I (i + (n' - j)) e = e' := by
        rw [Nat.add_comm, it_add, ← hij, ← it_add, show n' - j + j = n' from by omega, hn'.2.1]
      have g2 : it I (j + (n - i)) e' = e := by
        rw [Nat.add_comm, it_add, hij, ← it_add, show n - i + i = n from by omega, hn.2.1]
      have hpe : e.p = e'.p := by
        have q1 := he.2 (i + (n' - j))
        rw [g1] at q1
        have q2 := he'.2 (j + (n - i))
        rw [g2] at q2
        rcases pl_total e.p e'.p with h5 | h5 | h5
        · exact absurd h5 q2
        · exact h5
        · exact absurd h5 q1
      have := p1 l' hl'
      rw [head he hn hl, head he' hn' hle, hpe] at this
      exact pl_irrefl _ this
    · cases i with
      | zero =>
        simp at hi hw
        subst hi; subst hw
        exact ⟨e, n, he, hn, hl, rfl, by rw [hl]; exact row_ok hB he hn⟩
      | succ i =>
        simp at hi hw
        exact w3 i l' w hi hw
    · rw [List.flatten_cons] at hf
      rcases List.mem_append.1 hf with hf | hf
      · exact ⟨l, by simp, e, n, he, hn, hl, hf⟩
      · obtain ⟨l', hl', r⟩ := w4 f hf
        exact ⟨l', by simp [hl'], r⟩
    · rw [List.flatten_cons]
      rcases List.mem_cons.1 hl' with rfl | hl'
      · have q1 := head he hn hl
        have q2 := head he' hn' hle
        have := Lst.uniq hB he he' (by rw [← q1, ← q2])
        subst this
        rw [hn.uniq hn']
        exact List.mem_append_left _ hf
      · exact List.mem_append_right _ (w5 l' hl' e' n' he' hn' hle f hf)
/-- The points of a border, closed, by the sides that cross a row. -/
def crx (y : Int) (l : List (Int × Int)) : List Int := ((nxp (l.headD (0, 0)) l).filter (crs2 y)).map (·.1.1)
theorem Outs.cross {B : List Ed} (hB : Fin_ I B) {ls : List (List (Int × Int))} (h : Outs I ls) (hfin : ∀ y, ∃ lo, ∀ x, x ≤ lo → I x y = false) (x y : Int) : (cl x (ls.flatMap (crx y)) % 2 = 1) ↔ I x y = true := by
  obtain ⟨ws, w1, w2, w3, w4, w5⟩ := Outs.steps hB h.is h.ord
  have e1 : ls.flatMap (crx y) = ws.flatten.filterMap (vx y) := by
    rw [List.filterMap_flatten]
    have : ls.map (crx y) = ws.map (List.filterMap (vx y)) := by
      apply List.ext_getElem?
      intro i
      rw [List.getElem?_map, List.getElem?_map]
      by_cases hi : i < ls.length
      · have hi' : i < ws.length := by omega
        rw [List.getElem?_eq_getElem hi, List.getElem?_eq_getElem hi']
        obtain ⟨e, n, he, hn, hl, hw, hr⟩ := w3 i _ _ (List.getElem?_eq_getElem hi) (List.getElem?_eq_getElem hi')
        simp only [Option.map_some]
        congr 1
        rw [hw, ← hr.crs y]
        unfold crx
        rw [Otl.headD hB he ⟨n, hn, hl⟩]
      · rw [List.getElem?_eq_none (by omega), List.getElem?_eq_none (by omega)]; rfl
    rw [List.flatMap_def, this]
  rw [e1]
  have hall : ∀ f, isB I f ↔ f ∈ ws.flatten := fun f => ⟨fun hf => by
    obtain ⟨n, hn⟩ := per hB hf
    obtain ⟨j, hj, hl⟩ := has_lst hf hn
    obtain ⟨l, hl1, m, hm, hl2⟩ := h.has _ hl
    refine w5 l hl1 _ m hl hm hl2 f (walk_mem.2 ⟨(n - j) % n, ?_, ?_⟩)
    · have := (hn.shift hf j).uniq hm
      rw [← this]; exact Nat.mod_lt _ hn.1
    · rw [← (hn.shift hf j).mod, ← it_add, show n - j + j = n from by omega, hn.2.1], fun hf => by
    obtain ⟨l, _, e, n, he, _, _, hf⟩ := w4 f hf
    obtain ⟨i, _, rfl⟩ := walk_mem.1 hf
    exact it_isB he.1 i⟩
  obtain ⟨lo, hlo⟩ := hfin y
  refine parity (f := fun x => I x y) (nodup_filterMap w2 fun a ha b hb z h1 h2 => vx_inj ((hall a).2 ha) ((hall b).2 hb) h1 h2) (fun z => ?_) hlo x
  rw [List.mem_filterMap, ← vx_iff]
  exact ⟨fun ⟨e, he, hz⟩ => ⟨e, (hall e).2 he, hz⟩, fun ⟨e, he, hz⟩ => ⟨e, (hall e).1 he, hz⟩⟩
end
end Go.Proofs.Ytacapjleiadkkaa.PX
namespace Go.Proofs.Ytacapjleiadkkaa
open PX
def toPt (p : Int × Int) : TPoint := ⟨p.1, p.2⟩
def ofPt (p : TPoint) : Int × Int := (p.X, p.Y)
theorem ofPt_to (p : Int × Int) : ofPt (toPt p) = p := rfl
theorem toPt_of (p : TPoint) : toPt (ofPt p) = p := rfl
/-- The point behind a side. -/
def endP (s : Sd) : Int × Int := (adv s.1 s.2).p
def toS (s : Sd) : TSide := ⟨toPt s.1.p, toPt (endP s)⟩
def dirT (d : Dir) : TPoint := ⟨d.dx, d.dy⟩
theorem dirT_inj {d e : Dir} (h : dirT d = dirT e) : d = e := by
  have h1 := congrArg TPoint.X h
  have h2 := congrArg TPoint.Y h
  cases d <;> cases e <;> first | rfl | (simp [dirT, Dir.dx] at h1; done) | (simp [dirT, Dir.dy] at h2; done) | (simp [dirT, Dir.dx, Dir.dy] at h1 h2)
/-- Coordinates within limits. -/
def Lim (p : Int × Int) : Prop := (-1000000000 ≤ p.1 ∧ p.1 ≤ 1000000000) ∧ (-1000000000 ≤ p.2 ∧ p.2 ≤ 1000000000)
structure LimS (L : List Sd) : Prop where
  len : L.length ≤ 100000000
  pts : ∀ s ∈ L, Lim s.1.p ∧ Lim (endP s)
theorem sgn1 {n : Nat} (h : 0 < n) : min 1 (max (-1) ((n : Int) * 1)) = 1 := by omega
theorem sgn2 {n : Nat} (h : 0 < n) : min 1 (max (-1) ((n : Int) * -1)) = -1 := by omega
theorem dir_ok {s : Sd} (h : 0 < s.2) (hl : Lim s.1.p ∧ Lim (endP s)) : F_shape_side__direction (toS s) = some (dirT s.1.d) := by
  obtain ⟨⟨l1, l2⟩, l3, l4⟩ := hl
  have ex : (endP s).1 = s.1.x + s.2 * s.1.d.dx := rfl
  have ey : (endP s).2 = s.1.y + s.2 * s.1.d.dy := rfl
  have e1 : (toS s).to_.X - (toS s).from_.X = s.2 * s.1.d.dx := by show (endP s).1 - s.1.x = _; rw [ex]; omega
  have e2 : (toS s).to_.Y - (toS s).from_.Y = s.2 * s.1.d.dy := by show (endP s).2 - s.1.y = _; rw [ey]; omega
  have hx : s.1.p.1 = s.1.x := rfl
  have hy : s.1.p.2 = s.1.y := rfl
  unfold F_shape_side__direction F_shape_side__direction_1
  rw [e1, e2, w64_id (by omega) (by omega), w64_id (by omega) (by omega), Option.bind_some, Option.bind_some]
  congr 1
  unfold dirT
  cases hd : s.1.d <;> simp only [Dir.dx, Dir.dy, Int.mul_zero] <;> first | rw [sgn1 h]; rfl | rw [sgn2 h]; rfl
theorem less_ok (p q : Int × Int) : F_shape_less (toPt p) (toPt q) = some (decide (pl p q)) := by
  unfold F_shape_less
  congr 1
  rw [Bool.eq_iff_iff, decide_eq_true_eq]
  unfold pl toPt
  simp
theorem eqPt (p q : Int × Int) : eqTPoint (toPt p) (toPt q) = decide (p = q) := by
  rw [Bool.eq_iff_iff, eqTPoint_iff]
  unfold toPt
  simp [Prod.ext_iff]
theorem eqDir (d e : Dir) : eqTPoint (dirT d) (dirT e) = decide (d = e) := by
  rw [Bool.eq_iff_iff, eqTPoint_iff, decide_eq_true_eq]
  exact ⟨dirT_inj, fun h => by rw [h]⟩
/-! The corners of a row. -/
theorem cns_append (L : List Sd) : ∀ (q r : List Nat) (d : Dir), cns L d (q ++ r) = cns L d q ++ cns L ((q.map fun a => (sdAt L a).1.d).getLastD d) r
  | [], r, d => rfl
  | a :: q, r, d => by
    simp only [List.cons_append, cns]
    have hl : ((a :: q).map fun a => (sdAt L a).1.d).getLastD d = (q.map fun a => (sdAt L a).1.d).getLastD (sdAt L a).1.d := by cases q <;> rfl
    rw [hl]
    split
    · rw [cns_append L q r]; rfl
    · exact cns_append L q r _
theorem cns_len (L : List Sd) : ∀ (q : List Nat) (d : Dir), (cns L d q).length ≤ q.length
  | [], _ => Nat.le_refl _
  | a :: q, d => by
    have := cns_len L q (sdAt L a).1.d
    simp only [cns]
    split <;> simp only [List.length_cons] <;> omega
theorem cns_snoc (L : List Sd) (q : List Nat) (a : Nat) (d : Dir) : cns L d (q ++ [a]) = cns L d q ++ (if ((q.map fun a => (sdAt L a).1.d).getLastD d) ≠ (sdAt L a).1.d then [(sdAt L a).1.p] else []) := by
  rw [cns_append]
  congr 1
theorem fl_lt : ∀ (l : List (Int × Int)) (b : Nat × (Int × Int)) (i n : Nat), b.1 < n → i + l.length ≤ n → fl l b i < n
  | [], b, i, n, h, _ => h
  | p :: l, b, i, n, h, h' => by
    simp only [List.length_cons] at h'
    unfold fl
    split
    · exact fl_lt l (i, p) (i + 1) n (by show i < n; omega) (by omega)
    · exact fl_lt l b (i + 1) n h (by omega)
/-- What the loop for the least corner does behind it. -/
def rotK (c : List TPoint) (k : Nat) : Option (List TPoint) :=
  (cut c (k : Int) (c.length : Int)).bind fun l138 => (Proofs.Ytacapjleiadkkaa.pre c (k : Int)).bind fun l139 => (F_slices_Concat_Point [l138, l139]).bind fun y143 => some y143
theorem least_loop (c : List (Int × Int)) (hc : c.length ≤ 100000000) : ∀ (suf q : List (Int × Int)) (m : Nat) (p : Int × Int), c = q ++ suf → c[m]? = some p → F_shape_corners_L2 (c.map toPt) (suf.map toPt) q.length (m : Int) = rotK (c.map toPt) (fl suf (m, p) q.length)
  | [], q, m, p, h, hm => by
    show F_shape_corners_L2 _ [] _ _ = _
    rw [F_shape_corners_L2.eq_1]; rfl
  | x :: suf, q, m, p, h, hm => by
    show F_shape_corners_L2 _ (toPt x :: suf.map toPt) _ _ = _
    have hid : idx (c.map toPt) (m : Int) = some (toPt p) := by
      unfold idx
      rw [if_pos (by omega), Int.toNat_natCast, List.getElem?_map, hm]; rfl
    have hx : c[q.length]? = some x := by rw [h]; simp
    have e1 := least_loop c hc suf (q ++ [x]) q.length x (by rw [h]; simp) hx
    have e2 := least_loop c hc suf (q ++ [x]) m p (by rw [h]; simp) hm
    rw [List.length_append] at e1 e2
    rw [F_shape_corners_L2.eq_2, hid, Option.bind_some, less_ok, Option.bind_some]
    unfold fl
    by_cases hp : pl x p
    · rw [if_pos (by simpa using hp), if_pos hp]; exact e1
    · rw [if_neg (by simpa using hp), if_neg hp]; exact e2
theorem concat2 {a b : List TPoint} (h : a.length + b.length ≤ 100000000) : F_slices_Concat_Point [a, b] = some (a ++ b) := by
  unfold F_slices_Concat_Point
  have e1 : w64 (0 + (a.length : Int)) = a.length := by rw [w64_id (by omega) (by omega)]; omega
  have e2 : w64 ((a.length : Int) + (b.length : Int)) = (a.length : Int) + b.length := w64_id (by omega) (by omega)
  rw [F_slices_Concat_Point_L1.eq_2, e1, if_neg (by simp), F_slices_Concat_Point_L1.eq_2, e2, if_neg (by simp; omega), F_slices_Concat_Point_L1.eq_1]
  have e3 : (grN ((a.length : Int) + b.length) : Option (List TPoint)) = some [] := if_pos ⟨by omega, by omega⟩
  rw [e3, Option.bind_some, F_slices_Concat_Point_L2.eq_2, apd_ok (by simp; omega), Option.bind_some, F_slices_Concat_Point_L2.eq_2, apd_ok (by simp; omega), Option.bind_some, F_slices_Concat_Point_L2.eq_1]
  simp
theorem rotK_ok {c : List TPoint} {k : Nat} (hc : c.length ≤ 100000000) (hk : k ≤ c.length) : rotK c k = some (c.drop k ++ c.take k) := by
  unfold rotK
  have e1 : cut c (k : Int) (c.length : Int) = some (c.drop k) := by
    unfold cut
    rw [if_pos (by omega)]
    simp
  have e2 : Proofs.Ytacapjleiadkkaa.pre c (k : Int) = some (c.take k) := by
    unfold Proofs.Ytacapjleiadkkaa.pre
    rw [if_pos (by omega)]
    simp
  rw [e1, e2, Option.bind_some, Option.bind_some, concat2 (by simp; omega)]; rfl
/-- The corners of a row of sides: as far as the turns go. -/
theorem turns_loop {I : Sq} {L : List Sd} (hL : SysB I L) (hb : LimS L) (row : List Nat) (hr : ∀ a ∈ row, a < L.length) (hlen : row.length ≤ 100000000) : ∀ (suf q : List Nat), row = q ++ suf →
    F_shape_corners_L1 (row.map fun a => toS (sdAt L a)) (suf.map fun a => toS (sdAt L a)) q.length ((cns L (sdAt L (row.getLastD 0)).1.d q).map toPt) = F_shape_corners_L2 ((cns L (sdAt L (row.getLastD 0)).1.d row).map toPt) ((cns L (sdAt L (row.getLastD 0)).1.d row).map toPt) 0 0
  | [], q, h => by
    rw [List.append_nil] at h
    subst h
    show F_shape_corners_L1 _ [] _ _ = _
    rw [F_shape_corners_L1.eq_1]
  | a :: suf, q, h => by
    have hdir : ∀ b ∈ row, F_shape_side__direction (toS (sdAt L b)) = some (dirT (sdAt L b).1.d) := fun b hb' => by
      have hg := sd_get (hr b hb')
      have hm := List.mem_of_getElem? hg
      exact dir_ok (hL.pos _ hm) (hb.pts _ hm)
    have hql : q.length ≤ 100000000 := by rw [h] at hlen; simp at hlen; omega
    have hn : 0 < row.length := by rw [h]; simp; omega
    -- the side before
    have hprev : ∃ b ∈ row, (md (w64 ((w64 ((q.length : Int) + ((row.map fun a => toS (sdAt L a)).length : Int))) - 1)) ((row.map fun a => toS (sdAt L a)).length : Int)).bind (fun q150 => idx (row.map fun a => toS (sdAt L a)) q150) = some (toS (sdAt L b)) ∧ (sdAt L b).1.d = (q.map fun a => (sdAt L a).1.d).getLastD (sdAt L (row.getLastD 0)).1.d := by
      rw [List.length_map, w64_id (x := (q.length : Int) + row.length) (by omega) (by omega), w64_id (by omega) (by omega)]
      have hmd : md ((q.length : Int) + row.length - 1) row.length = some (Int.tmod ((q.length : Int) + row.length - 1) row.length) := by unfold md; rw [if_neg (by omega)]
      rw [hmd, Option.bind_some]
      rcases List.eq_nil_or_concat q with hq | ⟨q', b, hq⟩
      · subst hq
        have e1 : Int.tmod ((([] : List Nat).length : Int) + row.length - 1) row.length = ((row.length - 1 : Nat) : Int) := by
          rw [Int.tmod_eq_emod_of_nonneg (by simp; omega), List.length_nil, Int.emod_eq_of_lt (by omega) (by omega)]; omega
        have hne : row ≠ [] := by rw [h]; simp
        have hlast : row[row.length - 1]? = some (row.getLastD 0) := by
          rw [List.getLastD_eq_getLast?, List.getLast?_eq_getElem?]
          rw [List.getElem?_eq_getElem (by omega)]; rfl
        refine ⟨row.getLastD 0, List.mem_of_getElem? hlast, ?_, rfl⟩
        rw [e1]
        unfold idx
        rw [if_pos (by omega), Int.toNat_natCast, List.getElem?_map, hlast]; rfl
      · rw [List.concat_eq_append] at hq
        subst hq
        have e1 : Int.tmod (((q' ++ [b]).length : Int) + row.length - 1) row.length = (q'.length : Int) := by
          have : ((q' ++ [b]).length : Int) + row.length - 1 = (q'.length : Int) + row.length := by simp; omega
          rw [this, Int.tmod_eq_emod_of_nonneg (by omega), Int.add_emod_right, Int.emod_eq_of_lt (by omega) (by rw [h]; simp; omega)]
        have hb2 : row[q'.length]? = some b := by rw [h]; simp
        refine ⟨b, List.mem_of_getElem? hb2, ?_, by simp⟩
        rw [e1]
        unfold idx
        rw [if_pos (by omega), Int.toNat_natCast, List.getElem?_map, hb2]; rfl
    obtain ⟨b, hb1, hb2, hb3⟩ := hprev
    have ih := turns_loop hL hb row hr hlen suf (q ++ [a]) (by rw [h]; simp)
    rw [List.length_append, cns_snoc] at ih
    show F_shape_corners_L1 _ (toS (sdAt L a) :: suf.map _) _ _ = _
    rw [F_shape_corners_L1.eq_2, hdir a (by rw [h]; simp), Option.bind_some]
    obtain ⟨q150, hq1, hq2⟩ := Option.bind_eq_some_iff.1 hb2
    rw [hq1, Option.bind_some, hq2, Option.bind_some, hdir b hb1, Option.bind_some, eqDir, hb3]
    have hcl := cns_len L q (sdAt L (row.getLastD 0)).1.d
    generalize (q.map fun a => (sdAt L a).1.d).getLastD (sdAt L (row.getLastD 0)).1.d = dp at ih ⊢
    generalize cns L (sdAt L (row.getLastD 0)).1.d q = cq at ih hcl ⊢
    by_cases hd : dp = (sdAt L a).1.d
    · rw [if_neg (by simp [hd])]
      rw [if_neg (by simpa using hd), List.append_nil] at ih
      exact ih
    · rw [if_pos (by simp; exact fun hh => hd hh.symm)]
      rw [if_pos hd, List.map_append] at ih
      rw [apd_ok (by rw [List.length_map]; simp; omega), Option.bind_some]
      exact ih
theorem corners_ok {I : Sq} {L : List Sd} (hL : SysB I L) (hb : LimS L) {row : List Nat} (hr : ∀ a ∈ row, a < L.length) (hlen : row.length ≤ 100000000) (hne : cns L (sdAt L (row.getLastD 0)).1.d row ≠ []) : F_shape_corners (row.map fun a => toS (sdAt L a)) = some ((rowOut L row).map toPt) := by
  unfold F_shape_corners
  have h1 := turns_loop hL hb row hr hlen row [] rfl
  rw [List.length_nil] at h1
  have h0 : (cns L (sdAt L (row.getLastD 0)).1.d []).map toPt = [] := rfl
  rw [h0] at h1
  rw [h1]
  unfold rowOut lr
  have hcl := cns_len L row (sdAt L (row.getLastD 0)).1.d
  generalize cns L (sdAt L (row.getLastD 0)).1.d row = c at hne hcl
  obtain ⟨p, r, rfl⟩ := List.exists_cons_of_ne_nil hne
  have h2 := least_loop (p :: r) (by omega) (p :: r) [] 0 p rfl rfl
  rw [List.length_nil] at h2
  have e0 : ((0 : Nat) : Int) = 0 := rfl
  rw [e0] at h2
  rw [h2]
  have hk := fl_lt (p :: r) (0, p) 0 (p :: r).length (by simp) (by simp)
  rw [rotK_ok (by rw [List.length_map]; omega) (by rw [List.length_map]; omega)]
  simp only [List.headD_cons, List.map_append, List.map_drop, List.map_take]
end Go.Proofs.Ytacapjleiadkkaa
namespace Go.Proofs.Ytacapjleiadkkaa
open PX
/-! Which side goes on. -/
/-- Two steps of the border from one point, of which one follows a step: it goes left. -/
theorem two_out {I : Sq} {f e : Ed} (hf : isB I f) (he : isB I e) (hx : e.x = f.tx) (hy : e.y = f.ty) (hne : e ≠ sc I f) : (sc I f).d = f.d.left := by
  obtain ⟨g1, g2⟩ := Ed.at_to I f
  have f1 : lq I f.tx f.ty f.d.left = true := g1.trans hf.1
  have f2 : lq I f.tx f.ty f.d.left.left = false := g2.trans hf.2
  obtain ⟨e1, e2⟩ := he
  rw [hx, hy] at e1 e2
  rcases sc_cases hf with ⟨_, h2⟩ | ⟨h1, h2, h3⟩ | ⟨h1, h2, h3⟩
  · rw [h2]
  · exfalso
    have hd : e.d = f.d := by
      generalize f.d = d at f1 f2 h1 h2
      generalize e.d = d' at e1 e2
      cases d <;> cases d' <;> simp only [Dir.left, Dir.right] at * <;> first | rfl | (rw [e1] at f2; cases f2) | (rw [e2] at f1; cases f1) | (rw [e2] at h1; cases h1) | (rw [e1] at h2; cases h2)
    exact hne (by rw [h3]; exact Ed.ext' hx hy hd)
  · exfalso
    have hd : e.d = f.d.right := by
      generalize f.d = d at f1 f2 h1 h2
      generalize e.d = d' at e1 e2
      cases d <;> cases d' <;> simp only [Dir.left, Dir.right] at * <;> first | rfl | (rw [e1] at f2; cases f2) | (rw [e2] at f1; cases f1) | (rw [e2] at h1; cases h1) | (rw [e2] at h2; cases h2)
    exact hne (by rw [h3]; exact Ed.ext' hx hy hd)
theorem left_sc {I : Sq} {f e : Ed} (he : isB I e) (hx : e.x = f.tx) (hy : e.y = f.ty) (hd : e.d = f.d.left) : e = sc I f := by
  have h2 := he.2
  rw [hx, hy, hd, Dir.lr] at h2
  rw [sc_l h2]
  exact Ed.ext' hx hy hd
theorem lst_to {s : Sd} (h : 0 < s.2) : (lstE s).tx = (endP s).1 ∧ (lstE s).ty = (endP s).2 ∧ (lstE s).d = s.1.d := by
  obtain ⟨t1, t2⟩ := adv_to s.1 (s.2 - 1)
  have e : s.2 - 1 + 1 = s.2 := by omega
  rw [e] at t1 t2
  exact ⟨t1, t2, rfl⟩
/-- The sides that begin at a point. -/
def idxs (L : List Sd) (v : Int × Int) : List Int := ((List.range L.length).filter fun a => decide ((sdAt L a).1.p = v)).map fun a : Nat => (a : Int)
theorem idxs_mem {L : List Sd} {v : Int × Int} {j : Int} : j ∈ idxs L v ↔ ∃ a, a < L.length ∧ (sdAt L a).1.p = v ∧ j = (a : Int) := by
  unfold idxs
  simp only [List.mem_map, List.mem_filter, List.mem_range, decide_eq_true_eq]
  exact ⟨fun ⟨a, ⟨h1, h2⟩, h3⟩ => ⟨a, h1, h2, h3.symm⟩, fun ⟨a, h1, h2, h3⟩ => ⟨a, ⟨h1, h2⟩, h3.symm⟩⟩
theorem idxs_nodup (L : List Sd) (v : Int × Int) : (idxs L v).Nodup := by
  unfold idxs
  rw [List.Nodup, List.pairwise_map]
  exact (List.nodup_range.filter _).imp fun h hh => h (by omega)
section
variable {I : Sq} {L : List Sd}
theorem nx_from (h : SysB I L) {a b : Nat} (hn : Nx I L a b) : (sdAt L b).1.p = endP (sdAt L a) := by
  obtain ⟨s, t, h1, h2, h3⟩ := hn
  rw [sdAt_eq h1, sdAt_eq h2, h3, sc_p]
  have hp := h.pos s (List.mem_of_getElem? h1)
  exact Prod.ext (lst_to hp).1 (lst_to hp).2.1
/-- A side goes on along another one, that begins at its end, just if none else begins there, or it goes left. -/
theorem goes_on (h : SysB I L) {a b : Nat} (ha : a < L.length) (hb : b < L.length) (hv : (sdAt L b).1.p = endP (sdAt L a)) : (Nx I L a b ↔ (idxs L (endP (sdAt L a))).length = 1 ∨ (sdAt L b).1.d = (sdAt L a).1.d.left) := by
  have ga := sd_get ha
  have gb := sd_get hb
  have ma := List.mem_of_getElem? ga
  have mb := List.mem_of_getElem? gb
  obtain ⟨t1, t2, t3⟩ := lst_to (h.pos _ ma)
  have hl := (h.last ma).1
  have hx : (sdAt L b).1.x = (lstE (sdAt L a)).tx := (congrArg Prod.fst hv).trans t1.symm
  have hy : (sdAt L b).1.y = (lstE (sdAt L a)).ty := (congrArg Prod.snd hv).trans t2.symm
  have fb := h.fst mb
  obtain ⟨b', hb', hn⟩ := h.next ha
  have hm' : (b' : Int) ∈ idxs L (endP (sdAt L a)) := idxs_mem.2 ⟨b', hb', nx_from h hn, rfl⟩
  have hm : (b : Int) ∈ idxs L (endP (sdAt L a)) := idxs_mem.2 ⟨b, hb, hv, rfl⟩
  constructor
  · intro hab
    have := h.nx_r hab hn
    subst this
    cases Classical.em ((sdAt L b).1.d = (sdAt L a).1.d.left) with
    | inl hh => exact .inr hh
    | inr hh =>
      left
      -- any other side that begins there would make it go left
      have hall : ∀ j ∈ idxs L (endP (sdAt L a)), j = (b : Int) := fun j hj => by
        obtain ⟨c, hc, hcv, rfl⟩ := idxs_mem.1 hj
        have gc := sd_get hc
        have mc := List.mem_of_getElem? gc
        obtain ⟨s, t, k1, k2, k3⟩ := hab
        rw [ga] at k1
        rw [gb] at k2
        have k1 := Option.some.inj k1
        have k2 := Option.some.inj k2
        subst k1; subst k2
        cases Classical.em ((sdAt L c).1 = sc I (lstE (sdAt L a))) with
        | inl he =>
          have := h.nx_r ⟨_, _, ga, gc, he⟩ ⟨_, _, ga, gb, k3⟩
          rw [this]
        | inr he =>
          exfalso
          have := two_out hl (h.fst mc) ((congrArg Prod.fst hcv).trans t1.symm) ((congrArg Prod.snd hcv).trans t2.symm) he
          rw [← k3, t3] at this
          exact hh this
      have hnd := idxs_nodup L (endP (sdAt L a))
      match hq : idxs L (endP (sdAt L a)), hm, hall, hnd with
      | [x], _, _, _ => rfl
      | x :: y :: r, _, hall, hnd =>
        exfalso
        have e1 := hall x (by simp)
        have e2 := hall y (by simp)
        rw [e1, e2] at hnd
        simp at hnd
  · intro hor
    rcases hor with h1 | h1
    · obtain ⟨x, hx1⟩ := List.length_eq_one_iff.1 h1
      rw [hx1] at hm hm'
      simp at hm hm'
      have : b = b' := by omega
      rw [this]; exact hn
    · exact ⟨_, _, ga, gb, left_sc fb hx hy (by rw [t3]; exact h1)⟩
/-! The map of sides by the points where they begin. -/
theorem kmget_put {κ α : Type} [DecidableEq κ] (k : κ) (l : List α) (k' : κ) : ∀ m : List (κ × List α), kmget (kmput m k l) k' = if k = k' then l else kmget m k'
  | [] => by simp [kmput, kmget]
  | p :: m => by
    unfold kmput
    by_cases h : p.1 = k
    · rw [if_pos h]
      by_cases h' : k = k'
      · simp [kmget, h']
      · simp [kmget, h, h']
    · rw [if_neg h]
      simp only [kmget]
      rw [kmget_put k l k' m]
      by_cases h' : k = k'
      · subst h'; simp [h]
      · simp [h']
theorem okP_lim {p : Int × Int} (h : Lim p) : okP p = true := by
  obtain ⟨⟨h1, h2⟩, h3, h4⟩ := h
  unfold okP inR
  simp; omega
theorem map_loop (hb : LimS L) (N : Nat) : ∀ (suf q : List Sd) (m : List ((Int × Int) × List Int)), L = q ++ suf → (∀ v, kmget m v = ((List.range q.length).filter fun a => decide ((sdAt L a).1.p = v)).map fun a : Nat => (a : Int)) →
    ∃ m', (∀ v, kmget m' v = idxs L v) ∧ F_shape_Set__Borders_L1 N (L.map toS) (suf.map toS) q.length m = (mkl false ((L.map toS).length : Int)).bind fun l126 => F_shape_Set__Borders_L8 N (L.map toS) m' (L.map toS) 0 l126 []
  | [], q, m, h, hm => by
    rw [List.append_nil] at h
    subst h
    refine ⟨m, hm, ?_⟩
    show F_shape_Set__Borders_L1 _ _ [] _ _ = _
    rw [F_shape_Set__Borders_L1.eq_1]
  | s :: suf, q, m, h, hm => by
    have hg : L[q.length]? = some s := by rw [h]; simp
    have hs := sdAt_eq hg
    have hlim := (hb.pts s (List.mem_of_getElem? hg)).1
    have hlen := hb.len
    have hql : q.length ≤ 100000000 := by rw [h] at hlen; simp at hlen; omega
    obtain ⟨m', h1, h2⟩ := map_loop hb N suf (q ++ [s]) (kmput m s.1.p (kmget m s.1.p ++ [(q.length : Int)])) (by rw [h]; simp) (fun v => by
      rw [kmget_put, List.length_append, List.length_singleton, List.range_succ, List.filter_append, List.map_append, hm v]
      by_cases hv : s.1.p = v
      · subst hv
        rw [if_pos rfl, hm]
        simp [hs]
      · rw [if_neg hv]
        simp [hs, hv])
    refine ⟨m', h1, ?_⟩
    rw [List.length_append] at h2
    show F_shape_Set__Borders_L1 _ _ (toS s :: suf.map toS) _ _ = _
    have e1 : kmgetO okP m ((toS s).from_.X, (toS s).from_.Y) = some (kmget m s.1.p) := if_pos (okP_lim hlim)
    have hkl : (kmget m s.1.p).length ≤ q.length := by rw [hm, List.length_map]; exact Nat.le_trans (List.length_filter_le _ _) (Nat.le_of_eq List.length_range)
    rw [F_shape_Set__Borders_L1.eq_2, e1, Option.bind_some, apd_ok (by simp; omega), Option.bind_some]
    exact h2
theorem left_ok {s : Sd} (h : 0 < s.2) (hl : Lim s.1.p ∧ Lim (endP s)) : F_shape_Set__Borders_1 (toS s) = some (dirT s.1.d.left) := by
  unfold F_shape_Set__Borders_1
  rw [dir_ok h hl, Option.bind_some]
  congr 1
  unfold dirT
  cases s.1.d <;> simp only [Dir.dx, Dir.dy, Dir.left] <;> rfl
variable {m : List ((Int × Int) × List Int)}
theorem get_end (hm : ∀ v, kmget m v = idxs L v) {s : Sd} (h : Lim (endP s)) : kmgetO okP m ((toS s).to_.X, (toS s).to_.Y) = some (idxs L (endP s)) := by
  show kmgetO okP m (endP s) = _
  unfold kmgetO
  rw [if_pos (okP_lim h), hm]
theorem closes_ok (h : SysB I L) (hb : LimS L) (hm : ∀ v, kmget m v = idxs L v) {a b : Nat} (ha : a < L.length) (hb' : b < L.length) (hv : (sdAt L b).1.p = endP (sdAt L a)) :
    ∃ g, F_shape_Set__Borders_2__Borders_1 (toS (sdAt L a)) (toS (sdAt L b)) m = some g ∧ (g = true ↔ Nx I L a b) := by
  have ma := List.mem_of_getElem? (sd_get ha)
  have mb := List.mem_of_getElem? (sd_get hb')
  have e1 : kmgetO okP m ((toS (sdAt L a)).to_.X, (toS (sdAt L a)).to_.Y) = some (idxs L (endP (sdAt L a))) := get_end hm (hb.pts _ ma).2
  unfold F_shape_Set__Borders_2__Borders_1
  rw [e1, Option.bind_some, dir_ok (h.pos _ mb) (hb.pts _ mb), left_ok (h.pos _ ma) (hb.pts _ ma)]
  simp only [Option.bind_some, eqDir]
  rw [goes_on h ha hb' hv]
  by_cases h1 : (idxs L (endP (sdAt L a))).length = 1
  · rw [if_pos (by simp; omega)]
    exact ⟨true, rfl, by simp [h1]⟩
  · rw [if_neg (by simp; omega)]
    exact ⟨_, rfl, by simp [h1]⟩
theorem next_loop (h : SysB I L) (hb : LimS L) (hm : ∀ v, kmget m v = idxs L v) {a b : Nat} (ha : a < L.length) (hn : Nx I L a b) {u : List Bool} (hu : u.length = L.length) (hub : u[b]? = some false) : ∀ (l : List Int) (i : Nat), (∀ j ∈ l, j ∈ idxs L (endP (sdAt L a))) → (b : Int) ∈ l →
    F_shape_Set__Borders_3__Borders_2__Borders_1_L1 (toS (sdAt L a)) u (L.map toS) m l i = some (b : Int)
  | j :: l, i, hl, hbl => by
    obtain ⟨c, hc, hcv, rfl⟩ := idxs_mem.1 (hl j (by simp))
    obtain ⟨g, g1, g2⟩ := closes_ok h hb hm ha hc hcv
    have hid : idx u (c : Int) = some u[c] := idx_nat (by omega)
    have hid2 : idx (L.map toS) (c : Int) = some (toS (sdAt L c)) := by
      unfold idx
      rw [if_pos (by omega), Int.toNat_natCast, List.getElem?_map, sd_get hc]; rfl
    rw [F_shape_Set__Borders_3__Borders_2__Borders_1_L1.eq_2, hid, Option.bind_some, hid2, Option.bind_some, g1, Option.bind_some]
    by_cases hcb : c = b
    · subst hcb
      have hf : u[c] = false := by
        have := List.getElem?_eq_getElem (l := u) (i := c) (by omega)
        rw [hub] at this; exact (Option.some.inj this).symm
      rw [hf, if_pos (by rfl), Option.bind_some, if_pos (g2.2 hn)]
    · have hg : g = false := by
        cases hg : g with
        | false => rfl
        | true => exact absurd (h.nx_r (g2.1 hg) hn) hcb
      have hres : ∀ z : Bool, (if (!z) = true then some g else some false) = some false := fun z => by cases z <;> simp [hg]
      rw [hres, Option.bind_some, if_neg (by simp)]
      refine next_loop h hb hm ha hn hu hub l (i + 1) (fun j hj => hl j (by simp [hj])) ?_
      rcases List.mem_cons.1 hbl with hbl | hbl
      · exact absurd (by omega) hcb
      · exact hbl
theorem nextB_ok (h : SysB I L) (hb : LimS L) (hm : ∀ v, kmget m v = idxs L v) {a b : Nat} (ha : a < L.length) (hn : Nx I L a b) {u : List Bool} (hu : u.length = L.length) (hub : u[b]? = some false) : F_shape_Set__Borders_3__Borders_2__Borders_1 (toS (sdAt L a)) m u (L.map toS) m = some (b : Int) := by
  have ma := List.mem_of_getElem? (sd_get ha)
  have e1 : kmgetO okP m ((toS (sdAt L a)).to_.X, (toS (sdAt L a)).to_.Y) = some (idxs L (endP (sdAt L a))) := get_end hm (hb.pts _ ma).2
  unfold F_shape_Set__Borders_3__Borders_2__Borders_1
  rw [e1, Option.bind_some]
  exact next_loop h hb hm ha hn hu hub _ 0 (fun _ hj => hj) (idxs_mem.2 ⟨b, hn.lt.2, nx_from h hn, rfl⟩)
end
end Go.Proofs.Ytacapjleiadkkaa
namespace Go.Proofs.Ytacapjleiadkkaa
open PX Go.Sort
section
variable {I : Sq} {L : List Sd}
theorem cn_snoc : ∀ {q : List Nat} {a c : Nat}, Cn I L a q → Nx I L (q.getLastD a) c → Cn I L a (q ++ [c])
  | [], a, c, _, h => ⟨h, trivial⟩
  | b :: q, a, c, ⟨h1, h2⟩, h => ⟨h1, cn_snoc h2 (by cases q <;> exact h)⟩
theorem lastD_mem : ∀ {q : List Nat} {a : Nat}, q.getLastD a ∈ a :: q
  | [], a => by simp
  | b :: q, a => by
    have : (b :: q).getLastD a = q.getLastD b := by cases q <;> rfl
    rw [this]
    exact List.mem_cons_of_mem _ lastD_mem
theorem cn_back : ∀ {q : List Nat} {a : Nat}, Cn I L a q → (a :: q).Nodup → ∀ c ∈ q, ∃ p ∈ a :: q, Nx I L p c ∧ p ≠ q.getLastD a
  | b :: q, a, ⟨h1, h2⟩, hn, c, hc => by
    have e : (b :: q).getLastD a = q.getLastD b := by cases q <;> rfl
    rw [e]
    obtain ⟨n1, n2⟩ := List.nodup_cons.1 hn
    rcases List.mem_cons.1 hc with rfl | hc
    · exact ⟨a, by simp, h1, fun hh => n1 (by rw [hh]; exact lastD_mem)⟩
    · obtain ⟨p, p1, p2, p3⟩ := cn_back h2 n2 c hc
      exact ⟨p, List.mem_cons_of_mem _ p1, p2, p3⟩
theorem rowB_back (h : SysB I L) {r : List Nat} (hr : RowB I L r) {a b : Nat} (hb : b ∈ r) (hn : Nx I L a b) : a ∈ r := by
  obtain ⟨i, q, rfl, h1, h2, h3⟩ := hr
  rcases List.mem_cons.1 hb with rfl | hb
  · rw [h.nx_l hn h2]; exact lastD_mem
  · obtain ⟨p, p1, p2, _⟩ := cn_back h1 h3 b hb
    rw [h.nx_l hn p2]; exact p1
/-- Which sides are used up: those of the rows. -/
structure InvB (I : Sq) (L : List Sd) (u : List Bool) (rs : List (List Nat)) : Prop where
  len : u.length = L.length
  use : ∀ a, u[a]? = some true ↔ ∃ r ∈ rs, a ∈ r
  row : ∀ r ∈ rs, RowB I L r
  once : rs.Pairwise fun r r' => ∀ a ∈ r, a ∉ r'
theorem nodup_le : ∀ {n : Nat} {l : List Nat}, l.Nodup → (∀ a ∈ l, a < n) → l.length ≤ n
  | 0, [], _, _ => Nat.le_refl _
  | 0, a :: l, _, h => absurd (h a (by simp)) (Nat.not_lt_zero _)
  | n + 1, l, hn, h => by
    have ih := nodup_le (n := n) (l := l.erase n) (hn.erase n) fun a ha => by
      obtain ⟨h1, h2⟩ := hn.mem_erase_iff.1 ha
      have := h a h2
      omega
    rw [List.length_erase] at ih
    split at ih <;> omega
theorem not_true {u : List Bool} {a : Nat} (h : a < u.length) (hn : ¬ u[a]? = some true) : u[a]? = some false := by
  rw [List.getElem?_eq_getElem h] at hn ⊢
  cases hu : u[a] with
  | true => exact absurd (congrArg some hu) hn
  | false => rfl
theorem count_set : ∀ {u : List Bool} {b : Nat}, u[b]? = some false → (u.set b true).count false + 1 = u.count false
  | [], b, h => by simp at h
  | x :: u, 0, h => by simp at h; subst h; simp
  | x :: u, b + 1, h => by
    have := count_set (u := u) (b := b) (by simpa using h)
    simp only [List.set_cons_succ, List.count_cons]
    omega
variable {m : List ((Int × Int) × List Int)}
theorem idx_sd {b : Nat} (h : b < L.length) : idx (L.map toS) (b : Int) = some (toS (sdAt L b)) := by
  unfold idx
  rw [if_pos (by omega), Int.toNat_natCast, List.getElem?_map, sd_get h]; rfl
theorem row_loop (h : SysB I L) (hb : LimS L) (hm : ∀ v, kmget m v = idxs L v) {i : Nat} {rs : List (List Nat)} (hrs : ∀ r ∈ rs, RowB I L r) (hir : ∀ r ∈ rs, i ∉ r) (out : List (List TPoint)) (k : List Bool → List (List TPoint) → Option (List (List TPoint))) :
    ∀ (fuel : Nat) (q : List Nat) (b : Nat) (u : List Bool) (t : List Nat), q ++ [b] = i :: t → Cn I L i t → (i :: t).Nodup → (∀ a ∈ i :: t, ∀ r ∈ rs, a ∉ r) → b < L.length → (∀ a ∈ q, a < L.length) → u.length = L.length → (∀ a, u[a]? = some true ↔ (∃ r ∈ rs, a ∈ r) ∨ a ∈ q) → u.count false < fuel →
    ∃ (r : List Nat) (u' : List Bool), RowB I L r ∧ i ∈ r ∧ (∀ a ∈ r, ∀ r' ∈ rs, a ∉ r') ∧ (∀ a ∈ r, a < L.length) ∧ u'.length = L.length ∧ (∀ a, u'[a]? = some true ↔ (∃ r' ∈ rs, a ∈ r') ∨ a ∈ r) ∧ r.length ≤ L.length ∧
      F_shape_Set__Borders_L11 (L.map toS) m out k (toS (sdAt L i)) fuel u (q.map fun a => toS (sdAt L a)) (b : Int) = F_shape_Set__Borders_J10 out k u' (r.map fun a => toS (sdAt L a))
  | 0, _, _, u, _, _, _, _, _, _, _, _, _, hf => absurd hf (Nat.not_lt_zero _)
  | fuel + 1, q, b, u, t, ht, hcn, hnd, hfree, hbl, hql, hu, huse, hf => by
    have hlast : t.getLastD i = b := by
      have e1 : (q ++ [b]).getLastD 0 = b := by simp
      rw [ht] at e1
      have e2 : (i :: t).getLastD 0 = t.getLastD i := by cases t <;> rfl
      rw [← e2, e1]
    have hbm : b ∈ i :: t := by rw [← ht]; simp
    have him : i ∈ q ++ [b] := by rw [ht]; simp
    have hil : i < L.length := by
      rcases List.mem_append.1 him with h1 | h1
      · exact hql i h1
      · rw [List.mem_singleton.1 h1]; exact hbl
    have hbq : b ∉ q := by
      rw [← ht] at hnd
      intro hh
      exact (List.nodup_append.1 hnd).2.2 b hh b (by simp) rfl
    have hub : u[b]? = some false := not_true (by omega) fun hh => by
      rcases (huse b).1 hh with ⟨r, h1, h2⟩ | h1
      · exact hfree b hbm r h1 h2
      · exact hbq h1
    have hid : idx u (b : Int) = some false := by
      unfold idx
      rw [if_pos (by omega), Int.toNat_natCast, hub]
    have hset : sets u (b : Int) true = some (u.set b true) := by
      unfold sets
      rw [if_pos (by omega), Int.toNat_natCast]
    have huse' : ∀ a, (u.set b true)[a]? = some true ↔ (∃ r ∈ rs, a ∈ r) ∨ a ∈ q ++ [b] := fun a => by
      rw [List.getElem?_set]
      by_cases hab : b = a
      · subst hab
        rw [if_pos rfl, if_pos (by omega)]
        simp
      · rw [if_neg hab, huse a]
        have : a ∈ q ++ [b] ↔ a ∈ q := by simp; exact fun hh => absurd hh.symm hab
        rw [this]
    have hql' : ∀ a ∈ q ++ [b], a < L.length := fun a ha => by
      rcases List.mem_append.1 ha with h1 | h1
      · exact hql a h1
      · rw [List.mem_singleton.1 h1]; exact hbl
    have hqn : q.length ≤ L.length := nodup_le (by rw [← ht] at hnd; exact (List.nodup_append.1 hnd).1) hql
    have hqn' : (q ++ [b]).length ≤ L.length := nodup_le (by rw [ht]; exact hnd) hql'
    have hlen := hb.len
    rw [F_shape_Set__Borders_L11.eq_2, if_pos (by simp), hid, Option.bind_some, hset, Option.bind_some, idx_sd hbl, Option.bind_some, apd_ok (by rw [List.length_map]; simp; omega), Option.bind_some, Option.bind_some]
    have hg : ∃ g, (if (eqTPoint (toS (sdAt L b)).to_ (toS (sdAt L i)).from_) then ((some (toS (sdAt L b))).bind fun x505 => (F_shape_Set__Borders_2__Borders_1 x505 (toS (sdAt L i)) m).bind fun y506 => some y506) else some false) = some g ∧ (g = true ↔ Nx I L b i) := by
      have e1 : eqTPoint (toS (sdAt L b)).to_ (toS (sdAt L i)).from_ = decide (endP (sdAt L b) = (sdAt L i).1.p) := eqPt _ _
      rw [e1]
      by_cases hp : endP (sdAt L b) = (sdAt L i).1.p
      · rw [if_pos (by simpa using hp)]
        obtain ⟨g, g1, g2⟩ := closes_ok h hb hm hbl hil hp.symm
        refine ⟨g, ?_, g2⟩
        rw [Option.bind_some, g1]; rfl
      · rw [if_neg (by simpa using hp)]
        exact ⟨false, rfl, ⟨fun hh => (nomatch hh), fun hn => absurd (nx_from h hn).symm hp⟩⟩
    obtain ⟨g, g1, g2⟩ := hg
    have hmapq : (q.map fun a => toS (sdAt L a)) ++ [toS (sdAt L b)] = (q ++ [b]).map fun a => toS (sdAt L a) := by simp
    rw [g1, Option.bind_some, hmapq]
    by_cases hgt : g = true
    · rw [if_pos hgt]
      refine ⟨q ++ [b], u.set b true, ?_, him, fun a ha => hfree a (by rw [← ht]; exact ha), hql', by rw [List.length_set]; exact hu, huse', hqn', rfl⟩
      rw [ht]
      exact ⟨i, t, rfl, hcn, by rw [hlast]; exact g2.1 hgt, hnd⟩
    · rw [if_neg hgt]
      obtain ⟨c, hc, hn⟩ := h.next hbl
      have hcr : ∀ r ∈ rs, c ∉ r := fun r hr hh => hfree b hbm r hr (rowB_back h (hrs r hr) hh hn)
      have hcq : c ∉ i :: t := fun hh => by
        rcases List.mem_cons.1 hh with rfl | hh
        · exact hgt (g2.2 hn)
        · obtain ⟨p, p1, p2, p3⟩ := cn_back hcn hnd c hh
          rw [hlast] at p3
          exact p3 (h.nx_l p2 hn)
      have huc : (u.set b true)[c]? = some false := not_true (by rw [List.length_set]; omega) fun hh => by
        rcases (huse' c).1 hh with ⟨r, h1, h2⟩ | h1
        · exact hcr r h1 h2
        · rw [ht] at h1; exact hcq h1
      rw [Option.bind_some, nextB_ok h hb hm hbl hn (by rw [List.length_set]; exact hu) huc, Option.bind_some]
      have hcnt := count_set hub
      exact row_loop h hb hm hrs hir out k fuel (q ++ [b]) c (u.set b true) (t ++ [c]) (by rw [ht]; rfl) (cn_snoc hcn (by rw [hlast]; exact hn))
        (by rw [← List.cons_append]; exact List.nodup_append.2 ⟨hnd, by simp, fun x hx y hy => by rw [List.mem_singleton.1 hy]; exact fun e => hcq (e ▸ hx)⟩)
        (fun a ha r hr hh => by
          rw [← List.cons_append] at ha
          rcases List.mem_append.1 ha with h1 | h1
          · exact hfree a h1 r hr hh
          · rw [List.mem_singleton.1 h1] at hh; exact hcr r hr hh) hc hql' (by rw [List.length_set]; exact hu) huse' (by omega)
theorem cns_some (h : SysB I L) {r : List Nat} (hr : RowB I L r) : cns L (sdAt L (r.getLastD 0)).1.d r ≠ [] := fun hh => by
  obtain ⟨B, hB⟩ := h.fin
  obtain ⟨e, e1, e2, _⟩ := rowOut_ok h hr
  obtain ⟨t, ht⟩ := e2.head hB e1
  unfold rowOut at ht
  rw [hh] at ht
  cases ht
/-- What is told, before it is sorted. -/
def told (L : List Sd) (rs : List (List Nat)) : List (List TPoint) := (rs.map (rowOut L)).map (List.map toPt)
theorem bor_loop (h : SysB I L) (hb : LimS L) (hm : ∀ v, kmget m v = idxs L v) {N : Nat} (hN : L.length < N) : ∀ (suf q : List Sd) (u : List Bool) (rs : List (List Nat)), L = q ++ suf → InvB I L u rs → (∀ a, a < q.length → ∃ r ∈ rs, a ∈ r) → rs.length ≤ q.length →
    ∃ rs', RowsB I L rs' ∧ F_shape_Set__Borders_L8 N (L.map toS) m (suf.map toS) q.length u (told L rs) = srtU (told L rs') F_shape_Set__Borders_4
  | [], q, u, rs, hL, inv, hall, _ => by
    rw [List.append_nil] at hL
    subst hL
    refine ⟨rs, ⟨inv.row, hall, inv.once⟩, ?_⟩
    show F_shape_Set__Borders_L8 _ _ _ [] _ _ _ = _
    rw [F_shape_Set__Borders_L8.eq_1]
    show (srtU (told L rs) F_shape_Set__Borders_4).bind some = _
    cases srtU (told L rs) F_shape_Set__Borders_4 <;> rfl
  | s :: suf, q, u, rs, hL, inv, hall, hrs => by
    have hg : L[q.length]? = some s := by rw [hL]; simp
    have hil := (List.getElem?_eq_some_iff.1 hg).1
    have hlen := hb.len
    have hu := inv.len
    rw [List.map_cons, F_shape_Set__Borders_L8.eq_2, idx_nat (l := u) (i := q.length) (by omega), Option.bind_some]
    by_cases hx : u[q.length] = true
    · rw [if_pos hx]
      obtain ⟨rs', h1, h2⟩ := bor_loop h hb hm hN suf (q ++ [s]) u rs (by rw [hL]; simp) inv (fun a ha => by
        rw [List.length_append, List.length_singleton] at ha
        rcases Nat.lt_or_ge a q.length with h3 | h3
        · exact hall a h3
        · have : a = q.length := by omega
          subst this
          exact (inv.use _).1 (by rw [List.getElem?_eq_getElem (by omega), hx])) (by simp; omega)
      rw [List.length_append] at h2
      exact ⟨rs', h1, h2⟩
    · rw [if_neg hx]
      have hir : ∀ r ∈ rs, q.length ∉ r := fun r hr hh => by
        have := (inv.use q.length).2 ⟨r, hr, hh⟩
        rw [List.getElem?_eq_getElem (by omega)] at this
        exact hx (Option.some.inj this)
      have hcl : u.count false ≤ u.length := List.count_le_length
      obtain ⟨r, u', r1, r2, r3, r4, r5, r6, r7, r8⟩ := row_loop h hb hm inv.row hir (told L rs) (F_shape_Set__Borders_L8 N (L.map toS) m (suf.map toS) (q.length + 1)) N [] q.length u [] rfl trivial (by simp) (fun a ha r hr => by
        rw [List.mem_singleton.1 ha]; exact hir r hr) hil (fun a ha => (nomatch ha)) hu (fun a => by rw [inv.use a]; simp) (by omega)
      have e1 : sdAt L q.length = s := sdAt_eq hg
      rw [e1] at r8
      rw [List.map_nil] at r8
      rw [r8]
      unfold F_shape_Set__Borders_J10
      have hout : (rs.map (rowOut L)).map (List.map toPt) ++ [(rowOut L r).map toPt] = told L (rs ++ [r]) := by unfold told; simp
      rw [corners_ok h hb r4 (by omega) (cns_some h r1), Option.bind_some, apd_ok (by unfold told; simp; omega), Option.bind_some]
      show ∃ rs', _ ∧ F_shape_Set__Borders_L8 N (L.map toS) m (suf.map toS) (q.length + 1) u' ((rs.map (rowOut L)).map (List.map toPt) ++ [(rowOut L r).map toPt]) = _
      rw [hout]
      obtain ⟨rs', h1, h2⟩ := bor_loop h hb hm hN suf (q ++ [s]) u' (rs ++ [r]) (by rw [hL]; simp) ⟨r5, fun a => by
          rw [r6 a]
          constructor
          · rintro (⟨r', g1, g2⟩ | g1)
            · exact ⟨r', by simp [g1], g2⟩
            · exact ⟨r, by simp, g1⟩
          · rintro ⟨r', g1, g2⟩
            rcases List.mem_append.1 g1 with g1 | g1
            · exact .inl ⟨r', g1, g2⟩
            · rw [List.mem_singleton.1 g1] at g2; exact .inr g2, fun r' hr' => by
          rcases List.mem_append.1 hr' with g1 | g1
          · exact inv.row r' g1
          · rw [List.mem_singleton.1 g1]; exact r1, List.pairwise_append.2 ⟨inv.once, by simp, fun x hx y hy a ha hh => by
          rw [List.mem_singleton.1 hy] at hh
          exact r3 a hh x hx ha⟩⟩ (fun a ha => by
        rw [List.length_append, List.length_singleton] at ha
        rcases Nat.lt_or_ge a q.length with h3 | h3
        · obtain ⟨r', g1, g2⟩ := hall a h3
          exact ⟨r', by simp [g1], g2⟩
        · have : a = q.length := by omega
          subst this
          exact ⟨r, by simp, r2⟩) (by simp; omega)
      rw [List.length_append] at h2
      exact ⟨rs', h1, h2⟩
/-! The order in which they are told. -/
theorem cmp_ok {l m : List (Int × Int)} {p q p1 q1 : Int × Int} {r s : List (Int × Int)} (hl : l = p :: p1 :: r) (hm : m = q :: q1 :: s) (hne : p = q → l = m) : F_shape_Set__Borders_4 (l.map toPt) (m.map toPt) = some (if pl p q then -1 else 1) := by
  subst hl; subst hm
  unfold F_shape_Set__Borders_4
  have i0 : ∀ (a b : TPoint) (t : List TPoint), idx (a :: b :: t) 0 = some a := fun a b t => by unfold idx; simp
  have i1 : ∀ (a b : TPoint) (t : List TPoint), idx (a :: b :: t) 1 = some b := fun a b t => by unfold idx; simp
  simp only [List.map_cons, i0, i1, Option.bind_some, less_ok, eqPt]
  by_cases h1 : pl p q
  · simp [h1, F_shape_Set__Borders_4_J1]
  · simp only [h1, decide_false, Bool.false_eq_true, if_false]
    by_cases h2 : p = q
    · have h3 := hne h2
      simp only [List.cons.injEq] at h3
      obtain ⟨_, h4, _⟩ := h3
      subst h4
      simp [h2, pl_irrefl, F_shape_Set__Borders_4_J1]
    · simp [h2, F_shape_Set__Borders_4_J1]
theorem pw_inj {α β : Type} {f : α → β} : ∀ {l : List α}, l.Pairwise (fun a b => f a ≠ f b) → ∀ a ∈ l, ∀ b ∈ l, f a = f b → a = b
  | x :: l, h, a, ha, b, hb, e => by
    obtain ⟨h1, h2⟩ := List.pairwise_cons.1 h
    rcases List.mem_cons.1 ha with ea | ea
    · rcases List.mem_cons.1 hb with eb | eb
      · rw [ea, eb]
      · rw [ea] at e; exact absurd e (h1 b eb)
    · rcases List.mem_cons.1 hb with eb | eb
      · rw [eb] at e; exact absurd e.symm (h1 a ea)
      · exact pw_inj h2 a ea b eb e
theorem two_of {l : List (Int × Int)} (h : 4 ≤ l.length) : ∃ q r, l = l.headD (0, 0) :: q :: r := by
  match l, h with
  | p :: q :: r, _ => exact ⟨q, r, rfl⟩
theorem ltC_iff {β : Type} {c : β → β → Option Int} {x y : β} {k : Int} (h : c x y = some k) : ltC c x y = decide (k < 0) := by unfold ltC; rw [h]; rfl
theorem sort_ok {lo : List (List (Int × Int))} (hlen : lo.length ≤ 100000000) (h4 : ∀ l ∈ lo, 4 ≤ l.length) (hh : lo.Pairwise fun a b => a.headD (0, 0) ≠ b.headD (0, 0)) :
    ∃ ls : List (List (Int × Int)), ls.Perm lo ∧ (ls.Pairwise fun a b => pl (a.headD (0, 0)) (b.headD (0, 0))) ∧ srtU (lo.map (List.map toPt)) F_shape_Set__Borders_4 = some (ls.map (List.map toPt)) := by
  have hc : ∀ a ∈ lo, ∀ b ∈ lo, F_shape_Set__Borders_4 (a.map toPt) (b.map toPt) = some (if pl (a.headD (0, 0)) (b.headD (0, 0)) then -1 else 1) := fun a ha b hb => by
    obtain ⟨q, r, e1⟩ := two_of (h4 a ha)
    obtain ⟨q', r', e2⟩ := two_of (h4 b hb)
    exact cmp_ok e1 e2 (pw_inj hh a ha b hb)
  have hlt : ∀ a ∈ lo, ∀ b ∈ lo, ltC F_shape_Set__Borders_4 (a.map toPt) (b.map toPt) = decide (pl (a.headD (0, 0)) (b.headD (0, 0))) := fun a ha b hb => by
    rw [ltC_iff (hc a ha b hb)]
    by_cases hp : pl (a.headD (0, 0)) (b.headD (0, 0))
    · rw [if_pos hp, decide_eq_true hp]; rfl
    · rw [if_neg hp, decide_eq_false hp]; rfl
  have hmm : ∀ {x}, x ∈ lo.map (List.map toPt) → ∃ a ∈ lo, a.map toPt = x := fun hx => by
    obtain ⟨a, h1, h2⟩ := List.mem_map.1 hx; exact ⟨a, h1, h2⟩
  have hok : SortOk F_shape_Set__Borders_4 (lo.map (List.map toPt)) := by
    refine ⟨by rw [List.length_map]; omega, fun x hx y hy => ?_, fun x hx => ?_, fun x hx y hy z hz g1 g2 => ?_, fun x hx y hy z hz g1 g2 => ?_⟩
    · obtain ⟨a, ha, rfl⟩ := hmm hx
      obtain ⟨b, hb, rfl⟩ := hmm hy
      exact ⟨_, hc a ha b hb⟩
    · obtain ⟨a, ha, rfl⟩ := hmm hx
      rw [hlt a ha a ha]
      exact decide_eq_false (pl_irrefl _)
    · obtain ⟨a, ha, rfl⟩ := hmm hx
      obtain ⟨b, hb, rfl⟩ := hmm hy
      obtain ⟨c, hc', rfl⟩ := hmm hz
      rw [hlt a ha b hb] at g1
      rw [hlt b hb c hc'] at g2
      rw [hlt a ha c hc']
      exact decide_eq_true (pl_trans (of_decide_eq_true g1) (of_decide_eq_true g2))
    · obtain ⟨a, ha, rfl⟩ := hmm hx
      obtain ⟨b, hb, rfl⟩ := hmm hy
      obtain ⟨c, hc', rfl⟩ := hmm hz
      rw [hlt a ha b hb] at g1
      rw [hlt b hb c hc'] at g2
      rw [hlt a ha c hc']
      have g1 := of_decide_eq_false g1
      have g2 := of_decide_eq_false g2
      refine decide_eq_false fun g3 => ?_
      rcases pl_total (b.headD (0, 0)) (c.headD (0, 0)) with h5 | h5 | h5
      · exact g2 h5
      · rw [← h5] at g3; exact g1 g3
      · exact g1 (pl_trans g3 h5)
  have hap : Apart F_shape_Set__Borders_4 (lo.map (List.map toPt)) := fun x hx y hy g1 g2 => by
    obtain ⟨a, ha, rfl⟩ := hmm hx
    obtain ⟨b, hb, rfl⟩ := hmm hy
    rw [hlt a ha b hb] at g1
    rw [hlt b hb a ha] at g2
    have g1 := of_decide_eq_false g1
    have g2 := of_decide_eq_false g2
    rcases pl_total (a.headD (0, 0)) (b.headD (0, 0)) with h5 | h5 | h5
    · exact absurd h5 g1
    · rw [pw_inj hh a ha b hb h5]
    · exact absurd h5 g2
  obtain ⟨r, hr⟩ := srtU_ok hok hap
  obtain ⟨_, _, hp, hs⟩ := srtU_some hr
  have hback : ∀ l : List (Int × Int), (l.map toPt).map ofPt = l := fun l => by rw [List.map_map]; exact List.map_id _
  have hforth : ∀ l : List TPoint, (l.map ofPt).map toPt = l := fun l => by rw [List.map_map]; exact List.map_id _
  have hrr : (r.map (List.map ofPt)).map (List.map toPt) = r := by
    rw [List.map_map]
    have : (List.map toPt ∘ List.map ofPt) = id := funext hforth
    rw [this, List.map_id]
  have hperm : (r.map (List.map ofPt)).Perm lo := by
    have := hp.map (List.map ofPt)
    rw [List.map_map] at this
    have e : (List.map ofPt ∘ List.map toPt) = id := funext hback
    rwa [e, List.map_id] at this
  refine ⟨r.map (List.map ofPt), hperm, ?_, by rw [hrr]; exact hr⟩
  rw [← hrr, List.pairwise_map] at hs
  have hd : (r.map (List.map ofPt)).Pairwise fun a b => a.headD (0, 0) ≠ b.headD (0, 0) := hperm.symm.pairwise hh fun {a b} g e => g e.symm
  refine (hs.and hd).imp_of_mem fun {a b} ha hb ⟨g1, g2⟩ => ?_
  rw [hlt b (hperm.mem_iff.1 hb) a (hperm.mem_iff.1 ha)] at g1
  have g1 := of_decide_eq_false g1
  rcases pl_total (a.headD (0, 0)) (b.headD (0, 0)) with h5 | h5 | h5
  · exact h5
  · exact absurd h5 g2
  · exact absurd h5 g1
theorem told_four (h : SysB I L) {rs : List (List Nat)} (hr : ∀ r ∈ rs, RowB I L r) : ∀ l ∈ rs.map (rowOut L), 4 ≤ l.length := fun l hl => by
  obtain ⟨B, hB⟩ := h.fin
  obtain ⟨r, h1, rfl⟩ := List.mem_map.1 hl
  obtain ⟨e, e1, ⟨n, e2, e3⟩, _⟩ := rowOut_ok h (hr r h1)
  rw [e3]
  exact (row_ok hB e1 e2).len
theorem rows_len (h : SysB I L) {rs : List (List Nat)} (hr : RowsB I L rs) : rs.length ≤ L.length := by
  have h1 : (rs.map fun r => r.headD 0).Nodup := by
    rw [List.Nodup, List.pairwise_map]
    refine List.Pairwise.imp_of_mem (R := fun r r' => ∀ a ∈ r, a ∉ r') (fun {r r'} h1 h2 hd he => ?_) hr.once
    obtain ⟨a, q, rfl, _⟩ := hr.row r h1
    obtain ⟨b, q', rfl, _⟩ := hr.row r' h2
    exact hd a (by simp) (by have : a = b := he; rw [this]; simp)
  have h2 := nodup_le (n := L.length) h1 fun a ha => by
    obtain ⟨r, g1, rfl⟩ := List.mem_map.1 ha
    obtain ⟨b, q, rfl, _, hn, _⟩ := hr.row r g1
    exact hn.lt.2
  rwa [List.length_map] at h2
theorem cn_fwd : ∀ {q : List Nat} {a : Nat}, Cn I L a q → ∀ p ∈ a :: q, p = q.getLastD a ∨ ∃ c ∈ q, Nx I L p c
  | [], a, _, p, hp => .inl (by simpa using hp)
  | b :: q, a, ⟨h1, h2⟩, p, hp => by
    rcases List.mem_cons.1 hp with rfl | hp
    · exact .inr ⟨b, by simp, h1⟩
    · have e : (b :: q).getLastD a = q.getLastD b := by cases q <;> rfl
      rw [e]
      rcases cn_fwd h2 p hp with h3 | ⟨c, h3, h4⟩
      · exact .inl h3
      · exact .inr ⟨c, by simp [h3], h4⟩
theorem rowOut_len (r : List Nat) : (rowOut L r).length ≤ r.length := by
  unfold rowOut lr
  have h1 := cns_len L r (sdAt L (r.getLastD 0)).1.d
  rw [List.length_append, List.length_drop, List.length_take]
  omega
theorem rows_pts (h : SysB I L) {rs : List (List Nat)} (hr : RowsB I L rs) : (rs.map (rowOut L)).flatten.length ≤ L.length := by
  have h1 : rs.flatten.Nodup := by
    rw [List.Nodup, List.pairwise_flatten]
    refine ⟨fun r hrm => ?_, hr.once.imp (fun {r r'} (hd : ∀ a ∈ r, a ∉ r') x hx y hy (e : x = y) => hd x hx (by rw [e]; exact hy))⟩
    obtain ⟨a, q, rfl, _, _, hn⟩ := hr.row r hrm
    exact hn
  have h2 := nodup_le (n := L.length) h1 fun a ha => by
    obtain ⟨r, hrm, har⟩ := List.mem_flatten.1 ha
    obtain ⟨i, q, rfl, hc, hn, _⟩ := hr.row r hrm
    rcases cn_fwd hc a har with e | ⟨c, _, hx⟩
    · rw [e]; exact hn.lt.1
    · exact hx.lt.1
  have h3 : ∀ rs : List (List Nat), (rs.map (rowOut L)).flatten.length ≤ rs.flatten.length := by
    intro rs
    induction rs with
    | nil => exact Nat.le_refl _
    | cons r rs ih =>
      have := rowOut_len (L := L) r
      rw [List.map_cons, List.flatten_cons, List.flatten_cons, List.length_append, List.length_append]
      omega
  exact Nat.le_trans (h3 rs) h2
/-- What the program makes of the sides of a set: all its borders, in order. -/
theorem borders_ok (h : SysB I L) (hb : LimS L) {N : Nat} (hN : L.length < N) : ∃ ls, Outs I ls ∧ ls.length ≤ L.length ∧ ls.flatten.length ≤ L.length ∧ F_shape_Set__Borders_L1 N (L.map toS) (L.map toS) 0 [] = some (ls.map (List.map toPt)) := by
  obtain ⟨m', h1, h2⟩ := map_loop hb N L [] [] rfl (fun v => by simp [kmget])
  have hlen := hb.len
  rw [List.length_nil] at h2
  rw [h2]
  have hmk : (mkl false ((L.map toS).length : Int)) = some (List.replicate L.length false) := by
    unfold mkl
    rw [if_pos (by simp; omega)]
    simp
  rw [hmk, Option.bind_some]
  obtain ⟨rs, r1, r2⟩ := bor_loop h hb h1 hN L [] (List.replicate L.length false) [] rfl ⟨by simp, fun a => by simp [List.getElem?_replicate], fun r hr => (nomatch hr), .nil⟩ (fun a ha => (nomatch ha)) (Nat.le_refl _)
  rw [List.length_nil] at r2
  have e0 : told L [] = [] := rfl
  rw [e0] at r2
  rw [r2]
  have hrl := rows_len h r1
  obtain ⟨ls, l1, l2, l3⟩ := sort_ok (lo := rs.map (rowOut L)) (by rw [List.length_map]; omega) (told_four h r1.row) (r1.heads h)
  exact ⟨ls, r1.outs h l1 l2, by rw [l1.length_eq, List.length_map]; exact hrl, by rw [l1.flatten.length_eq]; exact rows_pts h r1, l3⟩
end
end Go.Proofs.Ytacapjleiadkkaa
namespace Go.Proofs.Ytacapjleiadkkaa
theorem compact_mem (zs : List Int) (x : Int) : x ∈ Lib.compact zs ↔ x ∈ zs := by
  unfold Lib.compact Lib.compactUpTo
  constructor
  · intro h
    obtain ⟨j, hj, rfl⟩ := List.mem_map.1 h
    have hj := List.mem_range.1 (List.mem_filter.1 hj).1
    show zs.toArray[j]! ∈ zs
    rw [getElem!_pos zs.toArray j (by simpa using hj)]
    simp
  · intro h
    have key : ∀ (j : Nat), (hj : j < zs.length) → ∃ i, i < zs.length ∧ Lib.keeps zs.toArray i = true ∧ zs.toArray[i]! = zs[j] := by
      intro j
      induction j with
      | zero => intro hj; exact ⟨0, hj, Lib.keeps_lt_one _ 0 (by omega), by rw [getElem!_pos zs.toArray 0 (by simpa using hj)]; simp⟩
      | succ j ih =>
        intro hj
        by_cases hk : Lib.keeps zs.toArray (j + 1) = true
        · exact ⟨j + 1, hj, hk, by rw [getElem!_pos zs.toArray (j + 1) (by simpa using hj)]; simp⟩
        · have he : zs.toArray[j + 1]! = zs.toArray[j]! := by
            unfold Lib.keeps at hk
            simp at hk
            simpa using hk
          rw [getElem!_pos zs.toArray (j + 1) (by simpa using hj), getElem!_pos zs.toArray j (by simp; omega)] at he
          simp at he
          obtain ⟨i, h1, h2, h3⟩ := ih (by omega)
          exact ⟨i, h1, h2, by rw [h3, he]⟩
    obtain ⟨j, hj, rfl⟩ := List.mem_iff_getElem.1 h
    obtain ⟨i, h1, h2, h3⟩ := key j hj
    exact List.mem_map.2 ⟨i, List.mem_filter.2 ⟨List.mem_range.2 h1, h2⟩, h3⟩
theorem compact_strict {zs : List Int} (h : zs.Pairwise fun x y => x ≤ y) : (Lib.compact zs).Pairwise fun x y => x < y := by
  unfold Lib.compact Lib.compactUpTo
  rw [List.pairwise_map]
  have hr : ((List.range zs.length).filter (Lib.keeps zs.toArray)).Pairwise (fun i j => i < j) := (List.pairwise_lt_range).filter _
  refine List.Pairwise.imp_of_mem (fun {i j} hi hj hij => ?_) hr
  have hj1 := List.mem_range.1 (List.mem_filter.1 hj).1
  have hj2 := (List.mem_filter.1 hj).2
  show zs.toArray[i]! < zs.toArray[j]!
  unfold Lib.keeps at hj2
  simp at hj2
  have hne : zs.toArray[j]! ≠ zs.toArray[j - 1]! := by
    rcases hj2 with h0 | h0
    · omega
    · simpa using h0
  rw [getElem!_pos zs.toArray j (by simpa using hj1), getElem!_pos zs.toArray (j - 1) (by simp; omega)] at hne
  rw [getElem!_pos zs.toArray j (by simpa using hj1), getElem!_pos zs.toArray i (by simp; omega)]
  simp at hne ⊢
  rw [List.pairwise_iff_getElem] at h
  have a1 : zs[j - 1] ≤ zs[j] := h (j - 1) j (by omega) hj1 (by omega)
  have a2 : zs[i] ≤ zs[j - 1] := by
    rcases Nat.lt_or_eq_of_le (show i ≤ j - 1 by omega) with hlt | heq
    · exact h i (j - 1) (by omega) (by omega) hlt
    · subst heq; exact Int.le_refl _
  omega
/-- Sorted, each once. -/
def srtd (l : List Int) : List Int := Lib.compact (l.mergeSort fun x y => decide (x ≤ y))
theorem srtd_mem (l : List Int) (x : Int) : x ∈ srtd l ↔ x ∈ l := by
  unfold srtd
  rw [compact_mem]
  exact (List.mergeSort_perm l _).mem_iff
theorem srtd_strict (l : List Int) : (srtd l).Pairwise fun x y => x < y := by
  unfold srtd
  refine compact_strict ?_
  have := List.pairwise_mergeSort (le := fun x y : Int => decide (x ≤ y)) (fun a b c h1 h2 => by simp at *; omega) (fun a b => by simp; omega) l
  exact this.imp (by simp)
theorem srtd_ok {l : List Int} (h : l.length < 4611686018427387904) : ((srtI l).bind fun y => cpI y) = some (srtd l) := by
  unfold srtI cpI srtd
  rw [if_pos h]; rfl
theorem srtI_ok {l : List Int} (h : l.length < 4611686018427387904) : srtI l = some (l.mergeSort fun x y => decide (x ≤ y)) := if_pos h
end Go.Proofs.Ytacapjleiadkkaa
namespace Go.Proofs.Ytacapjleiadkkaa
/-- Stretches behind a number, in order, none touching another one. -/
def Can : Int → List (Int × Int) → Prop
  | _, [] => True
  | lo, p :: l => lo < p.1 ∧ p.1 < p.2 ∧ Can p.2 l
def InS (x : Int) (l : List (Int × Int)) : Prop := ∃ p ∈ l, p.1 ≤ x ∧ x < p.2
theorem InS_cons {x : Int} {p : Int × Int} {l : List (Int × Int)} : InS x (p :: l) ↔ (p.1 ≤ x ∧ x < p.2) ∨ InS x l := by unfold InS; simp
theorem InS_nil {x : Int} : ¬ InS x [] := by unfold InS; simp
theorem InS_append {x : Int} {l m : List (Int × Int)} : InS x (l ++ m) ↔ InS x l ∨ InS x m := by
  unfold InS
  constructor
  · rintro ⟨p, hp, h⟩
    rcases List.mem_append.1 hp with hp | hp
    · exact .inl ⟨p, hp, h⟩
    · exact .inr ⟨p, hp, h⟩
  · rintro (⟨p, hp, h⟩ | ⟨p, hp, h⟩)
    · exact ⟨p, List.mem_append_left _ hp, h⟩
    · exact ⟨p, List.mem_append_right _ hp, h⟩
theorem Can.lt : ∀ {l : List (Int × Int)} {lo x : Int}, Can lo l → InS x l → lo < x
  | [], _, _, _, h => absurd h InS_nil
  | p :: l, lo, x, h, hx => by
    obtain ⟨h1, h2, h3⟩ := h
    rcases InS_cons.1 hx with hx | hx
    · omega
    · have := h3.lt hx; omega
theorem Can.mono {l : List (Int × Int)} {lo lo' : Int} (h : Can lo l) (hl : lo' ≤ lo) : Can lo' l := by
  cases l with
  | nil => trivial
  | cons p l => exact ⟨by have := h.1; omega, h.2⟩
/-- The form is one. -/
theorem Can.uniq : ∀ {l m : List (Int × Int)} {lo lo' : Int}, Can lo l → Can lo' m → (∀ x, InS x l ↔ InS x m) → l = m
  | [], [], _, _, _, _, _ => rfl
  | [], p :: m, _, _, _, h2, h => absurd ((h p.1).2 (InS_cons.2 (.inl ⟨Int.le_refl _, h2.2.1⟩))) InS_nil
  | p :: l, [], _, _, h1, _, h => absurd ((h p.1).1 (InS_cons.2 (.inl ⟨Int.le_refl _, h1.2.1⟩))) InS_nil
  | p :: l, q :: m, lo, lo', h1, h2, h => by
    obtain ⟨a1, a2, a3⟩ := h1
    obtain ⟨b1, b2, b3⟩ := h2
    have c1 : q.1 ≤ p.1 := by
      rcases InS_cons.1 ((h p.1).1 (InS_cons.2 (.inl ⟨Int.le_refl _, a2⟩))) with hx | hx
      · exact hx.1
      · have := b3.lt hx; omega
    have c2 : p.1 ≤ q.1 := by
      rcases InS_cons.1 ((h q.1).2 (InS_cons.2 (.inl ⟨Int.le_refl _, b2⟩))) with hx | hx
      · exact hx.1
      · have := a3.lt hx; omega
    have c3 : ¬ p.2 < q.2 := fun hlt => by
      rcases InS_cons.1 ((h p.2).2 (InS_cons.2 (.inl ⟨by omega, hlt⟩))) with hx | hx
      · omega
      · have := a3.lt hx; omega
    have c4 : ¬ q.2 < p.2 := fun hlt => by
      rcases InS_cons.1 ((h q.2).1 (InS_cons.2 (.inl ⟨by omega, hlt⟩))) with hx | hx
      · omega
      · have := b3.lt hx; omega
    have hpq : p = q := by obtain ⟨a, b⟩ := p; obtain ⟨c, d⟩ := q; simp only at *; congr 1 <;> omega
    subst hpq
    have hlm : l = m := a3.uniq b3 fun x => by
      constructor
      · intro hx
        have hlt := a3.lt hx
        rcases InS_cons.1 ((h x).1 (InS_cons.2 (.inr hx))) with h' | h'
        · omega
        · exact h'
      · intro hx
        have hlt := b3.lt hx
        rcases InS_cons.1 ((h x).2 (InS_cons.2 (.inr hx))) with h' | h'
        · omega
        · exact h'
    rw [hlm]
/-- Stretches that begin with init and end with one more. -/
theorem Can.snoc : ∀ {l : List (Int × Int)} {lo : Int} {p : Int × Int}, Can lo l → (∀ q ∈ l, q.2 < p.1) → lo < p.1 → p.1 < p.2 → Can lo (l ++ [p])
  | [], _, _, _, _, h1, h2 => ⟨h1, h2, trivial⟩
  | q :: l, lo, p, h, hq, h1, h2 => ⟨h.1, h.2.1, h.2.2.snoc (fun r hr => hq r (by simp [hr])) (hq q (by simp)) h2⟩
theorem Can.init : ∀ {l : List (Int × Int)} {lo : Int} {p : Int × Int}, Can lo (l ++ [p]) → Can lo l ∧ (∀ q ∈ l, q.2 < p.1) ∧ lo < p.1 ∧ p.1 < p.2
  | [], _, _, h => ⟨trivial, by simp, h.1, h.2.1⟩
  | q :: l, lo, p, h => by
    obtain ⟨i1, i2, i3, i4⟩ := Can.init (l := l) h.2.2
    have := h.1; have := h.2.1
    refine ⟨⟨h.1, h.2.1, i1⟩, fun r hr => ?_, by omega, i4⟩
    rcases List.mem_cons.1 hr with rfl | hr
    · exact i3
    · exact i2 r hr
/-- All numbers of stretches, one behind the other. -/
def flatS (l : List (Int × Int)) : List Int := l.flatMap fun p => [p.1, p.2]
theorem flatS_nil : flatS [] = [] := rfl
theorem flatS_cons (p : Int × Int) (l : List (Int × Int)) : flatS (p :: l) = p.1 :: p.2 :: flatS l := rfl
theorem flatS_append (l m : List (Int × Int)) : flatS (l ++ m) = flatS l ++ flatS m := by unfold flatS; rw [List.flatMap_append]
theorem flatS_len : ∀ l : List (Int × Int), (flatS l).length = 2 * l.length
  | [] => rfl
  | p :: l => by rw [flatS_cons, List.length_cons, List.length_cons, flatS_len l, List.length_cons]; omega
theorem flatS_inj : ∀ {l m : List (Int × Int)}, flatS l = flatS m → l = m
  | [], [], _ => rfl
  | [], q :: m, h => by rw [flatS_nil, flatS_cons] at h; cases h
  | p :: l, [], h => by rw [flatS_nil, flatS_cons] at h; cases h
  | p :: l, q :: m, h => by
    rw [flatS_cons, flatS_cons] at h
    injection h with h1 h
    injection h with h2 h
    rw [flatS_inj h]
    congr 1
    obtain ⟨a, b⟩ := p; obtain ⟨c, d⟩ := q
    simp only at h1 h2
    rw [h1, h2]
/-- One stretch more, that begins no sooner than the last one. -/
def ext1 (l : List (Int × Int)) (p : Int × Int) : List (Int × Int) :=
  match l.getLast? with
  | none => [p]
  | some q => if p.1 ≤ q.2 then l.dropLast ++ [(q.1, max q.2 p.2)] else l ++ [p]
theorem ext1_nil (p : Int × Int) : ext1 [] p = [p] := rfl
theorem ext1_snoc (l : List (Int × Int)) (q p : Int × Int) : ext1 (l ++ [q]) p = if p.1 ≤ q.2 then l ++ [(q.1, max q.2 p.2)] else l ++ [q] ++ [p] := by
  unfold ext1
  simp
theorem ext1_ok {lo : Int} {l done : List (Int × Int)} {p : Int × Int} (hc : Can lo l) (hm : ∀ x, InS x l ↔ InS x done) (hlast : ∀ q ∈ l, q.1 ≤ p.1) (hlo : lo < p.1) (hp : p.1 < p.2) :
    Can lo (ext1 l p) ∧ (∀ x, InS x (ext1 l p) ↔ InS x (done ++ [p])) ∧ ∀ q ∈ ext1 l p, q.1 ≤ p.1 := by
  have hsplit : l = [] ∨ ∃ i q, l = i ++ [q] := by
    rcases List.eq_nil_or_concat l with h | ⟨i, q, h⟩
    · exact .inl h
    · exact .inr ⟨i, q, by simpa using h⟩
  rcases hsplit with rfl | ⟨i, q, rfl⟩
  · rw [ext1_nil]
    refine ⟨⟨hlo, hp, trivial⟩, fun x => ?_, by simp⟩
    rw [InS_append, ← hm x]
    exact ⟨fun h => .inr h, fun h => h.resolve_left InS_nil⟩
  · obtain ⟨c1, c2, c3, c4⟩ := hc.init
    have hq := hlast q (by simp)
    rw [ext1_snoc]
    by_cases hle : p.1 ≤ q.2
    · rw [if_pos hle]
      refine ⟨c1.snoc (p := (q.1, max q.2 p.2)) c2 c3 (by show q.1 < max q.2 p.2; omega), fun x => ?_, fun r hr => ?_⟩
      · rw [InS_append, InS_append (l := done), ← hm x, InS_append]
        have e1 : InS x [(q.1, max q.2 p.2)] ↔ (q.1 ≤ x ∧ x < max q.2 p.2) := by unfold InS; simp
        have e2 : InS x [q] ↔ (q.1 ≤ x ∧ x < q.2) := by unfold InS; simp
        have e3 : InS x [p] ↔ (p.1 ≤ x ∧ x < p.2) := by unfold InS; simp
        rw [e1, e2, e3]
        constructor
        · rintro (h | h)
          · exact .inl (.inl h)
          · by_cases hx : x < q.2
            · exact .inl (.inr ⟨h.1, hx⟩)
            · exact .inr ⟨by omega, by omega⟩
        · rintro ((h | h) | h)
          · exact .inl h
          · exact .inr ⟨h.1, by omega⟩
          · exact .inr ⟨by omega, by omega⟩
      · rcases List.mem_append.1 hr with hr | hr
        · have := c2 r hr; exact hlast r (by simp [hr])
        · simp at hr; subst hr; exact hq
    · rw [if_neg hle]
      refine ⟨hc.snoc (fun r hr => ?_) hlo hp, fun x => ?_, fun r hr => ?_⟩
      · rcases List.mem_append.1 hr with hr | hr
        · have := c2 r hr; omega
        · simp at hr; subst hr; omega
      · rw [InS_append, InS_append (l := done), hm x]
      · rcases List.mem_append.1 hr with hr | hr
        · exact hlast r hr
        · simp at hr; subst hr; exact Int.le_refl _
/-- The stretches of many, sorted by where they begin. -/
theorem ext_all {lo : Int} : ∀ (suf : List (Int × Int)) (l done : List (Int × Int)), Can lo l → (∀ x, InS x l ↔ InS x done) → (∀ p ∈ suf, ∀ q ∈ l, q.1 ≤ p.1) → suf.Pairwise (fun p q => p.1 ≤ q.1) → (∀ p ∈ suf, lo < p.1 ∧ p.1 < p.2) →
    Can lo (suf.foldl ext1 l) ∧ ∀ x, InS x (suf.foldl ext1 l) ↔ InS x (done ++ suf)
  | [], l, done, h1, h2, _, _, _ => ⟨h1, by simpa using h2⟩
  | p :: suf, l, done, h1, h2, h3, h4, h5 => by
    obtain ⟨s1, s2, s3⟩ := ext1_ok h1 h2 (h3 p (by simp)) (h5 p (by simp)).1 (h5 p (by simp)).2
    rw [List.pairwise_cons] at h4
    have := ext_all suf (ext1 l p) (done ++ [p]) s1 s2 (fun r hr q hq => Int.le_trans (s3 q hq) (h4.1 r hr)) h4.2 (fun r hr => h5 r (by simp [hr]))
    simpa using this
/-- One stretch more, wherever it lies: those before it, what it joins, those behind it. -/
def joinGo : Int → Int → List (Int × Int) → List (Int × Int)
  | a, b, [] => [(a, b)]
  | a, b, q :: l => if q.1 ≤ b then joinGo (min a q.1) (max b q.2) l else (a, b) :: q :: l
def join1 : List (Int × Int) → Int × Int → List (Int × Int)
  | [], p => [p]
  | q :: l, p => if q.2 < p.1 then q :: join1 l p else joinGo p.1 p.2 (q :: l)
theorem joinGo_ok : ∀ {l : List (Int × Int)} {lo a b : Int}, lo < a → a < b → (∀ q ∈ l, lo < q.1) → (∀ q ∈ l, a ≤ q.2) → (∃ lo', Can lo' l) → Can lo (joinGo a b l) ∧ ∀ x, InS x (joinGo a b l) ↔ (a ≤ x ∧ x < b) ∨ InS x l
  | [], lo, a, b, h1, h2, _, _, _ => ⟨⟨h1, h2, trivial⟩, fun x => by unfold joinGo; rw [InS_cons]⟩
  | q :: l, lo, a, b, h1, h2, h3, h5, ⟨lo', h4⟩ => by
    have hq := h3 q (by simp)
    have hov := h5 q (by simp)
    have hq2 := h4.2.1
    unfold joinGo
    by_cases hle : q.1 ≤ b
    · rw [if_pos hle]
      obtain ⟨i1, i2⟩ := joinGo_ok (l := l) (lo := lo) (a := min a q.1) (b := max b q.2) (by omega) (by omega) (fun r hr => h3 r (by simp [hr])) (fun r hr => by have := h5 r (by simp [hr]); omega) ⟨q.2, h4.2.2⟩
      refine ⟨i1, fun x => ?_⟩
      rw [i2, InS_cons]
      constructor
      · rintro (h | h)
        · by_cases h' : a ≤ x ∧ x < b
          · exact .inl h'
          · exact .inr (.inl ⟨by omega, by omega⟩)
        · exact .inr (.inr h)
      · rintro (h | h | h)
        · exact .inl ⟨by omega, by omega⟩
        · exact .inl ⟨by omega, by omega⟩
        · exact .inr h
    · rw [if_neg hle]
      refine ⟨⟨h1, h2, by omega, hq2, h4.2.2⟩, fun x => ?_⟩
      rw [InS_cons]
theorem Can.mem : ∀ {l : List (Int × Int)} {lo : Int}, Can lo l → ∀ q ∈ l, lo < q.1 ∧ q.1 < q.2
  | [], _, _, q, h => by simp at h
  | p :: l, lo, h, q, hq => by
    rcases List.mem_cons.1 hq with rfl | hq
    · exact ⟨h.1, h.2.1⟩
    · have := h.2.2.mem q hq
      have := h.1; have := h.2.1
      omega
theorem join1_ok : ∀ {l : List (Int × Int)} {lo : Int} {p : Int × Int}, Can lo l → lo < p.1 → p.1 < p.2 → Can lo (join1 l p) ∧ ∀ x, InS x (join1 l p) ↔ InS x (l ++ [p])
  | [], lo, p, _, h1, h2 => ⟨⟨h1, h2, trivial⟩, fun x => Iff.rfl⟩
  | q :: l, lo, p, h, h1, h2 => by
    unfold join1
    by_cases hlt : q.2 < p.1
    · rw [if_pos hlt]
      obtain ⟨i1, i2⟩ := join1_ok (l := l) (lo := q.2) (p := p) h.2.2 hlt h2
      refine ⟨⟨h.1, h.2.1, i1⟩, fun x => ?_⟩
      rw [InS_cons, i2, List.cons_append, InS_cons]
    · rw [if_neg hlt]
      obtain ⟨i1, i2⟩ := joinGo_ok (l := q :: l) (lo := lo) (a := p.1) (b := p.2) h1 h2 (fun r hr => (h.mem r hr).1) (fun r hr => by
        rcases List.mem_cons.1 hr with rfl | hr
        · omega
        · have := h.2.2.mem r hr; omega) ⟨lo, h⟩
      refine ⟨i1, fun x => ?_⟩
      rw [i2, InS_append]
      have e : InS x [p] ↔ (p.1 ≤ x ∧ x < p.2) := by unfold InS; simp
      rw [e]
      exact or_comm
theorem join_all {lo : Int} : ∀ (suf : List (Int × Int)) (l done : List (Int × Int)), Can lo l → (∀ x, InS x l ↔ InS x done) → (∀ p ∈ suf, lo < p.1 ∧ p.1 < p.2) →
    Can lo (suf.foldl join1 l) ∧ ∀ x, InS x (suf.foldl join1 l) ↔ InS x (done ++ suf)
  | [], l, done, h1, h2, _ => ⟨h1, by simpa using h2⟩
  | p :: suf, l, done, h1, h2, h5 => by
    obtain ⟨s1, s2⟩ := join1_ok h1 (h5 p (by simp)).1 (h5 p (by simp)).2
    have := join_all suf (join1 l p) (done ++ [p]) s1 (fun x => by rw [s2, InS_append, InS_append, h2]) (fun r hr => h5 r (by simp [hr]))
    simpa using this
/-- The one form of what stretches cover together. -/
def covS (l : List (Int × Int)) : List (Int × Int) := l.foldl join1 []
theorem covS_ok {lo : Int} {l : List (Int × Int)} (h : ∀ p ∈ l, lo < p.1 ∧ p.1 < p.2) : Can lo (covS l) ∧ ∀ x, InS x (covS l) ↔ InS x l := by
  have := join_all l [] [] (lo := lo) trivial (fun x => Iff.rfl) h
  rw [List.nil_append] at this
  exact this
/-- Built up in order, in whatever order they lay. -/
theorem ext_cov {lo : Int} {l m : List (Int × Int)} (hp : m.Perm l) (hs : m.Pairwise (fun p q => p.1 ≤ q.1)) (h : ∀ p ∈ l, lo < p.1 ∧ p.1 < p.2) : m.foldl ext1 [] = covS l := by
  obtain ⟨a1, a2⟩ := ext_all m [] [] (lo := lo) trivial (fun x => Iff.rfl) (by simp) hs (fun p hq => h p (hp.subset hq))
  obtain ⟨b1, b2⟩ := covS_ok h
  refine a1.uniq b1 fun x => ?_
  rw [a2, b2, List.nil_append]
  unfold InS
  constructor
  · rintro ⟨p, hq, h⟩; exact ⟨p, hp.subset hq, h⟩
  · rintro ⟨p, hq, h⟩; exact ⟨p, hp.symm.subset hq, h⟩
theorem covS_congr {lo : Int} {l m : List (Int × Int)} (hl : ∀ p ∈ l, lo < p.1 ∧ p.1 < p.2) (hm : ∀ p ∈ m, lo < p.1 ∧ p.1 < p.2) (h : ∀ x, InS x l ↔ InS x m) : covS l = covS m := by
  obtain ⟨a1, a2⟩ := covS_ok hl
  obtain ⟨b1, b2⟩ := covS_ok hm
  exact a1.uniq b1 fun x => by rw [a2, b2, h]
theorem joinGo_len : ∀ (l : List (Int × Int)) (a b : Int), (joinGo a b l).length ≤ l.length + 1
  | [], _, _ => by simp [joinGo]
  | q :: l, a, b => by
    unfold joinGo
    split
    · have := joinGo_len l (min a q.1) (max b q.2); simp; omega
    · simp
theorem join1_len : ∀ (l : List (Int × Int)) (p : Int × Int), (join1 l p).length ≤ l.length + 1
  | [], _ => by simp [join1]
  | q :: l, p => by
    unfold join1
    split
    · have := join1_len l p; simp; omega
    · exact joinGo_len _ _ _
theorem covS_len : ∀ (l m : List (Int × Int)), (l.foldl join1 m).length ≤ m.length + l.length
  | [], m => by simp
  | p :: l, m => by
    have := covS_len l (join1 m p); have := join1_len m p
    rw [List.foldl_cons, List.length_cons]; omega
end Go.Proofs.Ytacapjleiadkkaa
namespace Go.Proofs.Ytacapjleiadkkaa
/-- A band: from, to, stretches. -/
abbrev Bd := Int × Int × List (Int × Int)
def xsR (r : TRect) : Int × Int := (r.X0, r.X1)
/-- The stretches of rectangles at a height. -/
def rowS (l : List TRect) (y : Int) : List (Int × Int) := covS ((l.filter fun r => decide (r.Y0 ≤ y) && decide (y < r.Y1)).map xsR)
/-- One band more behind all others. -/
def pushB (l : List Bd) (b : Bd) : List Bd :=
  if b.2.2 = [] then l else
  match l.getLast? with
  | none => l ++ [b]
  | some c => if c.2.1 = b.1 ∧ c.2.2 = b.2.2 then l.dropLast ++ [(c.1, b.2.1, c.2.2)] else l ++ [b]
theorem pushB_empty {l : List Bd} {b : Bd} (h : b.2.2 = []) : pushB l b = l := if_pos h
theorem pushB_nil {b : Bd} (h : b.2.2 ≠ []) : pushB [] b = [b] := by unfold pushB; rw [if_neg h]; rfl
theorem pushB_snoc {l : List Bd} {c b : Bd} (h : b.2.2 ≠ []) : pushB (l ++ [c]) b = if c.2.1 = b.1 ∧ c.2.2 = b.2.2 then l ++ [(c.1, b.2.1, c.2.2)] else l ++ [c] ++ [b] := by
  unfold pushB
  rw [if_neg h]
  simp
/-- The bands of rectangles over consecutive heights. -/
def bandsGo (l : List TRect) : List Int → List Bd → List Bd
  | a :: b :: ys, out => bandsGo l (b :: ys) (pushB out (a, b, rowS l a))
  | _, out => out
def ysOfR (l : List TRect) : List Int := l.flatMap fun r => [r.Y0, r.Y1]
def setB (l : List TRect) : List Bd := bandsGo l (srtd (ysOfR l)) []
def rectsOf (b : Bd) : List TRect := b.2.2.map fun s => ⟨s.1, b.1, s.2, b.2.1⟩
def rectsB (l : List Bd) : List TRect := l.flatMap rectsOf
def toP (b : Bd) : TBand := ⟨b.1, b.2.1, flatS b.2.2⟩
/-- A rectangle with something in it, within the limits. -/
structure ROk (r : TRect) : Prop where
  x0 : -1000000 ≤ r.X0 ∧ r.X0 ≤ 1000000
  y0 : -1000000 ≤ r.Y0 ∧ r.Y0 ≤ 1000000
  x1 : -1000000 ≤ r.X1 ∧ r.X1 ≤ 1000000
  y1 : -1000000 ≤ r.Y1 ∧ r.Y1 ≤ 1000000
  x : r.X0 < r.X1
  y : r.Y0 < r.Y1
/-- A rectangle with something in it, within wide limits. -/
structure R9 (r : TRect) : Prop where
  x0 : -2000000000 ≤ r.X0 ∧ r.X0 ≤ 2000000000
  y0 : -2000000000 ≤ r.Y0 ∧ r.Y0 ≤ 2000000000
  x1 : -2000000000 ≤ r.X1 ∧ r.X1 ≤ 2000000000
  y1 : -2000000000 ≤ r.Y1 ∧ r.Y1 ≤ 2000000000
  x : r.X0 < r.X1
  y : r.Y0 < r.Y1
theorem ROk.r9 {r : TRect} (h : ROk r) : R9 r := by
  have := h.x0; have := h.x1; have := h.y0; have := h.y1
  exact ⟨by omega, by omega, by omega, by omega, h.x, h.y⟩
theorem EqualI_ok (l m : List Int) : F_slices_Equal_int l m = some (decide (l = m)) := by
  have key : ∀ (suf pre rest : List Int), suf.length = rest.length → F_slices_Equal_int_L1 (pre ++ rest) suf pre.length = some (decide (suf = rest)) := by
    intro suf
    induction suf with
    | nil =>
      intro pre rest h
      have : rest = [] := List.eq_nil_of_length_eq_zero h.symm
      subst this
      rw [F_slices_Equal_int_L1.eq_1]; rfl
    | cons x suf ih =>
      intro pre rest h
      cases rest with
      | nil => simp at h
      | cons y rest =>
        rw [F_slices_Equal_int_L1.eq_2, idx_mid pre rest y, Option.bind_some]
        have := ih (pre ++ [y]) rest (by simpa using h)
        by_cases hxy : x = y
        · subst hxy
          rw [if_neg (by simp)]
          simpa using this
        · rw [if_pos (by simpa using hxy)]
          simp [hxy]
  unfold F_slices_Equal_int
  by_cases h : l.length = m.length
  · rw [if_neg (by simp; omega)]
    exact key l [] m h
  · rw [if_pos (by simp; omega)]
    have : l ≠ m := fun e => h (by rw [e])
    simp [this]
theorem eqR_dec {a b : TRect} : eqTRect a b = true ↔ a = b := eqTRect_iff
theorem EqualR_ok (l m : List TRect) : ∃ b : Bool, F_slices_Equal_Rect l m = some b ∧ (b = true ↔ l = m) := by
  have key : ∀ (suf pre rest : List TRect), suf.length = rest.length → ∃ b : Bool, F_slices_Equal_Rect_L1 (pre ++ rest) suf pre.length = some b ∧ (b = true ↔ suf = rest) := by
    intro suf
    induction suf with
    | nil =>
      intro pre rest h
      have : rest = [] := List.eq_nil_of_length_eq_zero h.symm
      subst this
      rw [F_slices_Equal_Rect_L1.eq_1]; exact ⟨true, rfl, by simp⟩
    | cons x suf ih =>
      intro pre rest h
      cases rest with
      | nil => simp at h
      | cons y rest =>
        rw [F_slices_Equal_Rect_L1.eq_2, idx_mid pre rest y, Option.bind_some]
        obtain ⟨b, h1, h2⟩ := ih (pre ++ [y]) rest (by simpa using h)
        by_cases hxy : x = y
        · subst hxy
          rw [eqTRect_iff.2 rfl, if_neg (by simp)]
          exact ⟨b, by simpa using h1, by simp [h2]⟩
        · have : eqTRect x y = false := by rw [Bool.eq_false_iff]; exact fun h => hxy (eqTRect_iff.1 h)
          rw [this, if_pos (by simp)]
          exact ⟨false, rfl, by simp [hxy]⟩
  unfold F_slices_Equal_Rect
  by_cases h : l.length = m.length
  · rw [if_neg (by simp; omega)]
    exact key l [] m h
  · rw [if_pos (by simp; omega)]
    exact ⟨false, rfl, by simp; exact fun e => h (by rw [e])⟩
/-- slices.SortFunc by a number of each element. -/
theorem sort_key {c : TRect → TRect → Option Int} {k : TRect → Int} {l : List TRect} (hl : l.length ≤ 1000000000) (hc : ∀ x ∈ l, ∀ y ∈ l, c x y = some (k x - k y)) : ∃ m, srtF l c = some m ∧ m.Perm l ∧ m.Pairwise fun x y => k x ≤ k y := by
  have hlt : ∀ x ∈ l, ∀ y ∈ l, ltC c x y = decide (k x < k y) := fun x hx y hy => by
    unfold ltC
    rw [hc x hx y hy, Option.getD_some]
    exact decide_eq_decide.2 (by omega)
  have hs : SortOk c l := ⟨by omega, fun x hx y hy => ⟨_, hc x hx y hy⟩, fun x hx => by rw [hlt x hx x hx]; simp, fun x hx y hy z hz h1 h2 => by
    rw [hlt x hx y hy] at h1; rw [hlt y hy z hz] at h2; rw [hlt x hx z hz]; simp at *; omega, fun x hx y hy z hz h1 h2 => by
    rw [hlt x hx y hy] at h1; rw [hlt y hy z hz] at h2; rw [hlt x hx z hz]; simp at *; omega⟩
  obtain ⟨m, hm⟩ := srtF_ok hs
  obtain ⟨_, hp, hw⟩ := srtF_some hm
  refine ⟨m, hm, hp, hw.imp_of_mem fun {x y} hx hy h => ?_⟩
  rw [hlt y (hp.subset hy) x (hp.subset hx)] at h
  simp at h
  exact h
theorem stretches_loop (y : List TRect) : ∀ (suf : List TRect) (i : Nat) (l : List (Int × Int)), l.length + suf.length ≤ 1000000000 → F_shape_stretches_L1 y suf i (flatS l) = some (flatS ((suf.map xsR).foldl ext1 l), y)
  | [], i, l, _ => by rw [F_shape_stretches_L1.eq_1]; rfl
  | r :: suf, i, l, h => by
    simp only [List.length_cons] at h
    have hsplit : l = [] ∨ ∃ j q, l = j ++ [q] := by
      rcases List.eq_nil_or_concat l with h | ⟨j, q, h⟩
      · exact .inl h
      · exact .inr ⟨j, q, by simpa using h⟩
    rw [F_shape_stretches_L1.eq_2, List.map_cons, List.foldl_cons]
    rcases hsplit with rfl | ⟨j, q, rfl⟩
    · rw [if_neg (by simp [flatS_nil, w64_id]), Option.bind_some, if_neg (by simp), show apd (flatS []) [r.X0, r.X1] = some (flatS [xsR r]) from rfl, Option.bind_some, ext1_nil]
      exact stretches_loop y suf (i + 1) [xsR r] (by simp; omega)
    · have hfl : flatS (j ++ [q]) = (flatS j ++ [q.1]) ++ q.2 :: [] := by rw [flatS_append]; simp [flatS]
      have hlen : (flatS (j ++ [q])).length = 2 * j.length + 2 := by rw [flatS_len]; simp; omega
      simp only [List.length_append, List.length_singleton] at h
      have hw : w64 (((flatS (j ++ [q])).length : Int) - 1) = ((flatS j ++ [q.1]).length : Int) := by
        rw [w64_id (by omega) (by omega), hlen]; simp [flatS_len]; omega
      have hid : idx (flatS (j ++ [q])) ((flatS j ++ [q.1]).length : Int) = some q.2 := by rw [hfl]; exact idx_mid _ [] q.2
      rw [hw, if_pos (decide_eq_true (by omega)), hid, Option.bind_some, Option.bind_some, ext1_snoc]
      by_cases hle : r.X0 ≤ q.2
      · rw [if_pos (by simpa using hle), if_pos (show (xsR r).1 ≤ q.2 from hle), Option.bind_some]
        have hset : sets (flatS (j ++ [q])) ((flatS j ++ [q.1]).length : Int) (max q.2 r.X1) = some (flatS (j ++ [(q.1, max q.2 (xsR r).2)])) := by
          unfold sets
          rw [if_pos ⟨by omega, by rw [hlen]; simp [flatS_len]⟩, hfl, flatS_append]
          simp [flatS, xsR]
        rw [Option.bind_some, hset, Option.bind_some]
        exact stretches_loop y suf (i + 1) _ (by simp; omega)
      · rw [if_neg (by simpa using hle), if_neg (show ¬ (xsR r).1 ≤ q.2 from hle), apd_ok (by rw [hlen]; simp; omega), Option.bind_some]
        have : flatS (j ++ [q]) ++ [r.X0, r.X1] = flatS (j ++ [q] ++ [xsR r]) := by rw [flatS_append (j ++ [q])]; rfl
        rw [this]
        exact stretches_loop y suf (i + 1) _ (by simp; omega)
theorem stretches_ok {l : List TRect} (hl : l.length ≤ 400000000) (h : ∀ r ∈ l, R9 r) : ∃ m, m.Perm l ∧ F_shape_stretches l = some (flatS (covS (l.map xsR)), m) := by
  obtain ⟨m, h1, h2, h3⟩ := sort_key (c := fun z0 z1 => F_shape_stretches_1 z0 z1) (k := fun r => r.X0) (l := l) (by omega) (fun x hx y hy => by
    have a := (h x hx).x0; have b := (h y hy).x0
    unfold F_shape_stretches_1
    rw [w64_id (by omega) (by omega)])
  refine ⟨m, h2, ?_⟩
  unfold F_shape_stretches
  rw [h1, Option.bind_some]
  have := stretches_loop m m 0 [] (by have := h2.length_eq; simp; omega)
  rw [flatS_nil] at this
  rw [this, ext_cov (lo := -2000000001) (h2.map xsR) (by rw [List.pairwise_map]; exact h3) (fun p hp => by
    obtain ⟨r, hr, rfl⟩ := List.mem_map.1 hp
    have a := h r hr
    exact ⟨by have := a.x0; show -2000000001 < r.X0; omega, a.x⟩)]
theorem IndexR_ok {g : TRect → Bool} {f : TRect → Option Bool} : ∀ (l : List TRect) (i : Nat), (∀ x ∈ l, f x = some (g x)) → F_slices_IndexFunc_Rect_L1 f l i = some (ixOf g l i)
  | [], i, _ => rfl
  | x :: l, i, h => by
    rw [F_slices_IndexFunc_Rect_L1.eq_2, h x (by simp), Option.bind_some, IndexR_ok l (i + 1) (fun y hy => h y (by simp [hy])), ixOf, show ((i + 1 : Nat) : Int) = (i : Int) + 1 by omega]
    cases g x <;> rfl
theorem delete_loop {g : TRect → Bool} {f : TRect → Option Bool} : ∀ (rest k u : List TRect) (n : Nat), (∀ x ∈ rest, f x = some (g x)) → u ≠ [] → rest.length < n → (k ++ u ++ rest).length ≤ 1000000000 →
    F_slices_DeleteFunc_Rect_L1 f n (k ++ u ++ rest) k.length (k ++ u).length = some (k ++ rest.filter fun x => !g x)
  | [], k, u, n + 1, _, hu, _, hl => by
    have hc : cut (k ++ u ++ []) (k.length : Int) ((k ++ u ++ []).length : Int) = some u := by
      unfold cut
      rw [if_pos ⟨by omega, by simp; omega, by omega⟩, List.append_nil, Int.toNat_natCast, Int.toNat_natCast, List.take_length, List.drop_left]
    rw [F_slices_DeleteFunc_Rect_L1.eq_2, if_neg (by simp), hc, Option.bind_some]
    unfold clr pre
    rw [if_pos ⟨by omega, by simp; omega⟩]
    simp
  | x :: rest, k, u, n + 1, h, hu, hn, hl => by
    obtain ⟨u0, u', rfl⟩ : ∃ u0 u', u = u0 :: u' := by cases u with | nil => exact absurd rfl hu | cons a b => exact ⟨a, b, rfl⟩
    have hid : idx (k ++ (u0 :: u') ++ x :: rest) ((k ++ (u0 :: u')).length : Int) = some x := idx_mid _ rest x
    simp only [List.length_append, List.length_cons] at hl hn
    rw [F_slices_DeleteFunc_Rect_L1.eq_2, if_pos (by simp; omega), hid, Option.bind_some, h x (by simp), Option.bind_some, up_mid (k ++ (u0 :: u')) x (by simp; omega)]
    cases hg : g x
    · have hid2 : idx (k ++ (u0 :: u') ++ x :: rest) (k.length : Int) = some u0 := by
        rw [List.append_assoc]; exact idx_mid k (u' ++ x :: rest) u0
      have hset : sets (k ++ (u0 :: u') ++ x :: rest) (k.length : Int) x = some ((k ++ [x]) ++ (u' ++ [x]) ++ rest) := by
        unfold sets
        rw [if_pos ⟨by omega, by simp⟩]
        simp
      rw [if_pos (by simp), hid2, Option.bind_some, hset, Option.bind_some, up_mid k x (by omega)]
      have := delete_loop rest (k ++ [x]) (u' ++ [x]) n (fun y hy => h y (by simp [hy])) (by simp) (by omega) (by simp; omega)
      have e : ((k ++ (u0 :: u') ++ [x]).length : Int) = ((k ++ [x] ++ (u' ++ [x])).length : Int) := by rw [List.length_append, List.length_append, List.length_append, List.length_append, List.length_append]; simp; omega
      rw [e, this, List.filter_cons, hg]
      simp
    · rw [if_neg (by simp)]
      have := delete_loop rest k (u0 :: u' ++ [x]) n (fun y hy => h y (by simp [hy])) (by simp) (by omega) (by simp; omega)
      have e : k ++ (u0 :: u') ++ x :: rest = k ++ (u0 :: u' ++ [x]) ++ rest := by simp
      have e2 : ((k ++ (u0 :: u') ++ [x]).length : Int) = ((k ++ (u0 :: u' ++ [x])).length : Int) := by simp
      rw [e, e2, this, List.filter_cons, hg]
      simp
theorem ixOf_split {α : Type} (g : α → Bool) : ∀ (l : List α) (i : Int), 0 ≤ i → (ixOf g l i = -1 ∧ ∀ x ∈ l, g x = false) ∨ ∃ a x b, l = a ++ x :: b ∧ (∀ y ∈ a, g y = false) ∧ g x = true ∧ ixOf g l i = i + a.length
  | [], i, _ => .inl ⟨rfl, by simp⟩
  | x :: l, i, hi => by
    unfold ixOf
    cases hg : g x
    · simp only [Bool.false_eq_true, if_false]
      rcases ixOf_split g l (i + 1) (by omega) with ⟨h1, h2⟩ | ⟨a, z, b, h1, h2, h3, h4⟩
      · exact .inl ⟨h1, fun y hy => by rcases List.mem_cons.1 hy with rfl | hy; exact hg; exact h2 y hy⟩
      · refine .inr ⟨x :: a, z, b, by rw [h1]; rfl, fun y hy => ?_, h3, by rw [h4]; simp; omega⟩
        rcases List.mem_cons.1 hy with rfl | hy
        · exact hg
        · exact h2 y hy
    · rw [if_pos rfl]
      exact .inr ⟨[], x, l, rfl, by simp, hg, by simp⟩
theorem Delete_ok {N : Nat} {g : TRect → Bool} {f : TRect → Option Bool} {l : List TRect} (hN : 1000000000 < N) (hl : l.length ≤ 1000000000) (h : ∀ x ∈ l, f x = some (g x)) : F_slices_DeleteFunc_Rect N l f = some (l.filter fun x => !g x) := by
  unfold F_slices_DeleteFunc_Rect F_slices_IndexFunc_Rect
  rw [IndexR_ok l 0 h, Option.bind_some, show ((0 : Nat) : Int) = 0 from rfl]
  rcases ixOf_split g l 0 (by omega) with ⟨h1, h2⟩ | ⟨a, x, b, h1, h2, h3, h4⟩
  · rw [h1, if_pos (by simp)]
    congr 1
    exact (List.filter_eq_self.2 fun y hy => by simp [h2 y hy]).symm
  · rw [h4, if_neg (by first | (simp; done) | (simp; omega))]
    subst h1
    simp only [List.length_append, List.length_cons] at hl
    have := delete_loop b a [x] N (fun y hy => h y (by simp [hy])) (by simp) (by omega) (by simp; omega)
    have e : a ++ [x] ++ b = a ++ x :: b := by simp
    rw [e] at this
    rw [Int.zero_add, w64_id (by omega) (by omega), show ((a.length : Int) + 1) = ((a ++ [x]).length : Int) by simp, this, List.filter_append, List.filter_cons, h3]
    have ha : a.filter (fun x => !g x) = a := List.filter_eq_self.2 fun y hy => by simp [h2 y hy]
    simp [ha]
theorem push_ok {l : List Bd} {b : Bd} (hl : l.length ≤ 1000000000) (hb : b.1 < b.2.1) : F_shape_Set__push (l.map toP) (toP b) = some ((pushB l b).map toP) := by
  unfold F_shape_Set__push
  have hfl : ((toP b).Xs.length : Int) = 2 * (b.2.2.length : Int) := by show ((flatS b.2.2).length : Int) = _; rw [flatS_len]; omega
  by_cases he : b.2.2 = []
  · rw [if_pos (by rw [hfl, he]; simp), pushB_empty he]
  · have hpos : 0 < b.2.2.length := List.length_pos_iff.2 he
    rw [if_neg (by
      rw [hfl]
      show ¬ ((2 * (b.2.2.length : Int) == 0) || decide (b.2.1 ≤ b.1)) = true
      rw [Bool.or_eq_true, not_or]
      exact ⟨by simp; exact he, by simp; exact hb⟩)]
    have hsplit : l = [] ∨ ∃ j q, l = j ++ [q] := by
      rcases List.eq_nil_or_concat l with h | ⟨j, q, h⟩
      · exact .inl h
      · exact .inr ⟨j, q, by simpa using h⟩
    rcases hsplit with rfl | ⟨j, c, rfl⟩
    · rw [pushB_nil he, if_neg (by simp [w64_id]), Option.bind_some, if_neg (by simp), Option.bind_some, if_neg (by simp)]
      rfl
    · simp only [List.length_append, List.length_singleton] at hl
      have hm : (j ++ [c]).map toP = j.map toP ++ toP c :: [] := by simp
      have hw : w64 ((((j ++ [c]).map toP).length : Int) - 1) = ((j.map toP).length : Int) := by
        rw [w64_id (by first | (simp; done) | (simp; omega)) (by first | (simp; done) | (simp; omega))]; simp
      have hid : idx ((j ++ [c]).map toP) ((j.map toP).length : Int) = some (toP c) := by rw [hm]; exact idx_mid _ [] _
      rw [pushB_snoc he, hw, if_pos (by simp), hid, Option.bind_some, Option.bind_some, Option.bind_some, EqualI_ok]
      have hxs : ((toP c).Xs = (toP b).Xs) ↔ c.2.2 = b.2.2 := ⟨fun h => flatS_inj h, fun h => by show flatS c.2.2 = flatS b.2.2; rw [h]⟩
      by_cases h1 : c.2.1 = b.1
      · have e1 : ((toP c).Y1 == (toP b).Y0) = true := by simpa [toP] using h1
        rw [e1, if_pos rfl, Option.bind_some, Option.bind_some]
        by_cases h2 : c.2.2 = b.2.2
        · rw [decide_eq_true (hxs.2 h2), if_pos rfl, if_pos ⟨h1, h2⟩]
          have hset : sets ((j ++ [c]).map toP) ((j.map toP).length : Int) (TBand.mk (toP c).Y0 (toP b).Y1 (toP c).Xs) = some ((j ++ [(c.1, b.2.1, c.2.2)]).map toP) := by
            unfold sets
            rw [if_pos ⟨by omega, by simp⟩, hm]
            simp [toP]
          rw [Option.bind_some, hset]; rfl
        · rw [decide_eq_false (fun h => h2 (hxs.1 h)), if_neg (by simp), if_neg (fun h => h2 h.2), apd_ok (by simp; omega), Option.bind_some]
          simp
      · have e1 : ((toP c).Y1 == (toP b).Y0) = false := by simpa [toP] using h1
        rw [e1, if_neg (by simp), Option.bind_some, if_neg (by simp), if_neg (fun h => h1 h.1), apd_ok (by simp; omega), Option.bind_some]
        simp
end Go.Proofs.Ytacapjleiadkkaa
namespace Go.Proofs.Ytacapjleiadkkaa
/-- Strictly ascending lists with the same members are one list. -/
theorem strict_uniq : ∀ {l m : List Int}, l.Pairwise (fun x y => x < y) → m.Pairwise (fun x y => x < y) → (∀ x, x ∈ l ↔ x ∈ m) → l = m
  | [], [], _, _, _ => rfl
  | [], y :: m, _, _, h => by have := (h y).2 (by simp); simp at this
  | x :: l, [], _, _, h => by have := (h x).1 (by simp); simp at this
  | x :: l, y :: m, h1, h2, h => by
    rw [List.pairwise_cons] at h1 h2
    have hxy : x = y := by
      have a := (h x).1 (by simp)
      have b := (h y).2 (by simp)
      rcases List.mem_cons.1 a with a | a
      · exact a
      · rcases List.mem_cons.1 b with b | b
        · exact b.symm
        · have := h1.1 y b; have := h2.1 x a; omega
    subst hxy
    rw [strict_uniq h1.2 h2.2 fun z => by
      have hz := h z
      simp only [List.mem_cons] at hz
      constructor
      · intro hm
        have hne : z ≠ x := by have := h1.1 z hm; omega
        rcases hz.1 (.inr hm) with e | e
        · exact absurd e hne
        · exact e
      · intro hm
        have hne : z ≠ x := by have := h2.1 z hm; omega
        rcases hz.2 (.inr hm) with e | e
        · exact absurd e hne
        · exact e]
theorem srtd_perm {l m : List Int} (h : ∀ x, x ∈ l ↔ x ∈ m) : srtd l = srtd m := strict_uniq (srtd_strict l) (srtd_strict m) fun x => by rw [srtd_mem, srtd_mem, h]
theorem mem_ysOfR {l : List TRect} {y : Int} : y ∈ ysOfR l ↔ ∃ r ∈ l, y = r.Y0 ∨ y = r.Y1 := by
  unfold ysOfR
  simp [List.mem_flatMap]
theorem ysOfR_len : ∀ l : List TRect, (ysOfR l).length = 2 * l.length
  | [] => rfl
  | r :: l => by
    show ([r.Y0, r.Y1] ++ ysOfR l).length = _
    rw [List.length_append, ysOfR_len l]; simp; omega
theorem srtd_len (l : List Int) : (srtd l).length ≤ l.length := by
  unfold srtd
  exact Nat.le_trans (cpI_len _) (by rw [List.length_mergeSort]; exact Nat.le_refl _)
theorem pushB_len (l : List Bd) (b : Bd) : (pushB l b).length ≤ l.length + 1 := by
  by_cases he : b.2.2 = []
  · rw [pushB_empty he]; omega
  · rcases List.eq_nil_or_concat l with rfl | ⟨j, c, h⟩
    · rw [pushB_nil he]; simp
    · rw [List.concat_eq_append] at h
      subst h
      rw [pushB_snoc he]
      split <;> simp
section
variable {N : Nat} {l M : List TRect} {ys : List Int} (hN : 10000000000 ≤ N) (hMl : M.length ≤ 100000000) (hok : ∀ r ∈ M, R9 r) (hyl : ys.length ≤ 200000000)
include hN hMl hok hyl
omit hN hyl in
theorem set_in {k a b : Int} {bands : List Bd} (hbl : bands.length ≤ 250000000) (hk0 : 0 ≤ k ∧ k ≤ 250000000) (ha : idx ys k = some a) (hb : idx ys (k + 1) = some b) (hab : a < b) {K : Int → List TBand → List TRect → Int → Option (List TBand)} : ∀ (suf pre now : List TRect) (m : Nat), M = pre ++ suf → suf.length < m → (∀ r ∈ now, R9 r) → now.length + suf.length ≤ 150000000 →
    ∃ t suf' now', suf = t ++ suf' ∧ (∀ r ∈ t, r.Y0 ≤ a) ∧ (∀ r, suf'.head? = some r → a < r.Y0) ∧ now'.Perm (now ++ t) ∧
      F_shape_SetOf_L5 M ys k (bands.map toP) K m now pre.length = K (k + 1) ((pushB bands (a, b, covS ((now ++ t).map xsR))).map toP) now' (pre ++ t).length
  | suf, pre, now, 0, _, h, _, _ => absurd h (Nat.not_lt_zero _)
  | [], pre, now, m + 1, h1, _, h3, h4 => by
    obtain ⟨now', p1, p2⟩ := stretches_ok (l := now) (by simp at h4; omega) h3
    refine ⟨[], [], now', rfl, by simp, by simp, by simpa using p1, ?_⟩
    have hpush := push_ok (l := bands) (b := (a, b, covS (now.map xsR))) (by omega) hab
    rw [F_shape_SetOf_L5.eq_2, if_neg (by rw [h1]; simp), Option.bind_some, if_neg (by simp), ha, Option.bind_some, w64_id (by omega) (by omega), hb, Option.bind_some, p2, Option.bind_some]
    show (F_shape_Set__push (bands.map toP) (toP (a, b, covS (now.map xsR)))).bind _ = _
    rw [hpush, Option.bind_some]
    simp
  | r :: suf, pre, now, m + 1, h1, h2, h3, h4 => by
    have hrM : r ∈ M := by rw [h1]; simp
    have hpl : pre.length ≤ 100000000 := by rw [h1] at hMl; simp at hMl; omega
    have hid : idx M (pre.length : Int) = some r := by rw [h1]; exact idx_mid pre suf r
    simp only [List.length_cons] at h2 h4
    by_cases hle : r.Y0 ≤ a
    · obtain ⟨t, suf', now', e1, e2, e3, e4, e5⟩ := set_in hbl hk0 ha hb hab (K := K) suf (pre ++ [r]) (now ++ [r]) m (by rw [h1]; simp) (by omega) (fun x hx => by
        rcases List.mem_append.1 hx with hx | hx
        · exact h3 x hx
        · simp at hx; subst hx; exact hok _ hrM) (by simp; omega)
      refine ⟨r :: t, suf', now', by rw [e1]; rfl, fun x hx => ?_, e3, by simpa using e4, ?_⟩
      · rcases List.mem_cons.1 hx with rfl | hx
        · exact hle
        · exact e2 x hx
      · rw [F_shape_SetOf_L5.eq_2, if_pos (by rw [h1]; exact lt_mid pre suf r), hid, Option.bind_some, ha, Option.bind_some, Option.bind_some, if_pos (by simpa using hle), Option.bind_some, apd_ok (by simp; omega), Option.bind_some, up_mid pre r (by omega), e5]
        simp
    · obtain ⟨now', p1, p2⟩ := stretches_ok (l := now) (by omega) h3
      refine ⟨[], r :: suf, now', rfl, by simp, fun x hx => by simp at hx; subst hx; omega, by simpa using p1, ?_⟩
      have hpush := push_ok (l := bands) (b := (a, b, covS (now.map xsR))) (by omega) hab
      rw [F_shape_SetOf_L5.eq_2, if_pos (by rw [h1]; exact lt_mid pre suf r), hid, Option.bind_some, ha, Option.bind_some, Option.bind_some, if_neg (by simpa using hle), Option.bind_some, w64_id (by omega) (by omega), hb, Option.bind_some, p2, Option.bind_some]
      show (F_shape_Set__push (bands.map toP) (toP (a, b, covS (now.map xsR)))).bind _ = _
      rw [hpush, Option.bind_some]
      simp
theorem set_out (hMs : M.Pairwise fun x y => x.Y0 ≤ y.Y0) (hys : ys.Pairwise fun x y => x < y) (hmem : ∀ r ∈ M, r.Y0 ∈ ys) (hl : ∀ r, r ∈ l ↔ r ∈ M) : ∀ (hsuf hpre : List Int) (m : Nat) (bands : List Bd) (pre suf now : List TRect) (v : Int), ys = hpre ++ hsuf → M = pre ++ suf → hsuf.length < m → bands.length ≤ hpre.length →
    (∀ r ∈ pre, r.Y0 ≤ v) → (∀ r ∈ suf, v < r.Y0) → now.Perm (pre.filter fun r => decide (v < r.Y1)) → (∀ h ∈ hsuf, v < h) → (∀ h ∈ hpre, h ≤ v) →
    F_shape_SetOf_L4 N M ys m hpre.length (bands.map toP) now pre.length = some ((bandsGo l hsuf bands).map toP)
  | [], hpre, m + 1, bands, pre, suf, now, v, e1, e2, _, _, _, _, _, _, _ => by
    have hpl : hpre.length ≤ 200000000 := by rw [e1] at hyl; simpa using hyl
    rw [F_shape_SetOf_L4.eq_2, if_neg (by rw [w64_id (by omega) (by omega), e1]; simp; omega)]
    rfl
  | [a], hpre, m + 1, bands, pre, suf, now, v, e1, e2, _, _, _, _, _, _, _ => by
    have hpl : hpre.length ≤ 200000000 := by rw [e1] at hyl; simp at hyl; omega
    rw [F_shape_SetOf_L4.eq_2, if_neg (by rw [w64_id (by omega) (by omega), e1]; simp)]
    rfl
  | a :: b :: hsuf, hpre, m + 1, bands, pre, suf, now, v, e1, e2, hm, hbl, i1, i2, i3, i4, i5 => by
    have hpl : hpre.length + 2 ≤ 200000000 := by rw [e1] at hyl; simp at hyl; omega
    have hva : v < a := i4 a (by simp)
    have hs2 : (a :: b :: hsuf).Pairwise fun x y => x < y := by rw [e1] at hys; exact (List.pairwise_append.1 hys).2.1
    have hab : a < b := (List.pairwise_cons.1 hs2).1 b (by simp)
    have ha : idx ys (hpre.length : Int) = some a := by rw [e1]; exact idx_mid hpre _ a
    have hb : idx ys ((hpre.length : Int) + 1) = some b := by
      rw [e1, show hpre ++ a :: b :: hsuf = (hpre ++ [a]) ++ b :: hsuf by simp, show ((hpre.length : Int) + 1) = ((hpre ++ [a]).length : Int) by simp]
      exact idx_mid (hpre ++ [a]) _ b
    have hnl : now.length ≤ pre.length := by rw [i3.length_eq]; exact List.length_filter_le _ _
    have hMl2 : pre.length + suf.length ≤ 100000000 := by rw [e2] at hMl; simpa using hMl
    have hnok : ∀ r ∈ now, R9 r := fun r hr => hok r (by rw [e2]; exact List.mem_append_left _ (List.mem_filter.1 (i3.subset hr)).1)
    have hdel := Delete_ok (N := N) (g := fun r => decide (r.Y1 ≤ a)) (f := fun z0 => F_shape_SetOf_2 z0 ys hpre.length) (l := now) (by omega) (by omega) (fun r _ => by unfold F_shape_SetOf_2; rw [ha]; rfl)
    obtain ⟨t, suf', now', s1, s2, s3, s4, s5⟩ := set_in hMl hok (bands := bands) (by omega) (k := (hpre.length : Int)) ⟨by omega, by omega⟩ ha hb hab (K := F_shape_SetOf_L4 N M ys m) suf pre (now.filter fun x => !decide (x.Y1 ≤ a)) N e2 (by omega) (fun r hr => hnok r (List.mem_filter.1 hr).1) (by
      have := List.length_filter_le (fun x : TRect => !decide (x.Y1 ≤ a)) now
      omega)
    have hsM : suf.Pairwise fun x y => x.Y0 ≤ y.Y0 := by rw [e2] at hMs; exact (List.pairwise_append.1 hMs).2.1
    have hsuf' : ∀ r ∈ suf', a < r.Y0 := fun r hr => by
      cases suf' with
      | nil => simp at hr
      | cons c cs =>
        have hc := s3 c rfl
        rcases List.mem_cons.1 hr with rfl | hr
        · exact hc
        · rw [s1] at hsM
          have := (List.pairwise_cons.1 (List.pairwise_append.1 hsM).2.1).1 r hr
          omega
    have ht : ∀ r ∈ t, r.Y0 = a ∧ a < r.Y1 := fun r hr => by
      have hrs : r ∈ suf := by rw [s1]; exact List.mem_append_left _ hr
      have hrM : r ∈ M := by rw [e2]; exact List.mem_append_right _ hrs
      have h1 := s2 r hr
      have h2 := i2 r hrs
      have h3 := hmem r hrM
      have hin : r.Y0 ∈ a :: b :: hsuf := by
        rw [e1] at h3
        rcases List.mem_append.1 h3 with h | h
        · have := i5 _ h; omega
        · exact h
      have hle : a ≤ r.Y0 := by
        rcases List.mem_cons.1 hin with h | h
        · omega
        · have := (List.pairwise_cons.1 hs2).1 _ h; omega
      have := (hok r hrM).y
      omega
    have hperm : (now.filter (fun x => !decide (x.Y1 ≤ a)) ++ t).Perm ((pre ++ t).filter fun r => decide (a < r.Y1)) := by
      rw [List.filter_append]
      have p1 : (now.filter fun x => !decide (x.Y1 ≤ a)).Perm (pre.filter fun r => decide (a < r.Y1)) := by
        refine (i3.filter _).trans ?_
        rw [List.filter_filter]
        refine List.Perm.of_eq (List.filter_congr fun r _ => ?_)
        rw [Bool.eq_iff_iff]
        simp
        omega
      have p2 : t.filter (fun r => decide (a < r.Y1)) = t := List.filter_eq_self.2 fun r hr => by simpa using (ht r hr).2
      rw [p2]
      exact p1.append_right t
    have hcov : covS ((now.filter (fun x => !decide (x.Y1 ≤ a)) ++ t).map xsR) = rowS l a := by
      have hin : ∀ r, r ∈ (now.filter (fun x => !decide (x.Y1 ≤ a)) ++ t) ↔ r ∈ l.filter fun r => decide (r.Y0 ≤ a) && decide (a < r.Y1) := fun r => by
        rw [hperm.mem_iff, List.mem_filter, List.mem_filter, hl, e2, s1]
        simp only [List.mem_append, Bool.and_eq_true, decide_eq_true_eq]
        constructor
        · rintro ⟨h | h, h2⟩
          · exact ⟨.inl h, by have := i1 r h; omega, h2⟩
          · exact ⟨.inr (.inl h), by have := (ht r h).1; omega, h2⟩
        · rintro ⟨h | h | h, h1, h2⟩
          · exact ⟨.inl h, h2⟩
          · exact ⟨.inr h, h2⟩
          · have := hsuf' r h; omega
      have hlim : ∀ r, r ∈ M → -2000000001 < (xsR r).1 ∧ (xsR r).1 < (xsR r).2 := fun r hr => by
        have := hok r hr
        exact ⟨by have := this.x0; show -2000000001 < r.X0; omega, this.x⟩
      have hMr : ∀ r, r ∈ (now.filter (fun x => !decide (x.Y1 ≤ a)) ++ t) → r ∈ M := fun r hr => (hl r).1 (List.mem_filter.1 ((hin r).1 hr)).1
      unfold rowS
      refine covS_congr (lo := -2000000001) (fun p hp => ?_) (fun p hp => ?_) fun x => ?_
      · obtain ⟨r, hr, rfl⟩ := List.mem_map.1 hp; exact hlim r (hMr r hr)
      · obtain ⟨r, hr, rfl⟩ := List.mem_map.1 hp; exact hlim r ((hl r).1 (List.mem_filter.1 hr).1)
      · unfold InS
        constructor
        · rintro ⟨p, hp, h⟩
          obtain ⟨r, hr, rfl⟩ := List.mem_map.1 hp
          exact ⟨_, List.mem_map.2 ⟨r, (hin r).1 hr, rfl⟩, h⟩
        · rintro ⟨p, hp, h⟩
          obtain ⟨r, hr, rfl⟩ := List.mem_map.1 hp
          exact ⟨_, List.mem_map.2 ⟨r, (hin r).2 hr, rfl⟩, h⟩
    rw [F_shape_SetOf_L4.eq_2, if_pos (by rw [w64_id (by omega) (by omega), e1]; simp; omega), hdel, Option.bind_some, s5, hcov]
    have hpb := pushB_len bands (a, b, rowS l a)
    have ih := set_out hMs hys hmem hl (b :: hsuf) (hpre ++ [a]) m (pushB bands (a, b, rowS l a)) (pre ++ t) suf' now' a (by rw [e1]; simp) (by rw [e2, s1]; simp) (by simp at hm ⊢; omega) (by simp; omega) (fun r hr => by
      rcases List.mem_append.1 hr with hr | hr
      · have := i1 r hr; omega
      · have := (ht r hr).1; omega) hsuf' (s4.trans hperm) (fun h hh => (List.pairwise_cons.1 hs2).1 h hh) (fun h hh => by
      rcases List.mem_append.1 hh with hh | hh
      · have := i5 h hh; omega
      · simp at hh; omega)
    rw [show ((hpre.length : Int) + 1) = ((hpre ++ [a]).length : Int) by simp, ih]
    rfl
end
theorem ysOfR_cons (r : TRect) (l : List TRect) : ysOfR (r :: l) = [r.Y0, r.Y1] ++ ysOfR l := rfl
theorem SetOf_ok {N : Nat} {l : List TRect} (hN : 10000000000 ≤ N) (hl : l.length ≤ 100000000) (hok : ∀ r ∈ l, R9 r) : F_shape_SetOf N l = some ((setB l).map toP) := by
  obtain ⟨M, m1, m2, m3⟩ := sort_key (c := fun z0 z1 => F_shape_SetOf_1 z0 z1) (k := fun r => r.Y0) (l := l) (by omega) (fun x hx y hy => by
    have a := (hok x hx).y0; have b := (hok y hy).y0
    unfold F_shape_SetOf_1
    rw [w64_id (by omega) (by omega)])
  have hMl : M.length ≤ 100000000 := by rw [m2.length_eq]; exact hl
  have hMok : ∀ r ∈ M, R9 r := fun r hr => hok r (m2.subset hr)
  have hy : srtd (ysOfR M) = srtd (ysOfR l) := srtd_perm fun y => by
    rw [mem_ysOfR, mem_ysOfR]
    exact ⟨fun ⟨r, hr, h⟩ => ⟨r, m2.subset hr, h⟩, fun ⟨r, hr, h⟩ => ⟨r, m2.symm.subset hr, h⟩⟩
  have hyl : (srtd (ysOfR l)).length ≤ 200000000 := Nat.le_trans (srtd_len _) (by rw [ysOfR_len]; omega)
  have L1 : ∀ (suf : List TRect) (i : Nat) (out : List Int), out.length + 2 * suf.length ≤ 250000000 → F_shape_SetOf_L1 N M suf i out = (F_shape_SetOf_L4 N M (srtd (out ++ ysOfR suf)) N 0 [] [] 0) := by
    intro suf
    induction suf with
    | nil =>
      intro i out ho
      rw [F_shape_SetOf_L1.eq_1]
      have := srtd_ok (l := out) (by simp at ho; omega)
      rw [srtI_ok (by simp at ho; omega), Option.bind_some]
      rw [srtI_ok (by simp at ho; omega), Option.bind_some] at this
      rw [this, Option.bind_some]
      show _ = F_shape_SetOf_L4 N M (srtd (out ++ [])) N 0 [] [] 0
      rw [List.append_nil]
    | cons r suf ih =>
      intro i out ho
      simp only [List.length_cons] at ho
      rw [F_shape_SetOf_L1.eq_2, apd_ok (by simp; omega), Option.bind_some, ih (i + 1) _ (by simp; omega), ysOfR_cons, List.append_assoc]
  unfold F_shape_SetOf F_slices_Clone_Rect
  rw [apd_ok (by simp; omega), Option.bind_some, Option.bind_some, List.nil_append, m1, Option.bind_some, L1 M 0 [] (by simp; omega), List.nil_append, hy]
  have := set_out (l := l) hN hMl hMok hyl m3 (srtd_strict _) (fun r hr => (srtd_mem _ _).2 (mem_ysOfR.2 ⟨r, m2.subset hr, .inl rfl⟩)) (fun r => ⟨fun h => m2.symm.subset h, fun h => m2.subset h⟩) (srtd (ysOfR l)) [] N [] [] M [] (-3000000000) rfl rfl (by omega) (by simp) (by simp) (fun r hr => by have := (hMok r hr).y0; omega) (by simp) (fun h hh => by
    obtain ⟨r, hr, e⟩ := mem_ysOfR.1 ((srtd_mem _ _).1 hh)
    have a := hok r hr
    have := a.y0; have := a.y1
    rcases e with rfl | rfl <;> omega) (by simp)
  exact this
theorem rowS_len (l : List TRect) (y : Int) : (rowS l y).length ≤ l.length := by
  unfold rowS covS
  have := covS_len ((l.filter fun r => decide (r.Y0 ≤ y) && decide (y < r.Y1)).map xsR) []
  have h2 := List.length_filter_le (fun r : TRect => decide (r.Y0 ≤ y) && decide (y < r.Y1)) l
  simp at this
  omega
end Go.Proofs.Ytacapjleiadkkaa
namespace Go.Proofs.Ytacapjleiadkkaa
/-- Bands that are not too many. -/
structure Small (l : List Bd) : Prop where
  len : l.length ≤ 200000000
  row : ∀ b ∈ l, b.2.2.length ≤ 100000000
  tot : (rectsB l).length ≤ 4000000000
theorem rectsB_cons (b : Bd) (l : List Bd) : rectsB (b :: l) = rectsOf b ++ rectsB l := rfl
theorem rectsOf_len (b : Bd) : (rectsOf b).length = b.2.2.length := by unfold rectsOf; simp
theorem rectsB_len {l : List Bd} {R : Nat} (h : ∀ b ∈ l, b.2.2.length ≤ R) : (rectsB l).length ≤ R * l.length := by
  induction l with
  | nil => simp [rectsB]
  | cons b l ih =>
    rw [rectsB_cons, List.length_append, rectsOf_len]
    have := ih (fun c hc => h c (by simp [hc])); have := h b (by simp)
    rw [List.length_cons, Nat.mul_succ]
    omega
theorem rectsB_append (l m : List Bd) : rectsB (l ++ m) = rectsB l ++ rectsB m := by unfold rectsB; rw [List.flatMap_append]
theorem rectsB_row {l : List Bd} {b : Bd} (h : b ∈ l) : b.2.2.length ≤ (rectsB l).length := by
  obtain ⟨s, t, rfl⟩ := List.append_of_mem h
  rw [rectsB_append, rectsB_cons, List.length_append, List.length_append, rectsOf_len]
  omega
theorem pushB_row {l : List Bd} {b : Bd} {R : Nat} (h : ∀ c ∈ l, c.2.2.length ≤ R) (hb : b.2.2.length ≤ R) : ∀ c ∈ pushB l b, c.2.2.length ≤ R := by
  by_cases he : b.2.2 = []
  · rw [pushB_empty he]; exact h
  · rcases List.eq_nil_or_concat l with rfl | ⟨j, c, hc⟩
    · rw [pushB_nil he]
      intro c hc
      simp at hc
      subst hc
      exact hb
    · rw [List.concat_eq_append] at hc
      subst hc
      rw [pushB_snoc he]
      intro d hd
      split at hd
      · rcases List.mem_append.1 hd with hd | hd
        · exact h d (by simp [hd])
        · simp at hd; subst hd; exact h c (by simp)
      · rcases List.mem_append.1 hd with hd | hd
        · exact h d hd
        · simp at hd; subst hd; exact hb
theorem bandsGo_small {l : List TRect} {R : Nat} (hl : l.length ≤ R) : ∀ (ys : List Int) (out : List Bd), (∀ c ∈ out, c.2.2.length ≤ R) → (bandsGo l ys out).length ≤ out.length + ys.length ∧ ∀ c ∈ bandsGo l ys out, c.2.2.length ≤ R
  | [], out, h => ⟨by simp [bandsGo], h⟩
  | [a], out, h => ⟨by simp [bandsGo], h⟩
  | a :: b :: ys, out, h => by
    have hr := rowS_len l a
    have hp := pushB_len out (a, b, rowS l a)
    obtain ⟨i1, i2⟩ := bandsGo_small hl (b :: ys) (pushB out (a, b, rowS l a)) (pushB_row h (by show (rowS l a).length ≤ R; omega))
    simp only [List.length_cons] at i1 ⊢
    exact ⟨by show (bandsGo l (b :: ys) (pushB out (a, b, rowS l a))).length ≤ _; omega, i2⟩
theorem setB_len (l : List TRect) : (setB l).length ≤ 2 * l.length ∧ ∀ b ∈ setB l, b.2.2.length ≤ l.length := by
  obtain ⟨h1, h2⟩ := bandsGo_small (Nat.le_refl l.length) (srtd (ysOfR l)) [] (by simp)
  have := srtd_len (ysOfR l)
  rw [ysOfR_len] at this
  exact ⟨by show (bandsGo l (srtd (ysOfR l)) []).length ≤ _; simp at h1; omega, h2⟩
theorem setB_small' {l : List TRect} (hl : l.length ≤ 100000000) (ht : (rectsB (setB l)).length ≤ 4000000000) : Small (setB l) := by
  obtain ⟨h1, h2⟩ := setB_len l
  exact ⟨by omega, fun b hb => by have := h2 b hb; omega, ht⟩
theorem setB_small {l : List TRect} (hl : l.length ≤ 20000) : Small (setB l) := by
  obtain ⟨h1, h2⟩ := setB_len l
  refine setB_small' (by omega) ?_
  have := rectsB_len (R := 20000) (l := setB l) fun b hb => by have := h2 b hb; omega
  omega
section
variable {N : Nat} (hN : 10000000000 ≤ N)
include hN
omit hN in
theorem Rects_in {b : Bd} {K : List TRect → Option (List TRect)} (hb : b.2.2.length ≤ 100000000) : ∀ (suf pre : List (Int × Int)) (m : Nat) (out : List TRect), b.2.2 = pre ++ suf → suf.length < m → out.length + suf.length ≤ 4294967296 →
    F_shape_Set__Rects_L4 K (toP b) m out ((2 * pre.length : Nat) : Int) = K (out ++ suf.map fun s => ⟨s.1, b.1, s.2, b.2.1⟩)
  | [], pre, m + 1, out, h1, _, _ => by
    rw [F_shape_Set__Rects_L4.eq_2, if_neg (by show ¬ decide (((2 * pre.length : Nat) : Int) < ((flatS b.2.2).length : Int)) = true; rw [h1, flatS_len]; simp)]
    simp
  | s :: suf, pre, m + 1, out, h1, h2, h3 => by
    have hpl : pre.length ≤ 100000000 := by rw [h1] at hb; simp at hb; omega
    have hfl : flatS b.2.2 = flatS pre ++ s.1 :: s.2 :: flatS suf := by rw [h1, flatS_append]; rfl
    have hid : idx (flatS b.2.2) ((2 * pre.length : Nat) : Int) = some s.1 := by rw [hfl, ← flatS_len]; exact idx_mid _ _ _
    have hid2 : idx (flatS b.2.2) (((2 * pre.length : Nat) : Int) + 1) = some s.2 := by
      rw [hfl, show flatS pre ++ s.1 :: s.2 :: flatS suf = (flatS pre ++ [s.1]) ++ s.2 :: flatS suf by simp, show (((2 * pre.length : Nat) : Int) + 1) = ((flatS pre ++ [s.1]).length : Int) by simp [flatS_len]]
      exact idx_mid _ _ _
    simp only [List.length_cons] at h2 h3
    rw [F_shape_Set__Rects_L4.eq_2, if_pos (by show decide (((2 * pre.length : Nat) : Int) < ((flatS b.2.2).length : Int)) = true; rw [hfl]; simp [flatS_len]; omega), w64_id (x := ((2 * pre.length : Nat) : Int) + 1) (by omega) (by omega), w64_id (x := ((2 * pre.length : Nat) : Int) + 2) (by omega) (by omega)]
    show ((idx (flatS b.2.2) _).bind fun x172 => (idx (flatS b.2.2) _).bind fun x173 => _) = _
    rw [hid, Option.bind_some, hid2, Option.bind_some, apd_ok (by simp; omega), Option.bind_some]
    have := Rects_in (K := K) hb suf (pre ++ [s]) m (out ++ [⟨s.1, b.1, s.2, b.2.1⟩]) (by rw [h1]; simp) (by omega) (by simp; omega)
    rw [show ((2 * (pre ++ [s]).length : Nat) : Int) = ((2 * pre.length : Nat) : Int) + 2 by simp; omega] at this
    show F_shape_Set__Rects_L4 K (toP b) m (out ++ [⟨s.1, b.1, s.2, b.2.1⟩]) _ = _
    rw [this]
    simp
theorem Rects_ok {l : List Bd} (h : Small l) : F_shape_Set__Rects N (l.map toP) = some (rectsB l) := by
  have key : ∀ (suf : List Bd) (i : Nat) (out : List TRect), (∀ b ∈ suf, b.2.2.length ≤ 100000000) → out.length + (rectsB suf).length ≤ 4294967296 → F_shape_Set__Rects_L3 N (suf.map toP) i out = some (out ++ rectsB suf) := by
    intro suf
    induction suf with
    | nil => intro i out _ _; rw [List.map_nil, F_shape_Set__Rects_L3.eq_1]; simp [rectsB]
    | cons b suf ih =>
      intro i out hb ho
      have hb0 := hb b (by simp)
      rw [rectsB_cons, List.length_append, rectsOf_len] at ho
      rw [List.map_cons, F_shape_Set__Rects_L3.eq_2]
      have := Rects_in (K := F_shape_Set__Rects_L3 N (suf.map toP) (i + 1)) hb0 b.2.2 [] N out rfl (by omega) (by omega)
      rw [show ((2 * ([] : List (Int × Int)).length : Nat) : Int) = 0 from rfl] at this
      rw [this, ih (i + 1) _ (fun c hc => hb c (by simp [hc])) (by simp; omega), rectsB_cons, List.append_assoc]
      rfl
  have := key l 0 [] h.row (by have := h.tot; simp; omega)
  rw [List.nil_append] at this
  exact this
omit hN in
theorem Many_ok {l : List Bd} (h : (rectsB l).length ≤ 1000000000000000000) : F_shape_Set__Many (l.map toP) = some ((rectsB l).length : Int) := by
  have key : ∀ (suf : List Bd) (i : Nat) (c : Int), 0 ≤ c → c + (rectsB suf).length ≤ 1000000000000000000 → F_shape_Set__Many_L1 (suf.map toP) i c = some (c + ((rectsB suf).length : Int)) := by
    intro suf
    induction suf with
    | nil => intro i c _ _; rw [List.map_nil, F_shape_Set__Many_L1.eq_1]; simp [rectsB]
    | cons b suf ih =>
      intro i c h0 ho
      rw [rectsB_cons, List.length_append, rectsOf_len] at ho
      have e : Int.tdiv ((toP b).Xs.length : Int) 2 = (b.2.2.length : Int) := by
        show Int.tdiv ((flatS b.2.2).length : Int) 2 = _
        rw [flatS_len, Int.tdiv_eq_ediv_of_nonneg (by omega)]; omega
      rw [List.map_cons, F_shape_Set__Many_L1.eq_2, e, w64_id (x := (b.2.2.length : Int)) (by omega) (by omega), w64_id (by omega) (by omega), ih (i + 1) _ (by omega) (by omega), rectsB_cons, List.length_append, rectsOf_len]
      congr 1
      omega
  have := key l 0 0 (by omega) (by omega)
  rw [Int.zero_add] at this
  exact this
/-- What is told of bands: their rectangles, if they are not too many. -/
def toldV (l : List Bd) : List TRect × Int := if 2000 < (rectsB l).length then ([], 2) else (rectsB l, 0)
end
end Go.Proofs.Ytacapjleiadkkaa
namespace Go.Proofs.Ytacapjleiadkkaa
instance : DecidableEq TRect := fun _ _ => decidable_of_iff _ eqTRect_iff
/-- The error of a rectangle. -/
def rErr (r : TRect) : Int :=
  if (((within r.X0 (-1000000) 1000000 && within r.Y0 (-1000000) 1000000) && within r.X1 (-1000000) 1000000) && within r.Y1 (-1000000) 1000000) = false then 1
  else if (decide (r.X1 ≤ r.X0) || decide (r.Y1 ≤ r.Y0)) = true then 13 else 0
def rsErr : List TRect → Int
  | [] => 0
  | r :: l => if rErr r = 0 then rsErr l else rErr r
def rectsErr (l : List TRect) : Int := if 2000 < l.length then 2 else rsErr l
theorem rErr_ok {r : TRect} (h : rErr r = 0) : ROk r := by
  unfold rErr at h
  split at h
  · omega
  · rename_i h1
    split at h
    · omega
    · rename_i h2
      rw [Bool.not_eq_false, Bool.and_eq_true, Bool.and_eq_true, Bool.and_eq_true, within_iff, within_iff, within_iff, within_iff] at h1
      rw [Bool.or_eq_true, not_or, decide_eq_true_eq, decide_eq_true_eq] at h2
      exact ⟨h1.1.1.1, h1.1.1.2, h1.1.2, h1.2, by omega, by omega⟩
theorem rErr_of {r : TRect} (h : ROk r) : rErr r = 0 := by
  unfold rErr
  have a := h.x0; have b := h.y0; have c := h.x1; have d := h.y1; have e := h.x; have f := h.y
  rw [if_neg (by rw [Bool.not_eq_false, Bool.and_eq_true, Bool.and_eq_true, Bool.and_eq_true, within_iff, within_iff, within_iff, within_iff]; exact ⟨⟨⟨a, b⟩, c⟩, d⟩), if_neg (by rw [Bool.or_eq_true, not_or, decide_eq_true_eq, decide_eq_true_eq]; omega)]
theorem rsErr_ok : ∀ {l : List TRect}, rsErr l = 0 → ∀ r ∈ l, ROk r
  | [], _, r, hr => by simp at hr
  | a :: l, h, r, hr => by
    unfold rsErr at h
    split at h
    · rename_i h1
      rcases List.mem_cons.1 hr with rfl | hr
      · exact rErr_ok h1
      · exact rsErr_ok h r hr
    · rename_i h1; exact absurd h h1
theorem rsErr_of : ∀ {l : List TRect}, (∀ r ∈ l, ROk r) → rsErr l = 0
  | [], _ => rfl
  | a :: l, h => by
    unfold rsErr
    rw [if_pos (rErr_of (h a (by simp)))]
    exact rsErr_of fun r hr => h r (by simp [hr])
theorem rectsErr_ok {l : List TRect} (h : rectsErr l = 0) : l.length ≤ 2000 ∧ ∀ r ∈ l, ROk r := by
  unfold rectsErr at h
  split at h
  · omega
  · exact ⟨by omega, rsErr_ok h⟩
theorem isRect_ok (r : TRect) : F_shape_isRect r = some (((within r.X0 (-1000000) 1000000 && within r.Y0 (-1000000) 1000000) && within r.X1 (-1000000) 1000000) && within r.Y1 (-1000000) 1000000) := by
  unfold F_shape_isRect F_shape_IsAt F_shape_within within
  simp only [Option.bind_some]
  cases decide (-1000000 ≤ r.X0) && decide (r.X0 ≤ 1000000) <;> cases decide (-1000000 ≤ r.Y0) && decide (r.Y0 ≤ 1000000) <;> cases decide (-1000000 ≤ r.X1) && decide (r.X1 ≤ 1000000) <;> rfl
theorem CheckRects_ok (l : List TRect) : F_shape_CheckRects l = some (rectsErr l) := by
  have key : ∀ (l : List TRect) (i : Nat), F_shape_CheckRects_L1 l i = some (rsErr l) := by
    intro l
    induction l with
    | nil => intro i; rw [F_shape_CheckRects_L1.eq_1]; rfl
    | cons r l ih =>
      intro i
      rw [F_shape_CheckRects_L1.eq_2, isRect_ok, Option.bind_some, ih]
      show _ = some (if rErr r = 0 then rsErr l else rErr r)
      generalize rsErr l = z
      unfold rErr
      cases (((within r.X0 (-1000000) 1000000 && within r.Y0 (-1000000) 1000000) && within r.X1 (-1000000) 1000000) && within r.Y1 (-1000000) 1000000)
      · simp
      · cases (decide (r.X1 ≤ r.X0) || decide (r.Y1 ≤ r.Y0)) <;> simp
  unfold F_shape_CheckRects rectsErr
  by_cases h : 2000 < l.length
  · rw [if_pos (by simp; omega), if_pos h]
  · rw [if_neg (by simp; omega), if_neg h, key]
/-- Two rectangles in order. -/
def ltR (a b : TRect) : Bool := decide (a.Y0 < b.Y0) || (decide (a.Y0 = b.Y0) && decide (a.X0 < b.X0))
def ordR : List TRect → Bool
  | a :: b :: l => ltR a b && ordR (b :: l)
  | _ => true
def regionErr (l : List TRect) : Int := if rectsErr l = 0 then if ordR l = true then if rectsB (setB l) = l then 0 else 3 else 8 else rectsErr l
theorem CheckRegion_ok {N : Nat} (hN : 10000000000 ≤ N) (l : List TRect) : F_shape_CheckRegion N l = some (regionErr l) := by
  unfold F_shape_CheckRegion regionErr
  rw [CheckRects_ok, Option.bind_some]
  by_cases he : rectsErr l = 0
  · obtain ⟨hl, hok⟩ := rectsErr_ok he
    rw [if_neg (by simpa using he), if_pos he]
    have hend : (F_shape_SetOf N l).bind (fun y123 => (F_shape_Set__Rects N y123).bind fun y125 => (F_slices_Equal_Rect y125 l).bind fun y127 => if (!y127) then some 3 else some 0) = some (if rectsB (setB l) = l then (0 : Int) else 3) := by
      rw [SetOf_ok hN (by omega) (fun r hr => (hok r hr).r9), Option.bind_some, Rects_ok hN (setB_small (by omega)), Option.bind_some]
      obtain ⟨b, h1, h2⟩ := EqualR_ok (rectsB (setB l)) l
      rw [h1, Option.bind_some]
      cases b
      · rw [if_pos (by simp), if_neg (fun h => by have := h2.2 h; cases this)]
      · rw [if_neg (by simp), if_pos (h2.1 rfl)]
    have key : ∀ (suf pre : List TRect) (a : TRect) (m : Nat), l = pre ++ a :: suf → suf.length < m → F_shape_CheckRegion_L1 N l m ((pre.length : Int) + 1) = some (if ordR (a :: suf) = true then if rectsB (setB l) = l then 0 else 3 else 8) := by
      intro suf
      induction suf with
      | nil =>
        intro pre a m h1 h2
        obtain ⟨m, rfl⟩ : ∃ k, m = k + 1 := ⟨m - 1, by omega⟩
        rw [F_shape_CheckRegion_L1.eq_2, if_neg (by rw [h1]; simp), hend]
        rfl
      | cons b suf ih =>
        intro pre a m h1 h2
        obtain ⟨m, rfl⟩ : ∃ k, m = k + 1 := ⟨m - 1, by omega⟩
        have hpl : pre.length ≤ 2000 := by rw [h1] at hl; simp at hl; omega
        have ha : idx l (pre.length : Int) = some a := by rw [h1]; exact idx_mid pre _ a
        have hb : idx l ((pre.length : Int) + 1) = some b := by
          rw [h1, show pre ++ a :: b :: suf = (pre ++ [a]) ++ b :: suf by simp, show ((pre.length : Int) + 1) = ((pre ++ [a]).length : Int) by simp]
          exact idx_mid (pre ++ [a]) _ b
        rw [F_shape_CheckRegion_L1.eq_2, if_pos (by rw [h1]; simp; omega), w64_id (x := (pre.length : Int) + 1 - 1) (by omega) (by omega), show ((pre.length : Int) + 1 - 1) = (pre.length : Int) by omega, ha, Option.bind_some, hb, Option.bind_some, w64_id (by omega) (by omega)]
        have hlt : ((decide (b.Y0 < a.Y0)) || ((b.Y0 == a.Y0) && (decide (b.X0 ≤ a.X0)))) = !ltR a b := by
          unfold ltR
          rw [Bool.eq_iff_iff]
          simp
          omega
        rw [hlt]
        have hor : ordR (a :: b :: suf) = (ltR a b && ordR (b :: suf)) := rfl
        rw [hor]
        cases ltR a b
        · simp
        · have := ih (pre ++ [a]) b m (by rw [h1]; simp) (by simp at h2; omega)
          rw [show (((pre ++ [a]).length : Int) + 1) = (pre.length : Int) + 1 + 1 by simp] at this
          rw [this]
          simp
    cases l with
    | nil =>
      obtain ⟨m, hm⟩ : ∃ k, N = k + 1 := ⟨N - 1, by omega⟩
      have hf : F_shape_CheckRegion_L1 N ([] : List TRect) N 1 = F_shape_CheckRegion_L1 N ([] : List TRect) (m + 1) 1 := congrArg (fun z => F_shape_CheckRegion_L1 N ([] : List TRect) z 1) hm
      rw [hf, F_shape_CheckRegion_L1.eq_2, if_neg (by simp), hend]
      rfl
    | cons a suf =>
      exact key suf [] a N rfl (by simp at hl; omega)
  · rw [if_pos (by simpa using he), if_neg he]
/-- The region of rectangles. -/
def regionV (l : List TRect) : List TRect × Int := if rectsErr l = 0 then toldV (setB l) else ([], rectsErr l)
end Go.Proofs.Ytacapjleiadkkaa
namespace Go.Proofs.Ytacapjleiadkkaa
/-- The stretches of bands at a height. -/
def rowAt : List Bd → Int → List (Int × Int)
  | [], _ => []
  | b :: l, y => if b.1 ≤ y ∧ y < b.2.1 then b.2.2 else rowAt l y
/-- Bands in order, none empty, neighbours that touch differ. -/
def CanB : Int → List Bd → Prop
  | _, [] => True
  | lo, b :: l => lo ≤ b.1 ∧ b.1 < b.2.1 ∧ b.2.2 ≠ [] ∧ (∀ d, l.head? = some d → d.1 = b.2.1 → d.2.2 ≠ b.2.2) ∧ CanB b.2.1 l
theorem rowAt_lo : ∀ {l : List Bd} {lo y : Int}, CanB lo l → y < lo → rowAt l y = []
  | [], _, _, _, _ => rfl
  | b :: l, lo, y, h, hy => by
    unfold rowAt
    rw [if_neg (by have := h.1; omega)]
    exact rowAt_lo h.2.2.2.2 (by have := h.1; have := h.2.1; omega)
theorem CanB.uniq : ∀ {l m : List Bd} {lo lo' : Int}, CanB lo l → CanB lo' m → (∀ y, rowAt l y = rowAt m y) → l = m
  | [], [], _, _, _, _, _ => rfl
  | [], b :: m, _, _, _, h2, h => by
    have := h b.1
    unfold rowAt at this
    rw [if_pos ⟨Int.le_refl _, h2.2.1⟩] at this
    exact absurd this.symm h2.2.2.1
  | b :: l, [], _, _, h1, _, h => by
    have := h b.1
    unfold rowAt at this
    rw [if_pos ⟨Int.le_refl _, h1.2.1⟩] at this
    exact absurd this h1.2.2.1
  | b :: l, d :: m, lo, lo', h1, h2, h => by
    obtain ⟨a1, a2, a3, a4, a5⟩ := h1
    obtain ⟨b1, b2, b3, b4, b5⟩ := h2
    have fst : ∀ {l : List Bd} {b : Bd} {y : Int}, b.1 ≤ y → y < b.2.1 → rowAt (b :: l) y = b.2.2 := fun h1 h2 => by unfold rowAt; rw [if_pos ⟨h1, h2⟩]
    have low : ∀ {l : List Bd} {b : Bd} {y : Int}, CanB b.2.1 l → b.1 < b.2.1 → y < b.1 → rowAt (b :: l) y = [] := fun h1 h2 h3 => by
      unfold rowAt
      rw [if_neg (by omega)]
      exact rowAt_lo h1 (by omega)
    have e1 : b.1 = d.1 := by
      have hb := h b.1
      have hd := h d.1
      rw [fst (Int.le_refl _) a2] at hb
      rw [fst (l := m) (b := d) (Int.le_refl _) b2] at hd
      rcases Int.lt_trichotomy b.1 d.1 with hlt | heq | hgt
      · rw [low b5 b2 hlt] at hb; exact absurd hb a3
      · exact heq
      · rw [low a5 a2 hgt] at hd; exact absurd hd.symm b3
    have e2 : b.2.2 = d.2.2 := by
      have hb := h b.1
      rw [fst (Int.le_refl _) a2, e1, fst (Int.le_refl _) b2] at hb
      exact hb
    have past : ∀ {l : List Bd} {b : Bd}, CanB b.2.1 l → (∀ d, l.head? = some d → d.1 = b.2.1 → d.2.2 ≠ b.2.2) → b.2.2 ≠ [] → rowAt (b :: l) b.2.1 ≠ b.2.2 := fun {l b} h1 h2 h3 => by
      unfold rowAt
      rw [if_neg (by omega)]
      cases l with
      | nil => exact fun h => h3 h.symm
      | cons e l =>
        unfold rowAt
        by_cases he : e.1 = b.2.1
        · rw [if_pos ⟨by omega, by have := h1.2.1; omega⟩]
          exact h2 e rfl he
        · have hlt : b.2.1 < e.1 := by have := h1.1; omega
          rw [if_neg (by omega), rowAt_lo h1.2.2.2.2 (by have := h1.2.1; omega)]
          exact fun h => h3 h.symm
    have e3 : b.2.1 = d.2.1 := by
      rcases Int.lt_trichotomy b.2.1 d.2.1 with hlt | heq | hgt
      · have := h b.2.1
        rw [fst (l := m) (b := d) (by omega) hlt, ← e2] at this
        exact absurd this (past a5 a4 a3)
      · exact heq
      · have := h d.2.1
        rw [fst (l := l) (b := b) (by omega) hgt, e2] at this
        exact absurd this.symm (past b5 b4 b3)
    have hbd : b = d := by
      obtain ⟨x, y, z⟩ := b
      obtain ⟨x', y', z'⟩ := d
      simp only at e1 e2 e3
      rw [e1, e2, e3]
    subst hbd
    rw [CanB.uniq a5 b5 fun y => by
      by_cases hy : y < b.2.1
      · rw [rowAt_lo a5 hy, rowAt_lo b5 hy]
      · have := h y
        unfold rowAt at this
        rw [if_neg (by omega), if_neg (by omega)] at this
        exact this]
end Go.Proofs.Ytacapjleiadkkaa
namespace Go.Proofs.Ytacapjleiadkkaa
/-- A square lies in bands. -/
def InB (x y : Int) (l : List Bd) : Prop := InS x (rowAt l y)
/-- A square lies in a rectangle of many. -/
def InR (x y : Int) (l : List TRect) : Prop := ∃ r ∈ l, (r.X0 ≤ x ∧ x < r.X1) ∧ (r.Y0 ≤ y ∧ y < r.Y1)
/-- Bands in their one form. -/
structure BOk (l : List Bd) : Prop where
  can : ∃ lo, CanB lo l
  row : ∀ b ∈ l, ∃ lo, Can lo b.2.2
theorem rowAt_mem : ∀ {l : List Bd} {y : Int}, rowAt l y = [] ∨ ∃ b ∈ l, b.1 ≤ y ∧ y < b.2.1 ∧ rowAt l y = b.2.2
  | [], _ => .inl rfl
  | b :: l, y => by
    unfold rowAt
    by_cases h : b.1 ≤ y ∧ y < b.2.1
    · rw [if_pos h]; exact .inr ⟨b, by simp, h.1, h.2, rfl⟩
    · rw [if_neg h]
      rcases rowAt_mem (l := l) (y := y) with h1 | ⟨c, h1, h2⟩
      · exact .inl h1
      · exact .inr ⟨c, by simp [h1], h2⟩
theorem BOk.at {l : List Bd} (h : BOk l) (y : Int) : ∃ lo, Can lo (rowAt l y) := by
  rcases rowAt_mem (l := l) (y := y) with h1 | ⟨b, h1, _, _, h2⟩
  · rw [h1]; exact ⟨0, trivial⟩
  · rw [h2]; exact h.row b h1
theorem CanB.mem : ∀ {l : List Bd} {lo : Int}, CanB lo l → ∀ b ∈ l, lo ≤ b.1 ∧ b.1 < b.2.1 ∧ b.2.2 ≠ []
  | [], _, _, b, hb => by simp at hb
  | c :: l, lo, h, b, hb => by
    rcases List.mem_cons.1 hb with rfl | hb
    · exact ⟨h.1, h.2.1, h.2.2.1⟩
    · have hm := h.2.2.2.2.mem b hb
      have := h.1; have := h.2.1
      exact ⟨by omega, hm.2.1, hm.2.2⟩
theorem rowAt_of : ∀ {l : List Bd} {lo y : Int} {b : Bd}, CanB lo l → b ∈ l → b.1 ≤ y → y < b.2.1 → rowAt l y = b.2.2
  | [], _, _, _, _, hb, _, _ => by simp at hb
  | c :: l, lo, y, b, h, hb, h1, h2 => by
    unfold rowAt
    rcases List.mem_cons.1 hb with rfl | hb
    · rw [if_pos ⟨h1, h2⟩]
    · have := h.2.2.2.2.mem b hb
      rw [if_neg (by omega)]
      exact rowAt_of h.2.2.2.2 hb h1 h2
/-- The form is one: bands with the same squares are the same. -/
theorem BOk.uniq {l m : List Bd} (h1 : BOk l) (h2 : BOk m) (h : ∀ x y, InB x y l ↔ InB x y m) : l = m := by
  obtain ⟨lo, c1⟩ := h1.can
  obtain ⟨lo', c2⟩ := h2.can
  refine c1.uniq c2 fun y => ?_
  obtain ⟨a, ha⟩ := h1.at y
  obtain ⟨b, hb⟩ := h2.at y
  exact ha.uniq hb fun x => h x y
theorem low_ex : ∀ (l : List (Int × Int)), ∃ lo, ∀ p ∈ l, lo < p.1
  | [] => ⟨0, by simp⟩
  | q :: l => by
    obtain ⟨lo, h⟩ := low_ex l
    refine ⟨min lo (q.1 - 1), fun p hp => ?_⟩
    rcases List.mem_cons.1 hp with rfl | hp
    · omega
    · have := h p hp; omega
theorem cov_ok {l : List (Int × Int)} (h : ∀ p ∈ l, p.1 < p.2) : (∃ lo, Can lo (covS l)) ∧ ∀ x, InS x (covS l) ↔ InS x l := by
  obtain ⟨lo, hlo⟩ := low_ex l
  obtain ⟨h1, h2⟩ := covS_ok (lo := lo) (l := l) fun p hp => ⟨hlo p hp, h p hp⟩
  exact ⟨⟨lo, h1⟩, h2⟩
theorem rowS_ok {l : List TRect} (h : ∀ r ∈ l, r.X0 < r.X1) (y : Int) : (∃ lo, Can lo (rowS l y)) ∧ ∀ x, InS x (rowS l y) ↔ InR x y l := by
  obtain ⟨h1, h2⟩ := cov_ok (l := (l.filter fun r => decide (r.Y0 ≤ y) && decide (y < r.Y1)).map xsR) fun p hp => by
    obtain ⟨r, hr, rfl⟩ := List.mem_map.1 hp
    exact h r (List.mem_filter.1 hr).1
  refine ⟨h1, fun x => (h2 x).trans ?_⟩
  unfold InS InR
  constructor
  · rintro ⟨p, hp, hx⟩
    obtain ⟨r, hr, rfl⟩ := List.mem_map.1 hp
    obtain ⟨hr, hy⟩ := List.mem_filter.1 hr
    simp at hy
    exact ⟨r, hr, hx, hy⟩
  · rintro ⟨r, hr, hx, hy⟩
    exact ⟨xsR r, List.mem_map.2 ⟨r, List.mem_filter.2 ⟨hr, by simp [hy]⟩, rfl⟩, hx⟩
theorem can_eq {l m : List (Int × Int)} (h1 : ∃ lo, Can lo l) (h2 : ∃ lo, Can lo m) (h : ∀ x, InS x l ↔ InS x m) : l = m := by
  obtain ⟨_, h1⟩ := h1
  obtain ⟨_, h2⟩ := h2
  exact h1.uniq h2 h
theorem can_nil {l : List (Int × Int)} (h1 : ∃ lo, Can lo l) (h : ∀ x, ¬ InS x l) : l = [] := can_eq h1 ⟨0, trivial⟩ fun x => ⟨fun hx => absurd hx (h x), fun hx => absurd hx InS_nil⟩
theorem pushB_cons {c : Bd} {l : List Bd} {b : Bd} (h : l ≠ []) : pushB (c :: l) b = c :: pushB l b := by
  by_cases he : b.2.2 = []
  · rw [pushB_empty he, pushB_empty he]
  · rcases List.eq_nil_or_concat l with rfl | ⟨j, d, hc⟩
    · exact absurd rfl h
    · rw [List.concat_eq_append] at hc
      subst hc
      rw [← List.cons_append, pushB_snoc he, pushB_snoc he]
      split <;> rfl
theorem pushB_head {c : Bd} {l : List Bd} {b : Bd} : ∃ e m, pushB (c :: l) b = e :: m ∧ e.1 = c.1 ∧ e.2.2 = c.2.2 := by
  by_cases hl : l = []
  · subst hl
    by_cases he : b.2.2 = []
    · rw [pushB_empty he]; exact ⟨c, [], rfl, rfl, rfl⟩
    · have := pushB_snoc (l := []) (c := c) he
      rw [List.nil_append] at this
      rw [this]
      split
      · exact ⟨_, _, rfl, rfl, rfl⟩
      · exact ⟨_, _, rfl, rfl, rfl⟩
  · rw [pushB_cons hl]; exact ⟨_, _, rfl, rfl, rfl⟩
/-- One band more behind all others. -/
theorem CanB.push : ∀ {l : List Bd} {lo : Int} {b : Bd}, CanB lo l → (∀ c ∈ l, c.2.1 ≤ b.1) → lo ≤ b.1 → b.1 < b.2.1 →
    CanB lo (pushB l b) ∧ (∀ c ∈ pushB l b, c.2.1 ≤ b.2.1 ∧ (c.2.2 = b.2.2 ∨ ∃ d ∈ l, c.2.2 = d.2.2)) ∧ ∀ y, rowAt (pushB l b) y = if b.1 ≤ y ∧ y < b.2.1 then b.2.2 else rowAt l y
  | [], lo, b, h, h1, h2, h3 => by
    by_cases he : b.2.2 = []
    · rw [pushB_empty he]
      exact ⟨h, by simp, fun y => by unfold rowAt; split <;> simp [he]⟩
    · rw [pushB_nil he]
      exact ⟨⟨h2, h3, he, by simp, trivial⟩, by simp, fun y => by unfold rowAt; rfl⟩
  | [c], lo, b, h, h1, h2, h3 => by
    have hc := h1 c (by simp)
    have h4 := h.2.1
    by_cases he : b.2.2 = []
    · rw [pushB_empty he]
      refine ⟨h, fun d hd => ⟨by have := h1 d hd; omega, .inr ⟨d, hd, rfl⟩⟩, fun y => ?_⟩
      by_cases hy : b.1 ≤ y ∧ y < b.2.1
      · rw [if_pos hy, he]; unfold rowAt; rw [if_neg (by omega)]; rfl
      · rw [if_neg hy]
    · have hp := pushB_snoc (l := []) (c := c) he
      rw [List.nil_append] at hp
      rw [hp]
      by_cases hj : c.2.1 = b.1 ∧ c.2.2 = b.2.2
      · rw [if_pos hj]
        refine ⟨⟨h.1, by show c.1 < b.2.1; omega, h.2.2.1, by simp, trivial⟩, fun d hd => ?_, fun y => ?_⟩
        · simp at hd; subst hd; exact ⟨Int.le_refl _, .inr ⟨c, by simp, rfl⟩⟩
        · show (if c.1 ≤ y ∧ y < b.2.1 then c.2.2 else []) = if b.1 ≤ y ∧ y < b.2.1 then b.2.2 else if c.1 ≤ y ∧ y < c.2.1 then c.2.2 else []
          rw [hj.2]
          by_cases ha : b.1 ≤ y ∧ y < b.2.1
          · rw [if_pos ha, if_pos (by omega)]
          · rw [if_neg ha]
            by_cases hb : c.1 ≤ y ∧ y < c.2.1
            · rw [if_pos hb, if_pos (by omega)]
            · rw [if_neg hb, if_neg (by omega)]
      · rw [if_neg hj]
        refine ⟨⟨h.1, h.2.1, h.2.2.1, fun d hd e => ?_, ⟨hc, h3, he, by simp, trivial⟩⟩, fun d hd => ?_, fun y => ?_⟩
        · simp at hd; subst hd
          exact fun h' => hj ⟨e.symm, h'.symm⟩
        · simp at hd
          rcases hd with rfl | rfl
          · exact ⟨by omega, .inr ⟨d, by simp, rfl⟩⟩
          · exact ⟨Int.le_refl _, .inl rfl⟩
        · show (if c.1 ≤ y ∧ y < c.2.1 then c.2.2 else if b.1 ≤ y ∧ y < b.2.1 then b.2.2 else []) = if b.1 ≤ y ∧ y < b.2.1 then b.2.2 else if c.1 ≤ y ∧ y < c.2.1 then c.2.2 else []
          by_cases ha : b.1 ≤ y ∧ y < b.2.1
          · rw [if_pos ha, if_neg (by omega), if_pos ha]
          · rw [if_neg ha, if_neg ha]
  | c :: d :: l, lo, b, h, h1, h2, h3 => by
    obtain ⟨i1, i2, i3⟩ := CanB.push (l := d :: l) (lo := c.2.1) (b := b) h.2.2.2.2 (fun e he => h1 e (by simp [List.mem_cons.1 he])) (h1 c (by simp)) h3
    rw [pushB_cons (by simp)]
    have hc := h1 c (by simp)
    have h4 := h.2.1
    refine ⟨⟨h.1, h.2.1, h.2.2.1, fun e he e1 => ?_, i1⟩, fun e he => ?_, fun y => ?_⟩
    · obtain ⟨f, m, p1, p2, p3⟩ := pushB_head (c := d) (l := l) (b := b)
      rw [p1] at he
      simp at he
      subst he
      rw [p3]
      exact h.2.2.2.1 d rfl (by omega)
    · rcases List.mem_cons.1 he with rfl | he
      · exact ⟨by omega, .inr ⟨e, by simp, rfl⟩⟩
      · obtain ⟨j1, j2 | ⟨f, j2, j3⟩⟩ := i2 e he
        · exact ⟨j1, .inl j2⟩
        · exact ⟨j1, .inr ⟨f, by simp [List.mem_cons.1 j2], j3⟩⟩
    · show (if c.1 ≤ y ∧ y < c.2.1 then c.2.2 else rowAt (pushB (d :: l) b) y) = if b.1 ≤ y ∧ y < b.2.1 then b.2.2 else if c.1 ≤ y ∧ y < c.2.1 then c.2.2 else rowAt (d :: l) y
      rw [i3 y]
      by_cases ha : b.1 ≤ y ∧ y < b.2.1
      · rw [if_pos ha, if_pos ha, if_neg (by omega)]
      · rw [if_neg ha, if_neg ha]
/-- Bands over heights, one behind the other. -/
def bandsF (f : Int → List (Int × Int)) : List Int → List Bd → List Bd
  | a :: b :: ys, out => bandsF f (b :: ys) (pushB out (a, b, f a))
  | _, out => out
theorem bandsGo_F (l : List TRect) : ∀ (ys : List Int) (out : List Bd), bandsGo l ys out = bandsF (rowS l) ys out
  | [], _ => rfl
  | [_], _ => rfl
  | a :: b :: ys, out => bandsGo_F l (b :: ys) (pushB out (a, b, rowS l a))
/-- The same all over, between one height and the next one. -/
def ConstOn (f : Int → List (Int × Int)) : List Int → Prop
  | a :: b :: ys => (∀ y, a ≤ y → y < b → f y = f a) ∧ ConstOn f (b :: ys)
  | _ => True
theorem constOn {f : Int → List (Int × Int)} {zs : List Int} (hc : ∀ a y, a ≤ y → (∀ z ∈ zs, z ≤ a ∨ y < z) → f y = f a) : ∀ {ys pre : List Int}, zs = pre ++ ys → zs.Pairwise (fun x y => x < y) → ConstOn f ys
  | [], _, _, _ => trivial
  | [_], _, _, _ => trivial
  | a :: b :: ys, pre, e, h => by
    refine ⟨fun y h1 h2 => hc a y h1 fun z hz => ?_, constOn hc (ys := b :: ys) (pre := pre ++ [a]) (by rw [e]; simp) h⟩
    rw [e] at hz h
    obtain ⟨_, k1, k2⟩ := List.pairwise_append.1 h
    rcases List.mem_append.1 hz with hz | hz
    · have := k2 z hz a (by simp); exact .inl (by omega)
    · rcases List.mem_cons.1 hz with rfl | hz
      · exact .inl (Int.le_refl _)
      · rcases List.mem_cons.1 hz with rfl | hz
        · exact .inr h2
        · have := (List.pairwise_cons.1 (List.pairwise_cons.1 k1).2).1 z hz; exact .inr (by omega)
theorem bands_ok {f : Int → List (Int × Int)} {lo : Int} (hf : ∀ y, ∃ lo, Can lo (f y)) : ∀ (ys : List Int) (out : List Bd), ys.Pairwise (fun x y => x < y) → ConstOn f ys → CanB lo out → (∀ b ∈ out, ∃ lo, Can lo b.2.2) → (∀ a, ys.head? = some a → lo ≤ a ∧ (∀ c ∈ out, c.2.1 ≤ a)) →
    CanB lo (bandsF f ys out) ∧ (∀ b ∈ bandsF f ys out, ∃ lo, Can lo b.2.2) ∧ ∀ y, rowAt (bandsF f ys out) y = if (∃ a ∈ ys, a ≤ y) ∧ (∃ z ∈ ys, y < z) then f y else rowAt out y
  | [], out, _, _, h1, h2, _ => ⟨h1, h2, fun y => by rw [if_neg (by simp)]; rfl⟩
  | [a], out, _, _, h1, h2, _ => ⟨h1, h2, fun y => by rw [if_neg (by rintro ⟨⟨c, hc, h1⟩, z, hz, h2⟩; simp at hc hz; omega)]; rfl⟩
  | a :: b :: ys, out, hs, hc, h1, h2, h3 => by
    have hab : a < b := (List.pairwise_cons.1 hs).1 b (by simp)
    have hs2 := (List.pairwise_cons.1 hs).2
    obtain ⟨h5, h6⟩ := h3 a rfl
    obtain ⟨p1, p2, p3⟩ := h1.push (b := (a, b, f a)) h6 h5 hab
    obtain ⟨i1, i2, i3⟩ := bands_ok hf (b :: ys) (pushB out (a, b, f a)) hs2 hc.2 p1 (fun c hc => by
      rcases (p2 c hc).2 with e | ⟨d, hd, e⟩
      · rw [e]; exact hf a
      · rw [e]; exact h2 d hd) (fun z hz => by
      simp at hz; subst hz
      exact ⟨by omega, fun c hc => (p2 c hc).1⟩)
    refine ⟨i1, i2, fun y => ?_⟩
    show rowAt (bandsF f (b :: ys) (pushB out (a, b, f a))) y = _
    rw [i3 y, p3 y]
    show (if (∃ c ∈ b :: ys, c ≤ y) ∧ (∃ z ∈ b :: ys, y < z) then f y else if a ≤ y ∧ y < b then f a else rowAt out y) = _
    by_cases ya : y < a
    · rw [if_neg (fun h => by
        obtain ⟨⟨c, hc, hcy⟩, _⟩ := h
        rcases List.mem_cons.1 hc with rfl | hc
        · omega
        · have := (List.pairwise_cons.1 hs2).1 c hc; omega), if_neg (by omega), if_neg (fun h => by
        obtain ⟨⟨c, hc, hcy⟩, _⟩ := h
        rcases List.mem_cons.1 hc with rfl | hc
        · omega
        · have := (List.pairwise_cons.1 hs).1 c hc; omega)]
    · by_cases yb : y < b
      · rw [if_neg (fun h => by
          obtain ⟨⟨c, hc, hcy⟩, _⟩ := h
          rcases List.mem_cons.1 hc with rfl | hc
          · omega
          · have := (List.pairwise_cons.1 hs2).1 c hc; omega), if_pos (by omega), if_pos ⟨⟨a, by simp, by omega⟩, ⟨b, by simp, yb⟩⟩]
        exact (hc.1 y (by omega) yb).symm
      · by_cases hz : ∃ z ∈ b :: ys, y < z
        · obtain ⟨z, hz, hyz⟩ := hz
          rw [if_pos ⟨⟨b, by simp, by omega⟩, z, hz, hyz⟩, if_pos ⟨⟨a, by simp, by omega⟩, z, List.mem_cons_of_mem _ hz, hyz⟩]
        · rw [if_neg (fun h => hz h.2), if_neg (by omega), if_neg (fun h => by
            obtain ⟨_, z, hm, hyz⟩ := h
            rcases List.mem_cons.1 hm with rfl | hm
            · omega
            · exact hz ⟨z, hm, hyz⟩)]
/-- Bands over all heights at which something changes. -/
theorem bandsF_row {f : Int → List (Int × Int)} {ys : List Int} (hs : ys.Pairwise fun x y => x < y) (hf : ∀ y, ∃ lo, Can lo (f y)) (hc : ∀ a y, a ≤ y → (∀ z ∈ ys, z ≤ a ∨ y < z) → f y = f a) (h0 : ∀ y, (∀ a ∈ ys, y < a) → f y = []) (h1 : ∀ y, (∀ a ∈ ys, a ≤ y) → f y = []) : BOk (bandsF f ys []) ∧ ∀ y, rowAt (bandsF f ys []) y = f y := by
  obtain ⟨lo, hlo⟩ : ∃ lo : Int, ∀ z ∈ ys, lo ≤ z := by
    have : ∀ m : List Int, ∃ lo : Int, ∀ z ∈ m, lo ≤ z := by
      intro m
      induction m with
      | nil => exact ⟨0, by simp⟩
      | cons a m ih =>
        obtain ⟨lo, h⟩ := ih
        refine ⟨min lo a, fun z hz => ?_⟩
        rcases List.mem_cons.1 hz with rfl | hz
        · omega
        · have := h z hz; omega
    exact this _
  obtain ⟨i1, i2, i3⟩ := bands_ok (lo := lo) hf ys [] hs (constOn hc (ys := ys) (pre := []) rfl hs) trivial (by simp) (fun a ha => ⟨hlo a (List.mem_of_mem_head? (by rw [ha]; rfl)), by simp⟩)
  refine ⟨⟨⟨lo, i1⟩, i2⟩, fun y => ?_⟩
  rw [i3 y]
  by_cases ha : ∃ a ∈ ys, a ≤ y
  · by_cases hz : ∃ z ∈ ys, y < z
    · rw [if_pos ⟨ha, hz⟩]
    · rw [if_neg (fun h => hz h.2), h1 y (fun a ham => by
        rcases Int.lt_or_le y a with h | h
        · exact absurd ⟨a, ham, h⟩ hz
        · exact h)]; rfl
  · rw [if_neg (fun h => ha h.1), h0 y (fun a ham => by
      rcases Int.lt_or_le y a with h | h
      · exact h
      · exact absurd ⟨a, ham, h⟩ ha)]; rfl
theorem rowS_nil {l : List TRect} (hl : ∀ r ∈ l, r.X0 < r.X1) {y : Int} (h : ∀ r ∈ l, ¬ (r.Y0 ≤ y ∧ y < r.Y1)) : rowS l y = [] := by
  obtain ⟨c1, c2⟩ := rowS_ok hl y
  exact can_nil c1 fun x hx => by
    obtain ⟨r, hr, _, hy⟩ := (c2 x).1 hx
    exact h r hr hy
theorem rowS_const {l : List TRect} (hl : ∀ r ∈ l, r.X0 < r.X1) {a y : Int} (h : ∀ r ∈ l, (r.Y0 ≤ y ∧ y < r.Y1) ↔ (r.Y0 ≤ a ∧ a < r.Y1)) : rowS l y = rowS l a := by
  obtain ⟨c1, c2⟩ := rowS_ok hl y
  obtain ⟨c3, c4⟩ := rowS_ok hl a
  refine can_eq c1 c3 fun x => (c2 x).trans (Iff.trans ?_ (c4 x).symm)
  unfold InR
  constructor
  · rintro ⟨r, hr, hx, hy⟩; exact ⟨r, hr, hx, (h r hr).1 hy⟩
  · rintro ⟨r, hr, hx, hy⟩; exact ⟨r, hr, hx, (h r hr).2 hy⟩
/-- Heights of rectangles: what lies at a height changes there alone. -/
theorem rowS_change {l : List TRect} {ys : List Int} (hl : ∀ r ∈ l, r.X0 < r.X1 ∧ r.Y0 < r.Y1) (hy : ∀ r ∈ l, r.Y0 ∈ ys ∧ r.Y1 ∈ ys) : (∀ a y, a ≤ y → (∀ z ∈ ys, z ≤ a ∨ y < z) → rowS l y = rowS l a) ∧ (∀ y, (∀ a ∈ ys, y < a) → rowS l y = []) ∧ (∀ y, (∀ a ∈ ys, a ≤ y) → rowS l y = []) := by
  have hx : ∀ r ∈ l, r.X0 < r.X1 := fun r hr => (hl r hr).1
  refine ⟨fun a y hay h => rowS_const hx fun r hr => ?_, fun y h => rowS_nil hx fun r hr hh => ?_, fun y h => rowS_nil hx fun r hr hh => ?_⟩
  · have := h _ (hy r hr).1; have := h _ (hy r hr).2; omega
  · have := h _ (hy r hr).1; omega
  · have := h _ (hy r hr).2; omega
/-- The bands of rectangles have the one form; what lies at each height. -/
theorem setB_row {l : List TRect} (hl : ∀ r ∈ l, r.X0 < r.X1 ∧ r.Y0 < r.Y1) : BOk (setB l) ∧ ∀ y, rowAt (setB l) y = rowS l y := by
  obtain ⟨h1, h2, h3⟩ := rowS_change (ys := srtd (ysOfR l)) hl fun r hr => ⟨(srtd_mem _ _).2 (mem_ysOfR.2 ⟨r, hr, .inl rfl⟩), (srtd_mem _ _).2 (mem_ysOfR.2 ⟨r, hr, .inr rfl⟩)⟩
  have := bandsF_row (srtd_strict (ysOfR l)) (fun y => (rowS_ok (fun r hr => (hl r hr).1) y).1) h1 h2 h3
  unfold setB
  rw [bandsGo_F]
  exact this
theorem setB_ok {l : List TRect} (hl : ∀ r ∈ l, r.X0 < r.X1 ∧ r.Y0 < r.Y1) : BOk (setB l) ∧ ∀ x y, InB x y (setB l) ↔ InR x y l := by
  obtain ⟨h1, h2⟩ := setB_row hl
  refine ⟨h1, fun x y => ?_⟩
  unfold InB
  rw [h2]
  exact (rowS_ok (fun r hr => (hl r hr).1) y).2 x
theorem setB_congr {l m : List TRect} (hl : ∀ r ∈ l, r.X0 < r.X1 ∧ r.Y0 < r.Y1) (hm : ∀ r ∈ m, r.X0 < r.X1 ∧ r.Y0 < r.Y1) (h : ∀ x y, InR x y l ↔ InR x y m) : setB l = setB m := by
  obtain ⟨a1, a2⟩ := setB_ok hl
  obtain ⟨b1, b2⟩ := setB_ok hm
  exact a1.uniq b1 fun x y => by rw [a2, b2, h]
theorem mem_rectsB {l : List Bd} {r : TRect} : r ∈ rectsB l ↔ ∃ b ∈ l, ∃ s ∈ b.2.2, r = ⟨s.1, b.1, s.2, b.2.1⟩ := by
  unfold rectsB rectsOf
  simp only [List.mem_flatMap, List.mem_map]
  constructor
  · rintro ⟨b, hb, s, hs, rfl⟩; exact ⟨b, hb, s, hs, rfl⟩
  · rintro ⟨b, hb, s, hs, rfl⟩; exact ⟨b, hb, s, hs, rfl⟩
theorem InR_rectsB {l : List Bd} (h : BOk l) (x y : Int) : InR x y (rectsB l) ↔ InB x y l := by
  obtain ⟨lo, hc⟩ := h.can
  unfold InR InB
  constructor
  · rintro ⟨r, hr, hx, hy⟩
    obtain ⟨b, hb, s, hs, rfl⟩ := mem_rectsB.1 hr
    rw [rowAt_of hc hb hy.1 hy.2]
    exact ⟨s, hs, hx⟩
  · intro hx
    rcases rowAt_mem (l := l) (y := y) with h1 | ⟨b, hb, h1, h2, h3⟩
    · rw [h1] at hx; exact absurd hx InS_nil
    · rw [h3] at hx
      obtain ⟨s, hs, hx⟩ := hx
      exact ⟨_, mem_rectsB.2 ⟨b, hb, s, hs, rfl⟩, hx, h1, h2⟩
theorem rectsB_ne {l : List Bd} (h : BOk l) : ∀ r ∈ rectsB l, r.X0 < r.X1 ∧ r.Y0 < r.Y1 := fun r hr => by
  obtain ⟨lo, hc⟩ := h.can
  obtain ⟨b, hb, s, hs, rfl⟩ := mem_rectsB.1 hr
  obtain ⟨lo', hr⟩ := h.row b hb
  exact ⟨(hr.mem s hs).2, (hc.mem b hb).2.1⟩
/-- The bands of the rectangles of bands are the bands. -/
theorem setB_rectsB {l : List Bd} (h : BOk l) : setB (rectsB l) = l := by
  obtain ⟨a1, a2⟩ := setB_ok (rectsB_ne h)
  exact a1.uniq h fun x y => by rw [a2, InR_rectsB h]
theorem rectsB_inj {l m : List Bd} (h1 : BOk l) (h2 : BOk m) (h : rectsB l = rectsB m) : l = m := by rw [← setB_rectsB h1, ← setB_rectsB h2, h]
/-- Squares within limits: rectangles within limits. -/
theorem rectsB_rok {l : List Bd} (h : BOk l) (hx : ∀ x y, InB x y l → (-1000000 ≤ x ∧ x < 1000000) ∧ (-1000000 ≤ y ∧ y < 1000000)) : ∀ r ∈ rectsB l, ROk r := fun r hr => by
  have hne := rectsB_ne h r hr
  have h1 := hx r.X0 r.Y0 ((InR_rectsB h _ _).1 ⟨r, hr, ⟨Int.le_refl _, hne.1⟩, ⟨Int.le_refl _, hne.2⟩⟩)
  have h2 := hx (r.X1 - 1) (r.Y1 - 1) ((InR_rectsB h _ _).1 ⟨r, hr, ⟨by omega, by omega⟩, ⟨by omega, by omega⟩⟩)
  exact ⟨by omega, by omega, by omega, by omega, hne.1, hne.2⟩
theorem ordR_append : ∀ {l m : List TRect}, ordR l = true → ordR m = true → (∀ a ∈ l, ∀ b ∈ m, ltR a b = true) → ordR (l ++ m) = true
  | [], _, _, h, _ => h
  | [a], [], _, _, _ => rfl
  | [a], b :: m, _, h2, h3 => by
    show (ltR a b && ordR (b :: m)) = true
    rw [h3 a (by simp) b (by simp), h2]; rfl
  | a :: c :: l, m, h1, h2, h3 => by
    have h1 : (ltR a c && ordR (c :: l)) = true := h1
    rw [Bool.and_eq_true] at h1
    show (ltR a c && ordR (c :: l ++ m)) = true
    rw [h1.1, ordR_append h1.2 h2 fun x hx y hy => h3 x (by simp [List.mem_cons.1 hx]) y hy]; rfl
theorem ordR_rectsOf {b : Bd} : ∀ {l : List (Int × Int)} {lo : Int}, Can lo l → ordR (l.map fun s => (⟨s.1, b.1, s.2, b.2.1⟩ : TRect)) = true
  | [], _, _ => rfl
  | [p], _, _ => rfl
  | p :: q :: l, lo, h => by
    show (ltR _ _ && ordR (List.map (fun s => (⟨s.1, b.1, s.2, b.2.1⟩ : TRect)) (q :: l))) = true
    rw [ordR_rectsOf h.2.2, Bool.and_true]
    unfold ltR
    have := h.2.1; have := h.2.2.1
    simp
    omega
theorem ordR_rectsB : ∀ {l : List Bd} {lo : Int}, CanB lo l → (∀ b ∈ l, ∃ lo, Can lo b.2.2) → ordR (rectsB l) = true
  | [], _, _, _ => rfl
  | b :: l, lo, h, hr => by
    rw [rectsB_cons]
    obtain ⟨lo', h1⟩ := hr b (by simp)
    refine ordR_append (ordR_rectsOf h1) (ordR_rectsB h.2.2.2.2 fun c hc => hr c (by simp [hc])) fun x hx y hy => ?_
    obtain ⟨s, hs, rfl⟩ := List.mem_map.1 hx
    obtain ⟨c, hc, t, ht, rfl⟩ := mem_rectsB.1 hy
    have := h.2.2.2.2.mem c hc
    have := h.2.1
    unfold ltR
    simp
    omega
theorem CanB.mono {l : List Bd} {lo lo' : Int} (h : CanB lo l) (hl : lo' ≤ lo) : CanB lo' l := by
  cases l with
  | nil => trivial
  | cons b l => exact ⟨by have := h.1; omega, h.2⟩
/-- What is right with a region: the bands that it comes from. -/
theorem region_of {l : List Bd} (h : BOk l) (hx : ∀ x y, InB x y l → (-1000000 ≤ x ∧ x < 1000000) ∧ (-1000000 ≤ y ∧ y < 1000000)) (hn : (rectsB l).length ≤ 2000) : regionErr (rectsB l) = 0 := by
  unfold regionErr
  have h1 : rectsErr (rectsB l) = 0 := by
    unfold rectsErr
    rw [if_neg (by omega)]
    exact rsErr_of (rectsB_rok h hx)
  obtain ⟨lo, hc⟩ := h.can
  rw [if_pos h1, if_pos (ordR_rectsB hc h.row), if_pos (by rw [setB_rectsB h])]
theorem regionErr_ok {l : List TRect} (h : regionErr l = 0) : rectsErr l = 0 ∧ l.length ≤ 2000 ∧ (∀ r ∈ l, ROk r) ∧ rectsB (setB l) = l := by
  unfold regionErr at h
  by_cases h1 : rectsErr l = 0
  · obtain ⟨h2, h3⟩ := rectsErr_ok h1
    rw [if_pos h1] at h
    split at h
    · split at h
      · rename_i h4; exact ⟨h1, h2, h3, h4⟩
      · omega
    · omega
  · rw [if_neg h1] at h; exact absurd h h1
theorem ROk.ne {l : List TRect} (h : ∀ r ∈ l, ROk r) : ∀ r ∈ l, r.X0 < r.X1 ∧ r.Y0 < r.Y1 := fun r hr => ⟨(h r hr).x, (h r hr).y⟩
theorem InR_lim {l : List TRect} (h : ∀ r ∈ l, ROk r) {x y : Int} (hx : InR x y l) : (-1000000 ≤ x ∧ x < 1000000) ∧ (-1000000 ≤ y ∧ y < 1000000) := by
  obtain ⟨r, hr, h1, h2⟩ := hx
  have a := h r hr
  have := a.x0; have := a.x1; have := a.y0; have := a.y1
  omega
end Go.Proofs.Ytacapjleiadkkaa
