/- Plain words: counting loops over lists, numbers in range. No program. Conditions: none beyond each theorem's own. Borders of sets of squares: steps along a border, with the set at the left hand. Plain Lean. Conditions: none beyond each theorem's own. Borders: their corners, from the least one on. Plain Lean. Conditions: none beyond each theorem's own. Borders as lists of sides, and the rows in which sides follow one another. Plain Lean. Conditions: none beyond each theorem's own. All borders of a set; what a border looks like. Plain Lean. Conditions: none beyond each theorem's own. What a border looks like: stretches along one axis and the other in turn; which borders cross a row. Plain Lean. Conditions: none beyond each theorem's own. All borders together cross a row just where the set begins and ends. Plain Lean. Conditions: none beyond each theorem's own. Sides as the program holds them; the rows in which it follows them. Plain Lean about the plain functions. Conditions: none beyond each theorem's own. The rows in which the program follows the sides of a set. Plain Lean about the plain functions. Conditions: none beyond each theorem's own. The program follows the sides of a set: it tells all borders, in order. Plain Lean about the plain functions. Conditions: none beyond each theorem's own. Integers sorted, each once. Plain Lean. Sets of numbers by stretches: their one form. Plain Lean. Sets of rectangles: the bands that cover the same. Plain Lean; the program's helpers compute it. Sets of rectangles: the program's bands are the ones. Plain Lean about the plain functions. Regions: what the program tells of sets. Plain Lean about the plain functions. Regions: what is checked; program and reference agree. Plain Lean about the plain functions. Sets of rectangles by bands: their one form, by points. Plain Lean. Sets of squares: bands in their one form, told by their points. Plain Lean. -/
import Derived.Test.YtacapjleiadkkaaGreatJ2
import Derived.Test.YtacapjleiadkkaaGreatXF
namespace Go.Proofs.YtacapjleiadkkaaGreat
theorem Qg {x : Int} (h1 : -4611686018427387904 ≤ x) (h2 : x ≤ 4611686018427387904) : w64 x = x := zRe (by omega) (by omega)
theorem Qn {α : Type} (pre suf : List α) (x : α) : idx (pre ++ x :: suf) (pre.length : Int) = some x := by
  unfold idx
  rw [if_pos (by omega)]
  simp
theorem zDe {α : Type} {l : List α} {i : Nat} (h : i < l.length) : idx l (i : Int) = some l[i] := by
  unfold idx
  rw [if_pos (by omega)]
  simp [h]
theorem zBz {α : Type} (pre suf : List α) (x : α) : decide ((pre.length : Int) < ((pre ++ x :: suf).length : Int)) = true := decide_eq_true (by simp; omega)
theorem zAP {α : Type} (pre : List α) (x : α) (h : pre.length ≤ 4611686018427387903) : w64 ((pre.length : Int) + 1) = ((pre ++ [x]).length : Int) := by
  rw [Qg (by omega) (by omega)]; simp
theorem Kl {α : Type} {l m : List α} (h : l.length + m.length ≤ 4294967296) : apd l m = some (l ++ m) := if_pos h
def within (n lo hi : Int) : Bool := decide (lo ≤ n) && decide (n ≤ hi)
theorem within_iff {n lo hi : Int} : within n lo hi = true ↔ lo ≤ n ∧ n ≤ hi := by simp [within]
def zOL {α : Type} (g : α → Bool) : List α → Int → Int
  | [], _ => -1
  | x :: l, i => if g x then i else zOL g l (i + 1)
theorem zTc {α : Type} (g : α → Bool) : ∀ (l : List α) (i : Int), 0 ≤ i → decide (0 ≤ zOL g l i) = l.any g
  | [], _, _ => by simp [zOL]
  | x :: l, i, hi => by
    unfold zOL
    rw [List.any_cons]
    cases g x
    · simp [zTc g l (i + 1) (by omega)]
    · simp [hi]
end Go.Proofs.YtacapjleiadkkaaGreat
namespace Go.Proofs.YtacapjleiadkkaaGreat.PX
inductive Dir where
  | E | N | W | S
namespace Dir
def left : Dir → Dir | E => N | N => W | W => S | S => E
def right : Dir → Dir | E => S | N => E | W => N | S => W
def dx : Dir → Int | E => 1 | N => 0 | W => -1 | S => 0
def dy : Dir → Int | E => 0 | N => 1 | W => 0 | S => -1
instance : DecidableEq Dir := fun a b => by
  cases a <;> cases b <;> first | exact isTrue rfl | exact isFalse (fun h => nomatch h)
end Dir
structure Ed where
  x : Int
  y : Int
  d : Dir
instance : DecidableEq Ed := fun a b => by
  obtain ⟨x, y, d⟩ := a
  obtain ⟨x', y', d'⟩ := b
  exact if h : x = x' ∧ y = y' ∧ d = d' then isTrue (by obtain ⟨rfl, rfl, rfl⟩ := h; rfl) else isFalse (fun e => h (by cases e; exact ⟨rfl, rfl, rfl⟩))
abbrev Sq := Int → Int → Bool
def lq (I : Sq) (x y : Int) : Dir → Bool
  | .E => I x y
  | .N => I (x - 1) y
  | .W => I (x - 1) (y - 1)
  | .S => I x (y - 1)
def isB (I : Sq) (e : Ed) : Prop := lq I e.x e.y e.d = true ∧ lq I e.x e.y e.d.right = false
def Ed.tx (e : Ed) : Int := e.x + e.d.dx
def Ed.ty (e : Ed) : Int := e.y + e.d.dy
def sc (I : Sq) (e : Ed) : Ed :=
  if lq I e.tx e.ty e.d = false then ⟨e.tx, e.ty, e.d.left⟩ else if lq I e.tx e.ty e.d.right = false then ⟨e.tx, e.ty, e.d⟩ else ⟨e.tx, e.ty, e.d.right⟩
def pd (I : Sq) (e : Ed) : Ed :=
  if lq I e.x e.y e.d.left = false then ⟨e.x - e.d.right.dx, e.y - e.d.right.dy, e.d.right⟩ else if lq I e.x e.y e.d.left.left = false then ⟨e.x - e.d.dx, e.y - e.d.dy, e.d⟩ else ⟨e.x - e.d.left.dx, e.y - e.d.left.dy, e.d.left⟩
theorem zMG (I : Sq) (x y : Int) (d : Dir) : lq I (x + d.dx) (y + d.dy) d.left = lq I x y d ∧ lq I (x + d.dx) (y + d.dy) d.left.left = lq I x y d.right := by
  cases d <;> simp only [Dir.left, Dir.right, Dir.dx, Dir.dy, lq] <;> refine ⟨?_, ?_⟩ <;> congr 1 <;> omega
theorem zSc (I : Sq) (x y : Int) (d : Dir) : lq I (x - d.dx) (y - d.dy) d = lq I x y d.left ∧ lq I (x - d.dx) (y - d.dy) d.right = lq I x y d.left.left := by
  have h := zMG I (x - d.dx) (y - d.dy) d
  have e1 : x - d.dx + d.dx = x := by omega
  have e2 : y - d.dy + d.dy = y := by omega
  rw [e1, e2] at h
  exact ⟨h.1.symm, h.2.symm⟩
theorem Dir.lr (d : Dir) : d.left.right = d := by cases d <;> rfl
theorem Dir.rl (d : Dir) : d.right.left = d := by cases d <;> rfl
theorem Dir.rr (d : Dir) : d.right.right = d.left.left := by cases d <;> rfl
theorem Dir.lll (d : Dir) : d.left.left.left = d.right := by cases d <;> rfl
theorem zfL {I : Sq} {e : Ed} (h : lq I e.tx e.ty e.d = false) : sc I e = ⟨e.tx, e.ty, e.d.left⟩ := if_pos h
theorem zfK {I : Sq} {e : Ed} (h : lq I e.tx e.ty e.d = true) (h' : lq I e.tx e.ty e.d.right = false) : sc I e = ⟨e.tx, e.ty, e.d⟩ := (if_neg (by rw [h]; simp)).trans (if_pos h')
theorem zlr {I : Sq} {e : Ed} (h : lq I e.tx e.ty e.d = true) (h' : lq I e.tx e.ty e.d.right = true) : sc I e = ⟨e.tx, e.ty, e.d.right⟩ := (if_neg (by rw [h]; simp)).trans (if_neg (by rw [h']; simp))
theorem zfT {I : Sq} {e : Ed} (h : lq I e.x e.y e.d.left = false) : pd I e = ⟨e.x - e.d.right.dx, e.y - e.d.right.dy, e.d.right⟩ := if_pos h
theorem zlt {I : Sq} {e : Ed} (h : lq I e.x e.y e.d.left = true) (h' : lq I e.x e.y e.d.left.left = false) : pd I e = ⟨e.x - e.d.dx, e.y - e.d.dy, e.d⟩ := (if_neg (by rw [h]; simp)).trans (if_pos h')
theorem zlu {I : Sq} {e : Ed} (h : lq I e.x e.y e.d.left = true) (h' : lq I e.x e.y e.d.left.left = true) : pd I e = ⟨e.x - e.d.left.dx, e.y - e.d.left.dy, e.d.left⟩ := (if_neg (by rw [h]; simp)).trans (if_neg (by rw [h']; simp))
theorem bc {b : Bool} : b = false ∨ b = true := by cases b; exact .inl rfl; exact .inr rfl
theorem zJ9 {I : Sq} {e : Ed} (_ : isB I e) : (lq I e.tx e.ty e.d = false ∧ sc I e = ⟨e.tx, e.ty, e.d.left⟩) ∨ (lq I e.tx e.ty e.d = true ∧ lq I e.tx e.ty e.d.right = false ∧ sc I e = ⟨e.tx, e.ty, e.d⟩) ∨
    (lq I e.tx e.ty e.d = true ∧ lq I e.tx e.ty e.d.right = true ∧ sc I e = ⟨e.tx, e.ty, e.d.right⟩) := by
  rcases bc (b := lq I e.tx e.ty e.d) with h1 | h1
  · exact .inl ⟨h1, zfL h1⟩
  · rcases bc (b := lq I e.tx e.ty e.d.right) with h2 | h2
    · exact .inr (.inl ⟨h1, h2, zfK h1 h2⟩)
    · exact .inr (.inr ⟨h1, h2, zlr h1 h2⟩)
theorem Ed.zMG (I : Sq) (e : Ed) : lq I e.tx e.ty e.d.left = lq I e.x e.y e.d ∧ lq I e.tx e.ty e.d.left.left = lq I e.x e.y e.d.right := PX.zMG I e.x e.y e.d
theorem zRm {I : Sq} {e : Ed} (h : isB I e) : isB I (sc I e) := by
  obtain ⟨g1, g2⟩ := Ed.zMG I e
  rcases zJ9 h with ⟨h1, h2⟩ | ⟨h1, h2, h3⟩ | ⟨h1, h2, h3⟩
  · rw [h2]; exact ⟨g1.trans h.1, by simp only [Dir.lr]; exact h1⟩
  · rw [h3]; exact ⟨h1, h2⟩
  · rw [h3]; exact ⟨h2, by simp only [Dir.rr]; exact g2.trans h.2⟩
theorem Ed.ext' {e f : Ed} (h1 : e.x = f.x) (h2 : e.y = f.y) (h3 : e.d = f.d) : e = f := by cases e; cases f; cases h1; cases h2; cases h3; rfl
theorem zKJ {I : Sq} {e : Ed} (h : isB I e) : pd I (sc I e) = e := by
  obtain ⟨g1, g2⟩ := Ed.zMG I e
  have a1 : e.tx - e.d.dx = e.x := by unfold Ed.tx; omega
  have a2 : e.ty - e.d.dy = e.y := by unfold Ed.ty; omega
  rcases zJ9 h with ⟨h1, h2⟩ | ⟨h1, h2, h3⟩ | ⟨h1, h2, h3⟩
  · rw [h2, zfT (g2.trans h.2)]; exact Ed.ext' (by simp only [Dir.lr]; exact a1) (by simp only [Dir.lr]; exact a2) (Dir.lr _)
  · rw [h3, zlt (g1.trans h.1) (g2.trans h.2)]; exact Ed.ext' a1 a2 rfl
  · rw [h3, zlu (by simp only [Dir.rl]; exact h1) (by simp only [Dir.rl]; exact g1.trans h.1)]; exact Ed.ext' (by simp only [Dir.rl]; exact a1) (by simp only [Dir.rl]; exact a2) (Dir.rl _)
theorem zKK {I : Sq} {e : Ed} (_ : isB I e) : (lq I e.x e.y e.d.left = false ∧ pd I e = ⟨e.x - e.d.right.dx, e.y - e.d.right.dy, e.d.right⟩) ∨ (lq I e.x e.y e.d.left = true ∧ lq I e.x e.y e.d.left.left = false ∧ pd I e = ⟨e.x - e.d.dx, e.y - e.d.dy, e.d⟩) ∨
    (lq I e.x e.y e.d.left = true ∧ lq I e.x e.y e.d.left.left = true ∧ pd I e = ⟨e.x - e.d.left.dx, e.y - e.d.left.dy, e.d.left⟩) := by
  rcases bc (b := lq I e.x e.y e.d.left) with h1 | h1
  · exact .inl ⟨h1, zfT h1⟩
  · rcases bc (b := lq I e.x e.y e.d.left.left) with h2 | h2
    · exact .inr (.inl ⟨h1, h2, zlt h1 h2⟩)
    · exact .inr (.inr ⟨h1, h2, zlu h1 h2⟩)
theorem zQH {I : Sq} {e : Ed} (h : isB I e) : (pd I e).tx = e.x ∧ (pd I e).ty = e.y := by
  rcases zKK h with ⟨_, h2⟩ | ⟨_, _, h2⟩ | ⟨_, _, h2⟩ <;> rw [h2] <;> exact ⟨by simp only [Ed.tx]; omega, by simp only [Ed.ty]; omega⟩
theorem zVO {I : Sq} {e : Ed} (h : isB I e) : isB I (pd I e) := by
  rcases zKK h with ⟨h1, h2⟩ | ⟨h1, h2, h3⟩ | ⟨h1, h2, h3⟩
  · obtain ⟨g1, g2⟩ := zSc I e.x e.y e.d.right
    rw [h2]; exact ⟨g1.trans (by rw [Dir.rl]; exact h.1), g2.trans (by rw [Dir.rl]; exact h1)⟩
  · obtain ⟨g1, g2⟩ := zSc I e.x e.y e.d
    rw [h3]; exact ⟨g1.trans h1, g2.trans h2⟩
  · obtain ⟨g1, g2⟩ := zSc I e.x e.y e.d.left
    rw [h3]; exact ⟨g1.trans h2, g2.trans (by rw [Dir.lll]; exact h.2)⟩
theorem zeD {I : Sq} {e : Ed} (h : isB I e) : sc I (pd I e) = e := by
  obtain ⟨t1, t2⟩ := zQH h
  rcases zKK h with ⟨h1, h2⟩ | ⟨h1, h2, h3⟩ | ⟨h1, h2, h3⟩
  · have hd : (pd I e).d = e.d.right := by rw [h2]
    rw [zfL (by rw [t1, t2, hd]; exact h.2), t1, t2, hd, Dir.rl]
  · have hd : (pd I e).d = e.d := by rw [h3]
    rw [zfK (by rw [t1, t2, hd]; exact h.1) (by rw [t1, t2, hd]; exact h.2), t1, t2, hd]
  · have hd : (pd I e).d = e.d.left := by rw [h3]
    rw [zlr (by rw [t1, t2, hd]; exact h1) (by rw [t1, t2, hd, Dir.lr]; exact h.1), t1, t2, hd, Dir.lr]
def isC (I : Sq) (e : Ed) : Bool := decide ((pd I e).d ≠ e.d)
def it (I : Sq) : Nat → Ed → Ed
  | 0, e => e
  | k + 1, e => it I k (sc I e)
theorem zE0 (I : Sq) (k : Nat) (e : Ed) : it I (k + 1) e = sc I (it I k e) := by
  induction k generalizing e with
  | zero => rfl
  | succ k ih => exact ih (sc I e)
theorem zA1 (I : Sq) (j k : Nat) (e : Ed) : it I (j + k) e = it I j (it I k e) := by
  induction k generalizing e with
  | zero => rfl
  | succ k ih => exact ih (sc I e)
theorem zEH {I : Sq} {e : Ed} (h : isB I e) : ∀ k, isB I (it I k e)
  | 0 => h
  | k + 1 => by rw [zE0]; exact zRm (zEH h k)
theorem zVF {I : Sq} {e f : Ed} (he : isB I e) (hf : isB I f) (h : sc I e = sc I f) : e = f := by rw [← zKJ he, h, zKJ hf]
theorem zSB {I : Sq} {e f : Ed} (he : isB I e) (hf : isB I f) : ∀ k, it I k e = it I k f → e = f
  | 0, h => h
  | k + 1, h => zVF he hf (zSB (zRm he) (zRm hf) k h)
def zMb (I : Sq) (B : List Ed) : Prop := ∀ e, isB I e → e ∈ B
theorem zLS {α : Type} [DecidableEq α] : ∀ {l m : List α}, l.Nodup → (∀ x ∈ l, x ∈ m) → l.length ≤ m.length
  | [], _, _, _ => Nat.zero_le _
  | x :: l, m, hn, h => by
    obtain ⟨h1, h2⟩ := List.nodup_cons.1 hn
    have hx := h x (by simp)
    have : l.length ≤ (m.erase x).length := zLS h2 fun y hy => (List.mem_erase_of_ne (fun (e : y = x) => h1 (e ▸ hy))).2 (h y (by simp [hy]))
    rw [List.length_erase_of_mem hx] at this
    have := List.length_pos_of_mem hx
    simp only [List.length_cons]
    omega
def walk (I : Sq) : Nat → Ed → List Ed
  | 0, _ => []
  | k + 1, e => e :: walk I k (sc I e)
theorem zFO (I : Sq) : ∀ (k : Nat) (e : Ed), (walk I k e).length = k
  | 0, _ => rfl
  | k + 1, e => by simp [walk, zFO I k]
theorem zGW (I : Sq) : ∀ (k : Nat) (e : Ed) (i : Nat), i < k → (walk I k e)[i]? = some (it I i e)
  | 0, _, _, h => absurd h (Nat.not_lt_zero _)
  | k + 1, e, 0, _ => rfl
  | k + 1, e, i + 1, h => by
    simp only [walk, List.getElem?_cons_succ]
    exact zGW I k (sc I e) i (by omega)
theorem zEQ {I : Sq} {k : Nat} {e f : Ed} : f ∈ walk I k e ↔ ∃ i, i < k ∧ it I i e = f := by
  constructor
  · intro h
    obtain ⟨i, hi⟩ := List.mem_iff_getElem?.1 h
    have hlt : i < k := by
      have := (List.getElem?_eq_some_iff.1 hi).1
      rwa [zFO] at this
    rw [zGW I k e i hlt] at hi
    exact ⟨i, hlt, by simpa using hi⟩
  · rintro ⟨i, hi, rfl⟩
    exact List.mem_iff_getElem?.2 ⟨i, zGW I k e i hi⟩
theorem zNc (I : Sq) : ∀ (j k : Nat) (e : Ed), walk I (j + k) e = walk I j e ++ walk I k (it I j e)
  | 0, k, e => by simp [walk, it]
  | j + 1, k, e => by
    have : j + 1 + k = (j + k) + 1 := by omega
    rw [this]
    simp only [walk, List.cons_append, it]
    rw [zNc I j k (sc I e)]
theorem back {I : Sq} {B : List Ed} (hB : zMb I B) {e : Ed} (he : isB I e) : ∃ n, 0 < n ∧ it I n e = e := by
  cases Classical.em (∃ n, 0 < n ∧ it I n e = e) with
  | inl h => exact h
  | inr h =>
    have hne : ∀ i j, i < j → it I i e ≠ it I j e := fun i j hij hh => by
      refine h ⟨j - i, by omega, ?_⟩
      have : it I j e = it I i (it I (j - i) e) := by rw [← zA1]; congr 1; omega
      rw [this] at hh
      exact (zSB he (zEH he _) i hh).symm
    have hnd : (walk I (B.length + 1) e).Nodup := by
      rw [List.Nodup, List.pairwise_iff_getElem]
      intro i j hi hj hij
      rw [zFO] at hi hj
      have h1 := zGW I (B.length + 1) e i hi
      have h2 := zGW I (B.length + 1) e j hj
      rw [List.getElem?_eq_getElem (by rw [zFO]; exact hi)] at h1
      rw [List.getElem?_eq_getElem (by rw [zFO]; exact hj)] at h2
      rw [Option.some.inj h1, Option.some.inj h2]
      exact hne i j hij
    have := zLS hnd (fun f hf => by
      obtain ⟨i, _, rfl⟩ := zEQ.1 hf
      exact hB _ (zEH he i))
    rw [zFO] at this
    omega
theorem zQN {p : Nat → Prop} : ∀ n, p n → ∃ m, p m ∧ ∀ k, k < m → ¬ p k := by
  intro n
  induction n using Nat.strongRecOn with
  | _ n ih =>
    intro hp
    cases Classical.em (∃ k, k < n ∧ p k) with
    | inl h => obtain ⟨k, h1, h2⟩ := h; exact ih k h1 h2
    | inr h => exact ⟨n, hp, fun k hk hpk => h ⟨k, hk, hpk⟩⟩
def Per (I : Sq) (e : Ed) (n : Nat) : Prop := 0 < n ∧ it I n e = e ∧ ∀ k, 0 < k → k < n → it I k e ≠ e
theorem per {I : Sq} {B : List Ed} (hB : zMb I B) {e : Ed} (he : isB I e) : ∃ n, Per I e n := by
  obtain ⟨n, h1, h2⟩ := back hB he
  obtain ⟨m, ⟨h3, h4⟩, h5⟩ := zQN (p := fun n => 0 < n ∧ it I n e = e) n ⟨h1, h2⟩
  exact ⟨m, h3, h4, fun k h6 h7 h8 => h5 k h7 ⟨h6, h8⟩⟩
theorem Per.uniq {I : Sq} {e : Ed} {n m : Nat} (h : Per I e n) (k : Per I e m) : n = m := by
  rcases Nat.lt_trichotomy n m with h1 | h1 | h1
  · exact absurd h.2.1 (k.2.2 n h.1 h1)
  · exact h1
  · exact absurd k.2.1 (h.2.2 m k.1 h1)
theorem Per.mod {I : Sq} {e : Ed} {n : Nat} (h : Per I e n) : ∀ k, it I k e = it I (k % n) e := by
  intro k
  induction k using Nat.strongRecOn with
  | _ k ih =>
    by_cases hk : k < n
    · rw [Nat.mod_eq_of_lt hk]
    · have h1 : k = (k - n) + n := by omega
      have h2 : k % n = (k - n) % n := by rw [h1, Nat.add_mod_right]; congr 1; omega
      have h3 : it I k e = it I (k - n) e := by
        conv => lhs; rw [h1]
        rw [zA1, h.2.1]
      rw [h3, h2]
      exact ih (k - n) (by have := h.1; omega)
theorem Per.shift {I : Sq} {e : Ed} {n : Nat} (he : isB I e) (h : Per I e n) (j : Nat) : Per I (it I j e) n := by
  refine ⟨h.1, ?_, fun k h1 h2 h3 => ?_⟩
  · rw [← zA1, Nat.add_comm, zA1, h.2.1]
  · rw [← zA1, Nat.add_comm, zA1] at h3
    exact h.2.2 k h1 h2 (zSB (zEH he k) he j h3)
end Go.Proofs.YtacapjleiadkkaaGreat.PX
namespace Go.Proofs.YtacapjleiadkkaaGreat.PX
def pl (a b : Int × Int) : Prop := a.2 < b.2 ∨ (a.2 = b.2 ∧ a.1 < b.1)
instance (a b : Int × Int) : Decidable (pl a b) := inferInstanceAs (Decidable (_ ∨ _))
theorem zDE (a : Int × Int) : ¬ pl a a := by unfold pl; omega
theorem zH9 {a b c : Int × Int} (h : pl a b) (k : pl b c) : pl a c := by unfold pl at *; omega
theorem zGa (a b : Int × Int) : pl a b ∨ a = b ∨ pl b a := by
  obtain ⟨a1, a2⟩ := a
  obtain ⟨b1, b2⟩ := b
  unfold pl
  simp only [Prod.mk.injEq]
  omega
def Ed.p (e : Ed) : Int × Int := (e.x, e.y)
def Lst (I : Sq) (e : Ed) : Prop := isB I e ∧ ∀ k, ¬ pl (it I k e).p e.p
theorem zfW {I : Sq} {e : Ed} {n : Nat} (h : Per I e n) : ∀ m, m ≤ n → 0 < m → ∃ j, j < m ∧ ∀ k, k < m → ¬ pl (it I k e).p (it I j e).p := by
  intro m
  induction m with
  | zero => intro _ h; omega
  | succ m ih =>
    intro hm _
    by_cases h0 : m = 0
    · subst h0
      exact ⟨0, by omega, fun k hk => by have : k = 0 := by omega
                                         subst this; exact zDE _⟩
    · obtain ⟨j, h1, h2⟩ := ih (by omega) (by omega)
      by_cases h3 : pl (it I m e).p (it I j e).p
      · refine ⟨m, by omega, fun k hk h4 => ?_⟩
        rcases Nat.lt_or_ge k m with h5 | h5
        · exact h2 k h5 (zH9 h4 h3)
        · have : k = m := by omega
          subst this; exact zDE _ h4
      · refine ⟨j, by omega, fun k hk => ?_⟩
        rcases Nat.lt_or_ge k m with h5 | h5
        · exact h2 k h5
        · have : k = m := by omega
          subst this; exact h3
theorem zdQ {I : Sq} {e : Ed} {n : Nat} (he : isB I e) (h : Per I e n) : ∃ j, j < n ∧ Lst I (it I j e) := by
  obtain ⟨j, h1, h2⟩ := zfW h n (Nat.le_refl _) h.1
  refine ⟨j, h1, zEH he j, fun k => ?_⟩
  rw [← zA1, h.mod]
  exact h2 _ (Nat.mod_lt _ h.1)
theorem Lst.pd {I : Sq} {B : List Ed} (hB : zMb I B) {e : Ed} (h : Lst I e) : ¬ pl (PX.pd I e).p e.p := by
  obtain ⟨n, hn⟩ := per hB h.1
  have : it I (n - 1) e = PX.pd I e := by
    have h1 : sc I (it I (n - 1) e) = e := by rw [← zE0, show n - 1 + 1 = n from by have := hn.1; omega, hn.2.1]
    have h2 := zKJ (zEH h.1 (n - 1))
    rw [h1] at h2; exact h2.symm
  rw [← this]
  exact h.2 _
theorem Lst.ways {I : Sq} {B : List Ed} (hB : zMb I B) {e : Ed} (h : Lst I e) : (e.d = .E ∧ (PX.pd I e).d = .S) ∨ (e.d = .N ∧ (PX.pd I e).d = .W) := by
  have h1 := h.pd hB
  have h2 := h.2 1
  have h3 : (sc I e).p = (e.tx, e.ty) := by
    rcases zJ9 h.1 with ⟨_, h2⟩ | ⟨_, _, h2⟩ | ⟨_, _, h2⟩ <;> rw [h2] <;> rfl
  have h4 := zQH h.1
  simp only [it] at h2
  rw [h3] at h2
  have h5 : ¬ pl ((PX.pd I e).x, (PX.pd I e).y) e.p := h1
  unfold Ed.tx at h4 h2
  unfold Ed.ty at h4 h2
  unfold Ed.p at *
  unfold pl at h5 h2
  simp only at h5 h2
  rcases zKK h.1 with ⟨_, g⟩ | ⟨_, _, g⟩ | ⟨_, _, g⟩
  all_goals
    rw [g] at h4 h5 ⊢
    cases hd : e.d <;> rw [hd] at h2 h5 h4 <;> simp only [Dir.dx, Dir.dy, Dir.left, Dir.right] at h2 h4 h5 ⊢
    all_goals first | omega | simp
theorem Lst.uniq {I : Sq} {B : List Ed} (hB : zMb I B) {e f : Ed} (he : Lst I e) (hf : Lst I f) (h : e.p = f.p) : e = f := by
  have hx : e.x = f.x := congrArg Prod.fst h
  have hy : e.y = f.y := congrArg Prod.snd h
  refine Ed.ext' hx hy ?_
  have h1 := zVO he.1
  have h2 := zVO hf.1
  have k1 := Ed.zMG I (PX.pd I e)
  have k2 := Ed.zMG I (PX.pd I f)
  rw [(zQH he.1).1, (zQH he.1).2] at k1
  rw [(zQH hf.1).1, (zQH hf.1).2] at k2
  have a1 := he.1
  have a2 := hf.1
  unfold isB at h1 h2 a1 a2
  rcases he.ways hB with ⟨g1, g2⟩ | ⟨g1, g2⟩ <;> rcases hf.ways hB with ⟨g3, g4⟩ | ⟨g3, g4⟩
  · rw [g1, g3]
  · exfalso
    rw [g4] at k2 h2
    rw [g3] at a2
    rw [g2] at k1 h1
    rw [g1] at a1
    rw [hx, hy] at a1 k1
    simp only [Dir.left, Dir.right] at *
    rw [← k1.1] at h1
    have := a2.2
    rw [a1.1] at this
    cases this
  · exfalso
    rw [g4] at k2 h2
    rw [g3] at a2
    rw [g2] at k1 h1
    rw [g1] at a1
    rw [hx, hy] at a1 k1
    simp only [Dir.left, Dir.right] at *
    have := a1.2
    rw [a2.1] at this
    cases this
  · rw [g1, g3]
theorem Lst.zcW {I : Sq} {B : List Ed} (hB : zMb I B) {e : Ed} (h : Lst I e) {k : Nat} (hp : (it I k e).p = e.p) : it I k e = e := by
  refine Lst.uniq hB ⟨zEH h.1 k, fun j => ?_⟩ h hp
  rw [← zA1, hp]
  exact h.2 _
theorem Lst.zSZ {I : Sq} {B : List Ed} (hB : zMb I B) {e : Ed} (h : Lst I e) : isC I e = true := by
  unfold isC
  rcases h.ways hB with ⟨g1, g2⟩ | ⟨g1, g2⟩ <;> rw [g1, g2] <;> rfl
def crn (I : Sq) (k : Nat) (e : Ed) : List (Int × Int) := ((walk I k e).filter (isC I)).map Ed.p
theorem zNB (I : Sq) (j k : Nat) (e : Ed) : crn I (j + k) e = crn I j e ++ crn I k (it I j e) := by unfold crn; rw [zNc, List.filter_append, List.map_append]
def fl : List (Int × Int) → Nat × (Int × Int) → Nat → Nat
  | [], b, _ => b.1
  | p :: l, b, i => if pl p b.2 then fl l (i, p) (i + 1) else fl l b (i + 1)
def lr (l : List (Int × Int)) : List (Int × Int) := let k := fl l (0, l.headD (0, 0)) 0; l.drop k ++ l.take k
theorem zSP : ∀ (l : List (Int × Int)) (b : Nat × (Int × Int)) (i : Nat), (∀ p ∈ l, ¬ pl p b.2) → fl l b i = b.1
  | [], _, _, _ => rfl
  | p :: l, b, i, h => by
    unfold fl
    rw [if_neg (h p (by simp))]
    exact zSP l b (i + 1) fun q hq => h q (by simp [hq])
theorem zbd : ∀ (A : List (Int × Int)) (m : Int × Int) (B : List (Int × Int)) (b : Nat × (Int × Int)) (i : Nat), (∀ p ∈ A, pl m p) → (∀ p ∈ B, ¬ pl p m) → pl m b.2 → fl (A ++ m :: B) b i = i + A.length
  | [], m, B, b, i, _, h2, h3 => by
    show fl (m :: B) b i = _
    unfold fl
    rw [if_pos h3, zSP _ _ _ h2]; rfl
  | p :: A, m, B, b, i, h1, h2, h3 => by
    show fl (p :: (A ++ m :: B)) b i = _
    unfold fl
    have hp := h1 p (by simp)
    have hA : ∀ q ∈ A, pl m q := fun q hq => h1 q (by simp [hq])
    split
    · rw [zbd A m B (i, p) (i + 1) hA h2 hp]; simp only [List.length_cons]; omega
    · rw [zbd A m B b (i + 1) hA h2 h3]; simp only [List.length_cons]; omega
theorem zlx {A B : List (Int × Int)} {m : Int × Int} (h1 : ∀ p ∈ A, pl m p) (h2 : ∀ p ∈ B, ¬ pl p m) : lr (A ++ m :: B) = m :: B ++ A := by
  have hk : fl (A ++ m :: B) (0, (A ++ m :: B).headD (0, 0)) 0 = A.length := by
    cases A with
    | nil =>
      show fl (m :: B) (0, m) 0 = 0
      rw [zSP]
      intro p hp
      rcases List.mem_cons.1 hp with rfl | hp
      · exact zDE _
      · exact h2 p hp
    | cons a A =>
      have := zbd (a :: A) m B (0, a) 0 h1 h2 (h1 a (by simp))
      simpa using this
  unfold lr
  simp only [hk]
  rw [List.drop_left, List.take_left]
theorem zfX {I : Sq} {B : List Ed} (hB : zMb I B) {e : Ed} {n : Nat} (he : isB I e) (h : Per I e n) {j : Nat} (hj : j < n) (hl : Lst I (it I j e)) : lr (crn I n e) = crn I n (it I j e) := by
  have e1 : crn I n e = crn I j e ++ crn I (n - j) (it I j e) := by rw [← zNB]; congr 1; omega
  have e2 : crn I n (it I j e) = crn I (n - j) (it I j e) ++ crn I j e := by
    have : it I (n - j) (it I j e) = e := by rw [← zA1, show n - j + j = n from by omega, h.2.1]
    have h3 := zNB I (n - j) j (it I j e)
    rw [this, show n - j + j = n from by omega] at h3
    exact h3
  obtain ⟨k, hk⟩ : ∃ k, n - j = k + 1 := ⟨n - j - 1, by omega⟩
  have e3 : crn I (n - j) (it I j e) = (it I j e).p :: crn I k (sc I (it I j e)) := by
    rw [hk]
    unfold crn
    simp only [walk, List.filter_cons, hl.zSZ hB, if_true, List.map_cons]
  have all : ∀ i, ¬ pl (it I i e).p (it I j e).p := fun i => by
    have h4 : it I i e = it I (i + (n - j)) (it I j e) := by
      rw [← zA1, show i + (n - j) + j = i + n from by omega, zA1, h.2.1]
    rw [h4]; exact hl.2 _
  rw [e1, e2, e3]
  refine zlx (fun p hp => ?_) (fun p hp => ?_)
  · obtain ⟨f, hf, rfl⟩ := List.mem_map.1 hp
    obtain ⟨i, hi, rfl⟩ := zEQ.1 (List.mem_filter.1 hf).1
    rcases zGa (it I j e).p (it I i e).p with h5 | h5 | h5
    · exact h5
    · exfalso
      have h6 : it I i e = it I (i + (n - j)) (it I j e) := by
        rw [← zA1, show i + (n - j) + j = i + n from by omega, zA1, h.2.1]
      have h7 := hl.zcW hB (k := i + (n - j)) (by rw [← h6]; exact h5.symm)
      rw [← h6] at h7
      have h8 : it I j e = it I i (it I (j - i) e) := by rw [← zA1]; congr 1; omega
      rw [h8] at h7
      exact h.2.2 (j - i) (by omega) (by omega) (zSB he (zEH he _) i h7).symm
    · exact absurd h5 (all i)
  · obtain ⟨f, hf, rfl⟩ := List.mem_map.1 hp
    obtain ⟨i, hi, rfl⟩ := zEQ.1 (List.mem_filter.1 hf).1
    have : it I i (sc I (it I j e)) = it I (i + 1) (it I j e) := rfl
    rw [this]
    exact hl.2 _
end Go.Proofs.YtacapjleiadkkaaGreat.PX
namespace Go.Proofs.YtacapjleiadkkaaGreat.PX
abbrev Sd := Ed × Nat
def adv (e : Ed) (i : Nat) : Ed := ⟨e.x + i * e.d.dx, e.y + i * e.d.dy, e.d⟩
theorem zBl (e : Ed) : adv e 0 = e := Ed.ext' (by simp [adv]) (by simp [adv]) rfl
theorem zX3 {e : Ed} {i j : Nat} (h : adv e i = adv e j) : i = j := by
  have h1 := congrArg Ed.x h
  have h2 := congrArg Ed.y h
  simp only [adv] at h1 h2
  cases hd : e.d <;> rw [hd] at h1 h2 <;> simp only [Dir.dx, Dir.dy] at h1 h2 <;> omega
theorem zSf (e : Ed) (i : Nat) : (adv e i).tx = (adv e (i + 1)).x ∧ (adv e i).ty = (adv e (i + 1)).y := by
  unfold Ed.tx Ed.ty adv
  simp only
  cases e.d <;> simp only [Dir.dx, Dir.dy] <;> omega
theorem zRn {I : Sq} {e : Ed} {i : Nat} (h : isB I (adv e (i + 1))) : sc I (adv e i) = adv e (i + 1) := by
  obtain ⟨t1, t2⟩ := zSf e i
  rw [zfK (e := adv e i) (by rw [t1, t2]; exact h.1) (by rw [t1, t2]; exact h.2)]
  exact Ed.ext' t1 t2 rfl
structure zAR (I : Sq) (L : List Sd) : Prop where
  pos : ∀ s ∈ L, 0 < s.2
  bor : ∀ s ∈ L, ∀ i, i < s.2 → isB I (adv s.1 i)
  all : ∀ e, isB I e → ∃ s ∈ L, ∃ i, i < s.2 ∧ adv s.1 i = e
  once : ∀ (a b : Nat) (s t : Sd), L[a]? = some s → L[b]? = some t → ∀ i j : Nat, i < s.2 → j < t.2 → adv s.1 i = adv t.1 j → a = b
section
variable {I : Sq} {L : List Sd}
theorem zAR.fst (h : zAR I L) {s : Sd} (hs : s ∈ L) : isB I s.1 := by have := h.bor s hs 0 (h.pos s hs); rwa [zBl] at this
theorem zAR.zOM (h : zAR I L) {s : Sd} (hs : s ∈ L) : ∀ i, i < s.2 → it I i s.1 = adv s.1 i
  | 0, _ => (zBl s.1).symm
  | i + 1, hi => by rw [zE0, h.zOM hs i (by omega)]; exact zRn (h.bor s hs (i + 1) hi)
def zJC (s : Sd) : Ed := adv s.1 (s.2 - 1)
theorem zAR.last (h : zAR I L) {s : Sd} (hs : s ∈ L) : isB I (zJC s) ∧ it I s.2 s.1 = sc I (zJC s) := by
  have hp := h.pos s hs
  refine ⟨h.bor s hs _ (by omega), ?_⟩
  have : s.2 = (s.2 - 1) + 1 := by omega
  rw [this, zE0, h.zOM hs _ (by omega)]; rfl
theorem zAR.fin (h : zAR I L) : ∃ B, zMb I B := ⟨L.flatMap fun s => (List.range s.2).map fun i => adv s.1 i, fun e he => by
  obtain ⟨s, hs, i, hi, rfl⟩ := h.all e he
  exact List.mem_flatMap.2 ⟨s, hs, List.mem_map.2 ⟨i, List.mem_range.2 hi, rfl⟩⟩⟩
def Nx (I : Sq) (L : List Sd) (a b : Nat) : Prop := ∃ s t, L[a]? = some s ∧ L[b]? = some t ∧ t.1 = sc I (zJC s)
theorem zAR.next (h : zAR I L) {a : Nat} (ha : a < L.length) : ∃ b, b < L.length ∧ Nx I L a b := by
  have hs : L[a]? = some L[a] := List.getElem?_eq_getElem ha
  have hm : L[a] ∈ L := List.getElem_mem ha
  obtain ⟨h1, h2⟩ := h.last hm
  obtain ⟨t, ht, i, hi, he⟩ := h.all _ (zRm h1)
  obtain ⟨b, hb⟩ := List.mem_iff_getElem?.1 ht
  refine ⟨b, (List.getElem?_eq_some_iff.1 hb).1, L[a], t, hs, hb, ?_⟩
  cases i with
  | zero => rw [zBl] at he; exact he
  | succ i =>
    exfalso
    have h3 := h.bor t ht i (by omega)
    have h4 : sc I (adv t.1 i) = adv t.1 (i + 1) := zRn (h.bor t ht (i + 1) hi)
    have h5 : adv t.1 i = zJC L[a] := zVF h3 h1 (h4.trans he)
    have hp := h.pos _ hm
    have h6 := h.once b a t L[a] hb hs i (L[a].2 - 1) (by omega) (by omega) h5
    subst h6
    rw [hs] at hb
    have := Option.some.inj hb
    subst this
    have := zX3 h5
    omega
theorem Nx.lt {a b : Nat} (h : Nx I L a b) : a < L.length ∧ b < L.length := by
  obtain ⟨s, t, h1, h2, _⟩ := h
  exact ⟨(List.getElem?_eq_some_iff.1 h1).1, (List.getElem?_eq_some_iff.1 h2).1⟩
theorem zAR.zYm (h : zAR I L) {a b b' : Nat} (h1 : Nx I L a b) (h2 : Nx I L a b') : b = b' := by
  obtain ⟨s, t, g1, g2, g3⟩ := h1
  obtain ⟨s', t', k1, k2, k3⟩ := h2
  rw [g1] at k1
  have := Option.some.inj k1
  subst this
  exact h.once b b' t t' g2 k2 0 0 (h.pos t (List.mem_of_getElem? g2)) (h.pos t' (List.mem_of_getElem? k2)) (by rw [zBl, zBl, g3, k3])
theorem zAR.zcq (h : zAR I L) {a a' b : Nat} (h1 : Nx I L a b) (h2 : Nx I L a' b) : a = a' := by
  obtain ⟨s, t, g1, g2, g3⟩ := h1
  obtain ⟨s', t', k1, k2, k3⟩ := h2
  rw [g2] at k2
  have := Option.some.inj k2
  subst this
  have p1 := h.pos s (List.mem_of_getElem? g1)
  have p2 := h.pos s' (List.mem_of_getElem? k1)
  exact h.once a a' s s' g1 k1 (s.2 - 1) (s'.2 - 1) (by omega) (by omega) (zVF (h.last (List.mem_of_getElem? g1)).1 (h.last (List.mem_of_getElem? k1)).1 (g3.symm.trans k3))
def Cn (I : Sq) (L : List Sd) : Nat → List Nat → Prop
  | _, [] => True
  | a, b :: r => Nx I L a b ∧ Cn I L b r
def zMa (I : Sq) (L : List Sd) (r : List Nat) : Prop := ∃ a q, r = a :: q ∧ Cn I L a q ∧ Nx I L (q.getLastD a) a ∧ r.Nodup
def QB (L : List Sd) (a : Nat) : Sd := L.getD a (⟨0, 0, .E⟩, 0)
theorem Wl {a : Nat} {s : Sd} (h : L[a]? = some s) : QB L a = s := by unfold QB; rw [List.getD_eq_getElem?_getD, h]; rfl
def stp (L : List Sd) : List Nat → Nat
  | [] => 0
  | a :: r => (QB L a).2 + stp L r
def cns (L : List Sd) : Dir → List Nat → List (Int × Int)
  | _, [] => []
  | d, a :: r => if d ≠ (QB L a).1.d then (QB L a).1.p :: cns L (QB L a).1.d r else cns L (QB L a).1.d r
theorem zUD (h : zAR I L) {s : Sd} (hs : s ∈ L) : crn I s.2 s.1 = if isC I s.1 = true then [s.1.p] else [] := by
  obtain ⟨k, hk⟩ : ∃ k, s.2 = k + 1 := ⟨s.2 - 1, by have := h.pos s hs; omega⟩
  have h0 : ∀ f ∈ walk I k (sc I s.1), isC I f = false := fun f hf => by
    obtain ⟨i, hi, rfl⟩ := zEQ.1 hf
    have h1 : it I i (sc I s.1) = adv s.1 (i + 1) := h.zOM hs (i + 1) (by omega)
    have h2 : pd I (adv s.1 (i + 1)) = adv s.1 i := by
      rw [← zRn (h.bor s hs (i + 1) (by omega))]
      exact zKJ (h.bor s hs i (by omega))
    rw [h1]
    unfold isC
    rw [h2]
    exact decide_eq_false (fun hh => hh rfl)
  have h1 : (walk I k (sc I s.1)).filter (isC I) = [] := List.filter_eq_nil_iff.2 fun f hf => by rw [h0 f hf]; simp
  unfold crn
  rw [hk]
  simp only [walk, List.filter_cons, h1]
  by_cases hc : isC I s.1 = true
  · rw [if_pos hc, if_pos hc]; rfl
  · rw [if_neg hc, if_neg hc]; rfl
theorem zWI (h : zAR I L) : ∀ (q : List Nat) (a : Nat) (s : Sd), L[a]? = some s → Cn I L a q → cns L (pd I s.1).d (a :: q) = crn I (stp L (a :: q)) s.1 ∧ it I (stp L (a :: q)) s.1 = sc I (zJC (QB L (q.getLastD a)))
  | [], a, s, hs, _ => by
    have hm := List.mem_of_getElem? hs
    simp only [stp, cns, Wl hs, Nat.add_zero, List.getLastD_nil]
    refine ⟨?_, (h.last hm).2⟩
    rw [zUD h hm]
    unfold isC
    simp only [decide_eq_true_eq]
  | b :: q, a, s, hs, hc => by
    have hm := List.mem_of_getElem? hs
    obtain ⟨⟨s', t, g1, g2, g3⟩, hc2⟩ := hc
    rw [hs] at g1
    have := Option.some.inj g1
    subst this
    have hl := h.last hm
    have hit : it I s.2 s.1 = t.1 := hl.2.trans g3.symm
    have hpd : (pd I t.1).d = s.1.d := by rw [g3, zKJ hl.1]; rfl
    obtain ⟨i1, i2⟩ := zWI h q b t g2 hc2
    have e1 : stp L (a :: b :: q) = s.2 + stp L (b :: q) := by simp only [stp, Wl hs]
    have e2 : cns L (pd I s.1).d (a :: b :: q) = (if isC I s.1 = true then [s.1.p] else []) ++ cns L s.1.d (b :: q) := by
      simp only [cns, Wl hs]
      unfold isC
      simp only [decide_eq_true_eq]
      by_cases hd : (pd I s.1).d ≠ s.1.d
      · rw [if_pos hd, if_pos hd]; rfl
      · rw [if_neg hd, if_neg hd]; rfl
    refine ⟨?_, ?_⟩
    · rw [e2, e1, zNB, zUD h hm, hit, ← i1, hpd]
    · rw [e1, Nat.add_comm, zA1, hit, i2]
      cases q <;> rfl
theorem Cn.mem : ∀ {q : List Nat} {a : Nat}, Cn I L a q → ∀ b ∈ q, b < L.length
  | c :: q, a, h, b, hb => by
    rcases List.mem_cons.1 hb with rfl | hb
    · exact h.1.lt.2
    · exact Cn.mem h.2 b hb
theorem zLL (h : zAR I L) : ∀ (q : List Nat) (a : Nat) (s : Sd), L[a]? = some s → Cn I L a q → ∀ k, k < stp L (a :: q) → ∃ b t i, b ∈ a :: q ∧ L[b]? = some t ∧ i < t.2 ∧ it I k s.1 = adv t.1 i ∧ (b = a → (a :: q).Nodup → k = i)
  | q, a, s, hs, hc, k, hk => by
    have hm := List.mem_of_getElem? hs
    by_cases h1 : k < s.2
    · exact ⟨a, s, k, by simp, hs, h1, h.zOM hm k h1, fun _ _ => rfl⟩
    · cases q with
      | nil => simp only [stp, Wl hs] at hk; omega
      | cons b q =>
        obtain ⟨⟨s', t, g1, g2, g3⟩, hc2⟩ := hc
        rw [hs] at g1
        have := Option.some.inj g1
        subst this
        have hit : it I s.2 s.1 = t.1 := (h.last hm).2.trans g3.symm
        have e1 : stp L (a :: b :: q) = s.2 + stp L (b :: q) := by simp only [stp, Wl hs]
        obtain ⟨c, u, i, j1, j2, j3, j4, j5⟩ := zLL h q b t g2 hc2 (k - s.2) (by omega)
        refine ⟨c, u, i, List.mem_cons_of_mem _ j1, j2, j3, ?_, fun e hn => ?_⟩
        · rw [← j4, ← hit, ← zA1]; congr 1; omega
        · subst e
          exact absurd j1 (List.nodup_cons.1 hn).1
theorem zRs (h : zAR I L) : ∀ (q : List Nat) (a : Nat) (s : Sd), L[a]? = some s → Cn I L a q → ∀ b ∈ a :: q, ∀ i, i < (QB L b).2 → ∃ k, k < stp L (a :: q) ∧ it I k s.1 = adv (QB L b).1 i
  | q, a, s, hs, hc, b, hb, i, hi => by
    have hm := List.mem_of_getElem? hs
    rcases List.mem_cons.1 hb with rfl | hb
    · rw [Wl hs] at hi ⊢
      exact ⟨i, by simp only [stp, Wl hs]; omega, h.zOM hm i hi⟩
    · cases q with
      | nil => cases hb
      | cons c q =>
        obtain ⟨⟨s', t, g1, g2, g3⟩, hc2⟩ := hc
        rw [hs] at g1
        have := Option.some.inj g1
        subst this
        have hit : it I s.2 s.1 = t.1 := (h.last hm).2.trans g3.symm
        have e1 : stp L (a :: c :: q) = s.2 + stp L (c :: q) := by simp only [stp, Wl hs]
        obtain ⟨k, k1, k2⟩ := zRs h q c t g2 hc2 b hb i hi
        exact ⟨k + s.2, by omega, by rw [zA1, hit, k2]⟩
theorem zWo (h : zAR I L) {a : Nat} {q : List Nat} {s : Sd} (hs : L[a]? = some s) (hc : Cn I L a q) (hn : Nx I L (q.getLastD a) a) (hd : (a :: q).Nodup) : Per I s.1 (stp L (a :: q)) := by
  obtain ⟨_, h2⟩ := zWI h q a s hs hc
  obtain ⟨u, t, g1, g2, g3⟩ := hn
  rw [hs] at g2
  have := Option.some.inj g2
  subst this
  rw [Wl g1, ← g3] at h2
  refine ⟨?_, h2, fun k k1 k2 k3 => ?_⟩
  · have := h.pos s (List.mem_of_getElem? hs)
    simp only [stp, Wl hs]; omega
  · obtain ⟨b, t, i, j1, j2, j3, j4, j5⟩ := zLL h q a s hs hc k k2
    rw [k3] at j4
    have h6 := h.once a b s t hs j2 0 i (h.pos s (List.mem_of_getElem? hs)) j3 (by rw [zBl]; exact j4)
    subst h6
    rw [hs] at j2
    have := Option.some.inj j2
    subst this
    have := j5 rfl hd
    subst this
    rw [← zBl s.1] at j4
    have := zX3 (e := s.1) (i := 0) (j := k) (by rw [zBl] at j4 ⊢; exact j4)
    omega
def Otl (I : Sq) (e : Ed) (l : List (Int × Int)) : Prop := ∃ n, Per I e n ∧ l = crn I n e
theorem Otl.uniq {e : Ed} {l m : List (Int × Int)} (h : Otl I e l) (k : Otl I e m) : l = m := by
  obtain ⟨n, h1, rfl⟩ := h
  obtain ⟨n', h2, rfl⟩ := k
  rw [h1.uniq h2]
def zAz (L : List Sd) (r : List Nat) : List (Int × Int) := lr (cns L (QB L (r.getLastD 0)).1.d r)
theorem zDD (h : zAR I L) {r : List Nat} (hr : zMa I L r) : ∃ e, Lst I e ∧ Otl I e (zAz L r) ∧ ∃ b ∈ r, ∃ i, i < (QB L b).2 ∧ e = adv (QB L b).1 i := by
  obtain ⟨a, q, rfl, hc, hn, hd⟩ := hr
  obtain ⟨B, hB⟩ := h.fin
  have ha := hn.lt.2
  have hs : L[a]? = some L[a] := List.getElem?_eq_getElem ha
  have hm : L[a] ∈ L := List.getElem_mem ha
  have hp := zWo h hs hc hn hd
  obtain ⟨h1, _⟩ := zWI h q a _ hs hc
  obtain ⟨j, hj, hl⟩ := zdQ (h.fst hm) hp
  have hlast : (QB L ((a :: q).getLastD 0)).1.d = (pd I L[a].1).d := by
    obtain ⟨u, t, g1, g2, g3⟩ := hn
    rw [hs] at g2
    have := Option.some.inj g2
    have e1 : (a :: q).getLastD 0 = q.getLastD a := by cases q <;> rfl
    rw [e1, Wl g1]
    rw [← this] at g3
    rw [g3, zKJ (h.last (List.mem_of_getElem? g1)).1]; rfl
  refine ⟨it I j L[a].1, hl, ⟨_, hp.shift (h.fst hm) j, ?_⟩, ?_⟩
  · unfold zAz
    rw [hlast, h1]
    exact zfX hB (h.fst hm) hp hj hl
  · obtain ⟨b, t, i, j1, j2, j3, j4, _⟩ := zLL h q a _ hs hc j hj
    exact ⟨b, j1, i, by rw [Wl j2]; exact j3, by rw [Wl j2]; exact j4⟩
theorem zYg (h : zAR I L) {r : List Nat} (hr : zMa I L r) {e : Ed} (he : Lst I e) {b : Nat} (hb : b ∈ r) {i : Nat} (hi : i < (QB L b).2) (hbe : e = adv (QB L b).1 i) : Otl I e (zAz L r) := by
  obtain ⟨B, hB⟩ := h.fin
  obtain ⟨f, f1, f2, c, c1, k, c2, c3⟩ := zDD h hr
  obtain ⟨a, q, rfl, hc, hn, hd⟩ := hr
  have ha := hn.lt.2
  have hs : L[a]? = some L[a] := List.getElem?_eq_getElem ha
  obtain ⟨j, j1, j2⟩ := zRs h q a _ hs hc b hb i hi
  obtain ⟨j', j1', j2'⟩ := zRs h q a _ hs hc c c1 k c2
  have hp := zWo h hs hc hn hd
  have hm : L[a] ∈ L := List.getElem_mem ha
  have g1 : e = it I (j + (stp L (a :: q) - j')) f := by
    rw [c3, ← j2', ← zA1, show j + (stp L (a :: q) - j') + j' = j + stp L (a :: q) from by omega, zA1, hp.2.1, j2, hbe]
  have g2 : f = it I (j' + (stp L (a :: q) - j)) e := by
    rw [hbe, ← j2, ← zA1, show j' + (stp L (a :: q) - j) + j = j' + stp L (a :: q) from by omega, zA1, hp.2.1, j2', c3]
  have g3 : e.p = f.p := by
    have n1 := f1.2 (j + (stp L (a :: q) - j'))
    rw [← g1] at n1
    have n2 := he.2 (j' + (stp L (a :: q) - j))
    rw [← g2] at n2
    rcases zGa e.p f.p with h5 | h5 | h5
    · exact absurd h5 n1
    · exact h5
    · exact absurd h5 n2
  rw [Lst.uniq hB he f1 g3]
  exact f2
end
end Go.Proofs.YtacapjleiadkkaaGreat.PX
namespace Go.Proofs.YtacapjleiadkkaaGreat.PX
section
variable {I : Sq} {L : List Sd}
structure zPs (I : Sq) (ls : List (List (Int × Int))) : Prop where
  is : ∀ l ∈ ls, ∃ e, Lst I e ∧ Otl I e l
  has : ∀ e, Lst I e → ∃ l ∈ ls, Otl I e l
  ord : ls.Pairwise fun a b => pl (a.headD (0, 0)) (b.headD (0, 0))
theorem Otl.head {B : List Ed} (hB : zMb I B) {e : Ed} {l : List (Int × Int)} (he : Lst I e) (h : Otl I e l) : ∃ r, l = e.p :: r := by
  obtain ⟨n, h1, rfl⟩ := h
  obtain ⟨k, rfl⟩ : ∃ k, n = k + 1 := ⟨n - 1, by have := h1.1; omega⟩
  unfold crn
  simp only [walk, List.filter_cons, he.zSZ hB, if_true, List.map_cons]
  exact ⟨_, rfl⟩
theorem Otl.headD {B : List Ed} (hB : zMb I B) {e : Ed} {l : List (Int × Int)} (he : Lst I e) (h : Otl I e l) : l.headD (0, 0) = e.p := by
  obtain ⟨r, rfl⟩ := h.head hB he; rfl
theorem zIA : ∀ {a b : List (List (Int × Int))}, a.Pairwise (fun x y => pl (x.headD (0, 0)) (y.headD (0, 0))) → b.Pairwise (fun x y => pl (x.headD (0, 0)) (y.headD (0, 0))) → (∀ x, x ∈ a ↔ x ∈ b) → a = b
  | [], [], _, _, _ => rfl
  | [], y :: b, _, _, h => by have := (h y).2 (by simp); cases this
  | x :: a, [], _, _, h => by have := (h x).1 (by simp); cases this
  | x :: a, y :: b, ha, hb, h => by
    obtain ⟨a1, a2⟩ := List.pairwise_cons.1 ha
    obtain ⟨b1, b2⟩ := List.pairwise_cons.1 hb
    have hxy : x = y := by
      rcases List.mem_cons.1 ((h x).1 (by simp)) with h1 | h1
      · exact h1
      · rcases List.mem_cons.1 ((h y).2 (by simp)) with h2 | h2
        · exact h2.symm
        · exact absurd (zH9 (a1 y h2) (b1 x h1)) (zDE _)
    subst hxy
    congr 1
    refine zIA a2 b2 fun z => ⟨fun hz => ?_, fun hz => ?_⟩
    · rcases List.mem_cons.1 ((h z).1 (by simp [hz])) with h1 | h1
      · subst h1; exact absurd (a1 z hz) (zDE _)
      · exact h1
    · rcases List.mem_cons.1 ((h z).2 (by simp [hz])) with h1 | h1
      · subst h1; exact absurd (b1 z hz) (zDE _)
      · exact h1
theorem zPs.uniq {a b : List (List (Int × Int))} (ha : zPs I a) (hb : zPs I b) : a = b := by
  refine zIA ha.ord hb.ord fun l => ⟨fun h => ?_, fun h => ?_⟩
  · obtain ⟨e, h1, h2⟩ := ha.is l h
    obtain ⟨m, h3, h4⟩ := hb.has e h1
    rw [h2.uniq h4]; exact h3
  · obtain ⟨e, h1, h2⟩ := hb.is l h
    obtain ⟨m, h3, h4⟩ := ha.has e h1
    rw [h2.uniq h4]; exact h3
structure zIX (I : Sq) (L : List Sd) (rs : List (List Nat)) : Prop where
  row : ∀ r ∈ rs, zMa I L r
  all : ∀ a, a < L.length → ∃ r ∈ rs, a ∈ r
  once : rs.Pairwise fun r r' => ∀ a ∈ r, a ∉ r'
theorem zWl {b i : Nat} (h : i < (QB L b).2) : b < L.length := by
  rcases Nat.lt_or_ge b L.length with h1 | h1
  · exact h1
  · have : QB L b = (⟨0, 0, .E⟩, 0) := by unfold QB; rw [List.getD_eq_getElem?_getD, List.getElem?_eq_none h1]; rfl
    rw [this] at h; cases h
theorem zBD {b : Nat} (h : b < L.length) : L[b]? = some (QB L b) := by
  rw [Wl (List.getElem?_eq_getElem h)]; exact List.getElem?_eq_getElem h
theorem zIX.heads {rs : List (List Nat)} (hL : zAR I L) (h : zIX I L rs) : (rs.map (zAz L)).Pairwise fun a b => a.headD (0, 0) ≠ b.headD (0, 0) := by
  obtain ⟨B, hB⟩ := hL.fin
  rw [List.pairwise_map]
  refine List.Pairwise.imp_of_mem (R := fun r r' => ∀ a ∈ r, a ∉ r') (fun {r r'} hr hr' hd heq => ?_) h.once
  obtain ⟨e, e1, e2, b, b1, i, b2, b3⟩ := zDD hL (h.row r hr)
  obtain ⟨f, f1, f2, c, c1, j, c2, c3⟩ := zDD hL (h.row r' hr')
  rw [e2.headD hB e1, f2.headD hB f1] at heq
  have := Lst.uniq hB e1 f1 heq
  subst this
  rw [b3] at c3
  have := hL.once b c _ _ (zBD (zWl b2)) (zBD (zWl c2)) i j b2 c2 c3
  subst this
  exact hd b b1 c1
theorem zIX.is {rs : List (List Nat)} (hL : zAR I L) (h : zIX I L rs) : ∀ l ∈ rs.map (zAz L), ∃ e, Lst I e ∧ Otl I e l := fun l hl => by
  obtain ⟨r, hr, rfl⟩ := List.mem_map.1 hl
  obtain ⟨e, e1, e2, _⟩ := zDD hL (h.row r hr)
  exact ⟨e, e1, e2⟩
theorem zIX.has {rs : List (List Nat)} (hL : zAR I L) (h : zIX I L rs) : ∀ e, Lst I e → ∃ l ∈ rs.map (zAz L), Otl I e l := fun e he => by
  obtain ⟨s, hs, i, hi, hse⟩ := hL.all e he.1
  obtain ⟨b, hb⟩ := List.mem_iff_getElem?.1 hs
  obtain ⟨r, hr, hbr⟩ := h.all b (List.getElem?_eq_some_iff.1 hb).1
  exact ⟨_, List.mem_map.2 ⟨r, hr, rfl⟩, zYg hL (h.row r hr) he hbr (i := i) (by rw [Wl hb]; exact hi) (by rw [Wl hb]; exact hse.symm)⟩
theorem zIX.outs {rs : List (List Nat)} {ls : List (List (Int × Int))} (hL : zAR I L) (h : zIX I L rs) (hp : ls.Perm (rs.map (zAz L))) (ho : ls.Pairwise fun a b => pl (a.headD (0, 0)) (b.headD (0, 0))) : zPs I ls :=
  ⟨fun l hl => h.is hL l (hp.mem_iff.1 hl), fun e he => by obtain ⟨l, h1, h2⟩ := h.has hL e he; exact ⟨l, hp.mem_iff.2 h1, h2⟩, ho⟩
theorem zcf (e : Ed) : (sc I e).p = (e.tx, e.ty) := by
  unfold sc
  by_cases h1 : lq I e.tx e.ty e.d = false
  · rw [if_pos h1]; rfl
  · rw [if_neg h1]
    by_cases h2 : lq I e.tx e.ty e.d.right = false
    · rw [if_pos h2]; rfl
    · rw [if_neg h2]; rfl
def Str (I : Sq) : List Sd → Ed → Prop
  | [], _ => True
  | s :: r, z => 0 < s.2 ∧ isC I s.1 = true ∧ (∀ i, i < s.2 → it I i s.1 = adv s.1 i) ∧ it I s.2 s.1 = (match r with | [] => z | t :: _ => t.1) ∧ Str I r z
def unit (s : Sd) : List Ed := (List.range s.2).map (adv s.1)
theorem zYV {s : Sd} (h : ∀ i, i < s.2 → it I i s.1 = adv s.1 i) : walk I s.2 s.1 = unit s := by
  apply List.ext_getElem?
  intro i
  by_cases hi : i < s.2
  · rw [zGW I s.2 s.1 i hi, h i hi]
    unfold unit
    rw [List.getElem?_map, List.getElem?_range hi]; rfl
  · rw [List.getElem?_eq_none (by rw [zFO]; omega), List.getElem?_eq_none (by unfold unit; simp; omega)]
theorem zdj {s : Sd} (h0 : 0 < s.2) (hb : isB I s.1) (hc : isC I s.1 = true) (h : ∀ i, i < s.2 → it I i s.1 = adv s.1 i) : crn I s.2 s.1 = [s.1.p] := by
  obtain ⟨k, hk⟩ : ∃ k, s.2 = k + 1 := ⟨s.2 - 1, by omega⟩
  have h1 : (walk I k (sc I s.1)).filter (isC I) = [] := List.filter_eq_nil_iff.2 fun f hf => by
    obtain ⟨i, hi, rfl⟩ := zEQ.1 hf
    have h1 : it I i (sc I s.1) = adv s.1 (i + 1) := h (i + 1) (by omega)
    have h2 : pd I (adv s.1 (i + 1)) = adv s.1 i := by
      rw [← h (i + 1) (by omega), ← h i (by omega), zE0]
      exact zKJ (zEH hb i)
    rw [h1]
    unfold isC
    rw [h2]
    simp [adv]
  unfold crn
  rw [hk]
  simp only [walk, List.filter_cons, h1, hc, if_true]; rfl
theorem stretches (I : Sq) : ∀ (k : Nat) (e : Ed), isB I e → isC I e = true → isC I (it I k e) = true → ∃ sl : List Sd, Str I sl (it I k e) ∧ (0 < k → ∃ m r, sl = (e, m) :: r) ∧ sl.map (fun s => s.1.p) = crn I k e ∧ walk I k e = sl.flatMap unit := by
  intro k
  induction k using Nat.strongRecOn with
  | _ k ih =>
    intro e he hc hz
    by_cases h0 : k = 0
    · subst h0
      exact ⟨[], trivial, fun h => absurd h (Nat.lt_irrefl 0), rfl, rfl⟩
    · obtain ⟨m, ⟨m1, m2⟩, m3⟩ := zQN (p := fun n => 0 < n ∧ isC I (it I n e) = true) k ⟨by omega, hz⟩
      have mk : m ≤ k := by
        rcases Nat.lt_or_ge k m with h | h
        · exact absurd ⟨by omega, hz⟩ (m3 k h)
        · exact h
      have hstr : ∀ i, i < m → it I i e = adv e i := by
        intro i
        induction i with
        | zero => intro _; exact (zBl e).symm
        | succ i ihi =>
          intro hi
          have h1 := ihi (by omega)
          have h2 : isC I (it I (i + 1) e) = false := by
            cases hh : isC I (it I (i + 1) e) with
            | false => rfl
            | true => exact absurd ⟨by omega, hh⟩ (m3 (i + 1) hi)
          have hbi := zEH he i
          have h3 : (sc I (it I i e)).d = (it I i e).d := by
            unfold isC at h2
            rw [zE0, zKJ hbi] at h2
            simp only [decide_eq_false_iff_not, ne_eq, Decidable.not_not] at h2
            exact h2.symm
          rw [zE0]
          have h4 := zcf (I := I) (it I i e)
          rw [h1] at h3 h4 ⊢
          obtain ⟨t1, t2⟩ := zSf e i
          exact Ed.ext' ((congrArg Prod.fst h4).trans t1) ((congrArg Prod.snd h4).trans t2) h3
      obtain ⟨sl, s1, s2, s3, s4⟩ := ih (k - m) (by omega) (it I m e) (zEH he m) m2 (by rw [← zA1, show k - m + m = k from by omega]; exact hz)
      rw [← zA1, show k - m + m = k from by omega] at s1
      have ek : k = m + (k - m) := by omega
      refine ⟨(e, m) :: sl, ⟨m1, hc, hstr, ?_, s1⟩, fun _ => ⟨m, sl, rfl⟩, ?_, ?_⟩
      · by_cases hkm : 0 < k - m
        · obtain ⟨m', r, rfl⟩ := s2 hkm; rfl
        · have : k = m := by omega
          subst this
          cases sl with
          | nil => rfl
          | cons s r =>
            exfalso
            rw [Nat.sub_self] at s3
            cases s3
      · rw [ek, zNB, List.map_cons, s3, zdj (s := (e, m)) m1 he hc hstr]; rfl
      · rw [ek, zNc, s4, zYV (s := (e, m)) hstr]; rfl
end
end Go.Proofs.YtacapjleiadkkaaGreat.PX
namespace Go.Proofs.YtacapjleiadkkaaGreat.PX
section
variable {I : Sq}
def nxp (z : Int × Int) : List (Int × Int) → List ((Int × Int) × (Int × Int))
  | [] => []
  | x :: r => (x, r.headD z) :: nxp z r
theorem zfu {s : Sd} (h0 : 0 < s.2) (h : ∀ i, i < s.2 → it I i s.1 = adv s.1 i) : (it I s.2 s.1).p = (adv s.1 s.2).p := by
  obtain ⟨k, hk⟩ : ∃ k, s.2 = k + 1 := ⟨s.2 - 1, by omega⟩
  rw [hk, zE0, zcf, h k (by omega)]
  obtain ⟨t1, t2⟩ := zSf s.1 k
  rw [t1, t2]; rfl
theorem zWx : ∀ {sl : List Sd} {z : Ed}, Str I sl z → nxp z.p (sl.map fun s => s.1.p) = sl.map fun s => (s.1.p, (adv s.1 s.2).p)
  | [], _, _ => rfl
  | s :: r, z, ⟨h0, _, h2, h3, h4⟩ => by
    rw [List.map_cons, List.map_cons]
    unfold nxp
    rw [zWx h4]
    congr 1
    rw [Prod.mk.injEq]
    refine ⟨rfl, ?_⟩
    rw [← zfu h0 h2, h3]
    cases r with
    | nil => rfl
    | cons t r => rfl
def vx (y : Int) (e : Ed) : Option Int :=
  match e.d with
  | .N => if e.y = y then some e.x else none
  | .S => if e.y = y + 1 then some e.x else none
  | _ => none
def zbq (y : Int) (s : (Int × Int) × (Int × Int)) : Bool := decide (s.1.1 = s.2.1) && (decide (min s.1.2 s.2.2 ≤ y) && decide (y < max s.1.2 s.2.2))
theorem zLO (f : Nat → Option Int) (v : Int) : ∀ (m j : Nat), (∀ i, i < m → f i = if i = j then some v else none) → (List.range m).filterMap f = if j < m then [v] else []
  | 0, j, _ => by simp
  | m + 1, j, h => by
    rw [List.range_succ, List.filterMap_append, zLO f v m j fun i hi => h i (by omega)]
    have hm := h m (by omega)
    by_cases h1 : j < m
    · rw [if_pos h1, if_pos (by omega)]
      rw [if_neg (by omega)] at hm
      simp [hm]
    · rw [if_neg h1]
      by_cases h2 : m = j
      · subst h2
        rw [if_pos rfl] at hm
        simp [hm]
      · rw [if_neg h2] at hm
        rw [if_neg (by omega)]
        simp [hm]
theorem zHC (f : Nat → Option Int) (m : Nat) (h : ∀ i, i < m → f i = none) : (List.range m).filterMap f = [] := by
  rw [List.filterMap_eq_nil_iff]
  intro i hi
  exact h i (List.mem_range.1 hi)
theorem zcV (y : Int) (s : Sd) (h0 : 0 < s.2) : (unit s).filterMap (vx y) = if zbq y (s.1.p, (adv s.1 s.2).p) = true then [s.1.x] else [] := by
  unfold unit
  rw [List.filterMap_map]
  have hc : zbq y (s.1.p, (adv s.1 s.2).p) = (decide (s.1.x = s.1.x + s.2 * s.1.d.dx) && (decide (min s.1.y (s.1.y + s.2 * s.1.d.dy) ≤ y) && decide (y < max s.1.y (s.1.y + s.2 * s.1.d.dy)))) := rfl
  rw [hc]
  cases hd : s.1.d
  · have hv : ∀ i, (vx y ∘ adv s.1) i = none := fun i => by simp only [Function.comp, vx, adv, hd]
    rw [zHC _ _ fun i _ => hv i, if_neg]
    simp [Dir.dx]; omega
  · have hv : ∀ i : Nat, (vx y ∘ adv s.1) i = if s.1.y + i = y then some s.1.x else none := fun i => by
      simp only [Function.comp, vx, adv, hd, Dir.dx, Dir.dy]
      rw [Int.mul_one, Int.mul_zero, Int.add_zero]
    simp only [Dir.dx, Dir.dy, Int.mul_zero, Int.add_zero, Int.mul_one]
    by_cases hy : s.1.y ≤ y ∧ y < s.1.y + s.2
    · rw [zLO _ s.1.x s.2 (y - s.1.y).toNat fun i _ => (hv i).trans ?_, if_pos (by omega), if_pos]
      · have h1 : min s.1.y (s.1.y + s.2) ≤ y := by omega
        have h2 : y < max s.1.y (s.1.y + s.2) := by omega
        simp [h1, h2]
      · by_cases h1 : s.1.y + i = y
        · rw [if_pos h1, if_pos (by omega)]
        · rw [if_neg h1, if_neg (by omega)]
    · rw [zHC _ _ fun i hi => (hv i).trans (if_neg (by omega)), if_neg]
      simp only [Bool.and_eq_true, decide_eq_true_eq, not_and]
      omega
  · have hv : ∀ i, (vx y ∘ adv s.1) i = none := fun i => by simp only [Function.comp, vx, adv, hd]
    rw [zHC _ _ fun i _ => hv i, if_neg]
    simp [Dir.dx]; omega
  · have hv : ∀ i : Nat, (vx y ∘ adv s.1) i = if s.1.y - i = y + 1 then some s.1.x else none := fun i => by
      simp only [Function.comp, vx, adv, hd, Dir.dx, Dir.dy]
      have e1 : s.1.y + (i : Int) * -1 = s.1.y - i := by omega
      rw [e1, Int.mul_zero, Int.add_zero]
    have e1 : ∀ n : Nat, s.1.y + (n : Int) * Dir.S.dy = s.1.y - n := fun n => by simp [Dir.dy]; omega
    rw [e1]
    simp only [Dir.dx, Int.mul_zero, Int.add_zero]
    by_cases hy : s.1.y - s.2 ≤ y ∧ y < s.1.y
    · rw [zLO _ s.1.x s.2 (s.1.y - 1 - y).toNat fun i _ => (hv i).trans ?_, if_pos (by omega), if_pos]
      · have h1 : min s.1.y (s.1.y - s.2) ≤ y := by omega
        have h2 : y < max s.1.y (s.1.y - s.2) := by omega
        simp [h1, h2]
      · by_cases h1 : s.1.y - i = y + 1
        · rw [if_pos h1, if_pos (by omega)]
        · rw [if_neg h1, if_neg (by omega)]
    · rw [zHC _ _ fun i hi => (hv i).trans (if_neg (by omega)), if_neg]
      simp only [Bool.and_eq_true, decide_eq_true_eq, not_and]
      omega
structure zrT (I : Sq) (e : Ed) (n : Nat) (l : List (Int × Int)) : Prop where
  len : 4 ≤ l.length
  ax : ∀ s ∈ nxp e.p l, (s.1.1 = s.2.1) ≠ (s.1.2 = s.2.2)
  crs : ∀ y, ((nxp e.p l).filter (zbq y)).map (·.1.1) = (walk I n e).filterMap (vx y)
  pts : ∀ p ∈ l, ∃ f, isB I f ∧ f.p = p
theorem Str.pos : ∀ {sl : List Sd} {z : Ed}, Str I sl z → ∀ s ∈ sl, 0 < s.2 ∧ isC I s.1 = true
  | s :: r, z, ⟨h0, h1, _, _, h4⟩, t, ht => by
    rcases List.mem_cons.1 ht with rfl | ht
    · exact ⟨h0, h1⟩
    · exact Str.pos h4 t ht
theorem zP1 (y : Int) : ∀ {sl : List Sd} {z : Ed}, Str I sl z → ((sl.map fun s => (s.1.p, (adv s.1 s.2).p)).filter (zbq y)).map (·.1.1) = (sl.flatMap unit).filterMap (vx y)
  | [], _, _ => rfl
  | s :: r, z, ⟨h0, _, _, _, h4⟩ => by
    rw [List.map_cons, List.filter_cons, List.flatMap_cons, List.filterMap_append, ← zP1 y h4, zcV y s h0]
    by_cases hc : zbq y (s.1.p, (adv s.1 s.2).p) = true
    · rw [if_pos hc, if_pos hc]; rfl
    · rw [if_neg hc, if_neg hc]; rfl
def zHs (f : Ed → Int) : List Ed → Int
  | [] => 0
  | e :: l => f e + zHs f l
theorem zS0 : ∀ (n : Nat) (e : Ed), zHs (fun e => e.d.dx) (walk I n e) = (it I n e).x - e.x ∧ zHs (fun e => e.d.dy) (walk I n e) = (it I n e).y - e.y
  | 0, e => ⟨by simp [walk, zHs, it], by simp [walk, zHs, it]⟩
  | n + 1, e => by
    obtain ⟨h1, h2⟩ := zS0 n (sc I e)
    have h3 := zcf (I := I) e
    have h4 : (sc I e).x = e.x + e.d.dx := congrArg Prod.fst h3
    have h5 : (sc I e).y = e.y + e.d.dy := congrArg Prod.snd h3
    simp only [walk, zHs, it]
    constructor
    · rw [h1]; omega
    · rw [h2]; omega
theorem zS3 {f : Ed → Int} : ∀ {l : List Ed}, (∀ e ∈ l, f e ≤ 0) → (∃ e ∈ l, f e < 0) → zHs f l < 0
  | [], _, ⟨_, h, _⟩ => by cases h
  | e :: l, h, ⟨e', h1, h2⟩ => by
    have hall : ∀ {l : List Ed}, (∀ e ∈ l, f e ≤ 0) → zHs f l ≤ 0 := by
      intro l
      induction l with
      | nil => intro _; exact Int.le_refl _
      | cons a l ih =>
        intro h
        have := ih fun e he => h e (by simp [he])
        have := h a (by simp)
        simp only [zHs]; omega
    have h3 := h e (by simp)
    have h4 := hall (l := l) fun e he => h e (by simp [he])
    simp only [zHs]
    rcases List.mem_cons.1 h1 with rfl | h1
    · omega
    · have := zS3 (l := l) (fun e he => h e (by simp [he])) ⟨e', h1, h2⟩
      omega
theorem zNi (f : Ed → Int) : ∀ l : List Ed, zHs (fun e => - f e) l = - zHs f l
  | [] => rfl
  | e :: l => by simp only [zHs]; rw [zNi f l]; omega
theorem zQ0 {n : Nat} {e : Ed} (h : it I n e = e) {f : Ed} (hf : f ∈ walk I n e) : ∃ g ∈ walk I n e, g.d = f.d.left.left := by
  obtain ⟨s1, s2⟩ := zS0 (I := I) n e
  rw [h] at s1 s2
  have key : ∀ F : Ed → Int, zHs F (walk I n e) = 0 → F f < 0 → ∃ g ∈ walk I n e, 0 < F g := fun F hF hFf => by
    cases Classical.em (∃ g ∈ walk I n e, 0 < F g) with
    | inl h => exact h
    | inr hno =>
      have := zS3 (f := F) (l := walk I n e) (fun g hg => by
        have : ¬ 0 < F g := fun hh => hno ⟨g, hg, hh⟩
        omega) ⟨f, hf, hFf⟩
      omega
  have s1' : zHs (fun e => e.d.dx) (walk I n e) = 0 := by omega
  have s2' : zHs (fun e => e.d.dy) (walk I n e) = 0 := by omega
  have o1 : zHs (fun e => - e.d.dx) (walk I n e) = 0 := by rw [zNi]; omega
  have o2 : zHs (fun e => - e.d.dy) (walk I n e) = 0 := by rw [zNi]; omega
  cases hd : f.d
  · obtain ⟨g, hg, hp⟩ := key (fun e => - e.d.dx) o1 (by show - f.d.dx < 0; rw [hd]; decide)
    refine ⟨g, hg, ?_⟩
    have hp : 0 < - g.d.dx := hp
    cases hgd : g.d <;> rw [hgd] at hp <;> first | rfl | (simp [Dir.dx] at hp)
  · obtain ⟨g, hg, hp⟩ := key (fun e => - e.d.dy) o2 (by show - f.d.dy < 0; rw [hd]; decide)
    refine ⟨g, hg, ?_⟩
    have hp : 0 < - g.d.dy := hp
    cases hgd : g.d <;> rw [hgd] at hp <;> first | rfl | (simp [Dir.dy] at hp)
  · obtain ⟨g, hg, hp⟩ := key (fun e => e.d.dx) s1' (by show f.d.dx < 0; rw [hd]; decide)
    refine ⟨g, hg, ?_⟩
    have hp : 0 < g.d.dx := hp
    cases hgd : g.d <;> rw [hgd] at hp <;> first | rfl | (simp [Dir.dx] at hp)
  · obtain ⟨g, hg, hp⟩ := key (fun e => e.d.dy) s2' (by show f.d.dy < 0; rw [hd]; decide)
    refine ⟨g, hg, ?_⟩
    have hp : 0 < g.d.dy := hp
    cases hgd : g.d <;> rw [hgd] at hp <;> first | rfl | (simp [Dir.dy] at hp)
theorem zfS {n : Nat} {e : Ed} (he : isB I e) (h : Per I e n) : pd I e ∈ walk I n e := by
  refine zEQ.2 ⟨n - 1, by have := h.1; omega, ?_⟩
  have h1 : sc I (it I (n - 1) e) = e := by rw [← zE0, show n - 1 + 1 = n from by have := h.1; omega, h.2.1]
  have h2 := zKJ (zEH he (n - 1))
  rw [h1] at h2; exact h2.symm
theorem zY1 {l : List Dir} (h : ∀ d : Dir, d ∈ l) : 4 ≤ l.length := by
  have := zLS (l := [Dir.E, .N, .W, .S]) (m := l) (by decide) fun d _ => h d
  simpa using this
theorem zRr {B : List Ed} (hB : zMb I B) {e : Ed} (he : Lst I e) {n : Nat} (hn : Per I e n) : zrT I e n (crn I n e) := by
  obtain ⟨sl, s1, s2, s3, s4⟩ := stretches I n e he.1 (he.zSZ hB) (by rw [hn.2.1]; exact he.zSZ hB)
  rw [hn.2.1] at s1
  have hnx : nxp e.p (crn I n e) = sl.map fun s => (s.1.p, (adv s.1 s.2).p) := by rw [← s3]; exact zWx s1
  have hdirs : ∀ d : Dir, d ∈ sl.map fun s => s.1.d := by
    have mem : ∀ f ∈ walk I n e, f.d ∈ sl.map fun s => s.1.d := fun f hf => by
      rw [s4] at hf
      obtain ⟨s, hs, hf⟩ := List.mem_flatMap.1 hf
      unfold unit at hf
      obtain ⟨i, _, rfl⟩ := List.mem_map.1 hf
      exact List.mem_map.2 ⟨s, hs, rfl⟩
    have m1 : e ∈ walk I n e := zEQ.2 ⟨0, hn.1, rfl⟩
    have m2 := zfS he.1 hn
    obtain ⟨g1, k1, k2⟩ := zQ0 hn.2.1 m1
    obtain ⟨g2, k3, k4⟩ := zQ0 hn.2.1 m2
    have q1 := mem _ m1
    have q2 := mem _ m2
    have q3 := mem _ k1
    have q4 := mem _ k3
    rw [k2] at q3
    rw [k4] at q4
    rcases he.ways hB with ⟨w1, w2⟩ | ⟨w1, w2⟩ <;> rw [w1] at q1 q3 <;> rw [w2] at q2 q4 <;> intro d <;> cases d <;> assumption
  refine ⟨?_, fun s hs => ?_, fun y => ?_, fun p hp => ?_⟩
  · have := zY1 hdirs
    rw [List.length_map] at this
    rw [← s3, List.length_map]; exact this
  · rw [hnx] at hs
    obtain ⟨t, ht, rfl⟩ := List.mem_map.1 hs
    have h0 := (s1.pos t ht).1
    show (t.1.x = t.1.x + t.2 * t.1.d.dx) ≠ (t.1.y = t.1.y + t.2 * t.1.d.dy)
    cases t.1.d <;> simp only [Dir.dx, Dir.dy] <;> intro hh
    · have : t.1.x = t.1.x + (t.2 : Int) * 1 := by rw [hh]; omega
      omega
    · have : t.1.y = t.1.y + (t.2 : Int) * 1 := by rw [← hh]; omega
      omega
    · have : t.1.x = t.1.x + (t.2 : Int) * -1 := by rw [hh]; omega
      omega
    · have : t.1.y = t.1.y + (t.2 : Int) * -1 := by rw [← hh]; omega
      omega
  · rw [hnx, zP1 y s1, ← s4]
  · unfold crn at hp
    obtain ⟨f, hf, rfl⟩ := List.mem_map.1 hp
    obtain ⟨i, _, rfl⟩ := zEQ.1 (List.mem_filter.1 hf).1
    exact ⟨_, zEH he.1 i, rfl⟩
end
end Go.Proofs.YtacapjleiadkkaaGreat.PX
namespace Go.Proofs.YtacapjleiadkkaaGreat.PX
section
variable {I : Sq}
end
end Go.Proofs.YtacapjleiadkkaaGreat.PX
namespace Go.Proofs.YtacapjleiadkkaaGreat
open PX
def Ke (p : Int × Int) : zG := ⟨p.1, p.2⟩
def zRy (p : zG) : Int × Int := (p.X, p.Y)
def zBb (s : Sd) : Int × Int := (adv s.1 s.2).p
def toS (s : Sd) : Qw := ⟨Ke s.1.p, Ke (zBb s)⟩
def zEn (d : Dir) : zG := ⟨d.dx, d.dy⟩
theorem zbn {d e : Dir} (h : zEn d = zEn e) : d = e := by
  have h1 := congrArg zG.X h
  have h2 := congrArg zG.Y h
  cases d <;> cases e <;> first | rfl | (simp [zEn, Dir.dx] at h1; done) | (simp [zEn, Dir.dy] at h2; done) | (simp [zEn, Dir.dx, Dir.dy] at h1 h2)
def Lim (p : Int × Int) : Prop := (-1000000000 ≤ p.1 ∧ p.1 ≤ 1000000000) ∧ (-1000000000 ≤ p.2 ∧ p.2 ≤ 1000000000)
structure zHu (L : List Sd) : Prop where
  len : L.length ≤ 100000000
  pts : ∀ s ∈ L, Lim s.1.p ∧ Lim (zBb s)
theorem zrB {n : Nat} (h : 0 < n) : min 1 (max (-1) ((n : Int) * 1)) = 1 := by omega
theorem zrA {n : Nat} (h : 0 < n) : min 1 (max (-1) ((n : Int) * -1)) = -1 := by omega
theorem zWD {s : Sd} (h : 0 < s.2) (hl : Lim s.1.p ∧ Lim (zBb s)) : JP (toS s) = some (zEn s.1.d) := by
  obtain ⟨⟨l1, l2⟩, l3, l4⟩ := hl
  have ex : (zBb s).1 = s.1.x + s.2 * s.1.d.dx := rfl
  have ey : (zBb s).2 = s.1.y + s.2 * s.1.d.dy := rfl
  have e1 : (toS s).to_.X - (toS s).from_.X = s.2 * s.1.d.dx := by show (zBb s).1 - s.1.x = _; rw [ex]; omega
  have e2 : (toS s).to_.Y - (toS s).from_.Y = s.2 * s.1.d.dy := by show (zBb s).2 - s.1.y = _; rw [ey]; omega
  have hx : s.1.p.1 = s.1.x := rfl
  have hy : s.1.p.2 = s.1.y := rfl
  unfold JP WC
  rw [e1, e2, Qg (by omega) (by omega), Qg (by omega) (by omega), Option.bind_some, Option.bind_some]
  congr 1
  unfold zEn
  cases hd : s.1.d <;> simp only [Dir.dx, Dir.dy, Int.mul_zero] <;> first | rw [zrB h]; rfl | rw [zrA h]; rfl
theorem zW1 (p q : Int × Int) : zB2 (Ke p) (Ke q) = some (decide (pl p q)) := by
  unfold zB2
  congr 1
  rw [Bool.eq_iff_iff, decide_eq_true_eq]
  unfold pl Ke
  simp
theorem zdd (p q : Int × Int) : Vo (Ke p) (Ke q) = decide (p = q) := by
  rw [Bool.eq_iff_iff, zHN]
  unfold Ke
  simp [Prod.ext_iff]
theorem zbj (d e : Dir) : Vo (zEn d) (zEn e) = decide (d = e) := by
  rw [Bool.eq_iff_iff, zHN, decide_eq_true_eq]
  exact ⟨zbn, fun h => by rw [h]⟩
theorem zJv (L : List Sd) : ∀ (q r : List Nat) (d : Dir), cns L d (q ++ r) = cns L d q ++ cns L ((q.map fun a => (QB L a).1.d).getLastD d) r
  | [], r, d => rfl
  | a :: q, r, d => by
    simp only [List.cons_append, cns]
    have hl : ((a :: q).map fun a => (QB L a).1.d).getLastD d = (q.map fun a => (QB L a).1.d).getLastD (QB L a).1.d := by cases q <;> rfl
    rw [hl]
    split
    · rw [zJv L q r]; rfl
    · exact zJv L q r _
theorem zKp (L : List Sd) : ∀ (q : List Nat) (d : Dir), (cns L d q).length ≤ q.length
  | [], _ => Nat.le_refl _
  | a :: q, d => by
    have := zKp L q (QB L a).1.d
    simp only [cns]
    split <;> simp only [List.length_cons] <;> omega
theorem zUI (L : List Sd) (q : List Nat) (a : Nat) (d : Dir) : cns L d (q ++ [a]) = cns L d q ++ (if ((q.map fun a => (QB L a).1.d).getLastD d) ≠ (QB L a).1.d then [(QB L a).1.p] else []) := by
  rw [zJv]
  congr 1
theorem zXa : ∀ (l : List (Int × Int)) (b : Nat × (Int × Int)) (i n : Nat), b.1 < n → i + l.length ≤ n → fl l b i < n
  | [], b, i, n, h, _ => h
  | p :: l, b, i, n, h, h' => by
    simp only [List.length_cons] at h'
    unfold fl
    split
    · exact zXa l (i, p) (i + 1) n (by show i < n; omega) (by omega)
    · exact zXa l b (i + 1) n h (by omega)
def zfO (c : List zG) (k : Nat) : Option (List zG) :=
  (cut c (k : Int) (c.length : Int)).bind fun zGd => (Proofs.YtacapjleiadkkaaGreat.pre c (k : Int)).bind fun zAH => (WK [zGd, zAH]).bind fun zMO => some zMO
theorem zJn (c : List (Int × Int)) (hc : c.length ≤ 100000000) : ∀ (suf q : List (Int × Int)) (m : Nat) (p : Int × Int), c = q ++ suf → c[m]? = some p → Jc (c.map Ke) (suf.map Ke) q.length (m : Int) = zfO (c.map Ke) (fl suf (m, p) q.length)
  | [], q, m, p, h, hm => by
    show Jc _ [] _ _ = _
    rw [Jc.eq_1]; rfl
  | x :: suf, q, m, p, h, hm => by
    show Jc _ (Ke x :: suf.map Ke) _ _ = _
    have hid : idx (c.map Ke) (m : Int) = some (Ke p) := by
      unfold idx
      rw [if_pos (by omega), Int.toNat_natCast, List.getElem?_map, hm]; rfl
    have hx : c[q.length]? = some x := by rw [h]; simp
    have e1 := zJn c hc suf (q ++ [x]) q.length x (by rw [h]; simp) hx
    have e2 := zJn c hc suf (q ++ [x]) m p (by rw [h]; simp) hm
    rw [List.length_append] at e1 e2
    rw [Jc.eq_2, hid, Option.bind_some, zW1, Option.bind_some]
    unfold fl
    by_cases hp : pl x p
    · rw [if_pos (by simpa using hp), if_pos hp]; exact e1
    · rw [if_neg (by simpa using hp), if_neg hp]; exact e2
theorem zdk {a b : List zG} (h : a.length + b.length ≤ 100000000) : WK [a, b] = some (a ++ b) := by
  unfold WK
  have e1 : w64 (0 + (a.length : Int)) = a.length := by rw [Qg (by omega) (by omega)]; omega
  have e2 : w64 ((a.length : Int) + (b.length : Int)) = (a.length : Int) + b.length := Qg (by omega) (by omega)
  rw [Jf.eq_2, e1, if_neg (by simp), Jf.eq_2, e2, if_neg (by simp; omega), Jf.eq_1]
  have e3 : (grN ((a.length : Int) + b.length) : Option (List zG)) = some [] := if_pos ⟨by omega, by omega⟩
  rw [e3, Option.bind_some, Je.eq_2, Kl (by simp; omega), Option.bind_some, Je.eq_2, Kl (by simp; omega), Option.bind_some, Je.eq_1]
  simp
theorem zcj {c : List zG} {k : Nat} (hc : c.length ≤ 100000000) (hk : k ≤ c.length) : zfO c k = some (c.drop k ++ c.take k) := by
  unfold zfO
  have e1 : cut c (k : Int) (c.length : Int) = some (c.drop k) := by
    unfold cut
    rw [if_pos (by omega)]
    simp
  have e2 : Proofs.YtacapjleiadkkaaGreat.pre c (k : Int) = some (c.take k) := by
    unfold Proofs.YtacapjleiadkkaaGreat.pre
    rw [if_pos (by omega)]
    simp
  rw [e1, e2, Option.bind_some, Option.bind_some, zdk (by simp; omega)]; rfl
theorem zNg {I : Sq} {L : List Sd} (hL : zAR I L) (hb : zHu L) (row : List Nat) (hr : ∀ a ∈ row, a < L.length) (hlen : row.length ≤ 100000000) : ∀ (suf q : List Nat), row = q ++ suf →
    Jq (row.map fun a => toS (QB L a)) (suf.map fun a => toS (QB L a)) q.length ((cns L (QB L (row.getLastD 0)).1.d q).map Ke) = Jc ((cns L (QB L (row.getLastD 0)).1.d row).map Ke) ((cns L (QB L (row.getLastD 0)).1.d row).map Ke) 0 0
  | [], q, h => by
    rw [List.append_nil] at h
    subst h
    show Jq _ [] _ _ = _
    rw [Jq.eq_1]
  | a :: suf, q, h => by
    have hdir : ∀ b ∈ row, JP (toS (QB L b)) = some (zEn (QB L b).1.d) := fun b hb' => by
      have hg := zBD (hr b hb')
      have hm := List.mem_of_getElem? hg
      exact zWD (hL.pos _ hm) (hb.pts _ hm)
    have hql : q.length ≤ 100000000 := by rw [h] at hlen; simp at hlen; omega
    have hn : 0 < row.length := by rw [h]; simp; omega
    have hprev : ∃ b ∈ row, (md (w64 ((w64 ((q.length : Int) + ((row.map fun a => toS (QB L a)).length : Int))) - 1)) ((row.map fun a => toS (QB L a)).length : Int)).bind (fun q150 => idx (row.map fun a => toS (QB L a)) q150) = some (toS (QB L b)) ∧ (QB L b).1.d = (q.map fun a => (QB L a).1.d).getLastD (QB L (row.getLastD 0)).1.d := by
      rw [List.length_map, Qg (x := (q.length : Int) + row.length) (by omega) (by omega), Qg (by omega) (by omega)]
      have hmd : md ((q.length : Int) + row.length - 1) row.length = some (Int.tmod ((q.length : Int) + row.length - 1) row.length) := by unfold md; rw [if_neg (by omega)]
      rw [hmd, Option.bind_some]
      rcases List.eq_nil_or_concat q with hq | ⟨q', b, hq⟩
      · subst hq
        have e1 : Int.tmod ((([] : List Nat).length : Int) + row.length - 1) row.length = ((row.length - 1 : Nat) : Int) := by
          rw [Int.tmod_eq_emod_of_nonneg (by simp; omega), List.length_nil, Int.emod_eq_of_lt (by omega) (by omega)]; omega
        have hne : row ≠ [] := by rw [h]; simp
        have hlast : row[row.length - 1]? = some (row.getLastD 0) := by
          rw [List.getLastD_eq_getLast?, List.getLast?_eq_getElem?]
          rw [List.getElem?_eq_getElem (by omega)]; rfl
        refine ⟨row.getLastD 0, List.mem_of_getElem? hlast, ?_, rfl⟩
        rw [e1]
        unfold idx
        rw [if_pos (by omega), Int.toNat_natCast, List.getElem?_map, hlast]; rfl
      · rw [List.concat_eq_append] at hq
        subst hq
        have e1 : Int.tmod (((q' ++ [b]).length : Int) + row.length - 1) row.length = (q'.length : Int) := by
          have : ((q' ++ [b]).length : Int) + row.length - 1 = (q'.length : Int) + row.length := by simp; omega
          rw [this, Int.tmod_eq_emod_of_nonneg (by omega), Int.add_emod_right, Int.emod_eq_of_lt (by omega) (by rw [h]; simp; omega)]
        have hb2 : row[q'.length]? = some b := by rw [h]; simp
        refine ⟨b, List.mem_of_getElem? hb2, ?_, by simp⟩
        rw [e1]
        unfold idx
        rw [if_pos (by omega), Int.toNat_natCast, List.getElem?_map, hb2]; rfl
    obtain ⟨b, hb1, hb2, hb3⟩ := hprev
    have ih := zNg hL hb row hr hlen suf (q ++ [a]) (by rw [h]; simp)
    rw [List.length_append, zUI] at ih
    show Jq _ (toS (QB L a) :: suf.map _) _ _ = _
    rw [Jq.eq_2, hdir a (by rw [h]; simp), Option.bind_some]
    obtain ⟨q150, hq1, hq2⟩ := Option.bind_eq_some_iff.1 hb2
    rw [hq1, Option.bind_some, hq2, Option.bind_some, hdir b hb1, Option.bind_some, zbj, hb3]
    have hcl := zKp L q (QB L (row.getLastD 0)).1.d
    generalize (q.map fun a => (QB L a).1.d).getLastD (QB L (row.getLastD 0)).1.d = dp at ih ⊢
    generalize cns L (QB L (row.getLastD 0)).1.d q = cq at ih hcl ⊢
    by_cases hd : dp = (QB L a).1.d
    · rw [if_neg (by simp [hd])]
      rw [if_neg (by simpa using hd), List.append_nil] at ih
      exact ih
    · rw [if_pos (by simp; exact fun hh => hd hh.symm)]
      rw [if_pos hd, List.map_append] at ih
      rw [Kl (by rw [List.length_map]; simp; omega), Option.bind_some]
      exact ih
theorem zWH {I : Sq} {L : List Sd} (hL : zAR I L) (hb : zHu L) {row : List Nat} (hr : ∀ a ∈ row, a < L.length) (hlen : row.length ≤ 100000000) (hne : cns L (QB L (row.getLastD 0)).1.d row ≠ []) : zCG (row.map fun a => toS (QB L a)) = some ((zAz L row).map Ke) := by
  unfold zCG
  have h1 := zNg hL hb row hr hlen row [] rfl
  rw [List.length_nil] at h1
  have h0 : (cns L (QB L (row.getLastD 0)).1.d []).map Ke = [] := rfl
  rw [h0] at h1
  rw [h1]
  unfold zAz lr
  have hcl := zKp L row (QB L (row.getLastD 0)).1.d
  generalize cns L (QB L (row.getLastD 0)).1.d row = c at hne hcl
  obtain ⟨p, r, rfl⟩ := List.exists_cons_of_ne_nil hne
  have h2 := zJn (p :: r) (by omega) (p :: r) [] 0 p rfl rfl
  rw [List.length_nil] at h2
  have e0 : ((0 : Nat) : Int) = 0 := rfl
  rw [e0] at h2
  rw [h2]
  have hk := zXa (p :: r) (0, p) 0 (p :: r).length (by simp) (by simp)
  rw [zcj (by rw [List.length_map]; omega) (by rw [List.length_map]; omega)]
  simp only [List.headD_cons, List.map_append, List.map_drop, List.map_take]
open PX
theorem zWa {I : Sq} {f e : Ed} (hf : isB I f) (he : isB I e) (hx : e.x = f.tx) (hy : e.y = f.ty) (hne : e ≠ sc I f) : (sc I f).d = f.d.left := by
  obtain ⟨g1, g2⟩ := Ed.zMG I f
  have f1 : lq I f.tx f.ty f.d.left = true := g1.trans hf.1
  have f2 : lq I f.tx f.ty f.d.left.left = false := g2.trans hf.2
  obtain ⟨e1, e2⟩ := he
  rw [hx, hy] at e1 e2
  rcases zJ9 hf with ⟨_, h2⟩ | ⟨h1, h2, h3⟩ | ⟨h1, h2, h3⟩
  · rw [h2]
  · exfalso
    have hd : e.d = f.d := by
      generalize f.d = d at f1 f2 h1 h2
      generalize e.d = d' at e1 e2
      cases d <;> cases d' <;> simp only [Dir.left, Dir.right] at * <;> first | rfl | (rw [e1] at f2; cases f2) | (rw [e2] at f1; cases f1) | (rw [e2] at h1; cases h1) | (rw [e1] at h2; cases h2)
    exact hne (by rw [h3]; exact Ed.ext' hx hy hd)
  · exfalso
    have hd : e.d = f.d.right := by
      generalize f.d = d at f1 f2 h1 h2
      generalize e.d = d' at e1 e2
      cases d <;> cases d' <;> simp only [Dir.left, Dir.right] at * <;> first | rfl | (rw [e1] at f2; cases f2) | (rw [e2] at f1; cases f1) | (rw [e2] at h1; cases h1) | (rw [e2] at h2; cases h2)
    exact hne (by rw [h3]; exact Ed.ext' hx hy hd)
theorem zW2 {I : Sq} {f e : Ed} (he : isB I e) (hx : e.x = f.tx) (hy : e.y = f.ty) (hd : e.d = f.d.left) : e = sc I f := by
  have h2 := he.2
  rw [hx, hy, hd, Dir.lr] at h2
  rw [zfL h2]
  exact Ed.ext' hx hy hd
theorem zOA {s : Sd} (h : 0 < s.2) : (zJC s).tx = (zBb s).1 ∧ (zJC s).ty = (zBb s).2 ∧ (zJC s).d = s.1.d := by
  obtain ⟨t1, t2⟩ := zSf s.1 (s.2 - 1)
  have e : s.2 - 1 + 1 = s.2 := by omega
  rw [e] at t1 t2
  exact ⟨t1, t2, rfl⟩
def zGO (L : List Sd) (v : Int × Int) : List Int := ((List.range L.length).filter fun a => decide ((QB L a).1.p = v)).map fun a : Nat => (a : Int)
theorem zII {L : List Sd} {v : Int × Int} {j : Int} : j ∈ zGO L v ↔ ∃ a, a < L.length ∧ (QB L a).1.p = v ∧ j = (a : Int) := by
  unfold zGO
  simp only [List.mem_map, List.mem_filter, List.mem_range, decide_eq_true_eq]
  exact ⟨fun ⟨a, ⟨h1, h2⟩, h3⟩ => ⟨a, h1, h2, h3.symm⟩, fun ⟨a, h1, h2, h3⟩ => ⟨a, ⟨h1, h2⟩, h3.symm⟩⟩
theorem zVV (L : List Sd) (v : Int × Int) : (zGO L v).Nodup := by
  unfold zGO
  rw [List.Nodup, List.pairwise_map]
  exact (List.nodup_range.filter _).imp fun h hh => h (by omega)
section
variable {I : Sq} {L : List Sd}
theorem zKM (h : zAR I L) {a b : Nat} (hn : Nx I L a b) : (QB L b).1.p = zBb (QB L a) := by
  obtain ⟨s, t, h1, h2, h3⟩ := hn
  rw [Wl h1, Wl h2, h3, zcf]
  have hp := h.pos s (List.mem_of_getElem? h1)
  exact Prod.ext (zOA hp).1 (zOA hp).2.1
theorem zdS (h : zAR I L) {a b : Nat} (ha : a < L.length) (hb : b < L.length) (hv : (QB L b).1.p = zBb (QB L a)) : (Nx I L a b ↔ (zGO L (zBb (QB L a))).length = 1 ∨ (QB L b).1.d = (QB L a).1.d.left) := by
  have ga := zBD ha
  have gb := zBD hb
  have ma := List.mem_of_getElem? ga
  have mb := List.mem_of_getElem? gb
  obtain ⟨t1, t2, t3⟩ := zOA (h.pos _ ma)
  have hl := (h.last ma).1
  have hx : (QB L b).1.x = (zJC (QB L a)).tx := (congrArg Prod.fst hv).trans t1.symm
  have hy : (QB L b).1.y = (zJC (QB L a)).ty := (congrArg Prod.snd hv).trans t2.symm
  have fb := h.fst mb
  obtain ⟨b', hb', hn⟩ := h.next ha
  have hm' : (b' : Int) ∈ zGO L (zBb (QB L a)) := zII.2 ⟨b', hb', zKM h hn, rfl⟩
  have hm : (b : Int) ∈ zGO L (zBb (QB L a)) := zII.2 ⟨b, hb, hv, rfl⟩
  constructor
  · intro hab
    have := h.zYm hab hn
    subst this
    cases Classical.em ((QB L b).1.d = (QB L a).1.d.left) with
    | inl hh => exact .inr hh
    | inr hh =>
      left
      have hall : ∀ j ∈ zGO L (zBb (QB L a)), j = (b : Int) := fun j hj => by
        obtain ⟨c, hc, hcv, rfl⟩ := zII.1 hj
        have gc := zBD hc
        have mc := List.mem_of_getElem? gc
        obtain ⟨s, t, k1, k2, k3⟩ := hab
        rw [ga] at k1
        rw [gb] at k2
        have k1 := Option.some.inj k1
        have k2 := Option.some.inj k2
        subst k1; subst k2
        cases Classical.em ((QB L c).1 = sc I (zJC (QB L a))) with
        | inl he =>
          have := h.zYm ⟨_, _, ga, gc, he⟩ ⟨_, _, ga, gb, k3⟩
          rw [this]
        | inr he =>
          exfalso
          have := zWa hl (h.fst mc) ((congrArg Prod.fst hcv).trans t1.symm) ((congrArg Prod.snd hcv).trans t2.symm) he
          rw [← k3, t3] at this
          exact hh this
      have hnd := zVV L (zBb (QB L a))
      match hq : zGO L (zBb (QB L a)), hm, hall, hnd with
      | [x], _, _, _ => rfl
      | x :: y :: r, _, hall, hnd =>
        exfalso
        have e1 := hall x (by simp)
        have e2 := hall y (by simp)
        rw [e1, e2] at hnd
        simp at hnd
  · intro hor
    rcases hor with h1 | h1
    · obtain ⟨x, hx1⟩ := List.length_eq_one_iff.1 h1
      rw [hx1] at hm hm'
      simp at hm hm'
      have : b = b' := by omega
      rw [this]; exact hn
    · exact ⟨_, _, ga, gb, zW2 fb hx hy (by rw [t3]; exact h1)⟩
theorem zQQ {κ α : Type} [DecidableEq κ] (k : κ) (l : List α) (k' : κ) : ∀ m : List (κ × List α), zB9 (zF3 m k l) k' = if k = k' then l else zB9 m k'
  | [] => by simp [zF3, zB9]
  | p :: m => by
    unfold zF3
    by_cases h : p.1 = k
    · rw [if_pos h]
      by_cases h' : k = k'
      · simp [zB9, h']
      · simp [zB9, h, h']
    · rw [if_neg h]
      simp only [zB9]
      rw [zQQ k l k' m]
      by_cases h' : k = k'
      · subst h'; simp [h]
      · simp [h']
theorem zWt {p : Int × Int} (h : Lim p) : okP p = true := by
  obtain ⟨⟨h1, h2⟩, h3, h4⟩ := h
  unfold okP inR
  simp; omega
theorem zTS (hb : zHu L) (N : Nat) : ∀ (suf q : List Sd) (m : List ((Int × Int) × List Int)), L = q ++ suf → (∀ v, zB9 m v = ((List.range q.length).filter fun a => decide ((QB L a).1.p = v)).map fun a : Nat => (a : Int)) →
    ∃ m', (∀ v, zB9 m' v = zGO L v) ∧ Qs N (L.map toS) (suf.map toS) q.length m = (mkl false ((L.map toS).length : Int)).bind fun zKR => QH N (L.map toS) m' (L.map toS) 0 zKR []
  | [], q, m, h, hm => by
    rw [List.append_nil] at h
    subst h
    refine ⟨m, hm, ?_⟩
    show Qs _ _ [] _ _ = _
    rw [Qs.eq_1]
  | s :: suf, q, m, h, hm => by
    have hg : L[q.length]? = some s := by rw [h]; simp
    have hs := Wl hg
    have hlim := (hb.pts s (List.mem_of_getElem? hg)).1
    have hlen := hb.len
    have hql : q.length ≤ 100000000 := by rw [h] at hlen; simp at hlen; omega
    obtain ⟨m', h1, h2⟩ := zTS hb N suf (q ++ [s]) (zF3 m s.1.p (zB9 m s.1.p ++ [(q.length : Int)])) (by rw [h]; simp) (fun v => by
      rw [zQQ, List.length_append, List.length_singleton, List.range_succ, List.filter_append, List.map_append, hm v]
      by_cases hv : s.1.p = v
      · subst hv
        rw [if_pos rfl, hm]
        simp [hs]
      · rw [if_neg hv]
        simp [hs, hv])
    refine ⟨m', h1, ?_⟩
    rw [List.length_append] at h2
    show Qs _ _ (toS s :: suf.map toS) _ _ = _
    have e1 : zDd okP m ((toS s).from_.X, (toS s).from_.Y) = some (zB9 m s.1.p) := if_pos (zWt hlim)
    have hkl : (zB9 m s.1.p).length ≤ q.length := by rw [hm, List.length_map]; exact Nat.le_trans (List.length_filter_le _ _) (Nat.le_of_eq List.length_range)
    rw [Qs.eq_2, e1, Option.bind_some, Kl (by simp; omega), Option.bind_some]
    exact h2
theorem zcv {s : Sd} (h : 0 < s.2) (hl : Lim s.1.p ∧ Lim (zBb s)) : Vz (toS s) = some (zEn s.1.d.left) := by
  unfold Vz
  rw [zWD h hl, Option.bind_some]
  congr 1
  unfold zEn
  cases s.1.d <;> simp only [Dir.dx, Dir.dy, Dir.left] <;> rfl
variable {m : List ((Int × Int) × List Int)}
theorem zXU (hm : ∀ v, zB9 m v = zGO L v) {s : Sd} (h : Lim (zBb s)) : zDd okP m ((toS s).to_.X, (toS s).to_.Y) = some (zGO L (zBb s)) := by
  show zDd okP m (zBb s) = _
  unfold zDd
  rw [if_pos (zWt h), hm]
theorem zRA (h : zAR I L) (hb : zHu L) (hm : ∀ v, zB9 m v = zGO L v) {a b : Nat} (ha : a < L.length) (hb' : b < L.length) (hv : (QB L b).1.p = zBb (QB L a)) :
    ∃ g, JE (toS (QB L a)) (toS (QB L b)) m = some g ∧ (g = true ↔ Nx I L a b) := by
  have ma := List.mem_of_getElem? (zBD ha)
  have mb := List.mem_of_getElem? (zBD hb')
  have e1 : zDd okP m ((toS (QB L a)).to_.X, (toS (QB L a)).to_.Y) = some (zGO L (zBb (QB L a))) := zXU hm (hb.pts _ ma).2
  unfold JE
  rw [e1, Option.bind_some, zWD (h.pos _ mb) (hb.pts _ mb), zcv (h.pos _ ma) (hb.pts _ ma)]
  simp only [Option.bind_some, zbj]
  rw [zdS h ha hb' hv]
  by_cases h1 : (zGO L (zBb (QB L a))).length = 1
  · rw [if_pos (by simp; omega)]
    exact ⟨true, rfl, by simp [h1]⟩
  · rw [if_neg (by simp; omega)]
    exact ⟨_, rfl, by simp [h1]⟩
theorem zQL (h : zAR I L) (hb : zHu L) (hm : ∀ v, zB9 m v = zGO L v) {a b : Nat} (ha : a < L.length) (hn : Nx I L a b) {u : List Bool} (hu : u.length = L.length) (hub : u[b]? = some false) : ∀ (l : List Int) (i : Nat), (∀ j ∈ l, j ∈ zGO L (zBb (QB L a))) → (b : Int) ∈ l →
    QG (toS (QB L a)) u (L.map toS) m l i = some (b : Int)
  | j :: l, i, hl, hbl => by
    obtain ⟨c, hc, hcv, rfl⟩ := zII.1 (hl j (by simp))
    obtain ⟨g, g1, g2⟩ := zRA h hb hm ha hc hcv
    have hid : idx u (c : Int) = some u[c] := zDe (by omega)
    have hid2 : idx (L.map toS) (c : Int) = some (toS (QB L c)) := by
      unfold idx
      rw [if_pos (by omega), Int.toNat_natCast, List.getElem?_map, zBD hc]; rfl
    rw [QG.eq_2, hid, Option.bind_some, hid2, Option.bind_some, g1, Option.bind_some]
    by_cases hcb : c = b
    · subst hcb
      have hf : u[c] = false := by
        have := List.getElem?_eq_getElem (l := u) (i := c) (by omega)
        rw [hub] at this; exact (Option.some.inj this).symm
      rw [hf, if_pos (by rfl), Option.bind_some, if_pos (g2.2 hn)]
    · have hg : g = false := by
        cases hg : g with
        | false => rfl
        | true => exact absurd (h.zYm (g2.1 hg) hn) hcb
      have hres : ∀ z : Bool, (if (!z) = true then some g else some false) = some false := fun z => by cases z <;> simp [hg]
      rw [hres, Option.bind_some, if_neg (by simp)]
      refine zQL h hb hm ha hn hu hub l (i + 1) (fun j hj => hl j (by simp [hj])) ?_
      rcases List.mem_cons.1 hbl with hbl | hbl
      · exact absurd (by omega) hcb
      · exact hbl
theorem zZm (h : zAR I L) (hb : zHu L) (hm : ∀ v, zB9 m v = zGO L v) {a b : Nat} (ha : a < L.length) (hn : Nx I L a b) {u : List Bool} (hu : u.length = L.length) (hub : u[b]? = some false) : JA (toS (QB L a)) m u (L.map toS) m = some (b : Int) := by
  have ma := List.mem_of_getElem? (zBD ha)
  have e1 : zDd okP m ((toS (QB L a)).to_.X, (toS (QB L a)).to_.Y) = some (zGO L (zBb (QB L a))) := zXU hm (hb.pts _ ma).2
  unfold JA
  rw [e1, Option.bind_some]
  exact zQL h hb hm ha hn hu hub _ 0 (fun _ hj => hj) (zII.2 ⟨b, hn.lt.2, zKM h hn, rfl⟩)
end
open PX Go.Sort
section
variable {I : Sq} {L : List Sd}
theorem zSa : ∀ {q : List Nat} {a c : Nat}, Cn I L a q → Nx I L (q.getLastD a) c → Cn I L a (q ++ [c])
  | [], a, c, _, h => ⟨h, trivial⟩
  | b :: q, a, c, ⟨h1, h2⟩, h => ⟨h1, zSa h2 (by cases q <;> exact h)⟩
theorem zLW : ∀ {q : List Nat} {a : Nat}, q.getLastD a ∈ a :: q
  | [], a => by simp
  | b :: q, a => by
    have : (b :: q).getLastD a = q.getLastD b := by cases q <;> rfl
    rw [this]
    exact List.mem_cons_of_mem _ zLW
theorem zND : ∀ {q : List Nat} {a : Nat}, Cn I L a q → (a :: q).Nodup → ∀ c ∈ q, ∃ p ∈ a :: q, Nx I L p c ∧ p ≠ q.getLastD a
  | b :: q, a, ⟨h1, h2⟩, hn, c, hc => by
    have e : (b :: q).getLastD a = q.getLastD b := by cases q <;> rfl
    rw [e]
    obtain ⟨n1, n2⟩ := List.nodup_cons.1 hn
    rcases List.mem_cons.1 hc with rfl | hc
    · exact ⟨a, by simp, h1, fun hh => n1 (by rw [hh]; exact zLW)⟩
    · obtain ⟨p, p1, p2, p3⟩ := zND h2 n2 c hc
      exact ⟨p, List.mem_cons_of_mem _ p1, p2, p3⟩
theorem zQB (h : zAR I L) {r : List Nat} (hr : zMa I L r) {a b : Nat} (hb : b ∈ r) (hn : Nx I L a b) : a ∈ r := by
  obtain ⟨i, q, rfl, h1, h2, h3⟩ := hr
  rcases List.mem_cons.1 hb with rfl | hb
  · rw [h.zcq hn h2]; exact zLW
  · obtain ⟨p, p1, p2, _⟩ := zND h1 h3 b hb
    rw [h.zcq hn p2]; exact p1
structure zk0 (I : Sq) (L : List Sd) (u : List Bool) (rs : List (List Nat)) : Prop where
  len : u.length = L.length
  use : ∀ a, u[a]? = some true ↔ ∃ r ∈ rs, a ∈ r
  row : ∀ r ∈ rs, zMa I L r
  once : rs.Pairwise fun r r' => ∀ a ∈ r, a ∉ r'
theorem zGb : ∀ {n : Nat} {l : List Nat}, l.Nodup → (∀ a ∈ l, a < n) → l.length ≤ n
  | 0, [], _, _ => Nat.le_refl _
  | 0, a :: l, _, h => absurd (h a (by simp)) (Nat.not_lt_zero _)
  | n + 1, l, hn, h => by
    have ih := zGb (n := n) (l := l.erase n) (hn.erase n) fun a ha => by
      obtain ⟨h1, h2⟩ := hn.mem_erase_iff.1 ha
      have := h a h2
      omega
    rw [List.length_erase] at ih
    split at ih <;> omega
theorem not_true {u : List Bool} {a : Nat} (h : a < u.length) (hn : ¬ u[a]? = some true) : u[a]? = some false := by
  rw [List.getElem?_eq_getElem h] at hn ⊢
  cases hu : u[a] with
  | true => exact absurd (congrArg some hu) hn
  | false => rfl
theorem zLp : ∀ {u : List Bool} {b : Nat}, u[b]? = some false → (u.set b true).count false + 1 = u.count false
  | [], b, h => by simp at h
  | x :: u, 0, h => by simp at h; subst h; simp
  | x :: u, b + 1, h => by
    have := zLp (u := u) (b := b) (by simpa using h)
    simp only [List.set_cons_succ, List.count_cons]
    omega
variable {m : List ((Int × Int) × List Int)}
theorem zfv {b : Nat} (h : b < L.length) : idx (L.map toS) (b : Int) = some (toS (QB L b)) := by
  unfold idx
  rw [if_pos (by omega), Int.toNat_natCast, List.getElem?_map, zBD h]; rfl
theorem zTE (h : zAR I L) (hb : zHu L) (hm : ∀ v, zB9 m v = zGO L v) {i : Nat} {rs : List (List Nat)} (hrs : ∀ r ∈ rs, zMa I L r) (hir : ∀ r ∈ rs, i ∉ r) (out : List (List zG)) (k : List Bool → List (List zG) → Option (List (List zG))) :
    ∀ (fuel : Nat) (q : List Nat) (b : Nat) (u : List Bool) (t : List Nat), q ++ [b] = i :: t → Cn I L i t → (i :: t).Nodup → (∀ a ∈ i :: t, ∀ r ∈ rs, a ∉ r) → b < L.length → (∀ a ∈ q, a < L.length) → u.length = L.length → (∀ a, u[a]? = some true ↔ (∃ r ∈ rs, a ∈ r) ∨ a ∈ q) → u.count false < fuel →
    ∃ (r : List Nat) (u' : List Bool), zMa I L r ∧ i ∈ r ∧ (∀ a ∈ r, ∀ r' ∈ rs, a ∉ r') ∧ (∀ a ∈ r, a < L.length) ∧ u'.length = L.length ∧ (∀ a, u'[a]? = some true ↔ (∃ r' ∈ rs, a ∈ r') ∨ a ∈ r) ∧ r.length ≤ L.length ∧
      Km (L.map toS) m out k (toS (QB L i)) fuel u (q.map fun a => toS (QB L a)) (b : Int) = Kn out k u' (r.map fun a => toS (QB L a))
  | 0, _, _, u, _, _, _, _, _, _, _, _, _, hf => absurd hf (Nat.not_lt_zero _)
  | fuel + 1, q, b, u, t, ht, hcn, hnd, hfree, hbl, hql, hu, huse, hf => by
    have hlast : t.getLastD i = b := by
      have e1 : (q ++ [b]).getLastD 0 = b := by simp
      rw [ht] at e1
      have e2 : (i :: t).getLastD 0 = t.getLastD i := by cases t <;> rfl
      rw [← e2, e1]
    have hbm : b ∈ i :: t := by rw [← ht]; simp
    have him : i ∈ q ++ [b] := by rw [ht]; simp
    have hil : i < L.length := by
      rcases List.mem_append.1 him with h1 | h1
      · exact hql i h1
      · rw [List.mem_singleton.1 h1]; exact hbl
    have hbq : b ∉ q := by
      rw [← ht] at hnd
      intro hh
      exact (List.nodup_append.1 hnd).2.2 b hh b (by simp) rfl
    have hub : u[b]? = some false := not_true (by omega) fun hh => by
      rcases (huse b).1 hh with ⟨r, h1, h2⟩ | h1
      · exact hfree b hbm r h1 h2
      · exact hbq h1
    have hid : idx u (b : Int) = some false := by
      unfold idx
      rw [if_pos (by omega), Int.toNat_natCast, hub]
    have hset : sets u (b : Int) true = some (u.set b true) := by
      unfold sets
      rw [if_pos (by omega), Int.toNat_natCast]
    have huse' : ∀ a, (u.set b true)[a]? = some true ↔ (∃ r ∈ rs, a ∈ r) ∨ a ∈ q ++ [b] := fun a => by
      rw [List.getElem?_set]
      by_cases hab : b = a
      · subst hab
        rw [if_pos rfl, if_pos (by omega)]
        simp
      · rw [if_neg hab, huse a]
        have : a ∈ q ++ [b] ↔ a ∈ q := by simp; exact fun hh => absurd hh.symm hab
        rw [this]
    have hql' : ∀ a ∈ q ++ [b], a < L.length := fun a ha => by
      rcases List.mem_append.1 ha with h1 | h1
      · exact hql a h1
      · rw [List.mem_singleton.1 h1]; exact hbl
    have hqn : q.length ≤ L.length := zGb (by rw [← ht] at hnd; exact (List.nodup_append.1 hnd).1) hql
    have hqn' : (q ++ [b]).length ≤ L.length := zGb (by rw [ht]; exact hnd) hql'
    have hlen := hb.len
    rw [Km.eq_2, if_pos (by simp), hid, Option.bind_some, hset, Option.bind_some, zfv hbl, Option.bind_some, Kl (by rw [List.length_map]; simp; omega), Option.bind_some, Option.bind_some]
    have hg : ∃ g, (if (Vo (toS (QB L b)).to_ (toS (QB L i)).from_) then ((some (toS (QB L b))).bind fun zRa => (JE zRa (toS (QB L i)) m).bind fun zYH => some zYH) else some false) = some g ∧ (g = true ↔ Nx I L b i) := by
      have e1 : Vo (toS (QB L b)).to_ (toS (QB L i)).from_ = decide (zBb (QB L b) = (QB L i).1.p) := zdd _ _
      rw [e1]
      by_cases hp : zBb (QB L b) = (QB L i).1.p
      · rw [if_pos (by simpa using hp)]
        obtain ⟨g, g1, g2⟩ := zRA h hb hm hbl hil hp.symm
        refine ⟨g, ?_, g2⟩
        rw [Option.bind_some, g1]; rfl
      · rw [if_neg (by simpa using hp)]
        exact ⟨false, rfl, ⟨fun hh => (nomatch hh), fun hn => absurd (zKM h hn).symm hp⟩⟩
    obtain ⟨g, g1, g2⟩ := hg
    have hmapq : (q.map fun a => toS (QB L a)) ++ [toS (QB L b)] = (q ++ [b]).map fun a => toS (QB L a) := by simp
    rw [g1, Option.bind_some, hmapq]
    by_cases hgt : g = true
    · rw [if_pos hgt]
      refine ⟨q ++ [b], u.set b true, ?_, him, fun a ha => hfree a (by rw [← ht]; exact ha), hql', by rw [List.length_set]; exact hu, huse', hqn', rfl⟩
      rw [ht]
      exact ⟨i, t, rfl, hcn, by rw [hlast]; exact g2.1 hgt, hnd⟩
    · rw [if_neg hgt]
      obtain ⟨c, hc, hn⟩ := h.next hbl
      have hcr : ∀ r ∈ rs, c ∉ r := fun r hr hh => hfree b hbm r hr (zQB h (hrs r hr) hh hn)
      have hcq : c ∉ i :: t := fun hh => by
        rcases List.mem_cons.1 hh with rfl | hh
        · exact hgt (g2.2 hn)
        · obtain ⟨p, p1, p2, p3⟩ := zND hcn hnd c hh
          rw [hlast] at p3
          exact p3 (h.zcq p2 hn)
      have huc : (u.set b true)[c]? = some false := not_true (by rw [List.length_set]; omega) fun hh => by
        rcases (huse' c).1 hh with ⟨r, h1, h2⟩ | h1
        · exact hcr r h1 h2
        · rw [ht] at h1; exact hcq h1
      rw [Option.bind_some, zZm h hb hm hbl hn (by rw [List.length_set]; exact hu) huc, Option.bind_some]
      have hcnt := zLp hub
      exact zTE h hb hm hrs hir out k fuel (q ++ [b]) c (u.set b true) (t ++ [c]) (by rw [ht]; rfl) (zSa hcn (by rw [hlast]; exact hn))
        (by rw [← List.cons_append]; exact List.nodup_append.2 ⟨hnd, by simp, fun x hx y hy => by rw [List.mem_singleton.1 hy]; exact fun e => hcq (e ▸ hx)⟩)
        (fun a ha r hr hh => by
          rw [← List.cons_append] at ha
          rcases List.mem_append.1 ha with h1 | h1
          · exact hfree a h1 r hr hh
          · rw [List.mem_singleton.1 h1] at hh; exact hcr r hr hh) hc hql' (by rw [List.length_set]; exact hu) huse' (by omega)
theorem zUH (h : zAR I L) {r : List Nat} (hr : zMa I L r) : cns L (QB L (r.getLastD 0)).1.d r ≠ [] := fun hh => by
  obtain ⟨B, hB⟩ := h.fin
  obtain ⟨e, e1, e2, _⟩ := zDD h hr
  obtain ⟨t, ht⟩ := e2.head hB e1
  unfold zAz at ht
  rw [hh] at ht
  cases ht
def told (L : List Sd) (rs : List (List Nat)) : List (List zG) := (rs.map (zAz L)).map (List.map Ke)
theorem zPD (h : zAR I L) (hb : zHu L) (hm : ∀ v, zB9 m v = zGO L v) {N : Nat} (hN : L.length < N) : ∀ (suf q : List Sd) (u : List Bool) (rs : List (List Nat)), L = q ++ suf → zk0 I L u rs → (∀ a, a < q.length → ∃ r ∈ rs, a ∈ r) → rs.length ≤ q.length →
    ∃ rs', zIX I L rs' ∧ QH N (L.map toS) m (suf.map toS) q.length u (told L rs) = zNl (told L rs') Qd
  | [], q, u, rs, hL, inv, hall, _ => by
    rw [List.append_nil] at hL
    subst hL
    refine ⟨rs, ⟨inv.row, hall, inv.once⟩, ?_⟩
    show QH _ _ _ [] _ _ _ = _
    rw [QH.eq_1]
    show (zNl (told L rs) Qd).bind some = _
    cases zNl (told L rs) Qd <;> rfl
  | s :: suf, q, u, rs, hL, inv, hall, hrs => by
    have hg : L[q.length]? = some s := by rw [hL]; simp
    have hil := (List.getElem?_eq_some_iff.1 hg).1
    have hlen := hb.len
    have hu := inv.len
    rw [List.map_cons, QH.eq_2, zDe (l := u) (i := q.length) (by omega), Option.bind_some]
    by_cases hx : u[q.length] = true
    · rw [if_pos hx]
      obtain ⟨rs', h1, h2⟩ := zPD h hb hm hN suf (q ++ [s]) u rs (by rw [hL]; simp) inv (fun a ha => by
        rw [List.length_append, List.length_singleton] at ha
        rcases Nat.lt_or_ge a q.length with h3 | h3
        · exact hall a h3
        · have : a = q.length := by omega
          subst this
          exact (inv.use _).1 (by rw [List.getElem?_eq_getElem (by omega), hx])) (by simp; omega)
      rw [List.length_append] at h2
      exact ⟨rs', h1, h2⟩
    · rw [if_neg hx]
      have hir : ∀ r ∈ rs, q.length ∉ r := fun r hr hh => by
        have := (inv.use q.length).2 ⟨r, hr, hh⟩
        rw [List.getElem?_eq_getElem (by omega)] at this
        exact hx (Option.some.inj this)
      have hcl : u.count false ≤ u.length := List.count_le_length
      obtain ⟨r, u', r1, r2, r3, r4, r5, r6, r7, r8⟩ := zTE h hb hm inv.row hir (told L rs) (QH N (L.map toS) m (suf.map toS) (q.length + 1)) N [] q.length u [] rfl trivial (by simp) (fun a ha r hr => by
        rw [List.mem_singleton.1 ha]; exact hir r hr) hil (fun a ha => (nomatch ha)) hu (fun a => by rw [inv.use a]; simp) (by omega)
      have e1 : QB L q.length = s := Wl hg
      rw [e1] at r8
      rw [List.map_nil] at r8
      rw [r8]
      unfold Kn
      have hout : (rs.map (zAz L)).map (List.map Ke) ++ [(zAz L r).map Ke] = told L (rs ++ [r]) := by unfold told; simp
      rw [zWH h hb r4 (by omega) (zUH h r1), Option.bind_some, Kl (by unfold told; simp; omega), Option.bind_some]
      show ∃ rs', _ ∧ QH N (L.map toS) m (suf.map toS) (q.length + 1) u' ((rs.map (zAz L)).map (List.map Ke) ++ [(zAz L r).map Ke]) = _
      rw [hout]
      obtain ⟨rs', h1, h2⟩ := zPD h hb hm hN suf (q ++ [s]) u' (rs ++ [r]) (by rw [hL]; simp) ⟨r5, fun a => by
          rw [r6 a]
          constructor
          · rintro (⟨r', g1, g2⟩ | g1)
            · exact ⟨r', by simp [g1], g2⟩
            · exact ⟨r, by simp, g1⟩
          · rintro ⟨r', g1, g2⟩
            rcases List.mem_append.1 g1 with g1 | g1
            · exact .inl ⟨r', g1, g2⟩
            · rw [List.mem_singleton.1 g1] at g2; exact .inr g2, fun r' hr' => by
          rcases List.mem_append.1 hr' with g1 | g1
          · exact inv.row r' g1
          · rw [List.mem_singleton.1 g1]; exact r1, List.pairwise_append.2 ⟨inv.once, by simp, fun x hx y hy a ha hh => by
          rw [List.mem_singleton.1 hy] at hh
          exact r3 a hh x hx ha⟩⟩ (fun a ha => by
        rw [List.length_append, List.length_singleton] at ha
        rcases Nat.lt_or_ge a q.length with h3 | h3
        · obtain ⟨r', g1, g2⟩ := hall a h3
          exact ⟨r', by simp [g1], g2⟩
        · have : a = q.length := by omega
          subst this
          exact ⟨r, by simp, r2⟩) (by simp; omega)
      rw [List.length_append] at h2
      exact ⟨rs', h1, h2⟩
theorem zkw {l m : List (Int × Int)} {p q p1 q1 : Int × Int} {r s : List (Int × Int)} (hl : l = p :: p1 :: r) (hm : m = q :: q1 :: s) (hne : p = q → l = m) : Qd (l.map Ke) (m.map Ke) = some (if pl p q then -1 else 1) := by
  subst hl; subst hm
  unfold Qd
  have i0 : ∀ (a b : zG) (t : List zG), idx (a :: b :: t) 0 = some a := fun a b t => by unfold idx; simp
  have i1 : ∀ (a b : zG) (t : List zG), idx (a :: b :: t) 1 = some b := fun a b t => by unfold idx; simp
  simp only [List.map_cons, i0, i1, Option.bind_some, zW1, zdd]
  by_cases h1 : pl p q
  · simp [h1, Jr]
  · simp only [h1, decide_false, Bool.false_eq_true, if_false]
    by_cases h2 : p = q
    · have h3 := hne h2
      simp only [List.cons.injEq] at h3
      obtain ⟨_, h4, _⟩ := h3
      subst h4
      simp [h2, zDE, Jr]
    · simp [h2, Jr]
theorem zVK {α β : Type} {f : α → β} : ∀ {l : List α}, l.Pairwise (fun a b => f a ≠ f b) → ∀ a ∈ l, ∀ b ∈ l, f a = f b → a = b
  | x :: l, h, a, ha, b, hb, e => by
    obtain ⟨h1, h2⟩ := List.pairwise_cons.1 h
    rcases List.mem_cons.1 ha with ea | ea
    · rcases List.mem_cons.1 hb with eb | eb
      · rw [ea, eb]
      · rw [ea] at e; exact absurd e (h1 b eb)
    · rcases List.mem_cons.1 hb with eb | eb
      · rw [eb] at e; exact absurd e.symm (h1 a ea)
      · exact zVK h2 a ea b eb e
theorem zRg {l : List (Int × Int)} (h : 4 ≤ l.length) : ∃ q r, l = l.headD (0, 0) :: q :: r := by
  match l, h with
  | p :: q :: r, _ => exact ⟨q, r, rfl⟩
theorem zcu {β : Type} {c : β → β → Option Int} {x y : β} {k : Int} (h : c x y = some k) : ltC c x y = decide (k < 0) := by unfold ltC; rw [h]; rfl
theorem zcc {lo : List (List (Int × Int))} (hlen : lo.length ≤ 100000000) (h4 : ∀ l ∈ lo, 4 ≤ l.length) (hh : lo.Pairwise fun a b => a.headD (0, 0) ≠ b.headD (0, 0)) :
    ∃ ls : List (List (Int × Int)), ls.Perm lo ∧ (ls.Pairwise fun a b => pl (a.headD (0, 0)) (b.headD (0, 0))) ∧ zNl (lo.map (List.map Ke)) Qd = some (ls.map (List.map Ke)) := by
  have hc : ∀ a ∈ lo, ∀ b ∈ lo, Qd (a.map Ke) (b.map Ke) = some (if pl (a.headD (0, 0)) (b.headD (0, 0)) then -1 else 1) := fun a ha b hb => by
    obtain ⟨q, r, e1⟩ := zRg (h4 a ha)
    obtain ⟨q', r', e2⟩ := zRg (h4 b hb)
    exact zkw e1 e2 (zVK hh a ha b hb)
  have hlt : ∀ a ∈ lo, ∀ b ∈ lo, ltC Qd (a.map Ke) (b.map Ke) = decide (pl (a.headD (0, 0)) (b.headD (0, 0))) := fun a ha b hb => by
    rw [zcu (hc a ha b hb)]
    by_cases hp : pl (a.headD (0, 0)) (b.headD (0, 0))
    · rw [if_pos hp, decide_eq_true hp]; rfl
    · rw [if_neg hp, decide_eq_false hp]; rfl
  have hmm : ∀ {x}, x ∈ lo.map (List.map Ke) → ∃ a ∈ lo, a.map Ke = x := fun hx => by
    obtain ⟨a, h1, h2⟩ := List.mem_map.1 hx; exact ⟨a, h1, h2⟩
  have hok : zDr Qd (lo.map (List.map Ke)) := by
    refine ⟨by rw [List.length_map]; omega, fun x hx y hy => ?_, fun x hx => ?_, fun x hx y hy z hz g1 g2 => ?_, fun x hx y hy z hz g1 g2 => ?_⟩
    · obtain ⟨a, ha, rfl⟩ := hmm hx
      obtain ⟨b, hb, rfl⟩ := hmm hy
      exact ⟨_, hc a ha b hb⟩
    · obtain ⟨a, ha, rfl⟩ := hmm hx
      rw [hlt a ha a ha]
      exact decide_eq_false (zDE _)
    · obtain ⟨a, ha, rfl⟩ := hmm hx
      obtain ⟨b, hb, rfl⟩ := hmm hy
      obtain ⟨c, hc', rfl⟩ := hmm hz
      rw [hlt a ha b hb] at g1
      rw [hlt b hb c hc'] at g2
      rw [hlt a ha c hc']
      exact decide_eq_true (zH9 (of_decide_eq_true g1) (of_decide_eq_true g2))
    · obtain ⟨a, ha, rfl⟩ := hmm hx
      obtain ⟨b, hb, rfl⟩ := hmm hy
      obtain ⟨c, hc', rfl⟩ := hmm hz
      rw [hlt a ha b hb] at g1
      rw [hlt b hb c hc'] at g2
      rw [hlt a ha c hc']
      have g1 := of_decide_eq_false g1
      have g2 := of_decide_eq_false g2
      refine decide_eq_false fun g3 => ?_
      rcases zGa (b.headD (0, 0)) (c.headD (0, 0)) with h5 | h5 | h5
      · exact g2 h5
      · rw [← h5] at g3; exact g1 g3
      · exact g1 (zH9 g3 h5)
  have hap : Apart Qd (lo.map (List.map Ke)) := fun x hx y hy g1 g2 => by
    obtain ⟨a, ha, rfl⟩ := hmm hx
    obtain ⟨b, hb, rfl⟩ := hmm hy
    rw [hlt a ha b hb] at g1
    rw [hlt b hb a ha] at g2
    have g1 := of_decide_eq_false g1
    have g2 := of_decide_eq_false g2
    rcases zGa (a.headD (0, 0)) (b.headD (0, 0)) with h5 | h5 | h5
    · exact absurd h5 g1
    · rw [zVK hh a ha b hb h5]
    · exact absurd h5 g2
  obtain ⟨r, hr⟩ := zca hok hap
  obtain ⟨_, _, hp, hs⟩ := zP2 hr
  have hback : ∀ l : List (Int × Int), (l.map Ke).map zRy = l := fun l => by rw [List.map_map]; exact List.map_id _
  have hforth : ∀ l : List zG, (l.map zRy).map Ke = l := fun l => by rw [List.map_map]; exact List.map_id _
  have hrr : (r.map (List.map zRy)).map (List.map Ke) = r := by
    rw [List.map_map]
    have : (List.map Ke ∘ List.map zRy) = id := funext hforth
    rw [this, List.map_id]
  have hperm : (r.map (List.map zRy)).Perm lo := by
    have := hp.map (List.map zRy)
    rw [List.map_map] at this
    have e : (List.map zRy ∘ List.map Ke) = id := funext hback
    rwa [e, List.map_id] at this
  refine ⟨r.map (List.map zRy), hperm, ?_, by rw [hrr]; exact hr⟩
  rw [← hrr, List.pairwise_map] at hs
  have hd : (r.map (List.map zRy)).Pairwise fun a b => a.headD (0, 0) ≠ b.headD (0, 0) := hperm.symm.pairwise hh fun {a b} g e => g e.symm
  refine (hs.and hd).imp_of_mem fun {a b} ha hb ⟨g1, g2⟩ => ?_
  rw [hlt b (hperm.mem_iff.1 hb) a (hperm.mem_iff.1 ha)] at g1
  have g1 := of_decide_eq_false g1
  rcases zGa (a.headD (0, 0)) (b.headD (0, 0)) with h5 | h5 | h5
  · exact h5
  · exact absurd h5 g2
  · exact absurd h5 g1
theorem zPy (h : zAR I L) {rs : List (List Nat)} (hr : ∀ r ∈ rs, zMa I L r) : ∀ l ∈ rs.map (zAz L), 4 ≤ l.length := fun l hl => by
  obtain ⟨B, hB⟩ := h.fin
  obtain ⟨r, h1, rfl⟩ := List.mem_map.1 hl
  obtain ⟨e, e1, ⟨n, e2, e3⟩, _⟩ := zDD h (hr r h1)
  rw [e3]
  exact (zRr hB e1 e2).len
theorem zZh (h : zAR I L) {rs : List (List Nat)} (hr : zIX I L rs) : rs.length ≤ L.length := by
  have h1 : (rs.map fun r => r.headD 0).Nodup := by
    rw [List.Nodup, List.pairwise_map]
    refine List.Pairwise.imp_of_mem (R := fun r r' => ∀ a ∈ r, a ∉ r') (fun {r r'} h1 h2 hd he => ?_) hr.once
    obtain ⟨a, q, rfl, _⟩ := hr.row r h1
    obtain ⟨b, q', rfl, _⟩ := hr.row r' h2
    exact hd a (by simp) (by have : a = b := he; rw [this]; simp)
  have h2 := zGb (n := L.length) h1 fun a ha => by
    obtain ⟨r, g1, rfl⟩ := List.mem_map.1 ha
    obtain ⟨b, q, rfl, _, hn, _⟩ := hr.row r g1
    exact hn.lt.2
  rwa [List.length_map] at h2
theorem zWN (h : zAR I L) (hb : zHu L) {N : Nat} (hN : L.length < N) : ∃ ls, zPs I ls ∧ ls.length ≤ L.length ∧ Qs N (L.map toS) (L.map toS) 0 [] = some (ls.map (List.map Ke)) := by
  obtain ⟨m', h1, h2⟩ := zTS hb N L [] [] rfl (fun v => by simp [zB9])
  have hlen := hb.len
  rw [List.length_nil] at h2
  rw [h2]
  have hmk : (mkl false ((L.map toS).length : Int)) = some (List.replicate L.length false) := by
    unfold mkl
    rw [if_pos (by simp; omega)]
    simp
  rw [hmk, Option.bind_some]
  obtain ⟨rs, r1, r2⟩ := zPD h hb h1 hN L [] (List.replicate L.length false) [] rfl ⟨by simp, fun a => by simp [List.getElem?_replicate], fun r hr => (nomatch hr), .nil⟩ (fun a ha => (nomatch ha)) (Nat.le_refl _)
  rw [List.length_nil] at r2
  have e0 : told L [] = [] := rfl
  rw [e0] at r2
  rw [r2]
  have hrl := zZh h r1
  obtain ⟨ls, l1, l2, l3⟩ := zcc (lo := rs.map (zAz L)) (by rw [List.length_map]; omega) (zPy h r1.row) (r1.heads h)
  exact ⟨ls, r1.outs h l1 l2, by rw [l1.length_eq, List.length_map]; exact hrl, l3⟩
end
theorem zUG (zs : List Int) (x : Int) : x ∈ Lib.compact zs ↔ x ∈ zs := by
  unfold Lib.compact Lib.compactUpTo
  constructor
  · intro h
    obtain ⟨j, hj, rfl⟩ := List.mem_map.1 h
    have hj := List.mem_range.1 (List.mem_filter.1 hj).1
    show zs.toArray[j]! ∈ zs
    rw [getElem!_pos zs.toArray j (by simpa using hj)]
    simp
  · intro h
    have key : ∀ (j : Nat), (hj : j < zs.length) → ∃ i, i < zs.length ∧ Lib.keeps zs.toArray i = true ∧ zs.toArray[i]! = zs[j] := by
      intro j
      induction j with
      | zero => intro hj; exact ⟨0, hj, Lib.keeps_lt_one _ 0 (by omega), by rw [getElem!_pos zs.toArray 0 (by simpa using hj)]; simp⟩
      | succ j ih =>
        intro hj
        by_cases hk : Lib.keeps zs.toArray (j + 1) = true
        · exact ⟨j + 1, hj, hk, by rw [getElem!_pos zs.toArray (j + 1) (by simpa using hj)]; simp⟩
        · have he : zs.toArray[j + 1]! = zs.toArray[j]! := by
            unfold Lib.keeps at hk
            simp at hk
            simpa using hk
          rw [getElem!_pos zs.toArray (j + 1) (by simpa using hj), getElem!_pos zs.toArray j (by simp; omega)] at he
          simp at he
          obtain ⟨i, h1, h2, h3⟩ := ih (by omega)
          exact ⟨i, h1, h2, by rw [h3, he]⟩
    obtain ⟨j, hj, rfl⟩ := List.mem_iff_getElem.1 h
    obtain ⟨i, h1, h2, h3⟩ := key j hj
    exact List.mem_map.2 ⟨i, List.mem_filter.2 ⟨List.mem_range.2 h1, h2⟩, h3⟩
theorem zO6 {zs : List Int} (h : zs.Pairwise fun x y => x ≤ y) : (Lib.compact zs).Pairwise fun x y => x < y := by
  unfold Lib.compact Lib.compactUpTo
  rw [List.pairwise_map]
  have hr : ((List.range zs.length).filter (Lib.keeps zs.toArray)).Pairwise (fun i j => i < j) := (List.pairwise_lt_range).filter _
  refine List.Pairwise.imp_of_mem (fun {i j} hi hj hij => ?_) hr
  have hj1 := List.mem_range.1 (List.mem_filter.1 hj).1
  have hj2 := (List.mem_filter.1 hj).2
  show zs.toArray[i]! < zs.toArray[j]!
  unfold Lib.keeps at hj2
  simp at hj2
  have hne : zs.toArray[j]! ≠ zs.toArray[j - 1]! := by
    rcases hj2 with h0 | h0
    · omega
    · simpa using h0
  rw [getElem!_pos zs.toArray j (by simpa using hj1), getElem!_pos zs.toArray (j - 1) (by simp; omega)] at hne
  rw [getElem!_pos zs.toArray j (by simpa using hj1), getElem!_pos zs.toArray i (by simp; omega)]
  simp at hne ⊢
  rw [List.pairwise_iff_getElem] at h
  have a1 : zs[j - 1] ≤ zs[j] := h (j - 1) j (by omega) hj1 (by omega)
  have a2 : zs[i] ≤ zs[j - 1] := by
    rcases Nat.lt_or_eq_of_le (show i ≤ j - 1 by omega) with hlt | heq
    · exact h i (j - 1) (by omega) (by omega) hlt
    · subst heq; exact Int.le_refl _
  omega
def QP (l : List Int) : List Int := Lib.compact (l.mergeSort fun x y => decide (x ≤ y))
theorem Vd (l : List Int) (x : Int) : x ∈ QP l ↔ x ∈ l := by
  unfold QP
  rw [zUG]
  exact (List.mergeSort_perm l _).mem_iff
theorem JG (l : List Int) : (QP l).Pairwise fun x y => x < y := by
  unfold QP
  refine zO6 ?_
  have := List.pairwise_mergeSort (le := fun x y : Int => decide (x ≤ y)) (fun a b c h1 h2 => by simp at *; omega) (fun a b => by simp; omega) l
  exact this.imp (by simp)
theorem zWi {l : List Int} (h : l.length < 4611686018427387904) : ((zPd l).bind fun y => cpI y) = some (QP l) := by
  unfold zPd cpI QP
  rw [if_pos h]; rfl
theorem zRj {l : List Int} (h : l.length < 4611686018427387904) : zPd l = some (l.mergeSort fun x y => decide (x ≤ y)) := if_pos h
def Can : Int → List (Int × Int) → Prop
  | _, [] => True
  | lo, p :: l => lo < p.1 ∧ p.1 < p.2 ∧ Can p.2 l
def InS (x : Int) (l : List (Int × Int)) : Prop := ∃ p ∈ l, p.1 ≤ x ∧ x < p.2
theorem VX {x : Int} {p : Int × Int} {l : List (Int × Int)} : InS x (p :: l) ↔ (p.1 ≤ x ∧ x < p.2) ∨ InS x l := by unfold InS; simp
theorem VF {x : Int} : ¬ InS x [] := by unfold InS; simp
theorem zBS {x : Int} {l m : List (Int × Int)} : InS x (l ++ m) ↔ InS x l ∨ InS x m := by
  unfold InS
  constructor
  · rintro ⟨p, hp, h⟩
    rcases List.mem_append.1 hp with hp | hp
    · exact .inl ⟨p, hp, h⟩
    · exact .inr ⟨p, hp, h⟩
  · rintro (⟨p, hp, h⟩ | ⟨p, hp, h⟩)
    · exact ⟨p, List.mem_append_left _ hp, h⟩
    · exact ⟨p, List.mem_append_right _ hp, h⟩
theorem Can.lt : ∀ {l : List (Int × Int)} {lo x : Int}, Can lo l → InS x l → lo < x
  | [], _, _, _, h => absurd h VF
  | p :: l, lo, x, h, hx => by
    obtain ⟨h1, h2, h3⟩ := h
    rcases VX.1 hx with hx | hx
    · omega
    · have := h3.lt hx; omega
theorem Can.mono {l : List (Int × Int)} {lo lo' : Int} (h : Can lo l) (hl : lo' ≤ lo) : Can lo' l := by
  cases l with
  | nil => trivial
  | cons p l => exact ⟨by have := h.1; omega, h.2⟩
theorem Can.uniq : ∀ {l m : List (Int × Int)} {lo lo' : Int}, Can lo l → Can lo' m → (∀ x, InS x l ↔ InS x m) → l = m
  | [], [], _, _, _, _, _ => rfl
  | [], p :: m, _, _, _, h2, h => absurd ((h p.1).2 (VX.2 (.inl ⟨Int.le_refl _, h2.2.1⟩))) VF
  | p :: l, [], _, _, h1, _, h => absurd ((h p.1).1 (VX.2 (.inl ⟨Int.le_refl _, h1.2.1⟩))) VF
  | p :: l, q :: m, lo, lo', h1, h2, h => by
    obtain ⟨a1, a2, a3⟩ := h1
    obtain ⟨b1, b2, b3⟩ := h2
    have c1 : q.1 ≤ p.1 := by
      rcases VX.1 ((h p.1).1 (VX.2 (.inl ⟨Int.le_refl _, a2⟩))) with hx | hx
      · exact hx.1
      · have := b3.lt hx; omega
    have c2 : p.1 ≤ q.1 := by
      rcases VX.1 ((h q.1).2 (VX.2 (.inl ⟨Int.le_refl _, b2⟩))) with hx | hx
      · exact hx.1
      · have := a3.lt hx; omega
    have c3 : ¬ p.2 < q.2 := fun hlt => by
      rcases VX.1 ((h p.2).2 (VX.2 (.inl ⟨by omega, hlt⟩))) with hx | hx
      · omega
      · have := a3.lt hx; omega
    have c4 : ¬ q.2 < p.2 := fun hlt => by
      rcases VX.1 ((h q.2).1 (VX.2 (.inl ⟨by omega, hlt⟩))) with hx | hx
      · omega
      · have := b3.lt hx; omega
    have hpq : p = q := by obtain ⟨a, b⟩ := p; obtain ⟨c, d⟩ := q; simp only at *; congr 1 <;> omega
    subst hpq
    have hlm : l = m := a3.uniq b3 fun x => by
      constructor
      · intro hx
        have hlt := a3.lt hx
        rcases VX.1 ((h x).1 (VX.2 (.inr hx))) with h' | h'
        · omega
        · exact h'
      · intro hx
        have hlt := b3.lt hx
        rcases VX.1 ((h x).2 (VX.2 (.inr hx))) with h' | h'
        · omega
        · exact h'
    rw [hlm]
theorem Can.snoc : ∀ {l : List (Int × Int)} {lo : Int} {p : Int × Int}, Can lo l → (∀ q ∈ l, q.2 < p.1) → lo < p.1 → p.1 < p.2 → Can lo (l ++ [p])
  | [], _, _, _, _, h1, h2 => ⟨h1, h2, trivial⟩
  | q :: l, lo, p, h, hq, h1, h2 => ⟨h.1, h.2.1, h.2.2.snoc (fun r hr => hq r (by simp [hr])) (hq q (by simp)) h2⟩
theorem Can.init : ∀ {l : List (Int × Int)} {lo : Int} {p : Int × Int}, Can lo (l ++ [p]) → Can lo l ∧ (∀ q ∈ l, q.2 < p.1) ∧ lo < p.1 ∧ p.1 < p.2
  | [], _, _, h => ⟨trivial, by simp, h.1, h.2.1⟩
  | q :: l, lo, p, h => by
    obtain ⟨i1, i2, i3, i4⟩ := Can.init (l := l) h.2.2
    have := h.1; have := h.2.1
    refine ⟨⟨h.1, h.2.1, i1⟩, fun r hr => ?_, by omega, i4⟩
    rcases List.mem_cons.1 hr with rfl | hr
    · exact i3
    · exact i2 r hr
def Qf (l : List (Int × Int)) : List Int := l.flatMap fun p => [p.1, p.2]
theorem zFG : Qf [] = [] := rfl
theorem zA2 (p : Int × Int) (l : List (Int × Int)) : Qf (p :: l) = p.1 :: p.2 :: Qf l := rfl
theorem zCj (l m : List (Int × Int)) : Qf (l ++ m) = Qf l ++ Qf m := by unfold Qf; rw [List.flatMap_append]
theorem Kr : ∀ l : List (Int × Int), (Qf l).length = 2 * l.length
  | [] => rfl
  | p :: l => by rw [zA2, List.length_cons, List.length_cons, Kr l, List.length_cons]; omega
theorem zQ3 : ∀ {l m : List (Int × Int)}, Qf l = Qf m → l = m
  | [], [], _ => rfl
  | [], q :: m, h => by rw [zFG, zA2] at h; cases h
  | p :: l, [], h => by rw [zFG, zA2] at h; cases h
  | p :: l, q :: m, h => by
    rw [zA2, zA2] at h
    injection h with h1 h
    injection h with h2 h
    rw [zQ3 h]
    congr 1
    obtain ⟨a, b⟩ := p; obtain ⟨c, d⟩ := q
    simp only at h1 h2
    rw [h1, h2]
def zO3 (l : List (Int × Int)) (p : Int × Int) : List (Int × Int) :=
  match l.getLast? with
  | none => [p]
  | some q => if p.1 ≤ q.2 then l.dropLast ++ [(q.1, max q.2 p.2)] else l ++ [p]
theorem zUA (p : Int × Int) : zO3 [] p = [p] := rfl
theorem zQ4 (l : List (Int × Int)) (q p : Int × Int) : zO3 (l ++ [q]) p = if p.1 ≤ q.2 then l ++ [(q.1, max q.2 p.2)] else l ++ [q] ++ [p] := by
  unfold zO3
  simp
theorem zdc {lo : Int} {l done : List (Int × Int)} {p : Int × Int} (hc : Can lo l) (hm : ∀ x, InS x l ↔ InS x done) (hlast : ∀ q ∈ l, q.1 ≤ p.1) (hlo : lo < p.1) (hp : p.1 < p.2) :
    Can lo (zO3 l p) ∧ (∀ x, InS x (zO3 l p) ↔ InS x (done ++ [p])) ∧ ∀ q ∈ zO3 l p, q.1 ≤ p.1 := by
  have hsplit : l = [] ∨ ∃ i q, l = i ++ [q] := by
    rcases List.eq_nil_or_concat l with h | ⟨i, q, h⟩
    · exact .inl h
    · exact .inr ⟨i, q, by simpa using h⟩
  rcases hsplit with rfl | ⟨i, q, rfl⟩
  · rw [zUA]
    refine ⟨⟨hlo, hp, trivial⟩, fun x => ?_, by simp⟩
    rw [zBS, ← hm x]
    exact ⟨fun h => .inr h, fun h => h.resolve_left VF⟩
  · obtain ⟨c1, c2, c3, c4⟩ := hc.init
    have hq := hlast q (by simp)
    rw [zQ4]
    by_cases hle : p.1 ≤ q.2
    · rw [if_pos hle]
      refine ⟨c1.snoc (p := (q.1, max q.2 p.2)) c2 c3 (by show q.1 < max q.2 p.2; omega), fun x => ?_, fun r hr => ?_⟩
      · rw [zBS, zBS (l := done), ← hm x, zBS]
        have e1 : InS x [(q.1, max q.2 p.2)] ↔ (q.1 ≤ x ∧ x < max q.2 p.2) := by unfold InS; simp
        have e2 : InS x [q] ↔ (q.1 ≤ x ∧ x < q.2) := by unfold InS; simp
        have e3 : InS x [p] ↔ (p.1 ≤ x ∧ x < p.2) := by unfold InS; simp
        rw [e1, e2, e3]
        constructor
        · rintro (h | h)
          · exact .inl (.inl h)
          · by_cases hx : x < q.2
            · exact .inl (.inr ⟨h.1, hx⟩)
            · exact .inr ⟨by omega, by omega⟩
        · rintro ((h | h) | h)
          · exact .inl h
          · exact .inr ⟨h.1, by omega⟩
          · exact .inr ⟨by omega, by omega⟩
      · rcases List.mem_append.1 hr with hr | hr
        · have := c2 r hr; exact hlast r (by simp [hr])
        · simp at hr; subst hr; exact hq
    · rw [if_neg hle]
      refine ⟨hc.snoc (fun r hr => ?_) hlo hp, fun x => ?_, fun r hr => ?_⟩
      · rcases List.mem_append.1 hr with hr | hr
        · have := c2 r hr; omega
        · simp at hr; subst hr; omega
      · rw [zBS, zBS (l := done), hm x]
      · rcases List.mem_append.1 hr with hr | hr
        · exact hlast r hr
        · simp at hr; subst hr; exact Int.le_refl _
theorem zXe {lo : Int} : ∀ (suf : List (Int × Int)) (l done : List (Int × Int)), Can lo l → (∀ x, InS x l ↔ InS x done) → (∀ p ∈ suf, ∀ q ∈ l, q.1 ≤ p.1) → suf.Pairwise (fun p q => p.1 ≤ q.1) → (∀ p ∈ suf, lo < p.1 ∧ p.1 < p.2) →
    Can lo (suf.foldl zO3 l) ∧ ∀ x, InS x (suf.foldl zO3 l) ↔ InS x (done ++ suf)
  | [], l, done, h1, h2, _, _, _ => ⟨h1, by simpa using h2⟩
  | p :: suf, l, done, h1, h2, h3, h4, h5 => by
    obtain ⟨s1, s2, s3⟩ := zdc h1 h2 (h3 p (by simp)) (h5 p (by simp)).1 (h5 p (by simp)).2
    rw [List.pairwise_cons] at h4
    have := zXe suf (zO3 l p) (done ++ [p]) s1 s2 (fun r hr q hq => Int.le_trans (s3 q hq) (h4.1 r hr)) h4.2 (fun r hr => h5 r (by simp [hr]))
    simpa using this
def zEm : Int → Int → List (Int × Int) → List (Int × Int)
  | a, b, [] => [(a, b)]
  | a, b, q :: l => if q.1 ≤ b then zEm (min a q.1) (max b q.2) l else (a, b) :: q :: l
def zCY : List (Int × Int) → Int × Int → List (Int × Int)
  | [], p => [p]
  | q :: l, p => if q.2 < p.1 then q :: zCY l p else zEm p.1 p.2 (q :: l)
theorem zQT : ∀ {l : List (Int × Int)} {lo a b : Int}, lo < a → a < b → (∀ q ∈ l, lo < q.1) → (∀ q ∈ l, a ≤ q.2) → (∃ lo', Can lo' l) → Can lo (zEm a b l) ∧ ∀ x, InS x (zEm a b l) ↔ (a ≤ x ∧ x < b) ∨ InS x l
  | [], lo, a, b, h1, h2, _, _, _ => ⟨⟨h1, h2, trivial⟩, fun x => by unfold zEm; rw [VX]⟩
  | q :: l, lo, a, b, h1, h2, h3, h5, ⟨lo', h4⟩ => by
    have hq := h3 q (by simp)
    have hov := h5 q (by simp)
    have hq2 := h4.2.1
    unfold zEm
    by_cases hle : q.1 ≤ b
    · rw [if_pos hle]
      obtain ⟨i1, i2⟩ := zQT (l := l) (lo := lo) (a := min a q.1) (b := max b q.2) (by omega) (by omega) (fun r hr => h3 r (by simp [hr])) (fun r hr => by have := h5 r (by simp [hr]); omega) ⟨q.2, h4.2.2⟩
      refine ⟨i1, fun x => ?_⟩
      rw [i2, VX]
      constructor
      · rintro (h | h)
        · by_cases h' : a ≤ x ∧ x < b
          · exact .inl h'
          · exact .inr (.inl ⟨by omega, by omega⟩)
        · exact .inr (.inr h)
      · rintro (h | h | h)
        · exact .inl ⟨by omega, by omega⟩
        · exact .inl ⟨by omega, by omega⟩
        · exact .inr h
    · rw [if_neg hle]
      refine ⟨⟨h1, h2, by omega, hq2, h4.2.2⟩, fun x => ?_⟩
      rw [VX]
theorem Can.mem : ∀ {l : List (Int × Int)} {lo : Int}, Can lo l → ∀ q ∈ l, lo < q.1 ∧ q.1 < q.2
  | [], _, _, q, h => by simp at h
  | p :: l, lo, h, q, hq => by
    rcases List.mem_cons.1 hq with rfl | hq
    · exact ⟨h.1, h.2.1⟩
    · have := h.2.2.mem q hq
      have := h.1; have := h.2.1
      omega
theorem zOJ : ∀ {l : List (Int × Int)} {lo : Int} {p : Int × Int}, Can lo l → lo < p.1 → p.1 < p.2 → Can lo (zCY l p) ∧ ∀ x, InS x (zCY l p) ↔ InS x (l ++ [p])
  | [], lo, p, _, h1, h2 => ⟨⟨h1, h2, trivial⟩, fun x => Iff.rfl⟩
  | q :: l, lo, p, h, h1, h2 => by
    unfold zCY
    by_cases hlt : q.2 < p.1
    · rw [if_pos hlt]
      obtain ⟨i1, i2⟩ := zOJ (l := l) (lo := q.2) (p := p) h.2.2 hlt h2
      refine ⟨⟨h.1, h.2.1, i1⟩, fun x => ?_⟩
      rw [VX, i2, List.cons_append, VX]
    · rw [if_neg hlt]
      obtain ⟨i1, i2⟩ := zQT (l := q :: l) (lo := lo) (a := p.1) (b := p.2) h1 h2 (fun r hr => (h.mem r hr).1) (fun r hr => by
        rcases List.mem_cons.1 hr with rfl | hr
        · omega
        · have := h.2.2.mem r hr; omega) ⟨lo, h⟩
      refine ⟨i1, fun x => ?_⟩
      rw [i2, zBS]
      have e : InS x [p] ↔ (p.1 ≤ x ∧ x < p.2) := by unfold InS; simp
      rw [e]
      exact or_comm
theorem zTb {lo : Int} : ∀ (suf : List (Int × Int)) (l done : List (Int × Int)), Can lo l → (∀ x, InS x l ↔ InS x done) → (∀ p ∈ suf, lo < p.1 ∧ p.1 < p.2) →
    Can lo (suf.foldl zCY l) ∧ ∀ x, InS x (suf.foldl zCY l) ↔ InS x (done ++ suf)
  | [], l, done, h1, h2, _ => ⟨h1, by simpa using h2⟩
  | p :: suf, l, done, h1, h2, h5 => by
    obtain ⟨s1, s2⟩ := zOJ h1 (h5 p (by simp)).1 (h5 p (by simp)).2
    have := zTb suf (zCY l p) (done ++ [p]) s1 (fun x => by rw [s2, zBS, zBS, h2]) (fun r hr => h5 r (by simp [hr]))
    simpa using this
def zJF (l : List (Int × Int)) : List (Int × Int) := l.foldl zCY []
theorem zNC {lo : Int} {l : List (Int × Int)} (h : ∀ p ∈ l, lo < p.1 ∧ p.1 < p.2) : Can lo (zJF l) ∧ ∀ x, InS x (zJF l) ↔ InS x l := by
  have := zTb l [] [] (lo := lo) trivial (fun x => Iff.rfl) h
  rw [List.nil_append] at this
  exact this
theorem zdb {lo : Int} {l m : List (Int × Int)} (hp : m.Perm l) (hs : m.Pairwise (fun p q => p.1 ≤ q.1)) (h : ∀ p ∈ l, lo < p.1 ∧ p.1 < p.2) : m.foldl zO3 [] = zJF l := by
  obtain ⟨a1, a2⟩ := zXe m [] [] (lo := lo) trivial (fun x => Iff.rfl) (by simp) hs (fun p hq => h p (hp.subset hq))
  obtain ⟨b1, b2⟩ := zNC h
  refine a1.uniq b1 fun x => ?_
  rw [a2, b2, List.nil_append]
  unfold InS
  constructor
  · rintro ⟨p, hq, h⟩; exact ⟨p, hp.subset hq, h⟩
  · rintro ⟨p, hq, h⟩; exact ⟨p, hp.symm.subset hq, h⟩
theorem zWG {lo : Int} {l m : List (Int × Int)} (hl : ∀ p ∈ l, lo < p.1 ∧ p.1 < p.2) (hm : ∀ p ∈ m, lo < p.1 ∧ p.1 < p.2) (h : ∀ x, InS x l ↔ InS x m) : zJF l = zJF m := by
  obtain ⟨a1, a2⟩ := zNC hl
  obtain ⟨b1, b2⟩ := zNC hm
  exact a1.uniq b1 fun x => by rw [a2, b2, h]
theorem zOI : ∀ (l : List (Int × Int)) (a b : Int), (zEm a b l).length ≤ l.length + 1
  | [], _, _ => by simp [zEm]
  | q :: l, a, b => by
    unfold zEm
    split
    · have := zOI l (min a q.1) (max b q.2); simp; omega
    · simp
theorem zGe : ∀ (l : List (Int × Int)) (p : Int × Int), (zCY l p).length ≤ l.length + 1
  | [], _ => by simp [zCY]
  | q :: l, p => by
    unfold zCY
    split
    · have := zGe l p; simp; omega
    · exact zOI _ _ _
theorem zUE : ∀ (l m : List (Int × Int)), (l.foldl zCY m).length ≤ m.length + l.length
  | [], m => by simp
  | p :: l, m => by
    have := zUE l (zCY m p); have := zGe m p
    rw [List.foldl_cons, List.length_cons]; omega
abbrev Bd := Int × Int × List (Int × Int)
def xsR (r : zJ) : Int × Int := (r.X0, r.X1)
def zC5 (l : List zJ) (y : Int) : List (Int × Int) := zJF ((l.filter fun r => decide (r.Y0 ≤ y) && decide (y < r.Y1)).map xsR)
def pushB (l : List Bd) (b : Bd) : List Bd :=
  if b.2.2 = [] then l else
  match l.getLast? with
  | none => l ++ [b]
  | some c => if c.2.1 = b.1 ∧ c.2.2 = b.2.2 then l.dropLast ++ [(c.1, b.2.1, c.2.2)] else l ++ [b]
theorem zBL {l : List Bd} {b : Bd} (h : b.2.2 = []) : pushB l b = l := if_pos h
theorem zGZ {b : Bd} (h : b.2.2 ≠ []) : pushB [] b = [b] := by unfold pushB; rw [if_neg h]; rfl
theorem zCX {l : List Bd} {c b : Bd} (h : b.2.2 ≠ []) : pushB (l ++ [c]) b = if c.2.1 = b.1 ∧ c.2.2 = b.2.2 then l ++ [(c.1, b.2.1, c.2.2)] else l ++ [c] ++ [b] := by
  unfold pushB
  rw [if_neg h]
  simp
def zDn (l : List zJ) : List Int → List Bd → List Bd
  | a :: b :: ys, out => zDn l (b :: ys) (pushB out (a, b, zC5 l a))
  | _, out => out
def QV (l : List zJ) : List Int := l.flatMap fun r => [r.Y0, r.Y1]
def zCp (l : List zJ) : List Bd := zDn l (QP (QV l)) []
def zKG (b : Bd) : List zJ := b.2.2.map fun s => ⟨s.1, b.1, s.2, b.2.1⟩
def KR (l : List Bd) : List zJ := l.flatMap zKG
def toP (b : Bd) : JD := ⟨b.1, b.2.1, Qf b.2.2⟩
structure ROk (r : zJ) : Prop where
  x0 : -1000000 ≤ r.X0 ∧ r.X0 ≤ 1000000
  y0 : -1000000 ≤ r.Y0 ∧ r.Y0 ≤ 1000000
  x1 : -1000000 ≤ r.X1 ∧ r.X1 ≤ 1000000
  y1 : -1000000 ≤ r.Y1 ∧ r.Y1 ≤ 1000000
  x : r.X0 < r.X1
  y : r.Y0 < r.Y1
structure R9 (r : zJ) : Prop where
  x0 : -2000000000 ≤ r.X0 ∧ r.X0 ≤ 2000000000
  y0 : -2000000000 ≤ r.Y0 ∧ r.Y0 ≤ 2000000000
  x1 : -2000000000 ≤ r.X1 ∧ r.X1 ≤ 2000000000
  y1 : -2000000000 ≤ r.Y1 ∧ r.Y1 ≤ 2000000000
  x : r.X0 < r.X1
  y : r.Y0 < r.Y1
theorem ROk.r9 {r : zJ} (h : ROk r) : R9 r := by
  have := h.x0; have := h.x1; have := h.y0; have := h.y1
  exact ⟨by omega, by omega, by omega, by omega, h.x, h.y⟩
theorem zZB (l m : List Int) : zA5 l m = some (decide (l = m)) := by
  have key : ∀ (suf pre rest : List Int), suf.length = rest.length → KM (pre ++ rest) suf pre.length = some (decide (suf = rest)) := by
    intro suf
    induction suf with
    | nil =>
      intro pre rest h
      have : rest = [] := List.eq_nil_of_length_eq_zero h.symm
      subst this
      rw [KM.eq_1]; rfl
    | cons x suf ih =>
      intro pre rest h
      cases rest with
      | nil => simp at h
      | cons y rest =>
        rw [KM.eq_2, Qn pre rest y, Option.bind_some]
        have := ih (pre ++ [y]) rest (by simpa using h)
        by_cases hxy : x = y
        · subst hxy
          rw [if_neg (by simp)]
          simpa using this
        · rw [if_pos (by simpa using hxy)]
          simp [hxy]
  unfold zA5
  by_cases h : l.length = m.length
  · rw [if_neg (by simp; omega)]
    exact key l [] m h
  · rw [if_pos (by simp; omega)]
    have : l ≠ m := fun e => h (by rw [e])
    simp [this]
theorem zRQ (l m : List zJ) : ∃ b : Bool, WF l m = some b ∧ (b = true ↔ l = m) := by
  have key : ∀ (suf pre rest : List zJ), suf.length = rest.length → ∃ b : Bool, Jz (pre ++ rest) suf pre.length = some b ∧ (b = true ↔ suf = rest) := by
    intro suf
    induction suf with
    | nil =>
      intro pre rest h
      have : rest = [] := List.eq_nil_of_length_eq_zero h.symm
      subst this
      rw [Jz.eq_1]; exact ⟨true, rfl, by simp⟩
    | cons x suf ih =>
      intro pre rest h
      cases rest with
      | nil => simp at h
      | cons y rest =>
        rw [Jz.eq_2, Qn pre rest y, Option.bind_some]
        obtain ⟨b, h1, h2⟩ := ih (pre ++ [y]) rest (by simpa using h)
        by_cases hxy : x = y
        · subst hxy
          rw [zEY.2 rfl, if_neg (by simp)]
          exact ⟨b, by simpa using h1, by simp [h2]⟩
        · have : zE3 x y = false := by rw [Bool.eq_false_iff]; exact fun h => hxy (zEY.1 h)
          rw [this, if_pos (by simp)]
          exact ⟨false, rfl, by simp [hxy]⟩
  unfold WF
  by_cases h : l.length = m.length
  · rw [if_neg (by simp; omega)]
    exact key l [] m h
  · rw [if_pos (by simp; omega)]
    exact ⟨false, rfl, by simp; exact fun e => h (by rw [e])⟩
theorem zNm {c : zJ → zJ → Option Int} {k : zJ → Int} {l : List zJ} (hl : l.length ≤ 1000000000) (hc : ∀ x ∈ l, ∀ y ∈ l, c x y = some (k x - k y)) : ∃ m, zJi l c = some m ∧ m.Perm l ∧ m.Pairwise fun x y => k x ≤ k y := by
  have hlt : ∀ x ∈ l, ∀ y ∈ l, ltC c x y = decide (k x < k y) := fun x hx y hy => by
    unfold ltC
    rw [hc x hx y hy, Option.getD_some]
    exact decide_eq_decide.2 (by omega)
  have hs : zDr c l := ⟨by omega, fun x hx y hy => ⟨_, hc x hx y hy⟩, fun x hx => by rw [hlt x hx x hx]; simp, fun x hx y hy z hz h1 h2 => by
    rw [hlt x hx y hy] at h1; rw [hlt y hy z hz] at h2; rw [hlt x hx z hz]; simp at *; omega, fun x hx y hy z hz h1 h2 => by
    rw [hlt x hx y hy] at h1; rw [hlt y hy z hz] at h2; rw [hlt x hx z hz]; simp at *; omega⟩
  obtain ⟨m, hm⟩ := zRk hs
  obtain ⟨_, hp, hw⟩ := zIg hm
  refine ⟨m, hm, hp, hw.imp_of_mem fun {x y} hx hy h => ?_⟩
  rw [hlt y (hp.subset hy) x (hp.subset hx)] at h
  simp at h
  exact h
theorem zDY (y : List zJ) : ∀ (suf : List zJ) (i : Nat) (l : List (Int × Int)), l.length + suf.length ≤ 1000000000 → KD y suf i (Qf l) = some (Qf ((suf.map xsR).foldl zO3 l), y)
  | [], i, l, _ => by rw [KD.eq_1]; rfl
  | r :: suf, i, l, h => by
    simp only [List.length_cons] at h
    have hsplit : l = [] ∨ ∃ j q, l = j ++ [q] := by
      rcases List.eq_nil_or_concat l with h | ⟨j, q, h⟩
      · exact .inl h
      · exact .inr ⟨j, q, by simpa using h⟩
    rw [KD.eq_2, List.map_cons, List.foldl_cons]
    rcases hsplit with rfl | ⟨j, q, rfl⟩
    · rw [if_neg (by simp [zFG, Qg]), Option.bind_some, if_neg (by simp), show apd (Qf []) [r.X0, r.X1] = some (Qf [xsR r]) from rfl, Option.bind_some, zUA]
      exact zDY y suf (i + 1) [xsR r] (by simp; omega)
    · have hfl : Qf (j ++ [q]) = (Qf j ++ [q.1]) ++ q.2 :: [] := by rw [zCj]; simp [Qf]
      have hlen : (Qf (j ++ [q])).length = 2 * j.length + 2 := by rw [Kr]; simp; omega
      simp only [List.length_append, List.length_singleton] at h
      have hw : w64 (((Qf (j ++ [q])).length : Int) - 1) = ((Qf j ++ [q.1]).length : Int) := by
        rw [Qg (by omega) (by omega), hlen]; simp [Kr]; omega
      have hid : idx (Qf (j ++ [q])) ((Qf j ++ [q.1]).length : Int) = some q.2 := by rw [hfl]; exact Qn _ [] q.2
      rw [hw, if_pos (decide_eq_true (by omega)), hid, Option.bind_some, Option.bind_some, zQ4]
      by_cases hle : r.X0 ≤ q.2
      · rw [if_pos (by simpa using hle), if_pos (show (xsR r).1 ≤ q.2 from hle), Option.bind_some]
        have hset : sets (Qf (j ++ [q])) ((Qf j ++ [q.1]).length : Int) (max q.2 r.X1) = some (Qf (j ++ [(q.1, max q.2 (xsR r).2)])) := by
          unfold sets
          rw [if_pos ⟨by omega, by rw [hlen]; simp [Kr]⟩, hfl, zCj]
          simp [Qf, xsR]
        rw [Option.bind_some, hset, Option.bind_some]
        exact zDY y suf (i + 1) _ (by simp; omega)
      · rw [if_neg (by simpa using hle), if_neg (show ¬ (xsR r).1 ≤ q.2 from hle), Kl (by rw [hlen]; simp; omega), Option.bind_some]
        have : Qf (j ++ [q]) ++ [r.X0, r.X1] = Qf (j ++ [q] ++ [xsR r]) := by rw [zCj (j ++ [q])]; rfl
        rw [this]
        exact zDY y suf (i + 1) _ (by simp; omega)
theorem zJ8 {l : List zJ} (hl : l.length ≤ 400000000) (h : ∀ r ∈ l, R9 r) : ∃ m, m.Perm l ∧ WI l = some (Qf (zJF (l.map xsR)), m) := by
  obtain ⟨m, h1, h2, h3⟩ := zNm (c := fun z0 z1 => WG z0 z1) (k := fun r => r.X0) (l := l) (by omega) (fun x hx y hy => by
    have a := (h x hx).x0; have b := (h y hy).x0
    unfold WG
    rw [Qg (by omega) (by omega)])
  refine ⟨m, h2, ?_⟩
  unfold WI
  rw [h1, Option.bind_some]
  have := zDY m m 0 [] (by have := h2.length_eq; simp; omega)
  rw [zFG] at this
  rw [this, zdb (lo := -2000000001) (h2.map xsR) (by rw [List.pairwise_map]; exact h3) (fun p hp => by
    obtain ⟨r, hr, rfl⟩ := List.mem_map.1 hp
    have a := h r hr
    exact ⟨by have := a.x0; show -2000000001 < r.X0; omega, a.x⟩)]
theorem zRP {g : zJ → Bool} {f : zJ → Option Bool} : ∀ (l : List zJ) (i : Nat), (∀ x ∈ l, f x = some (g x)) → Ji f l i = some (zOL g l i)
  | [], i, _ => rfl
  | x :: l, i, h => by
    rw [Ji.eq_2, h x (by simp), Option.bind_some, zRP l (i + 1) (fun y hy => h y (by simp [hy])), zOL, show ((i + 1 : Nat) : Int) = (i : Int) + 1 by omega]
    cases g x <;> rfl
theorem zIP {g : zJ → Bool} {f : zJ → Option Bool} : ∀ (rest k u : List zJ) (n : Nat), (∀ x ∈ rest, f x = some (g x)) → u ≠ [] → rest.length < n → (k ++ u ++ rest).length ≤ 1000000000 →
    JC f n (k ++ u ++ rest) k.length (k ++ u).length = some (k ++ rest.filter fun x => !g x)
  | [], k, u, n + 1, _, hu, _, hl => by
    have hc : cut (k ++ u ++ []) (k.length : Int) ((k ++ u ++ []).length : Int) = some u := by
      unfold cut
      rw [if_pos ⟨by omega, by simp; omega, by omega⟩, List.append_nil, Int.toNat_natCast, Int.toNat_natCast, List.take_length, List.drop_left]
    rw [JC.eq_2, if_neg (by simp), hc, Option.bind_some]
    unfold clr pre
    rw [if_pos ⟨by omega, by simp; omega⟩]
    simp
  | x :: rest, k, u, n + 1, h, hu, hn, hl => by
    obtain ⟨u0, u', rfl⟩ : ∃ u0 u', u = u0 :: u' := by cases u with | nil => exact absurd rfl hu | cons a b => exact ⟨a, b, rfl⟩
    have hid : idx (k ++ (u0 :: u') ++ x :: rest) ((k ++ (u0 :: u')).length : Int) = some x := Qn _ rest x
    simp only [List.length_append, List.length_cons] at hl hn
    rw [JC.eq_2, if_pos (by simp; omega), hid, Option.bind_some, h x (by simp), Option.bind_some, zAP (k ++ (u0 :: u')) x (by simp; omega)]
    cases hg : g x
    · have hid2 : idx (k ++ (u0 :: u') ++ x :: rest) (k.length : Int) = some u0 := by
        rw [List.append_assoc]; exact Qn k (u' ++ x :: rest) u0
      have hset : sets (k ++ (u0 :: u') ++ x :: rest) (k.length : Int) x = some ((k ++ [x]) ++ (u' ++ [x]) ++ rest) := by
        unfold sets
        rw [if_pos ⟨by omega, by simp⟩]
        simp
      rw [if_pos (by simp), hid2, Option.bind_some, hset, Option.bind_some, zAP k x (by omega)]
      have := zIP rest (k ++ [x]) (u' ++ [x]) n (fun y hy => h y (by simp [hy])) (by simp) (by omega) (by simp; omega)
      have e : ((k ++ (u0 :: u') ++ [x]).length : Int) = ((k ++ [x] ++ (u' ++ [x])).length : Int) := by rw [List.length_append, List.length_append, List.length_append, List.length_append, List.length_append]; simp; omega
      rw [e, this, List.filter_cons, hg]
      simp
    · rw [if_neg (by simp)]
      have := zIP rest k (u0 :: u' ++ [x]) n (fun y hy => h y (by simp [hy])) (by simp) (by omega) (by simp; omega)
      have e : k ++ (u0 :: u') ++ x :: rest = k ++ (u0 :: u' ++ [x]) ++ rest := by simp
      have e2 : ((k ++ (u0 :: u') ++ [x]).length : Int) = ((k ++ (u0 :: u' ++ [x])).length : Int) := by simp
      rw [e, e2, this, List.filter_cons, hg]
      simp
theorem zOK {α : Type} (g : α → Bool) : ∀ (l : List α) (i : Int), 0 ≤ i → (zOL g l i = -1 ∧ ∀ x ∈ l, g x = false) ∨ ∃ a x b, l = a ++ x :: b ∧ (∀ y ∈ a, g y = false) ∧ g x = true ∧ zOL g l i = i + a.length
  | [], i, _ => .inl ⟨rfl, by simp⟩
  | x :: l, i, hi => by
    unfold zOL
    cases hg : g x
    · simp only [Bool.false_eq_true, if_false]
      rcases zOK g l (i + 1) (by omega) with ⟨h1, h2⟩ | ⟨a, z, b, h1, h2, h3, h4⟩
      · exact .inl ⟨h1, fun y hy => by rcases List.mem_cons.1 hy with rfl | hy; exact hg; exact h2 y hy⟩
      · refine .inr ⟨x :: a, z, b, by rw [h1]; rfl, fun y hy => ?_, h3, by rw [h4]; simp; omega⟩
        rcases List.mem_cons.1 hy with rfl | hy
        · exact hg
        · exact h2 y hy
    · rw [if_pos rfl]
      exact .inr ⟨[], x, l, rfl, by simp, hg, by simp⟩
theorem zZC {N : Nat} {g : zJ → Bool} {f : zJ → Option Bool} {l : List zJ} (hN : 1000000000 < N) (hl : l.length ≤ 1000000000) (h : ∀ x ∈ l, f x = some (g x)) : VY N l f = some (l.filter fun x => !g x) := by
  unfold VY zAW
  rw [zRP l 0 h, Option.bind_some, show ((0 : Nat) : Int) = 0 from rfl]
  rcases zOK g l 0 (by omega) with ⟨h1, h2⟩ | ⟨a, x, b, h1, h2, h3, h4⟩
  · rw [h1, if_pos (by simp)]
    congr 1
    exact (List.filter_eq_self.2 fun y hy => by simp [h2 y hy]).symm
  · rw [h4, if_neg (by first | (simp; done) | (simp; omega))]
    subst h1
    simp only [List.length_append, List.length_cons] at hl
    have := zIP b a [x] N (fun y hy => h y (by simp [hy])) (by simp) (by omega) (by simp; omega)
    have e : a ++ [x] ++ b = a ++ x :: b := by simp
    rw [e] at this
    rw [Int.zero_add, Qg (by omega) (by omega), show ((a.length : Int) + 1) = ((a ++ [x]).length : Int) by simp, this, List.filter_append, List.filter_cons, h3]
    have ha : a.filter (fun x => !g x) = a := List.filter_eq_self.2 fun y hy => by simp [h2 y hy]
    simp [ha]
theorem zRu {l : List Bd} {b : Bd} (hl : l.length ≤ 1000000000) (hb : b.1 < b.2.1) : VG (l.map toP) (toP b) = some ((pushB l b).map toP) := by
  unfold VG
  have hfl : ((toP b).Xs.length : Int) = 2 * (b.2.2.length : Int) := by show ((Qf b.2.2).length : Int) = _; rw [Kr]; omega
  by_cases he : b.2.2 = []
  · rw [if_pos (by rw [hfl, he]; simp), zBL he]
  · have hpos : 0 < b.2.2.length := List.length_pos_iff.2 he
    rw [if_neg (by
      rw [hfl]
      show ¬ ((2 * (b.2.2.length : Int) == 0) || decide (b.2.1 ≤ b.1)) = true
      rw [Bool.or_eq_true, not_or]
      exact ⟨by simp; exact he, by simp; exact hb⟩)]
    have hsplit : l = [] ∨ ∃ j q, l = j ++ [q] := by
      rcases List.eq_nil_or_concat l with h | ⟨j, q, h⟩
      · exact .inl h
      · exact .inr ⟨j, q, by simpa using h⟩
    rcases hsplit with rfl | ⟨j, c, rfl⟩
    · rw [zGZ he, if_neg (by simp [Qg]), Option.bind_some, if_neg (by simp), Option.bind_some, if_neg (by simp)]
      rfl
    · simp only [List.length_append, List.length_singleton] at hl
      have hm : (j ++ [c]).map toP = j.map toP ++ toP c :: [] := by simp
      have hw : w64 ((((j ++ [c]).map toP).length : Int) - 1) = ((j.map toP).length : Int) := by
        rw [Qg (by first | (simp; done) | (simp; omega)) (by first | (simp; done) | (simp; omega))]; simp
      have hid : idx ((j ++ [c]).map toP) ((j.map toP).length : Int) = some (toP c) := by rw [hm]; exact Qn _ [] _
      rw [zCX he, hw, if_pos (by simp), hid, Option.bind_some, Option.bind_some, Option.bind_some, zZB]
      have hxs : ((toP c).Xs = (toP b).Xs) ↔ c.2.2 = b.2.2 := ⟨fun h => zQ3 h, fun h => by show Qf c.2.2 = Qf b.2.2; rw [h]⟩
      by_cases h1 : c.2.1 = b.1
      · have e1 : ((toP c).Y1 == (toP b).Y0) = true := by simpa [toP] using h1
        rw [e1, if_pos rfl, Option.bind_some, Option.bind_some]
        by_cases h2 : c.2.2 = b.2.2
        · rw [decide_eq_true (hxs.2 h2), if_pos rfl, if_pos ⟨h1, h2⟩]
          have hset : sets ((j ++ [c]).map toP) ((j.map toP).length : Int) (JD.mk (toP c).Y0 (toP b).Y1 (toP c).Xs) = some ((j ++ [(c.1, b.2.1, c.2.2)]).map toP) := by
            unfold sets
            rw [if_pos ⟨by omega, by simp⟩, hm]
            simp [toP]
          rw [Option.bind_some, hset]; rfl
        · rw [decide_eq_false (fun h => h2 (hxs.1 h)), if_neg (by simp), if_neg (fun h => h2 h.2), Kl (by simp; omega), Option.bind_some]
          simp
      · have e1 : ((toP c).Y1 == (toP b).Y0) = false := by simpa [toP] using h1
        rw [e1, if_neg (by simp), Option.bind_some, if_neg (by simp), if_neg (fun h => h1 h.1), Kl (by simp; omega), Option.bind_some]
        simp
theorem zDC : ∀ {l m : List Int}, l.Pairwise (fun x y => x < y) → m.Pairwise (fun x y => x < y) → (∀ x, x ∈ l ↔ x ∈ m) → l = m
  | [], [], _, _, _ => rfl
  | [], y :: m, _, _, h => by have := (h y).2 (by simp); simp at this
  | x :: l, [], _, _, h => by have := (h x).1 (by simp); simp at this
  | x :: l, y :: m, h1, h2, h => by
    rw [List.pairwise_cons] at h1 h2
    have hxy : x = y := by
      have a := (h x).1 (by simp)
      have b := (h y).2 (by simp)
      rcases List.mem_cons.1 a with a | a
      · exact a
      · rcases List.mem_cons.1 b with b | b
        · exact b.symm
        · have := h1.1 y b; have := h2.1 x a; omega
    subst hxy
    rw [zDC h1.2 h2.2 fun z => by
      have hz := h z
      simp only [List.mem_cons] at hz
      constructor
      · intro hm
        have hne : z ≠ x := by have := h1.1 z hm; omega
        rcases hz.1 (.inr hm) with e | e
        · exact absurd e hne
        · exact e
      · intro hm
        have hne : z ≠ x := by have := h2.1 z hm; omega
        rcases hz.2 (.inr hm) with e | e
        · exact absurd e hne
        · exact e]
theorem zYa {l m : List Int} (h : ∀ x, x ∈ l ↔ x ∈ m) : QP l = QP m := zDC (JG l) (JG m) fun x => by rw [Vd, Vd, h]
theorem zAG {l : List zJ} {y : Int} : y ∈ QV l ↔ ∃ r ∈ l, y = r.Y0 ∨ y = r.Y1 := by
  unfold QV
  simp [List.mem_flatMap]
theorem zD9 : ∀ l : List zJ, (QV l).length = 2 * l.length
  | [] => rfl
  | r :: l => by
    show ([r.Y0, r.Y1] ++ QV l).length = _
    rw [List.length_append, zD9 l]; simp; omega
theorem zCV (l : List Int) : (QP l).length ≤ l.length := by
  unfold QP
  exact Nat.le_trans (zXr _) (by rw [List.length_mergeSort]; exact Nat.le_refl _)
theorem zFF (l : List Bd) (b : Bd) : (pushB l b).length ≤ l.length + 1 := by
  by_cases he : b.2.2 = []
  · rw [zBL he]; omega
  · rcases List.eq_nil_or_concat l with rfl | ⟨j, c, h⟩
    · rw [zGZ he]; simp
    · rw [List.concat_eq_append] at h
      subst h
      rw [zCX he]
      split <;> simp
section
variable {N : Nat} {l M : List zJ} {ys : List Int} (hN : 10000000000 ≤ N) (hMl : M.length ≤ 100000000) (hok : ∀ r ∈ M, R9 r) (hyl : ys.length ≤ 200000000)
include hN hMl hok hyl
omit hN hyl in
theorem zZb {k a b : Int} {bands : List Bd} (hbl : bands.length ≤ 250000000) (hk0 : 0 ≤ k ∧ k ≤ 250000000) (ha : idx ys k = some a) (hb : idx ys (k + 1) = some b) (hab : a < b) {K : Int → List JD → List zJ → Int → Option (List JD)} : ∀ (suf pre now : List zJ) (m : Nat), M = pre ++ suf → suf.length < m → (∀ r ∈ now, R9 r) → now.length + suf.length ≤ 150000000 →
    ∃ t suf' now', suf = t ++ suf' ∧ (∀ r ∈ t, r.Y0 ≤ a) ∧ (∀ r, suf'.head? = some r → a < r.Y0) ∧ now'.Perm (now ++ t) ∧
      Kc M ys k (bands.map toP) K m now pre.length = K (k + 1) ((pushB bands (a, b, zJF ((now ++ t).map xsR))).map toP) now' (pre ++ t).length
  | suf, pre, now, 0, _, h, _, _ => absurd h (Nat.not_lt_zero _)
  | [], pre, now, m + 1, h1, _, h3, h4 => by
    obtain ⟨now', p1, p2⟩ := zJ8 (l := now) (by simp at h4; omega) h3
    refine ⟨[], [], now', rfl, by simp, by simp, by simpa using p1, ?_⟩
    have hpush := zRu (l := bands) (b := (a, b, zJF (now.map xsR))) (by omega) hab
    rw [Kc.eq_2, if_neg (by rw [h1]; simp), Option.bind_some, if_neg (by simp), ha, Option.bind_some, Qg (by omega) (by omega), hb, Option.bind_some, p2, Option.bind_some]
    show (VG (bands.map toP) (toP (a, b, zJF (now.map xsR)))).bind _ = _
    rw [hpush, Option.bind_some]
    simp
  | r :: suf, pre, now, m + 1, h1, h2, h3, h4 => by
    have hrM : r ∈ M := by rw [h1]; simp
    have hpl : pre.length ≤ 100000000 := by rw [h1] at hMl; simp at hMl; omega
    have hid : idx M (pre.length : Int) = some r := by rw [h1]; exact Qn pre suf r
    simp only [List.length_cons] at h2 h4
    by_cases hle : r.Y0 ≤ a
    · obtain ⟨t, suf', now', e1, e2, e3, e4, e5⟩ := zZb hbl hk0 ha hb hab (K := K) suf (pre ++ [r]) (now ++ [r]) m (by rw [h1]; simp) (by omega) (fun x hx => by
        rcases List.mem_append.1 hx with hx | hx
        · exact h3 x hx
        · simp at hx; subst hx; exact hok _ hrM) (by simp; omega)
      refine ⟨r :: t, suf', now', by rw [e1]; rfl, fun x hx => ?_, e3, by simpa using e4, ?_⟩
      · rcases List.mem_cons.1 hx with rfl | hx
        · exact hle
        · exact e2 x hx
      · rw [Kc.eq_2, if_pos (by rw [h1]; exact zBz pre suf r), hid, Option.bind_some, ha, Option.bind_some, Option.bind_some, if_pos (by simpa using hle), Option.bind_some, Kl (by simp; omega), Option.bind_some, zAP pre r (by omega), e5]
        simp
    · obtain ⟨now', p1, p2⟩ := zJ8 (l := now) (by omega) h3
      refine ⟨[], r :: suf, now', rfl, by simp, fun x hx => by simp at hx; subst hx; omega, by simpa using p1, ?_⟩
      have hpush := zRu (l := bands) (b := (a, b, zJF (now.map xsR))) (by omega) hab
      rw [Kc.eq_2, if_pos (by rw [h1]; exact zBz pre suf r), hid, Option.bind_some, ha, Option.bind_some, Option.bind_some, if_neg (by simpa using hle), Option.bind_some, Qg (by omega) (by omega), hb, Option.bind_some, p2, Option.bind_some]
      show (VG (bands.map toP) (toP (a, b, zJF (now.map xsR)))).bind _ = _
      rw [hpush, Option.bind_some]
      simp
theorem zWk (hMs : M.Pairwise fun x y => x.Y0 ≤ y.Y0) (hys : ys.Pairwise fun x y => x < y) (hmem : ∀ r ∈ M, r.Y0 ∈ ys) (hl : ∀ r, r ∈ l ↔ r ∈ M) : ∀ (hsuf hpre : List Int) (m : Nat) (bands : List Bd) (pre suf now : List zJ) (v : Int), ys = hpre ++ hsuf → M = pre ++ suf → hsuf.length < m → bands.length ≤ hpre.length →
    (∀ r ∈ pre, r.Y0 ≤ v) → (∀ r ∈ suf, v < r.Y0) → now.Perm (pre.filter fun r => decide (v < r.Y1)) → (∀ h ∈ hsuf, v < h) → (∀ h ∈ hpre, h ≤ v) →
    Qo N M ys m hpre.length (bands.map toP) now pre.length = some ((zDn l hsuf bands).map toP)
  | [], hpre, m + 1, bands, pre, suf, now, v, e1, e2, _, _, _, _, _, _, _ => by
    have hpl : hpre.length ≤ 200000000 := by rw [e1] at hyl; simpa using hyl
    rw [Qo.eq_2, if_neg (by rw [Qg (by omega) (by omega), e1]; simp; omega)]
    rfl
  | [a], hpre, m + 1, bands, pre, suf, now, v, e1, e2, _, _, _, _, _, _, _ => by
    have hpl : hpre.length ≤ 200000000 := by rw [e1] at hyl; simp at hyl; omega
    rw [Qo.eq_2, if_neg (by rw [Qg (by omega) (by omega), e1]; simp)]
    rfl
  | a :: b :: hsuf, hpre, m + 1, bands, pre, suf, now, v, e1, e2, hm, hbl, i1, i2, i3, i4, i5 => by
    have hpl : hpre.length + 2 ≤ 200000000 := by rw [e1] at hyl; simp at hyl; omega
    have hva : v < a := i4 a (by simp)
    have hs2 : (a :: b :: hsuf).Pairwise fun x y => x < y := by rw [e1] at hys; exact (List.pairwise_append.1 hys).2.1
    have hab : a < b := (List.pairwise_cons.1 hs2).1 b (by simp)
    have ha : idx ys (hpre.length : Int) = some a := by rw [e1]; exact Qn hpre _ a
    have hb : idx ys ((hpre.length : Int) + 1) = some b := by
      rw [e1, show hpre ++ a :: b :: hsuf = (hpre ++ [a]) ++ b :: hsuf by simp, show ((hpre.length : Int) + 1) = ((hpre ++ [a]).length : Int) by simp]
      exact Qn (hpre ++ [a]) _ b
    have hnl : now.length ≤ pre.length := by rw [i3.length_eq]; exact List.length_filter_le _ _
    have hMl2 : pre.length + suf.length ≤ 100000000 := by rw [e2] at hMl; simpa using hMl
    have hnok : ∀ r ∈ now, R9 r := fun r hr => hok r (by rw [e2]; exact List.mem_append_left _ (List.mem_filter.1 (i3.subset hr)).1)
    have hdel := zZC (N := N) (g := fun r => decide (r.Y1 ≤ a)) (f := fun z0 => zAe z0 ys hpre.length) (l := now) (by omega) (by omega) (fun r _ => by unfold zAe; rw [ha]; rfl)
    obtain ⟨t, suf', now', s1, s2, s3, s4, s5⟩ := zZb hMl hok (bands := bands) (by omega) (k := (hpre.length : Int)) ⟨by omega, by omega⟩ ha hb hab (K := Qo N M ys m) suf pre (now.filter fun x => !decide (x.Y1 ≤ a)) N e2 (by omega) (fun r hr => hnok r (List.mem_filter.1 hr).1) (by
      have := List.length_filter_le (fun x : zJ => !decide (x.Y1 ≤ a)) now
      omega)
    have hsM : suf.Pairwise fun x y => x.Y0 ≤ y.Y0 := by rw [e2] at hMs; exact (List.pairwise_append.1 hMs).2.1
    have hsuf' : ∀ r ∈ suf', a < r.Y0 := fun r hr => by
      cases suf' with
      | nil => simp at hr
      | cons c cs =>
        have hc := s3 c rfl
        rcases List.mem_cons.1 hr with rfl | hr
        · exact hc
        · rw [s1] at hsM
          have := (List.pairwise_cons.1 (List.pairwise_append.1 hsM).2.1).1 r hr
          omega
    have ht : ∀ r ∈ t, r.Y0 = a ∧ a < r.Y1 := fun r hr => by
      have hrs : r ∈ suf := by rw [s1]; exact List.mem_append_left _ hr
      have hrM : r ∈ M := by rw [e2]; exact List.mem_append_right _ hrs
      have h1 := s2 r hr
      have h2 := i2 r hrs
      have h3 := hmem r hrM
      have hin : r.Y0 ∈ a :: b :: hsuf := by
        rw [e1] at h3
        rcases List.mem_append.1 h3 with h | h
        · have := i5 _ h; omega
        · exact h
      have hle : a ≤ r.Y0 := by
        rcases List.mem_cons.1 hin with h | h
        · omega
        · have := (List.pairwise_cons.1 hs2).1 _ h; omega
      have := (hok r hrM).y
      omega
    have hperm : (now.filter (fun x => !decide (x.Y1 ≤ a)) ++ t).Perm ((pre ++ t).filter fun r => decide (a < r.Y1)) := by
      rw [List.filter_append]
      have p1 : (now.filter fun x => !decide (x.Y1 ≤ a)).Perm (pre.filter fun r => decide (a < r.Y1)) := by
        refine (i3.filter _).trans ?_
        rw [List.filter_filter]
        refine List.Perm.of_eq (List.filter_congr fun r _ => ?_)
        rw [Bool.eq_iff_iff]
        simp
        omega
      have p2 : t.filter (fun r => decide (a < r.Y1)) = t := List.filter_eq_self.2 fun r hr => by simpa using (ht r hr).2
      rw [p2]
      exact p1.append_right t
    have hcov : zJF ((now.filter (fun x => !decide (x.Y1 ≤ a)) ++ t).map xsR) = zC5 l a := by
      have hin : ∀ r, r ∈ (now.filter (fun x => !decide (x.Y1 ≤ a)) ++ t) ↔ r ∈ l.filter fun r => decide (r.Y0 ≤ a) && decide (a < r.Y1) := fun r => by
        rw [hperm.mem_iff, List.mem_filter, List.mem_filter, hl, e2, s1]
        simp only [List.mem_append, Bool.and_eq_true, decide_eq_true_eq]
        constructor
        · rintro ⟨h | h, h2⟩
          · exact ⟨.inl h, by have := i1 r h; omega, h2⟩
          · exact ⟨.inr (.inl h), by have := (ht r h).1; omega, h2⟩
        · rintro ⟨h | h | h, h1, h2⟩
          · exact ⟨.inl h, h2⟩
          · exact ⟨.inr h, h2⟩
          · have := hsuf' r h; omega
      have hlim : ∀ r, r ∈ M → -2000000001 < (xsR r).1 ∧ (xsR r).1 < (xsR r).2 := fun r hr => by
        have := hok r hr
        exact ⟨by have := this.x0; show -2000000001 < r.X0; omega, this.x⟩
      have hMr : ∀ r, r ∈ (now.filter (fun x => !decide (x.Y1 ≤ a)) ++ t) → r ∈ M := fun r hr => (hl r).1 (List.mem_filter.1 ((hin r).1 hr)).1
      unfold zC5
      refine zWG (lo := -2000000001) (fun p hp => ?_) (fun p hp => ?_) fun x => ?_
      · obtain ⟨r, hr, rfl⟩ := List.mem_map.1 hp; exact hlim r (hMr r hr)
      · obtain ⟨r, hr, rfl⟩ := List.mem_map.1 hp; exact hlim r ((hl r).1 (List.mem_filter.1 hr).1)
      · unfold InS
        constructor
        · rintro ⟨p, hp, h⟩
          obtain ⟨r, hr, rfl⟩ := List.mem_map.1 hp
          exact ⟨_, List.mem_map.2 ⟨r, (hin r).1 hr, rfl⟩, h⟩
        · rintro ⟨p, hp, h⟩
          obtain ⟨r, hr, rfl⟩ := List.mem_map.1 hp
          exact ⟨_, List.mem_map.2 ⟨r, (hin r).2 hr, rfl⟩, h⟩
    rw [Qo.eq_2, if_pos (by rw [Qg (by omega) (by omega), e1]; simp; omega), hdel, Option.bind_some, s5, hcov]
    have hpb := zFF bands (a, b, zC5 l a)
    have ih := zWk hMs hys hmem hl (b :: hsuf) (hpre ++ [a]) m (pushB bands (a, b, zC5 l a)) (pre ++ t) suf' now' a (by rw [e1]; simp) (by rw [e2, s1]; simp) (by simp at hm ⊢; omega) (by simp; omega) (fun r hr => by
      rcases List.mem_append.1 hr with hr | hr
      · have := i1 r hr; omega
      · have := (ht r hr).1; omega) hsuf' (s4.trans hperm) (fun h hh => (List.pairwise_cons.1 hs2).1 h hh) (fun h hh => by
      rcases List.mem_append.1 hh with hh | hh
      · have := i5 h hh; omega
      · simp at hh; omega)
    rw [show ((hpre.length : Int) + 1) = ((hpre ++ [a]).length : Int) by simp, ih]
    rfl
end
theorem zUv (r : zJ) (l : List zJ) : QV (r :: l) = [r.Y0, r.Y1] ++ QV l := rfl
theorem zUe {N : Nat} {l : List zJ} (hN : 10000000000 ≤ N) (hl : l.length ≤ 100000000) (hok : ∀ r ∈ l, R9 r) : Wj N l = some ((zCp l).map toP) := by
  obtain ⟨M, m1, m2, m3⟩ := zNm (c := fun z0 z1 => zAf z0 z1) (k := fun r => r.Y0) (l := l) (by omega) (fun x hx y hy => by
    have a := (hok x hx).y0; have b := (hok y hy).y0
    unfold zAf
    rw [Qg (by omega) (by omega)])
  have hMl : M.length ≤ 100000000 := by rw [m2.length_eq]; exact hl
  have hMok : ∀ r ∈ M, R9 r := fun r hr => hok r (m2.subset hr)
  have hy : QP (QV M) = QP (QV l) := zYa fun y => by
    rw [zAG, zAG]
    exact ⟨fun ⟨r, hr, h⟩ => ⟨r, m2.subset hr, h⟩, fun ⟨r, hr, h⟩ => ⟨r, m2.symm.subset hr, h⟩⟩
  have hyl : (QP (QV l)).length ≤ 200000000 := Nat.le_trans (zCV _) (by rw [zD9]; omega)
  have L1 : ∀ (suf : List zJ) (i : Nat) (out : List Int), out.length + 2 * suf.length ≤ 250000000 → VE N M suf i out = (Qo N M (QP (out ++ QV suf)) N 0 [] [] 0) := by
    intro suf
    induction suf with
    | nil =>
      intro i out ho
      rw [VE.eq_1]
      have := zWi (l := out) (by simp at ho; omega)
      rw [zRj (by simp at ho; omega), Option.bind_some]
      rw [zRj (by simp at ho; omega), Option.bind_some] at this
      rw [this, Option.bind_some]
      show _ = Qo N M (QP (out ++ [])) N 0 [] [] 0
      rw [List.append_nil]
    | cons r suf ih =>
      intro i out ho
      simp only [List.length_cons] at ho
      rw [VE.eq_2, Kl (by simp; omega), Option.bind_some, ih (i + 1) _ (by simp; omega), zUv, List.append_assoc]
  unfold Wj zAj
  rw [Kl (by simp; omega), Option.bind_some, Option.bind_some, List.nil_append, m1, Option.bind_some, L1 M 0 [] (by simp; omega), List.nil_append, hy]
  have := zWk (l := l) hN hMl hMok hyl m3 (JG _) (fun r hr => (Vd _ _).2 (zAG.2 ⟨r, m2.subset hr, .inl rfl⟩)) (fun r => ⟨fun h => m2.symm.subset h, fun h => m2.subset h⟩) (QP (QV l)) [] N [] [] M [] (-3000000000) rfl rfl (by omega) (by simp) (by simp) (fun r hr => by have := (hMok r hr).y0; omega) (by simp) (fun h hh => by
    obtain ⟨r, hr, e⟩ := zAG.1 ((Vd _ _).1 hh)
    have a := hok r hr
    have := a.y0; have := a.y1
    rcases e with rfl | rfl <;> omega) (by simp)
  exact this
theorem zN0 (l : List zJ) (y : Int) : (zC5 l y).length ≤ l.length := by
  unfold zC5 zJF
  have := zUE ((l.filter fun r => decide (r.Y0 ≤ y) && decide (y < r.Y1)).map xsR) []
  have h2 := List.length_filter_le (fun r : zJ => decide (r.Y0 ≤ y) && decide (y < r.Y1)) l
  simp at this
  omega
structure Small (l : List Bd) : Prop where
  len : l.length ≤ 200000000
  row : ∀ b ∈ l, b.2.2.length ≤ 100000000
  tot : (KR l).length ≤ 4000000000
theorem zBu (b : Bd) (l : List Bd) : KR (b :: l) = zKG b ++ KR l := rfl
theorem zCW (b : Bd) : (zKG b).length = b.2.2.length := by unfold zKG; simp
theorem zJk {l : List Bd} {R : Nat} (h : ∀ b ∈ l, b.2.2.length ≤ R) : (KR l).length ≤ R * l.length := by
  induction l with
  | nil => simp [KR]
  | cons b l ih =>
    rw [zBu, List.length_append, zCW]
    have := ih (fun c hc => h c (by simp [hc])); have := h b (by simp)
    rw [List.length_cons, Nat.mul_succ]
    omega
theorem zJL (l m : List Bd) : KR (l ++ m) = KR l ++ KR m := by unfold KR; rw [List.flatMap_append]
theorem zVI {l : List Bd} {b : Bd} (h : b ∈ l) : b.2.2.length ≤ (KR l).length := by
  obtain ⟨s, t, rfl⟩ := List.append_of_mem h
  rw [zJL, zBu, List.length_append, List.length_append, zCW]
  omega
theorem zIk {l : List Bd} {b : Bd} {R : Nat} (h : ∀ c ∈ l, c.2.2.length ≤ R) (hb : b.2.2.length ≤ R) : ∀ c ∈ pushB l b, c.2.2.length ≤ R := by
  by_cases he : b.2.2 = []
  · rw [zBL he]; exact h
  · rcases List.eq_nil_or_concat l with rfl | ⟨j, c, hc⟩
    · rw [zGZ he]
      intro c hc
      simp at hc
      subst hc
      exact hb
    · rw [List.concat_eq_append] at hc
      subst hc
      rw [zCX he]
      intro d hd
      split at hd
      · rcases List.mem_append.1 hd with hd | hd
        · exact h d (by simp [hd])
        · simp at hd; subst hd; exact h c (by simp)
      · rcases List.mem_append.1 hd with hd | hd
        · exact h d hd
        · simp at hd; subst hd; exact hb
theorem zJV {l : List zJ} {R : Nat} (hl : l.length ≤ R) : ∀ (ys : List Int) (out : List Bd), (∀ c ∈ out, c.2.2.length ≤ R) → (zDn l ys out).length ≤ out.length + ys.length ∧ ∀ c ∈ zDn l ys out, c.2.2.length ≤ R
  | [], out, h => ⟨by simp [zDn], h⟩
  | [a], out, h => ⟨by simp [zDn], h⟩
  | a :: b :: ys, out, h => by
    have hr := zN0 l a
    have hp := zFF out (a, b, zC5 l a)
    obtain ⟨i1, i2⟩ := zJV hl (b :: ys) (pushB out (a, b, zC5 l a)) (zIk h (by show (zC5 l a).length ≤ R; omega))
    simp only [List.length_cons] at i1 ⊢
    exact ⟨by show (zDn l (b :: ys) (pushB out (a, b, zC5 l a))).length ≤ _; omega, i2⟩
theorem zTA (l : List zJ) : (zCp l).length ≤ 2 * l.length ∧ ∀ b ∈ zCp l, b.2.2.length ≤ l.length := by
  obtain ⟨h1, h2⟩ := zJV (Nat.le_refl l.length) (QP (QV l)) [] (by simp)
  have := zCV (QV l)
  rw [zD9] at this
  exact ⟨by show (zDn l (QP (QV l)) []).length ≤ _; simp at h1; omega, h2⟩
theorem zL0 {l : List zJ} (hl : l.length ≤ 100000000) (ht : (KR (zCp l)).length ≤ 4000000000) : Small (zCp l) := by
  obtain ⟨h1, h2⟩ := zTA l
  exact ⟨by omega, fun b hb => by have := h2 b hb; omega, ht⟩
theorem zNu {l : List zJ} (hl : l.length ≤ 20000) : Small (zCp l) := by
  obtain ⟨h1, h2⟩ := zTA l
  refine zL0 (by omega) ?_
  have := zJk (R := 20000) (l := zCp l) fun b hb => by have := h2 b hb; omega
  omega
section
variable {N : Nat} (hN : 10000000000 ≤ N)
include hN
omit hN in
theorem zUg {b : Bd} {K : List zJ → Option (List zJ)} (hb : b.2.2.length ≤ 100000000) : ∀ (suf pre : List (Int × Int)) (m : Nat) (out : List zJ), b.2.2 = pre ++ suf → suf.length < m → out.length + suf.length ≤ 4294967296 →
    KN K (toP b) m out ((2 * pre.length : Nat) : Int) = K (out ++ suf.map fun s => ⟨s.1, b.1, s.2, b.2.1⟩)
  | [], pre, m + 1, out, h1, _, _ => by
    rw [KN.eq_2, if_neg (by show ¬ decide (((2 * pre.length : Nat) : Int) < ((Qf b.2.2).length : Int)) = true; rw [h1, Kr]; simp)]
    simp
  | s :: suf, pre, m + 1, out, h1, h2, h3 => by
    have hpl : pre.length ≤ 100000000 := by rw [h1] at hb; simp at hb; omega
    have hfl : Qf b.2.2 = Qf pre ++ s.1 :: s.2 :: Qf suf := by rw [h1, zCj]; rfl
    have hid : idx (Qf b.2.2) ((2 * pre.length : Nat) : Int) = some s.1 := by rw [hfl, ← Kr]; exact Qn _ _ _
    have hid2 : idx (Qf b.2.2) (((2 * pre.length : Nat) : Int) + 1) = some s.2 := by
      rw [hfl, show Qf pre ++ s.1 :: s.2 :: Qf suf = (Qf pre ++ [s.1]) ++ s.2 :: Qf suf by simp, show (((2 * pre.length : Nat) : Int) + 1) = ((Qf pre ++ [s.1]).length : Int) by simp [Kr]]
      exact Qn _ _ _
    simp only [List.length_cons] at h2 h3
    rw [KN.eq_2, if_pos (by show decide (((2 * pre.length : Nat) : Int) < ((Qf b.2.2).length : Int)) = true; rw [hfl]; simp [Kr]; omega), Qg (x := ((2 * pre.length : Nat) : Int) + 1) (by omega) (by omega), Qg (x := ((2 * pre.length : Nat) : Int) + 2) (by omega) (by omega)]
    show ((idx (Qf b.2.2) _).bind fun zJA => (idx (Qf b.2.2) _).bind fun zD3 => _) = _
    rw [hid, Option.bind_some, hid2, Option.bind_some, Kl (by simp; omega), Option.bind_some]
    have := zUg (K := K) hb suf (pre ++ [s]) m (out ++ [⟨s.1, b.1, s.2, b.2.1⟩]) (by rw [h1]; simp) (by omega) (by simp; omega)
    rw [show ((2 * (pre ++ [s]).length : Nat) : Int) = ((2 * pre.length : Nat) : Int) + 2 by simp; omega] at this
    show KN K (toP b) m (out ++ [⟨s.1, b.1, s.2, b.2.1⟩]) _ = _
    rw [this]
    simp
theorem zUf {l : List Bd} (h : Small l) : zAI N (l.map toP) = some (KR l) := by
  have key : ∀ (suf : List Bd) (i : Nat) (out : List zJ), (∀ b ∈ suf, b.2.2.length ≤ 100000000) → out.length + (KR suf).length ≤ 4294967296 → JF N (suf.map toP) i out = some (out ++ KR suf) := by
    intro suf
    induction suf with
    | nil => intro i out _ _; rw [List.map_nil, JF.eq_1]; simp [KR]
    | cons b suf ih =>
      intro i out hb ho
      have hb0 := hb b (by simp)
      rw [zBu, List.length_append, zCW] at ho
      rw [List.map_cons, JF.eq_2]
      have := zUg (K := JF N (suf.map toP) (i + 1)) hb0 b.2.2 [] N out rfl (by omega) (by omega)
      rw [show ((2 * ([] : List (Int × Int)).length : Nat) : Int) = 0 from rfl] at this
      rw [this, ih (i + 1) _ (fun c hc => hb c (by simp [hc])) (by simp; omega), zBu, List.append_assoc]
      rfl
  have := key l 0 [] h.row (by have := h.tot; simp; omega)
  rw [List.nil_append] at this
  exact this
omit hN in
theorem zdv {l : List Bd} (h : (KR l).length ≤ 1000000000000000000) : zCQ (l.map toP) = some ((KR l).length : Int) := by
  have key : ∀ (suf : List Bd) (i : Nat) (c : Int), 0 ≤ c → c + (KR suf).length ≤ 1000000000000000000 → Kg (suf.map toP) i c = some (c + ((KR suf).length : Int)) := by
    intro suf
    induction suf with
    | nil => intro i c _ _; rw [List.map_nil, Kg.eq_1]; simp [KR]
    | cons b suf ih =>
      intro i c h0 ho
      rw [zBu, List.length_append, zCW] at ho
      have e : Int.tdiv ((toP b).Xs.length : Int) 2 = (b.2.2.length : Int) := by
        show Int.tdiv ((Qf b.2.2).length : Int) 2 = _
        rw [Kr, Int.tdiv_eq_ediv_of_nonneg (by omega)]; omega
      rw [List.map_cons, Kg.eq_2, e, Qg (x := (b.2.2.length : Int)) (by omega) (by omega), Qg (by omega) (by omega), ih (i + 1) _ (by omega) (by omega), zBu, List.length_append, zCW]
      congr 1
      omega
  have := key l 0 0 (by omega) (by omega)
  rw [Int.zero_add] at this
  exact this
def zS2 (l : List Bd) : List zJ × Int := if 2000 < (KR l).length then ([], 2) else (KR l, 0)
end
instance : DecidableEq zJ := fun _ _ => decidable_of_iff _ zEY
def zPf (r : zJ) : Int :=
  if (((within r.X0 (-1000000) 1000000 && within r.Y0 (-1000000) 1000000) && within r.X1 (-1000000) 1000000) && within r.Y1 (-1000000) 1000000) = false then 1
  else if (decide (r.X1 ≤ r.X0) || decide (r.Y1 ≤ r.Y0)) = true then 13 else 0
def zJK : List zJ → Int
  | [] => 0
  | r :: l => if zPf r = 0 then zJK l else zPf r
def zB8 (l : List zJ) : Int := if 2000 < l.length then 2 else zJK l
theorem zck {r : zJ} (h : zPf r = 0) : ROk r := by
  unfold zPf at h
  split at h
  · omega
  · rename_i h1
    split at h
    · omega
    · rename_i h2
      rw [Bool.not_eq_false, Bool.and_eq_true, Bool.and_eq_true, Bool.and_eq_true, within_iff, within_iff, within_iff, within_iff] at h1
      rw [Bool.or_eq_true, not_or, decide_eq_true_eq, decide_eq_true_eq] at h2
      exact ⟨h1.1.1.1, h1.1.1.2, h1.1.2, h1.2, by omega, by omega⟩
theorem zTD : ∀ {l : List zJ}, zJK l = 0 → ∀ r ∈ l, ROk r
  | [], _, r, hr => by simp at hr
  | a :: l, h, r, hr => by
    unfold zJK at h
    split at h
    · rename_i h1
      rcases List.mem_cons.1 hr with rfl | hr
      · exact zck h1
      · exact zTD h r hr
    · rename_i h1; exact absurd h h1
theorem zH8 {l : List zJ} (h : zB8 l = 0) : l.length ≤ 2000 ∧ ∀ r ∈ l, ROk r := by
  unfold zB8 at h
  split at h
  · omega
  · exact ⟨by omega, zTD h⟩
theorem zYr (r : zJ) : zCf r = some (((within r.X0 (-1000000) 1000000 && within r.Y0 (-1000000) 1000000) && within r.X1 (-1000000) 1000000) && within r.Y1 (-1000000) 1000000) := by
  unfold zCf zAN zDt within
  simp only [Option.bind_some]
  cases decide (-1000000 ≤ r.X0) && decide (r.X0 ≤ 1000000) <;> cases decide (-1000000 ≤ r.Y0) && decide (r.Y0 ≤ 1000000) <;> cases decide (-1000000 ≤ r.X1) && decide (r.X1 ≤ 1000000) <;> rfl
theorem zPu (l : List zJ) : zAJ l = some (zB8 l) := by
  have key : ∀ (l : List zJ) (i : Nat), KO l i = some (zJK l) := by
    intro l
    induction l with
    | nil => intro i; rw [KO.eq_1]; rfl
    | cons r l ih =>
      intro i
      rw [KO.eq_2, zYr, Option.bind_some, ih]
      show _ = some (if zPf r = 0 then zJK l else zPf r)
      generalize zJK l = z
      unfold zPf
      cases (((within r.X0 (-1000000) 1000000 && within r.Y0 (-1000000) 1000000) && within r.X1 (-1000000) 1000000) && within r.Y1 (-1000000) 1000000)
      · simp
      · cases (decide (r.X1 ≤ r.X0) || decide (r.Y1 ≤ r.Y0)) <;> simp
  unfold zAJ zB8
  by_cases h : 2000 < l.length
  · rw [if_pos (by simp; omega), if_pos h]
  · rw [if_neg (by simp; omega), if_neg h, key]
def ltR (a b : zJ) : Bool := decide (a.Y0 < b.Y0) || (decide (a.Y0 = b.Y0) && decide (a.X0 < b.X0))
def zTQ : List zJ → Bool
  | a :: b :: l => ltR a b && zTQ (b :: l)
  | _ => true
def zBG (l : List zJ) : Int := if zB8 l = 0 then if zTQ l = true then if KR (zCp l) = l then 0 else 3 else 8 else zB8 l
theorem zPK {N : Nat} (hN : 10000000000 ≤ N) (l : List zJ) : WH N l = some (zBG l) := by
  unfold WH zBG
  rw [zPu, Option.bind_some]
  by_cases he : zB8 l = 0
  · obtain ⟨hl, hok⟩ := zH8 he
    rw [if_neg (by simpa using he), if_pos he]
    have hend : (Wj N l).bind (fun zMP => (zAI N zMP).bind fun zHo => (WF zHo l).bind fun zYK => if (!zYK) then some 3 else some 0) = some (if KR (zCp l) = l then (0 : Int) else 3) := by
      rw [zUe hN (by omega) (fun r hr => (hok r hr).r9), Option.bind_some, zUf hN (zNu (by omega)), Option.bind_some]
      obtain ⟨b, h1, h2⟩ := zRQ (KR (zCp l)) l
      rw [h1, Option.bind_some]
      cases b
      · rw [if_pos (by simp), if_neg (fun h => by have := h2.2 h; cases this)]
      · rw [if_neg (by simp), if_pos (h2.1 rfl)]
    have key : ∀ (suf pre : List zJ) (a : zJ) (m : Nat), l = pre ++ a :: suf → suf.length < m → Qp N l m ((pre.length : Int) + 1) = some (if zTQ (a :: suf) = true then if KR (zCp l) = l then 0 else 3 else 8) := by
      intro suf
      induction suf with
      | nil =>
        intro pre a m h1 h2
        obtain ⟨m, rfl⟩ : ∃ k, m = k + 1 := ⟨m - 1, by omega⟩
        rw [Qp.eq_2, if_neg (by rw [h1]; simp), hend]
        rfl
      | cons b suf ih =>
        intro pre a m h1 h2
        obtain ⟨m, rfl⟩ : ∃ k, m = k + 1 := ⟨m - 1, by omega⟩
        have hpl : pre.length ≤ 2000 := by rw [h1] at hl; simp at hl; omega
        have ha : idx l (pre.length : Int) = some a := by rw [h1]; exact Qn pre _ a
        have hb : idx l ((pre.length : Int) + 1) = some b := by
          rw [h1, show pre ++ a :: b :: suf = (pre ++ [a]) ++ b :: suf by simp, show ((pre.length : Int) + 1) = ((pre ++ [a]).length : Int) by simp]
          exact Qn (pre ++ [a]) _ b
        rw [Qp.eq_2, if_pos (by rw [h1]; simp; omega), Qg (x := (pre.length : Int) + 1 - 1) (by omega) (by omega), show ((pre.length : Int) + 1 - 1) = (pre.length : Int) by omega, ha, Option.bind_some, hb, Option.bind_some, Qg (by omega) (by omega)]
        have hlt : ((decide (b.Y0 < a.Y0)) || ((b.Y0 == a.Y0) && (decide (b.X0 ≤ a.X0)))) = !ltR a b := by
          unfold ltR
          rw [Bool.eq_iff_iff]
          simp
          omega
        rw [hlt]
        have hor : zTQ (a :: b :: suf) = (ltR a b && zTQ (b :: suf)) := rfl
        rw [hor]
        cases ltR a b
        · simp
        · have := ih (pre ++ [a]) b m (by rw [h1]; simp) (by simp at h2; omega)
          rw [show (((pre ++ [a]).length : Int) + 1) = (pre.length : Int) + 1 + 1 by simp] at this
          rw [this]
          simp
    cases l with
    | nil =>
      obtain ⟨m, hm⟩ : ∃ k, N = k + 1 := ⟨N - 1, by omega⟩
      have hf : Qp N ([] : List zJ) N 1 = Qp N ([] : List zJ) (m + 1) 1 := congrArg (fun z => Qp N ([] : List zJ) z 1) hm
      rw [hf, Qp.eq_2, if_neg (by simp), hend]
      rfl
    | cons a suf =>
      exact key suf [] a N rfl (by simp at hl; omega)
  · rw [if_pos (by simpa using he), if_neg he]
def rowAt : List Bd → Int → List (Int × Int)
  | [], _ => []
  | b :: l, y => if b.1 ≤ y ∧ y < b.2.1 then b.2.2 else rowAt l y
def zD6 : Int → List Bd → Prop
  | _, [] => True
  | lo, b :: l => lo ≤ b.1 ∧ b.1 < b.2.1 ∧ b.2.2 ≠ [] ∧ (∀ d, l.head? = some d → d.1 = b.2.1 → d.2.2 ≠ b.2.2) ∧ zD6 b.2.1 l
theorem zBK : ∀ {l : List Bd} {lo y : Int}, zD6 lo l → y < lo → rowAt l y = []
  | [], _, _, _, _ => rfl
  | b :: l, lo, y, h, hy => by
    unfold rowAt
    rw [if_neg (by have := h.1; omega)]
    exact zBK h.2.2.2.2 (by have := h.1; have := h.2.1; omega)
theorem zD6.uniq : ∀ {l m : List Bd} {lo lo' : Int}, zD6 lo l → zD6 lo' m → (∀ y, rowAt l y = rowAt m y) → l = m
  | [], [], _, _, _, _, _ => rfl
  | [], b :: m, _, _, _, h2, h => by
    have := h b.1
    unfold rowAt at this
    rw [if_pos ⟨Int.le_refl _, h2.2.1⟩] at this
    exact absurd this.symm h2.2.2.1
  | b :: l, [], _, _, h1, _, h => by
    have := h b.1
    unfold rowAt at this
    rw [if_pos ⟨Int.le_refl _, h1.2.1⟩] at this
    exact absurd this h1.2.2.1
  | b :: l, d :: m, lo, lo', h1, h2, h => by
    obtain ⟨a1, a2, a3, a4, a5⟩ := h1
    obtain ⟨b1, b2, b3, b4, b5⟩ := h2
    have fst : ∀ {l : List Bd} {b : Bd} {y : Int}, b.1 ≤ y → y < b.2.1 → rowAt (b :: l) y = b.2.2 := fun h1 h2 => by unfold rowAt; rw [if_pos ⟨h1, h2⟩]
    have low : ∀ {l : List Bd} {b : Bd} {y : Int}, zD6 b.2.1 l → b.1 < b.2.1 → y < b.1 → rowAt (b :: l) y = [] := fun h1 h2 h3 => by
      unfold rowAt
      rw [if_neg (by omega)]
      exact zBK h1 (by omega)
    have e1 : b.1 = d.1 := by
      have hb := h b.1
      have hd := h d.1
      rw [fst (Int.le_refl _) a2] at hb
      rw [fst (l := m) (b := d) (Int.le_refl _) b2] at hd
      rcases Int.lt_trichotomy b.1 d.1 with hlt | heq | hgt
      · rw [low b5 b2 hlt] at hb; exact absurd hb a3
      · exact heq
      · rw [low a5 a2 hgt] at hd; exact absurd hd.symm b3
    have e2 : b.2.2 = d.2.2 := by
      have hb := h b.1
      rw [fst (Int.le_refl _) a2, e1, fst (Int.le_refl _) b2] at hb
      exact hb
    have past : ∀ {l : List Bd} {b : Bd}, zD6 b.2.1 l → (∀ d, l.head? = some d → d.1 = b.2.1 → d.2.2 ≠ b.2.2) → b.2.2 ≠ [] → rowAt (b :: l) b.2.1 ≠ b.2.2 := fun {l b} h1 h2 h3 => by
      unfold rowAt
      rw [if_neg (by omega)]
      cases l with
      | nil => exact fun h => h3 h.symm
      | cons e l =>
        unfold rowAt
        by_cases he : e.1 = b.2.1
        · rw [if_pos ⟨by omega, by have := h1.2.1; omega⟩]
          exact h2 e rfl he
        · have hlt : b.2.1 < e.1 := by have := h1.1; omega
          rw [if_neg (by omega), zBK h1.2.2.2.2 (by have := h1.2.1; omega)]
          exact fun h => h3 h.symm
    have e3 : b.2.1 = d.2.1 := by
      rcases Int.lt_trichotomy b.2.1 d.2.1 with hlt | heq | hgt
      · have := h b.2.1
        rw [fst (l := m) (b := d) (by omega) hlt, ← e2] at this
        exact absurd this (past a5 a4 a3)
      · exact heq
      · have := h d.2.1
        rw [fst (l := l) (b := b) (by omega) hgt, e2] at this
        exact absurd this.symm (past b5 b4 b3)
    have hbd : b = d := by
      obtain ⟨x, y, z⟩ := b
      obtain ⟨x', y', z'⟩ := d
      simp only at e1 e2 e3
      rw [e1, e2, e3]
    subst hbd
    rw [zD6.uniq a5 b5 fun y => by
      by_cases hy : y < b.2.1
      · rw [zBK a5 hy, zBK b5 hy]
      · have := h y
        unfold rowAt at this
        rw [if_neg (by omega), if_neg (by omega)] at this
        exact this]
def InB (x y : Int) (l : List Bd) : Prop := InS x (rowAt l y)
def InR (x y : Int) (l : List zJ) : Prop := ∃ r ∈ l, (r.X0 ≤ x ∧ x < r.X1) ∧ (r.Y0 ≤ y ∧ y < r.Y1)
structure BOk (l : List Bd) : Prop where
  can : ∃ lo, zD6 lo l
  row : ∀ b ∈ l, ∃ lo, Can lo b.2.2
theorem zQC : ∀ {l : List Bd} {y : Int}, rowAt l y = [] ∨ ∃ b ∈ l, b.1 ≤ y ∧ y < b.2.1 ∧ rowAt l y = b.2.2
  | [], _ => .inl rfl
  | b :: l, y => by
    unfold rowAt
    by_cases h : b.1 ≤ y ∧ y < b.2.1
    · rw [if_pos h]; exact .inr ⟨b, by simp, h.1, h.2, rfl⟩
    · rw [if_neg h]
      rcases zQC (l := l) (y := y) with h1 | ⟨c, h1, h2⟩
      · exact .inl h1
      · exact .inr ⟨c, by simp [h1], h2⟩
theorem BOk.at {l : List Bd} (h : BOk l) (y : Int) : ∃ lo, Can lo (rowAt l y) := by
  rcases zQC (l := l) (y := y) with h1 | ⟨b, h1, _, _, h2⟩
  · rw [h1]; exact ⟨0, trivial⟩
  · rw [h2]; exact h.row b h1
theorem zD6.mem : ∀ {l : List Bd} {lo : Int}, zD6 lo l → ∀ b ∈ l, lo ≤ b.1 ∧ b.1 < b.2.1 ∧ b.2.2 ≠ []
  | [], _, _, b, hb => by simp at hb
  | c :: l, lo, h, b, hb => by
    rcases List.mem_cons.1 hb with rfl | hb
    · exact ⟨h.1, h.2.1, h.2.2.1⟩
    · have hm := h.2.2.2.2.mem b hb
      have := h.1; have := h.2.1
      exact ⟨by omega, hm.2.1, hm.2.2⟩
theorem BOk.uniq {l m : List Bd} (h1 : BOk l) (h2 : BOk m) (h : ∀ x y, InB x y l ↔ InB x y m) : l = m := by
  obtain ⟨lo, c1⟩ := h1.can
  obtain ⟨lo', c2⟩ := h2.can
  refine c1.uniq c2 fun y => ?_
  obtain ⟨a, ha⟩ := h1.at y
  obtain ⟨b, hb⟩ := h2.at y
  exact ha.uniq hb fun x => h x y
theorem zZq : ∀ (l : List (Int × Int)), ∃ lo, ∀ p ∈ l, lo < p.1
  | [] => ⟨0, by simp⟩
  | q :: l => by
    obtain ⟨lo, h⟩ := zZq l
    refine ⟨min lo (q.1 - 1), fun p hp => ?_⟩
    rcases List.mem_cons.1 hp with rfl | hp
    · omega
    · have := h p hp; omega
theorem zku {l : List (Int × Int)} (h : ∀ p ∈ l, p.1 < p.2) : (∃ lo, Can lo (zJF l)) ∧ ∀ x, InS x (zJF l) ↔ InS x l := by
  obtain ⟨lo, hlo⟩ := zZq l
  obtain ⟨h1, h2⟩ := zNC (lo := lo) (l := l) fun p hp => ⟨hlo p hp, h p hp⟩
  exact ⟨⟨lo, h1⟩, h2⟩
theorem zIj {l : List zJ} (h : ∀ r ∈ l, r.X0 < r.X1) (y : Int) : (∃ lo, Can lo (zC5 l y)) ∧ ∀ x, InS x (zC5 l y) ↔ InR x y l := by
  obtain ⟨h1, h2⟩ := zku (l := (l.filter fun r => decide (r.Y0 ≤ y) && decide (y < r.Y1)).map xsR) fun p hp => by
    obtain ⟨r, hr, rfl⟩ := List.mem_map.1 hp
    exact h r (List.mem_filter.1 hr).1
  refine ⟨h1, fun x => (h2 x).trans ?_⟩
  unfold InS InR
  constructor
  · rintro ⟨p, hp, hx⟩
    obtain ⟨r, hr, rfl⟩ := List.mem_map.1 hp
    obtain ⟨hr, hy⟩ := List.mem_filter.1 hr
    simp at hy
    exact ⟨r, hr, hx, hy⟩
  · rintro ⟨r, hr, hx, hy⟩
    exact ⟨xsR r, List.mem_map.2 ⟨r, List.mem_filter.2 ⟨hr, by simp [hy]⟩, rfl⟩, hx⟩
theorem zWJ {l m : List (Int × Int)} (h1 : ∃ lo, Can lo l) (h2 : ∃ lo, Can lo m) (h : ∀ x, InS x l ↔ InS x m) : l = m := by
  obtain ⟨_, h1⟩ := h1
  obtain ⟨_, h2⟩ := h2
  exact h1.uniq h2 h
theorem zdo {l : List (Int × Int)} (h1 : ∃ lo, Can lo l) (h : ∀ x, ¬ InS x l) : l = [] := zWJ h1 ⟨0, trivial⟩ fun x => ⟨fun hx => absurd hx (h x), fun hx => absurd hx VF⟩
theorem zN3 {c : Bd} {l : List Bd} {b : Bd} (h : l ≠ []) : pushB (c :: l) b = c :: pushB l b := by
  by_cases he : b.2.2 = []
  · rw [zBL he, zBL he]
  · rcases List.eq_nil_or_concat l with rfl | ⟨j, d, hc⟩
    · exact absurd rfl h
    · rw [List.concat_eq_append] at hc
      subst hc
      rw [← List.cons_append, zCX he, zCX he]
      split <;> rfl
theorem zVN {c : Bd} {l : List Bd} {b : Bd} : ∃ e m, pushB (c :: l) b = e :: m ∧ e.1 = c.1 ∧ e.2.2 = c.2.2 := by
  by_cases hl : l = []
  · subst hl
    by_cases he : b.2.2 = []
    · rw [zBL he]; exact ⟨c, [], rfl, rfl, rfl⟩
    · have := zCX (l := []) (c := c) he
      rw [List.nil_append] at this
      rw [this]
      split
      · exact ⟨_, _, rfl, rfl, rfl⟩
      · exact ⟨_, _, rfl, rfl, rfl⟩
  · rw [zN3 hl]; exact ⟨_, _, rfl, rfl, rfl⟩
theorem zD6.push : ∀ {l : List Bd} {lo : Int} {b : Bd}, zD6 lo l → (∀ c ∈ l, c.2.1 ≤ b.1) → lo ≤ b.1 → b.1 < b.2.1 →
    zD6 lo (pushB l b) ∧ (∀ c ∈ pushB l b, c.2.1 ≤ b.2.1 ∧ (c.2.2 = b.2.2 ∨ ∃ d ∈ l, c.2.2 = d.2.2)) ∧ ∀ y, rowAt (pushB l b) y = if b.1 ≤ y ∧ y < b.2.1 then b.2.2 else rowAt l y
  | [], lo, b, h, h1, h2, h3 => by
    by_cases he : b.2.2 = []
    · rw [zBL he]
      exact ⟨h, by simp, fun y => by unfold rowAt; split <;> simp [he]⟩
    · rw [zGZ he]
      exact ⟨⟨h2, h3, he, by simp, trivial⟩, by simp, fun y => by unfold rowAt; rfl⟩
  | [c], lo, b, h, h1, h2, h3 => by
    have hc := h1 c (by simp)
    have h4 := h.2.1
    by_cases he : b.2.2 = []
    · rw [zBL he]
      refine ⟨h, fun d hd => ⟨by have := h1 d hd; omega, .inr ⟨d, hd, rfl⟩⟩, fun y => ?_⟩
      by_cases hy : b.1 ≤ y ∧ y < b.2.1
      · rw [if_pos hy, he]; unfold rowAt; rw [if_neg (by omega)]; rfl
      · rw [if_neg hy]
    · have hp := zCX (l := []) (c := c) he
      rw [List.nil_append] at hp
      rw [hp]
      by_cases hj : c.2.1 = b.1 ∧ c.2.2 = b.2.2
      · rw [if_pos hj]
        refine ⟨⟨h.1, by show c.1 < b.2.1; omega, h.2.2.1, by simp, trivial⟩, fun d hd => ?_, fun y => ?_⟩
        · simp at hd; subst hd; exact ⟨Int.le_refl _, .inr ⟨c, by simp, rfl⟩⟩
        · show (if c.1 ≤ y ∧ y < b.2.1 then c.2.2 else []) = if b.1 ≤ y ∧ y < b.2.1 then b.2.2 else if c.1 ≤ y ∧ y < c.2.1 then c.2.2 else []
          rw [hj.2]
          by_cases ha : b.1 ≤ y ∧ y < b.2.1
          · rw [if_pos ha, if_pos (by omega)]
          · rw [if_neg ha]
            by_cases hb : c.1 ≤ y ∧ y < c.2.1
            · rw [if_pos hb, if_pos (by omega)]
            · rw [if_neg hb, if_neg (by omega)]
      · rw [if_neg hj]
        refine ⟨⟨h.1, h.2.1, h.2.2.1, fun d hd e => ?_, ⟨hc, h3, he, by simp, trivial⟩⟩, fun d hd => ?_, fun y => ?_⟩
        · simp at hd; subst hd
          exact fun h' => hj ⟨e.symm, h'.symm⟩
        · simp at hd
          rcases hd with rfl | rfl
          · exact ⟨by omega, .inr ⟨d, by simp, rfl⟩⟩
          · exact ⟨Int.le_refl _, .inl rfl⟩
        · show (if c.1 ≤ y ∧ y < c.2.1 then c.2.2 else if b.1 ≤ y ∧ y < b.2.1 then b.2.2 else []) = if b.1 ≤ y ∧ y < b.2.1 then b.2.2 else if c.1 ≤ y ∧ y < c.2.1 then c.2.2 else []
          by_cases ha : b.1 ≤ y ∧ y < b.2.1
          · rw [if_pos ha, if_neg (by omega), if_pos ha]
          · rw [if_neg ha, if_neg ha]
  | c :: d :: l, lo, b, h, h1, h2, h3 => by
    obtain ⟨i1, i2, i3⟩ := zD6.push (l := d :: l) (lo := c.2.1) (b := b) h.2.2.2.2 (fun e he => h1 e (by simp [List.mem_cons.1 he])) (h1 c (by simp)) h3
    rw [zN3 (by simp)]
    have hc := h1 c (by simp)
    have h4 := h.2.1
    refine ⟨⟨h.1, h.2.1, h.2.2.1, fun e he e1 => ?_, i1⟩, fun e he => ?_, fun y => ?_⟩
    · obtain ⟨f, m, p1, p2, p3⟩ := zVN (c := d) (l := l) (b := b)
      rw [p1] at he
      simp at he
      subst he
      rw [p3]
      exact h.2.2.2.1 d rfl (by omega)
    · rcases List.mem_cons.1 he with rfl | he
      · exact ⟨by omega, .inr ⟨e, by simp, rfl⟩⟩
      · obtain ⟨j1, j2 | ⟨f, j2, j3⟩⟩ := i2 e he
        · exact ⟨j1, .inl j2⟩
        · exact ⟨j1, .inr ⟨f, by simp [List.mem_cons.1 j2], j3⟩⟩
    · show (if c.1 ≤ y ∧ y < c.2.1 then c.2.2 else rowAt (pushB (d :: l) b) y) = if b.1 ≤ y ∧ y < b.2.1 then b.2.2 else if c.1 ≤ y ∧ y < c.2.1 then c.2.2 else rowAt (d :: l) y
      rw [i3 y]
      by_cases ha : b.1 ≤ y ∧ y < b.2.1
      · rw [if_pos ha, if_pos ha, if_neg (by omega)]
      · rw [if_neg ha, if_neg ha]
def zAc (f : Int → List (Int × Int)) : List Int → List Bd → List Bd
  | a :: b :: ys, out => zAc f (b :: ys) (pushB out (a, b, f a))
  | _, out => out
theorem zRN (l : List zJ) : ∀ (ys : List Int) (out : List Bd), zDn l ys out = zAc (zC5 l) ys out
  | [], _ => rfl
  | [_], _ => rfl
  | a :: b :: ys, out => zRN l (b :: ys) (pushB out (a, b, zC5 l a))
def zSi (f : Int → List (Int × Int)) : List Int → Prop
  | a :: b :: ys => (∀ y, a ≤ y → y < b → f y = f a) ∧ zSi f (b :: ys)
  | _ => True
theorem zXs {f : Int → List (Int × Int)} {zs : List Int} (hc : ∀ a y, a ≤ y → (∀ z ∈ zs, z ≤ a ∨ y < z) → f y = f a) : ∀ {ys pre : List Int}, zs = pre ++ ys → zs.Pairwise (fun x y => x < y) → zSi f ys
  | [], _, _, _ => trivial
  | [_], _, _, _ => trivial
  | a :: b :: ys, pre, e, h => by
    refine ⟨fun y h1 h2 => hc a y h1 fun z hz => ?_, zXs hc (ys := b :: ys) (pre := pre ++ [a]) (by rw [e]; simp) h⟩
    rw [e] at hz h
    obtain ⟨_, k1, k2⟩ := List.pairwise_append.1 h
    rcases List.mem_append.1 hz with hz | hz
    · have := k2 z hz a (by simp); exact .inl (by omega)
    · rcases List.mem_cons.1 hz with rfl | hz
      · exact .inl (Int.le_refl _)
      · rcases List.mem_cons.1 hz with rfl | hz
        · exact .inr h2
        · have := (List.pairwise_cons.1 (List.pairwise_cons.1 k1).2).1 z hz; exact .inr (by omega)
theorem zUa {f : Int → List (Int × Int)} {lo : Int} (hf : ∀ y, ∃ lo, Can lo (f y)) : ∀ (ys : List Int) (out : List Bd), ys.Pairwise (fun x y => x < y) → zSi f ys → zD6 lo out → (∀ b ∈ out, ∃ lo, Can lo b.2.2) → (∀ a, ys.head? = some a → lo ≤ a ∧ (∀ c ∈ out, c.2.1 ≤ a)) →
    zD6 lo (zAc f ys out) ∧ (∀ b ∈ zAc f ys out, ∃ lo, Can lo b.2.2) ∧ ∀ y, rowAt (zAc f ys out) y = if (∃ a ∈ ys, a ≤ y) ∧ (∃ z ∈ ys, y < z) then f y else rowAt out y
  | [], out, _, _, h1, h2, _ => ⟨h1, h2, fun y => by rw [if_neg (by simp)]; rfl⟩
  | [a], out, _, _, h1, h2, _ => ⟨h1, h2, fun y => by rw [if_neg (by rintro ⟨⟨c, hc, h1⟩, z, hz, h2⟩; simp at hc hz; omega)]; rfl⟩
  | a :: b :: ys, out, hs, hc, h1, h2, h3 => by
    have hab : a < b := (List.pairwise_cons.1 hs).1 b (by simp)
    have hs2 := (List.pairwise_cons.1 hs).2
    obtain ⟨h5, h6⟩ := h3 a rfl
    obtain ⟨p1, p2, p3⟩ := h1.push (b := (a, b, f a)) h6 h5 hab
    obtain ⟨i1, i2, i3⟩ := zUa hf (b :: ys) (pushB out (a, b, f a)) hs2 hc.2 p1 (fun c hc => by
      rcases (p2 c hc).2 with e | ⟨d, hd, e⟩
      · rw [e]; exact hf a
      · rw [e]; exact h2 d hd) (fun z hz => by
      simp at hz; subst hz
      exact ⟨by omega, fun c hc => (p2 c hc).1⟩)
    refine ⟨i1, i2, fun y => ?_⟩
    show rowAt (zAc f (b :: ys) (pushB out (a, b, f a))) y = _
    rw [i3 y, p3 y]
    show (if (∃ c ∈ b :: ys, c ≤ y) ∧ (∃ z ∈ b :: ys, y < z) then f y else if a ≤ y ∧ y < b then f a else rowAt out y) = _
    by_cases ya : y < a
    · rw [if_neg (fun h => by
        obtain ⟨⟨c, hc, hcy⟩, _⟩ := h
        rcases List.mem_cons.1 hc with rfl | hc
        · omega
        · have := (List.pairwise_cons.1 hs2).1 c hc; omega), if_neg (by omega), if_neg (fun h => by
        obtain ⟨⟨c, hc, hcy⟩, _⟩ := h
        rcases List.mem_cons.1 hc with rfl | hc
        · omega
        · have := (List.pairwise_cons.1 hs).1 c hc; omega)]
    · by_cases yb : y < b
      · rw [if_neg (fun h => by
          obtain ⟨⟨c, hc, hcy⟩, _⟩ := h
          rcases List.mem_cons.1 hc with rfl | hc
          · omega
          · have := (List.pairwise_cons.1 hs2).1 c hc; omega), if_pos (by omega), if_pos ⟨⟨a, by simp, by omega⟩, ⟨b, by simp, yb⟩⟩]
        exact (hc.1 y (by omega) yb).symm
      · by_cases hz : ∃ z ∈ b :: ys, y < z
        · obtain ⟨z, hz, hyz⟩ := hz
          rw [if_pos ⟨⟨b, by simp, by omega⟩, z, hz, hyz⟩, if_pos ⟨⟨a, by simp, by omega⟩, z, List.mem_cons_of_mem _ hz, hyz⟩]
        · rw [if_neg (fun h => hz h.2), if_neg (by omega), if_neg (fun h => by
            obtain ⟨_, z, hm, hyz⟩ := h
            rcases List.mem_cons.1 hm with rfl | hm
            · omega
            · exact hz ⟨z, hm, hyz⟩)]
theorem zJx {f : Int → List (Int × Int)} {ys : List Int} (hs : ys.Pairwise fun x y => x < y) (hf : ∀ y, ∃ lo, Can lo (f y)) (hc : ∀ a y, a ≤ y → (∀ z ∈ ys, z ≤ a ∨ y < z) → f y = f a) (h0 : ∀ y, (∀ a ∈ ys, y < a) → f y = []) (h1 : ∀ y, (∀ a ∈ ys, a ≤ y) → f y = []) : BOk (zAc f ys []) ∧ ∀ y, rowAt (zAc f ys []) y = f y := by
  obtain ⟨lo, hlo⟩ : ∃ lo : Int, ∀ z ∈ ys, lo ≤ z := by
    have : ∀ m : List Int, ∃ lo : Int, ∀ z ∈ m, lo ≤ z := by
      intro m
      induction m with
      | nil => exact ⟨0, by simp⟩
      | cons a m ih =>
        obtain ⟨lo, h⟩ := ih
        refine ⟨min lo a, fun z hz => ?_⟩
        rcases List.mem_cons.1 hz with rfl | hz
        · omega
        · have := h z hz; omega
    exact this _
  obtain ⟨i1, i2, i3⟩ := zUa (lo := lo) hf ys [] hs (zXs hc (ys := ys) (pre := []) rfl hs) trivial (by simp) (fun a ha => ⟨hlo a (List.mem_of_mem_head? (by rw [ha]; rfl)), by simp⟩)
  refine ⟨⟨⟨lo, i1⟩, i2⟩, fun y => ?_⟩
  rw [i3 y]
  by_cases ha : ∃ a ∈ ys, a ≤ y
  · by_cases hz : ∃ z ∈ ys, y < z
    · rw [if_pos ⟨ha, hz⟩]
    · rw [if_neg (fun h => hz h.2), h1 y (fun a ham => by
        rcases Int.lt_or_le y a with h | h
        · exact absurd ⟨a, ham, h⟩ hz
        · exact h)]; rfl
  · rw [if_neg (fun h => ha h.1), h0 y (fun a ham => by
      rcases Int.lt_or_le y a with h | h
      · exact h
      · exact absurd ⟨a, ham, h⟩ ha)]; rfl
theorem zTF {l : List zJ} (hl : ∀ r ∈ l, r.X0 < r.X1) {y : Int} (h : ∀ r ∈ l, ¬ (r.Y0 ≤ y ∧ y < r.Y1)) : zC5 l y = [] := by
  obtain ⟨c1, c2⟩ := zIj hl y
  exact zdo c1 fun x hx => by
    obtain ⟨r, hr, _, hy⟩ := (c2 x).1 hx
    exact h r hr hy
theorem zVH {l : List zJ} (hl : ∀ r ∈ l, r.X0 < r.X1) {a y : Int} (h : ∀ r ∈ l, (r.Y0 ≤ y ∧ y < r.Y1) ↔ (r.Y0 ≤ a ∧ a < r.Y1)) : zC5 l y = zC5 l a := by
  obtain ⟨c1, c2⟩ := zIj hl y
  obtain ⟨c3, c4⟩ := zIj hl a
  refine zWJ c1 c3 fun x => (c2 x).trans (Iff.trans ?_ (c4 x).symm)
  unfold InR
  constructor
  · rintro ⟨r, hr, hx, hy⟩; exact ⟨r, hr, hx, (h r hr).1 hy⟩
  · rintro ⟨r, hr, hx, hy⟩; exact ⟨r, hr, hx, (h r hr).2 hy⟩
theorem zTG {l : List zJ} {ys : List Int} (hl : ∀ r ∈ l, r.X0 < r.X1 ∧ r.Y0 < r.Y1) (hy : ∀ r ∈ l, r.Y0 ∈ ys ∧ r.Y1 ∈ ys) : (∀ a y, a ≤ y → (∀ z ∈ ys, z ≤ a ∨ y < z) → zC5 l y = zC5 l a) ∧ (∀ y, (∀ a ∈ ys, y < a) → zC5 l y = []) ∧ (∀ y, (∀ a ∈ ys, a ≤ y) → zC5 l y = []) := by
  have hx : ∀ r ∈ l, r.X0 < r.X1 := fun r hr => (hl r hr).1
  refine ⟨fun a y hay h => zVH hx fun r hr => ?_, fun y h => zTF hx fun r hr hh => ?_, fun y h => zTF hx fun r hr hh => ?_⟩
  · have := h _ (hy r hr).1; have := h _ (hy r hr).2; omega
  · have := h _ (hy r hr).1; omega
  · have := h _ (hy r hr).2; omega
theorem zZd {l : List zJ} (hl : ∀ r ∈ l, r.X0 < r.X1 ∧ r.Y0 < r.Y1) : BOk (zCp l) ∧ ∀ y, rowAt (zCp l) y = zC5 l y := by
  obtain ⟨h1, h2, h3⟩ := zTG (ys := QP (QV l)) hl fun r hr => ⟨(Vd _ _).2 (zAG.2 ⟨r, hr, .inl rfl⟩), (Vd _ _).2 (zAG.2 ⟨r, hr, .inr rfl⟩)⟩
  have := zJx (JG (QV l)) (fun y => (zIj (fun r hr => (hl r hr).1) y).1) h1 h2 h3
  unfold zCp
  rw [zRN]
  exact this
theorem zce {l : List zJ} (hl : ∀ r ∈ l, r.X0 < r.X1 ∧ r.Y0 < r.Y1) : BOk (zCp l) ∧ ∀ x y, InB x y (zCp l) ↔ InR x y l := by
  obtain ⟨h1, h2⟩ := zZd hl
  refine ⟨h1, fun x y => ?_⟩
  unfold InB
  rw [h2]
  exact (zIj (fun r hr => (hl r hr).1) y).2 x
theorem zD6.mono {l : List Bd} {lo lo' : Int} (h : zD6 lo l) (hl : lo' ≤ lo) : zD6 lo' l := by
  cases l with
  | nil => trivial
  | cons b l => exact ⟨by have := h.1; omega, h.2⟩
theorem zKF {l : List zJ} (h : zBG l = 0) : zB8 l = 0 ∧ l.length ≤ 2000 ∧ (∀ r ∈ l, ROk r) ∧ KR (zCp l) = l := by
  unfold zBG at h
  by_cases h1 : zB8 l = 0
  · obtain ⟨h2, h3⟩ := zH8 h1
    rw [if_pos h1] at h
    split at h
    · split at h
      · rename_i h4; exact ⟨h1, h2, h3, h4⟩
      · omega
    · omega
  · rw [if_neg h1] at h; exact absurd h h1
theorem ROk.ne {l : List zJ} (h : ∀ r ∈ l, ROk r) : ∀ r ∈ l, r.X0 < r.X1 ∧ r.Y0 < r.Y1 := fun r hr => ⟨(h r hr).x, (h r hr).y⟩
theorem zdx {l : List zJ} (h : ∀ r ∈ l, ROk r) {x y : Int} (hx : InR x y l) : (-1000000 ≤ x ∧ x < 1000000) ∧ (-1000000 ≤ y ∧ y < 1000000) := by
  obtain ⟨r, hr, h1, h2⟩ := hx
  have a := h r hr
  have := a.x0; have := a.x1; have := a.y0; have := a.y1
  omega
end Go.Proofs.YtacapjleiadkkaaGreat
