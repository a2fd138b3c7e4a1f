/- The rules of the small logic, an operation each: numbers, tests, strings. Over any program. Conditions: none beyond each theorem's own. -/
import Derived.Test.YtfddmjoldoddlaaH0
namespace Go.Proofs.Ytfddmjoldoddlaa
open Go.RowKit
/-- What an int becomes that is too large. -/
def w64 (x : Int) : Int := IntKind.i64.wrap x
theorem w64_eq {x : Int} (h : -9223372036854775808 ≤ x) (h' : x ≤ 9223372036854775807) : w64 x = x := IntWalk.i64_in _ ⟨h, h'⟩
section
variable {P : Program} {ρ : Operand → Value} {W : World} {d : Option Tmp} {ty T T' : TypeId} {pos : String} {af : Array Edge} {g : Option (Nat × Bool)} {p q : Operand} {u v : Value} {i j : Int} {k : IntKind} {b c : Bool} {s t : ByteArray}
theorem run_move (hp : ρ p = v) : (execOp ρ ⟨d, .move p, ty, pos, af, g⟩).run P W = .ok (.value v) W := by simp [execOp, go_sem, hp]
theorem run_assign (hp : ρ p = v) : (execOp ρ ⟨d, .assign p, ty, pos, af, g⟩).run P W = .ok (.value v) W := by simp [execOp, go_sem, hp]
theorem run_pickT {x : Operand} (hc : ρ x = .bool true) (hp : ρ p = v) : (execOp ρ ⟨d, .pick x p q, ty, pos, af, g⟩).run P W = .ok (.value v) W := by simp [execOp, go_sem, hc, hp]
theorem run_pickF {x : Operand} (hc : ρ x = .bool false) (hp : ρ q = v) : (execOp ρ ⟨d, .pick x p q, ty, pos, af, g⟩).run P W = .ok (.value v) W := by simp [execOp, go_sem, hc, hp]
theorem run_add (hp : ρ p = .int .i64 i) (hq : ρ q = .int .i64 j) : (execOp ρ ⟨d, .binOp .add T p q T', ty, pos, af, g⟩).run P W = .ok (.value (.int .i64 (w64 (i + j)))) W := by simp [execOp, go_sem, hp, hq, w64]
theorem run_sub (hp : ρ p = .int .i64 i) (hq : ρ q = .int .i64 j) : (execOp ρ ⟨d, .binOp .sub T p q T', ty, pos, af, g⟩).run P W = .ok (.value (.int .i64 (w64 (i - j)))) W := by simp [execOp, go_sem, hp, hq, w64]
theorem run_mul (hp : ρ p = .int .i64 i) (hq : ρ q = .int .i64 j) : (execOp ρ ⟨d, .binOp .mul T p q T', ty, pos, af, g⟩).run P W = .ok (.value (.int .i64 (w64 (i * j)))) W := by simp [execOp, go_sem, hp, hq, w64]
theorem run_quo (hp : ρ p = .int .i64 i) (hq : ρ q = .int .i64 j) (h : j ≠ 0) : (execOp ρ ⟨d, .binOp .quo T p q T', ty, pos, af, g⟩).run P W = .ok (.value (.int .i64 (w64 (i.tdiv j)))) W := by simp [execOp, go_sem, hp, hq, w64, h]
theorem run_rem (hp : ρ p = .int .i64 i) (hq : ρ q = .int .i64 j) (h : j ≠ 0) : (execOp ρ ⟨d, .binOp .rem T p q T', ty, pos, af, g⟩).run P W = .ok (.value (.int .i64 (i.tmod j))) W := by simp [execOp, go_sem, hp, hq, h]
theorem run_lss (hp : ρ p = .int k i) (hq : ρ q = .int k j) : (execOp ρ ⟨d, .binOp .lss T p q T', ty, pos, af, g⟩).run P W = .ok (.value (.bool (decide (i < j)))) W := by simp [execOp, go_sem, hp, hq]
theorem run_leq (hp : ρ p = .int k i) (hq : ρ q = .int k j) : (execOp ρ ⟨d, .binOp .leq T p q T', ty, pos, af, g⟩).run P W = .ok (.value (.bool (decide (i ≤ j)))) W := by simp [execOp, go_sem, hp, hq]
theorem run_gtr (hp : ρ p = .int k i) (hq : ρ q = .int k j) : (execOp ρ ⟨d, .binOp .gtr T p q T', ty, pos, af, g⟩).run P W = .ok (.value (.bool (decide (j < i)))) W := by simp [execOp, go_sem, hp, hq]
theorem run_geq (hp : ρ p = .int k i) (hq : ρ q = .int k j) : (execOp ρ ⟨d, .binOp .geq T p q T', ty, pos, af, g⟩).run P W = .ok (.value (.bool (decide (j ≤ i)))) W := by simp [execOp, go_sem, hp, hq]
theorem run_eql (hp : ρ p = .int k i) (hq : ρ q = .int k j) : (execOp ρ ⟨d, .binOp .eql T p q T', ty, pos, af, g⟩).run P W = .ok (.value (.bool (i == j))) W := by simp [execOp, go_sem, hp, hq]
theorem run_neq (hp : ρ p = .int k i) (hq : ρ q = .int k j) : (execOp ρ ⟨d, .binOp .neq T p q T', ty, pos, af, g⟩).run P W = .ok (.value (.bool (i != j))) W := by simp [execOp, go_sem, hp, hq]
def sEq (s t : ByteArray) : Bool := s.toList == t.toList
def sLt (s t : ByteArray) : Bool := Op.bytesLess s.toList t.toList
theorem run_eqlS (hp : ρ p = .string s) (hq : ρ q = .string t) : (execOp ρ ⟨d, .binOp .eql T p q T', ty, pos, af, g⟩).run P W = .ok (.value (.bool (sEq s t))) W := by simp [execOp, go_sem, hp, hq, binOp, Op.stringOp, sEq]
theorem run_neqS (hp : ρ p = .string s) (hq : ρ q = .string t) : (execOp ρ ⟨d, .binOp .neq T p q T', ty, pos, af, g⟩).run P W = .ok (.value (.bool (!sEq s t))) W := by simp [execOp, go_sem, hp, hq, binOp, Op.stringOp, sEq]
theorem run_lssS (hp : ρ p = .string s) (hq : ρ q = .string t) : (execOp ρ ⟨d, .binOp .lss T p q T', ty, pos, af, g⟩).run P W = .ok (.value (.bool (sLt s t))) W := by simp [execOp, go_sem, hp, hq, binOp, Op.stringOp, sLt]
theorem run_leqS (hp : ρ p = .string s) (hq : ρ q = .string t) : (execOp ρ ⟨d, .binOp .leq T p q T', ty, pos, af, g⟩).run P W = .ok (.value (.bool (sLt s t || sEq s t))) W := by simp [execOp, go_sem, hp, hq, binOp, Op.stringOp, sLt, sEq]
theorem run_gtrS (hp : ρ p = .string s) (hq : ρ q = .string t) : (execOp ρ ⟨d, .binOp .gtr T p q T', ty, pos, af, g⟩).run P W = .ok (.value (.bool (!(sLt s t || sEq s t)))) W := by simp [execOp, go_sem, hp, hq, binOp, Op.stringOp, sLt, sEq]
theorem run_geqS (hp : ρ p = .string s) (hq : ρ q = .string t) : (execOp ρ ⟨d, .binOp .geq T p q T', ty, pos, af, g⟩).run P W = .ok (.value (.bool (!sLt s t))) W := by simp [execOp, go_sem, hp, hq, binOp, Op.stringOp, sLt]
theorem run_addS (hp : ρ p = .string s) (hq : ρ q = .string t) (h : s.size + t.size ≤ 9223372036854775807) : (execOp ρ ⟨d, .binOp .add T p q T', ty, pos, af, g⟩).run P W = .ok (.value (.string (s ++ t))) W := by
  have h' : ¬ ((s.size + t.size : Nat) : Int) > 9223372036854775807 := by omega
  simp [execOp, go_sem, hp, hq, binOp, Op.stringOp]; omega
theorem run_eqlB (hu : P.underlying T = some .bool) (hp : ρ p = .bool b) (hq : ρ q = .bool c) : (execOp ρ ⟨d, .binOp .eql T p q T', ty, pos, af, g⟩).run P W = .ok (.value (.bool (b == c))) W := by
  have e : (binOp .eql T (.bool b) (.bool c)).run P W = .ok (.bool (b == c)) W := by
    show ((Op.equal T (.bool b) (.bool c)) >>= fun x => (pure (.bool x) : Sem Value)).run P W = _
    rw [Sem.run_bind, run_equal_bool W T b c hu]; rfl
  simp [execOp, go_sem, hp, hq, e]
theorem run_neqB (hu : P.underlying T = some .bool) (hp : ρ p = .bool b) (hq : ρ q = .bool c) : (execOp ρ ⟨d, .binOp .neq T p q T', ty, pos, af, g⟩).run P W = .ok (.value (.bool (b != c))) W := by
  have e : (binOp .neq T (.bool b) (.bool c)).run P W = .ok (.bool (b != c)) W := by
    show ((Op.equal T (.bool b) (.bool c)) >>= fun x => (pure (.bool (!x)) : Sem Value)).run P W = _
    rw [Sem.run_bind, run_equal_bool W T b c hu]; rfl
  simp [execOp, go_sem, hp, hq, e]
theorem run_not (hp : ρ p = .bool b) : (execOp ρ ⟨d, .unOp .not T p, ty, pos, af, g⟩).run P W = .ok (.value (.bool (!b))) W := by simp [execOp, go_sem, hp, Op.unary]
theorem run_neg (hp : ρ p = .int .i64 i) : (execOp ρ ⟨d, .unOp .neg T p, ty, pos, af, g⟩).run P W = .ok (.value (.int .i64 (w64 (0 - i)))) W := by simp [execOp, go_sem, hp, Op.unary, w64]
theorem run_extract {vs : Array Value} {m : Nat} (hp : ρ p = .tuple vs) (hv : vs[m]? = some v) : (execOp ρ ⟨d, .extract p m, ty, pos, af, g⟩).run P W = .ok (.value v) W := by simp [execOp, go_sem, hp, hv]
theorem run_makeFunc {h : FuncId} {cs : Array Operand} {vs : Array Value} (hc : cs.map ρ = vs) : (execOp ρ ⟨d, .makeFunc (.func h) #[] cs, ty, pos, af, g⟩).run P W = .ok (.value (.func (.func h) #[] vs)) W := by simp [execOp, go_sem, hc, Instr.makeFunc]
theorem run_lenS (hu : P.underlying T = some .string) (hp : ρ p = .string s) : (execOp ρ ⟨d, .call ⟨.builtin .len, #[p], #[T]⟩, ty, pos, af, g⟩).run P W = .ok (.value (.int .i64 s.size)) W := by
  simp [execOp, go_sem, hp, Builtin.len_, run_underlying hu]
theorem run_min (hp : ρ p = .int k i) (hq : ρ q = .int k j) (ts : Array TypeId) : (execOp ρ ⟨d, .call ⟨.builtin .min, #[p, q], ts⟩, ty, pos, af, g⟩).run P W = .ok (.value (.int k (min i j))) W := by
  simp [execOp, go_sem, hp, hq, Builtin.min_, Builtin.min2, Int.min_def]
  split <;> split <;> first | rfl | omega | (congr 3; omega)
theorem run_max (hp : ρ p = .int k i) (hq : ρ q = .int k j) (ts : Array TypeId) : (execOp ρ ⟨d, .call ⟨.builtin .max, #[p, q], ts⟩, ty, pos, af, g⟩).run P W = .ok (.value (.int k (max i j))) W := by
  simp [execOp, go_sem, hp, hq, Builtin.max_, Builtin.max2, Int.max_def]
  split <;> split <;> first | rfl | omega | (congr 3; omega)
def strAt (s : ByteArray) (i : Int) : Option Int := if 0 ≤ i then (s[i.toNat]?).map fun b => (b.toNat : Int) else none
theorem run_indexS (hu : P.underlying T = some .string) (hp : ρ p = .string s) (hq : ρ q = .int k i) (hv : strAt s i = some j) : (execOp ρ ⟨d, .index T p q, ty, pos, af, g⟩).run P W = .ok (.value (.int .u8 j)) W := by
  unfold strAt at hv
  split at hv
  · rename_i h0
    cases hb : s[i.toNat]? with
    | none => rw [hb] at hv; cases hv
    | some x => rw [hb] at hv; simp at hv; subst hv; simp [execOp, go_sem, hp, hq, Instr.index, run_underlying hu, h0, hb]
  · cases hv
def strCut (s : ByteArray) (lo hi : Int) : Option ByteArray := if 0 ≤ lo ∧ lo ≤ hi ∧ hi ≤ s.size then some (s.extract lo.toNat hi.toNat) else none
theorem run_cutS (hu : P.underlying T = some .string) {x y : Operand} (hp : ρ p = .string s) (hx : ρ x = .int .i64 i) (hy : ρ y = .int .i64 j) (hv : strCut s i j = some t) : (execOp ρ ⟨d, .slice T p (some x) (some y) none, ty, pos, af, g⟩).run P W = .ok (.value (.string t)) W := by
  unfold strCut at hv
  split at hv
  · rename_i h; obtain ⟨h1, h2, h3⟩ := h; simp at hv; subst hv
    have h4 : i ≤ (j.toNat : Int) := by omega
    have h5 : 0 ≤ j := by omega
    have h6 : ¬ max j 0 < i := by omega
    simp [execOp, go_sem, hp, hx, hy, Instr.sliceAt, Instr.slice, Instr.sliceBounds, Instr.sliceBound, run_underlying hu, h1, h3, h5]
    exact fun h => absurd h h6
  · cases hv
end
end Go.Proofs.Ytfddmjoldoddlaa
