/- min and max of three. Over any program. -/
import Derived.Test.YtfddmjoldoddlaaH13
namespace Go.Proofs.Ytfddmjoldoddlaa
open Go.RowKit
section
variable {P : Program} {ρ : Operand → Value} {W : World} {d : Option Tmp} {ty : TypeId} {pos : String} {af : Array Edge} {g : Option (Nat × Bool)} {p q r : Operand} {k : IntKind} {i j m : Int}
theorem max2_run : (Builtin.max2 (.int k i) (.int k j)).run P W = .ok (.int k (max i j)) W := by
  simp [Builtin.max2, Int.max_def]
  split <;> split <;> first | rfl | omega | (congr 2; omega)
theorem min2_run : (Builtin.min2 (.int k i) (.int k j)).run P W = .ok (.int k (min i j)) W := by
  simp [Builtin.min2, Int.min_def]
  split <;> split <;> first | rfl | omega | (congr 2; omega)
theorem run_max3 (hp : ρ p = .int k i) (hq : ρ q = .int k j) (hr : ρ r = .int k m) (ts : Array TypeId) : (execOp ρ ⟨d, .call ⟨.builtin .max, #[p, q, r], ts⟩, ty, pos, af, g⟩).run P W = .ok (.value (.int k (max (max i j) m))) W := by
  simp [execOp, go_sem, hp, hq, hr, Builtin.max_, max2_run]
theorem run_min3 (hp : ρ p = .int k i) (hq : ρ q = .int k j) (hr : ρ r = .int k m) (ts : Array TypeId) : (execOp ρ ⟨d, .call ⟨.builtin .min, #[p, q, r], ts⟩, ty, pos, af, g⟩).run P W = .ok (.value (.int k (min (min i j) m))) W := by
  simp [execOp, go_sem, hp, hq, hr, Builtin.min_, min2_run]
end
/-- A function that falls off its end. -/
theorem Tr.offEnd {P : Program} {w : Bs} {n : Nat} {f : Nat → Option Value} {E : Nat → Ent} {fu : Func} {R : Ending → World → Prop} (h : Tr w n f E (bodyPost P fu R .ret)) : Tr w n f E (bodyPost P fu R .normal) := fun a W h1 h2 => h a W h1 h2
end Go.Proofs.Ytfddmjoldoddlaa
