/- Slices that are compared with nil. Conditions: none beyond each theorem's own. -/
import Derived.Test.YtfddmjoldoddlaaH10
import Derived.Lib.LazyBuf
namespace Go.Proofs.Ytfddmjoldoddlaa
open Go.RowKit
section
variable {P : Program} {ρ : Operand → Value} {W : World} {dd : Option Tmp} {ty T T' e : TypeId} {pos : String} {af : Array Edge} {g : Option (Nat × Bool)} {p q : Operand} {A : Option Addr} {n c : Nat}
theorem run_eqlNil (hu : P.underlying T = some (.slice e)) (hp : ρ p = .slice A n c) (hq : ρ q = .slice none 0 0) : (execOp ρ ⟨dd, .binOp .eql T p q T', ty, pos, af, g⟩).run P W = .ok (.value (.bool A.isNone)) W := by
  simp [execOp, hp, hq, Lib.run_eql_slice_nil W T e A n c 0 0 hu, eqGuard]
theorem run_neqNil (hu : P.underlying T = some (.slice e)) (hp : ρ p = .slice A n c) (hq : ρ q = .slice none 0 0) : (execOp ρ ⟨dd, .binOp .neq T p q T', ty, pos, af, g⟩).run P W = .ok (.value (.bool (!A.isNone))) W := by
  simp [execOp, hp, hq, run_neq_slice_nil_any W T e A n c 0 0 hu, eqGuard]
theorem slf_none {α : Type} {l : List α} {c : Nat} (h : SlF none l.length c) : l = [] := by
  cases l with
  | nil => rfl
  | cons x l => have := h.2.2 (by simp); cases this
end
end Go.Proofs.Ytfddmjoldoddlaa
