/- A checked panel, with fuel. Plain Lean about the plain functions. -/
import Derived.Test.YtfddmjoldoddlaaA2
namespace Go.Proofs.Ytfddmjoldoddlaa
structure FuelP (N : Nat) (p : TPanel) : Prop where
  big : 20000000 ≤ N
  kinds : p.Kinds.length < N
  names : ∀ k ∈ p.Kinds, k.Name.size ≤ 9223372036854775807 ∧ k.Name.size < N
theorem eif (a b : Bool) : (if a = true then some b else some false) = some (a && b) := by cases a <;> rfl
theorem awakeP_ok {N : Nat} (hN : 3 ≤ N) : F_etchhouselaw9_awake N = some true := by
  obtain ⟨m, rfl⟩ : ∃ m, N = m + 3 := ⟨N - 3, by omega⟩
  rfl
end Go.Proofs.Ytfddmjoldoddlaa
