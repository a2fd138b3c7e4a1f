/- TabsMatchSpec: enough fuel for any panel. -/
import Derived.Test.YtpkicpnbpldkpaaA3
import Derived.Test.YtpkicpnbpldkpaaTMR
namespace Go.Proofs.Ytpkicpnbpldkpaa
/-- The sum of the sizes of the names. -/
def namesSize : List TBoardKind → Nat
  | [] => 0
  | k :: l => k.Name.size + namesSize l
theorem namesSize_le : ∀ {l : List TBoardKind} {k : TBoardKind}, k ∈ l → k.Name.size ≤ namesSize l
  | a :: l, k, h => by
    rcases List.mem_cons.1 h with rfl | h
    · unfold namesSize; omega
    · have := namesSize_le h; unfold namesSize; omega
/-- Fuel for a panel. -/
def fuelOf (p : TPanel) : Nat := 20000000 + p.Kinds.length + p.Slots.length + p.Marks.length + namesSize p.Kinds + 1
theorem fuel_names {p : TPanel} (h : ∀ k ∈ p.Kinds, k.Name.size ≤ 9223372036854775807) : ∀ k ∈ p.Kinds, k.Name.size ≤ 9223372036854775807 ∧ k.Name.size < fuelOf p := fun k hk => ⟨h k hk, by have := namesSize_le hk; unfold fuelOf; omega⟩
theorem TabsMatch_plain (p : TPanel) (slot most : Int) (h : p.Wf) (_ : I64 slot) (_ : I64 most) : ∃ N, F_etchhouselaw9_TabsMatchSpec N p slot most = some true :=
  ⟨fuelOf p, TabsMatch_ok slot most (by unfold fuelOf; omega) (by unfold fuelOf; omega) (fuel_names fun k hk => (h.fKinds.2 k hk).fName)⟩
end Go.Proofs.Ytpkicpnbpldkpaa
