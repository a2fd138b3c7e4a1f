/- One board more, and boards needed: enough fuel for any panel. -/
import Derived.Test.YtpkicpnbpldkpaaD3
import Derived.Test.YtpkicpnbpldkpaaPBR
namespace Go.Proofs.Ytpkicpnbpldkpaa
/-- The sum of the sizes of the names. -/
def namesSize : List TBoardKind → Nat
  | [] => 0
  | k :: l => k.Name.size + namesSize l
theorem namesSize_le : ∀ {l : List TBoardKind} {k : TBoardKind}, k ∈ l → k.Name.size ≤ namesSize l
  | a :: l, k, h => by
    rcases List.mem_cons.1 h with rfl | h
    · unfold namesSize; omega
    · have := namesSize_le h; unfold namesSize; omega
/-- Fuel for a panel. -/
def fuelOf (p : TPanel) : Nat := 20000000 + p.Kinds.length + p.Slots.length + p.Marks.length + namesSize p.Kinds + 1
theorem fuelP {p : TPanel} (h : p.Wf) : FuelP (fuelOf p) p :=
  ⟨by unfold fuelOf; omega, by unfold fuelOf; omega, fun k hk => ⟨(h.fKinds.2 k hk).fName, by have := namesSize_le hk; unfold fuelOf; omega⟩⟩
theorem AddedMatch_plain (p : TPanel) (b : ByteArray) (n : Int) (h : p.Wf) {X Y : Prop} (_ : X) (_ : Y) : ∃ N, F_etchhouselaw9_PanelAddedMatchSpec N p b n = some true :=
  ⟨fuelOf p, addedMatch_ok (fuelP h) b n⟩
end Go.Proofs.Ytpkicpnbpldkpaa
