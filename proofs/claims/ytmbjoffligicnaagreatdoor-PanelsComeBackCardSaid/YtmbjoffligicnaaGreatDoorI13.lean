/- PanelsComeBack: enough fuel for any panel and any text. -/
import Derived.Test.YtmbjoffligicnaaGreatDoorJ3
import Derived.Test.YtmbjoffligicnaaGreatDoorQPCBR
namespace Go.Proofs.YtmbjoffligicnaaGreatDoor
/-- The sum of the sizes of the names. -/
def namesSize : List TBoardKind → Nat
  | [] => 0
  | k :: l => k.Name.size + namesSize l
theorem namesSize_le : ∀ {l : List TBoardKind} {k : TBoardKind}, k ∈ l → k.Name.size ≤ namesSize l
  | a :: l, k, h => by
    rcases List.mem_cons.1 h with rfl | h
    · unfold namesSize; omega
    · have := namesSize_le h; unfold namesSize; omega
/-- Fuel for a panel. -/
def fuelOf (p : TPanel) : Nat := 20000000 + p.Kinds.length + namesSize p.Kinds + 1
theorem fuelP {p : TPanel} (h : p.Wf) : FuelP (fuelOf p) p :=
  ⟨by unfold fuelOf; omega, by unfold fuelOf; omega, fun k hk => ⟨(h.fKinds.2 k hk).fName, by have := namesSize_le hk; unfold fuelOf; omega⟩⟩
theorem PanelsBack_plain (p : TPanel) (t : ByteArray) (h : p.Wf) {X : Prop} (_ : X) : ∃ N, F_etchhouselaw9_PanelsComeBack N p t = some true :=
  ⟨fuelOf p, panelsComeBack_ok (fuelP h) (fun k hk => (h.fKinds.2 k hk).fName) t⟩
end Go.Proofs.YtmbjoffligicnaaGreatDoor
