/- Panel points: enough fuel for any panel. -/
import Derived.Test.YtpkicpnbpldkpaaB3
import Derived.Test.YtpkicpnbpldkpaaPCR
namespace Go.Proofs.Ytpkicpnbpldkpaa
/-- The sum of the sizes of the names. -/
def namesSize : List TBoardKind → Nat
  | [] => 0
  | k :: l => k.Name.size + namesSize l
theorem namesSize_le : ∀ {l : List TBoardKind} {k : TBoardKind}, k ∈ l → k.Name.size ≤ namesSize l
  | a :: l, k, h => by
    rcases List.mem_cons.1 h with rfl | h
    · unfold namesSize; omega
    · have := namesSize_le h; unfold namesSize; omega
/-- Fuel for a panel. -/
def fuelOf (p : TPanel) : Nat := 20000000 + p.Kinds.length + p.Slots.length + p.Marks.length + namesSize p.Kinds + 1
theorem fuelP {p : TPanel} (h : p.Wf) : FuelP (fuelOf p) p :=
  ⟨by unfold fuelOf; omega, by unfold fuelOf; omega, fun k hk => ⟨(h.fKinds.2 k hk).fName, by have := namesSize_le hk; unfold fuelOf; omega⟩⟩
theorem ComeBack_plain (p : TPanel) (i : Int) (a : TPoint) (h : p.Wf) (_ : I64 i) (_ : a.Wf) : ∃ N, F_etchhouselaw9_PanelPointsComeBack N p i a = some true :=
  ⟨fuelOf p, comeBack_ok (fuelP h) i a⟩
end Go.Proofs.Ytpkicpnbpldkpaa
