/- PlotsReadMatchSpec: enough fuel for any text. -/
import Derived.Test.YtokanbmnoghafaaGreatDoorI32
import Derived.Test.YtokanbmnoghafaaGreatDoorQPRMSR
namespace Go.Proofs.YtokanbmnoghafaaGreatDoor
theorem zIm (t : ByteArray) {X : Prop} (_ : X) : ∃ N, JO N t = some true := ⟨zIY t, plotsRead_ok t⟩
end Go.Proofs.YtokanbmnoghafaaGreatDoor
