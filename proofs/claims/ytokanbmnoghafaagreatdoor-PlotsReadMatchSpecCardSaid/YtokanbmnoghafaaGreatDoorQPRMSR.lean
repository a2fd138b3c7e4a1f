/- Opening of the arguments of PlotsReadMatchSpec. -/
import Derived.Test.YtokanbmnoghafaaGreatDoorXT
import Derived.Test.YtokanbmnoghafaaGreatDoorJ4
namespace Go.Proofs.YtokanbmnoghafaaGreatDoor
open Go.ChangeShapes Go.WideShapes Go.ChangeAt Go.RowKit Go.Deep Go.WideElems
open Go.ChangeMaps (open_string)
set_option maxRecDepth 100000

section
variable {H : Type} {enc : TypeId × Value → H} {w : World} {base : Nat} {spare : Nat → Bool} {held : Bool}

end
end Go.Proofs.YtokanbmnoghafaaGreatDoor
