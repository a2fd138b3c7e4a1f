/- The walks: each function computes its plain function. -/
import Derived.Test.YtokanbmnoghafaaGreatDoorXWc
namespace Go.Proofs.YtokanbmnoghafaaGreatDoor
open Go.RowKit
set_option maxRecDepth 100000
set_option maxHeartbeats 1000000
end Go.Proofs.YtokanbmnoghafaaGreatDoor
