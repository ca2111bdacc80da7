/- Closed facts of the load. -/
import Derived.Test.YtncnheodmcfmmaaGreatDoorRows
import Derived.ProofKit
import Derived.OpenShut
namespace Go.Proofs.YtncnheodmcfmmaaGreatDoor
open Go.ChangeShapes Go.WideShapes Go.ChangeAt Go.RowKit
set_option maxRecDepth 100000
theorem k1 : laidOutB Tryz.prog = true := by kernel_rfl
end Go.Proofs.YtncnheodmcfmmaaGreatDoor
