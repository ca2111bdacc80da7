/- A closed fact of the load. -/
import Derived.Test.YtncnheodmcfmmaaGreatDoorRows
import Derived.ProofKit
import Derived.OpenShut
namespace Go.Proofs.YtncnheodmcfmmaaGreatDoor
open Go.ChangeShapes Go.WideShapes Go.ChangeAt Go.RowKit
theorem jw3 : Tryz.prog.recurses 3 = true := by kernel_rfl
end Go.Proofs.YtncnheodmcfmmaaGreatDoor
