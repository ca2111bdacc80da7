/- A closed fact of the load. -/
import Derived.Test.YtncnheodmcfmmaaGreatDoorRows
import Derived.ProofKit
import Derived.OpenShut
namespace Go.Proofs.YtncnheodmcfmmaaGreatDoor
open Go.ChangeShapes Go.WideShapes Go.ChangeAt Go.RowKit
theorem jw2 : Tryz.prog.unfollowed 3 = true := by kernel_rfl
end Go.Proofs.YtncnheodmcfmmaaGreatDoor
