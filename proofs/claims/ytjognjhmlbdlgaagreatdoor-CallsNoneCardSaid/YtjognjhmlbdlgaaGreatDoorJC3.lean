/- A closed fact of the load. -/
import Derived.Test.YtjognjhmlbdlgaaGreatDoorRows
import Derived.ProofKit
import Derived.OpenShut
namespace Go.Proofs.YtjognjhmlbdlgaaGreatDoor
open Go.ChangeShapes Go.WideShapes Go.ChangeAt Go.RowKit
theorem jc3 : Tryz.prog.recurses 3 = true := by kernel_rfl
end Go.Proofs.YtjognjhmlbdlgaaGreatDoor
