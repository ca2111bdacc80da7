/- Closed facts of the load. -/
import Derived.Test.YtkjdlganghbgaaaGreatDoorRows
import Derived.ProofKit
import Derived.OpenShut
namespace Go.Proofs.YtkjdlganghbgaaaGreatDoor
open Go.ChangeShapes Go.WideShapes Go.ChangeAt Go.RowKit
set_option maxRecDepth 100000
theorem k5 : Tryz.prog.plainKeys = true := by kernel_rfl
theorem k6 : Tryz.prog.mayEnter = true := by kernel_rfl
theorem k7 : Tryz.prog.liftsFinal = false := by kernel_rfl
end Go.Proofs.YtkjdlganghbgaaaGreatDoor
