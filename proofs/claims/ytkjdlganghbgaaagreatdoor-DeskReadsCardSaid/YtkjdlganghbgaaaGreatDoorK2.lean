/- A closed fact of the load. -/
import Derived.Test.YtkjdlganghbgaaaGreatDoorRows
import Derived.ProofKit
import Derived.OpenShut
namespace Go.Proofs.YtkjdlganghbgaaaGreatDoor
open Go.ChangeShapes Go.WideShapes Go.ChangeAt Go.RowKit
theorem jm : mapsRowed Tryz.prog = true := by kernel_rfl
end Go.Proofs.YtkjdlganghbgaaaGreatDoor
namespace Go.Proofs.YtkjdlganghbgaaaGreatDoor
open Go.ChangeShapes Go.WideShapes Go.ChangeAt Go.RowKit
set_option maxRecDepth 100000
theorem k2 : (Tryz.prog.stops == []) = true := by kernel_rfl
theorem k3 : (Tryz.prog.stopKnobs == []) = true := by kernel_rfl
theorem k4 : Tryz.prog.stopsHeard = true := by kernel_rfl
end Go.Proofs.YtkjdlganghbgaaaGreatDoor
