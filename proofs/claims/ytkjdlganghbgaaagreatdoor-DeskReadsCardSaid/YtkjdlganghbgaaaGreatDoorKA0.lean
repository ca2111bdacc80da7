/- Rows of the types 0 to 149. -/
import Derived.Test.YtkjdlganghbgaaaGreatDoorRows
import Derived.ProofKit
import Derived.OpenShut
namespace Go.Proofs.YtkjdlganghbgaaaGreatDoor
open Go.ChangeShapes Go.WideShapes Go.ChangeAt Go.RowKit
set_option maxRecDepth 100000
theorem ka0 : (List.range' 0 150).all (rowFine Tryz.prog) = true := by kernel_rfl
end Go.Proofs.YtkjdlganghbgaaaGreatDoor
namespace Go.Proofs.YtkjdlganghbgaaaGreatDoor
open Go.ChangeShapes Go.WideShapes Go.ChangeAt Go.RowKit
set_option maxRecDepth 100000
theorem ka1 : (List.range' 150 150).all (rowFine Tryz.prog) = true := by kernel_rfl
end Go.Proofs.YtkjdlganghbgaaaGreatDoor
namespace Go.Proofs.YtkjdlganghbgaaaGreatDoor
open Go.ChangeShapes Go.WideShapes Go.ChangeAt Go.RowKit
set_option maxRecDepth 100000
theorem ka2 : (List.range' 300 150).all (rowFine Tryz.prog) = true := by kernel_rfl
end Go.Proofs.YtkjdlganghbgaaaGreatDoor
