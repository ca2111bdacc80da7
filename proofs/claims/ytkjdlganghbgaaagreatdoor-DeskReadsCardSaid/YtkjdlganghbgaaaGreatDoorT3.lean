/- Closed facts of the program's ties, one by one. -/
import Derived.Test.YtkjdlganghbgaaaGreatDoorT0
namespace Go.Proofs.YtkjdlganghbgaaaGreatDoor
open Go
theorem tn : varsNamedLaterB Tryz.prog 706 tiedL = true := by kernel_rfl
end Go.Proofs.YtkjdlganghbgaaaGreatDoor
namespace Go.Proofs.YtkjdlganghbgaaaGreatDoor
open Go
theorem td (os tape) : varsDone Tryz.prog 400 706 os tape = true := by kernel_rfl
end Go.Proofs.YtkjdlganghbgaaaGreatDoor
namespace Go.Proofs.YtkjdlganghbgaaaGreatDoor
open Go
theorem th1 (os tape) : (DataW.laidRun Tryz.prog (varsWorld Tryz.prog 400 706 os tape).memory 8 (tiedL.map (·.1))).map (·.1) = some tiedL := by kernel_rfl
end Go.Proofs.YtkjdlganghbgaaaGreatDoor
namespace Go.Proofs.YtkjdlganghbgaaaGreatDoor
open Go
theorem th2 (os tape) : (DataW.laidRun Tryz.prog (varsWorld Tryz.prog 400 706 os tape).memory 8 (tiedL.map (·.1))).map (fun x => decide x.2.Nodup && laidRowsB Tryz.prog (varsWorld Tryz.prog 400 706 os tape).memory x.2) = some true := by kernel_rfl
end Go.Proofs.YtkjdlganghbgaaaGreatDoor
