/- Closed facts of the program's ties, one by one. -/
import Derived.Test.YtkjdlganghbgaaaGreatDoorT0
namespace Go.Proofs.YtkjdlganghbgaaaGreatDoor
open Go
theorem tw : Tryz.prog.worded (varsWordLater true) = true := by kernel_rfl
theorem tw2 : Tryz.prog.worded (varsWordLater !true) = false := by kernel_rfl
end Go.Proofs.YtkjdlganghbgaaaGreatDoor
