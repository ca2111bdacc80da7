/- Closed facts of the load, by the closure as a list. -/
import Derived.Test.YtkjdlganghbgaaaGreatDoorJDa
namespace Go.Proofs.YtkjdlganghbgaaaGreatDoor
open Go.ChangeShapes Go.WideShapes Go.ChangeAt Go.RowKit
set_option maxRecDepth 100000
theorem jd1 : Tryz.prog.inPlace 4 = ["internal/bytealg.IndexByteString", "internal/bytealg.CountString", "internal/bytealg.IndexString", "internal/abi.NoEscape", "internal/bytealg.MakeNoZero"] := by
  unfold Program.inPlace
  rw [jda]
  kernel_rfl
end Go.Proofs.YtkjdlganghbgaaaGreatDoor
namespace Go.Proofs.YtkjdlganghbgaaaGreatDoor
open Go.ChangeShapes Go.WideShapes Go.ChangeAt Go.RowKit
set_option maxRecDepth 100000
theorem jd2 : Tryz.prog.unfollowed 4 = true := by
  unfold Program.unfollowed
  rw [jda]
  kernel_rfl
theorem jd3 : Tryz.prog.recurses 4 = true := by
  unfold Program.recurses
  rw [jd2]
  rfl
end Go.Proofs.YtkjdlganghbgaaaGreatDoor
