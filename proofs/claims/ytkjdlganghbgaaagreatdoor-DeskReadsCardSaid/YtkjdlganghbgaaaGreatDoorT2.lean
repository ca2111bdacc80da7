/- Closed facts of the program's ties, one by one. -/
import Derived.Test.YtkjdlganghbgaaaGreatDoorT0
namespace Go.Proofs.YtkjdlganghbgaaaGreatDoor
open Go
theorem troot : Tryz.prog.worded rootWordLater = true := by kernel_rfl
theorem tg : (Tryz.prog.funcNamed "gosem.cut.vars").isSome = true := by kernel_rfl
theorem tk : tiedL.map (fun x => Tryz.prog.kindOfLater x.1) = [LaidKind.data, LaidKind.sentinel, LaidKind.sentinel, LaidKind.data, LaidKind.data, LaidKind.data].map some := by kernel_rfl
end Go.Proofs.YtkjdlganghbgaaaGreatDoor
