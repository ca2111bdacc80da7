/- Which variables are named on the way. -/
import Derived.Test.YtjognjhmlbdlgaaGreatDoorJVa
namespace Go.Proofs.YtjognjhmlbdlgaaGreatDoor
open Go.ChangeShapes Go.WideShapes Go.ChangeAt Go.RowKit
set_option maxRecDepth 100000
theorem jv4 : Tryz.prog.varsNamed 4 = ["unicode/utf8.first", "unicode/utf8.acceptRanges", "internal/bytealg.MaxLen"] := by
  unfold Program.varsNamed
  rw [jva]
  kernel_rfl
end Go.Proofs.YtjognjhmlbdlgaaGreatDoor
