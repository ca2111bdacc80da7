/- Which variables are named on the way. -/
import Derived.Test.YtkjdlganghbgaaaGreatDoorJDa
namespace Go.Proofs.YtkjdlganghbgaaaGreatDoor
open Go.ChangeShapes Go.WideShapes Go.ChangeAt Go.RowKit
set_option maxRecDepth 100000
theorem jd4 : Tryz.prog.varsNamed 4 = ["unicode/utf8.first", "unicode/utf8.acceptRanges", "internal/bytealg.MaxLen", "strconv.ErrSyntax", "strconv.ErrRange", "internal/strconv.uint64pow10", "math/bits.deBruijn32tab", "math/bits.deBruijn64tab"] := by
  unfold Program.varsNamed
  rw [jda]
  kernel_rfl
end Go.Proofs.YtkjdlganghbgaaaGreatDoor
