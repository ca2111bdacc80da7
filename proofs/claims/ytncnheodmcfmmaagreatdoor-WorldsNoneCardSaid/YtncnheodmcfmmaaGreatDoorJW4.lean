/- Which variables are named on the way. -/
import Derived.Test.YtncnheodmcfmmaaGreatDoorJWa
namespace Go.Proofs.YtncnheodmcfmmaaGreatDoor
open Go.ChangeShapes Go.WideShapes Go.ChangeAt Go.RowKit
set_option maxRecDepth 100000
theorem jw4 : Tryz.prog.varsNamed 3 = ["unicode/utf8.first", "unicode/utf8.acceptRanges", "internal/bytealg.MaxLen"] := by
  unfold Program.varsNamed
  rw [jwa]
  kernel_rfl
end Go.Proofs.YtncnheodmcfmmaaGreatDoor
