/- The closed facts of the row of CallsNone. -/
import Derived.Test.YtjognjhmlbdlgaaGreatDoorJC1
import Derived.Test.YtjognjhmlbdlgaaGreatDoorJC2
import Derived.Test.YtjognjhmlbdlgaaGreatDoorJC3
import Derived.Test.YtjognjhmlbdlgaaGreatDoorJC4
import Derived.Test.YtjognjhmlbdlgaaGreatDoorJM
import Derived.Test.YtjognjhmlbdlgaaGreatDoorK1
import Derived.Test.YtjognjhmlbdlgaaGreatDoorK2
import Derived.Test.YtjognjhmlbdlgaaGreatDoorK3
import Derived.ProofKit
import Derived.OpenShut
namespace Go.Proofs.YtjognjhmlbdlgaaGreatDoor
open Go.ChangeShapes Go.WideShapes Go.ChangeAt Go.RowKit
set_option maxRecDepth 100000
theorem closed3 : joinedFacts Tryz.prog 3 Tryz.f3 Rows.callsNoneSpec Rows.callsNoneRow = true := by
  unfold joinedFacts
  rw [show (Rows.callsNoneRow.inPlace == Tryz.prog.inPlace 3) = true from beq_iff_eq.2 jc1.symm, show (Rows.callsNoneRow.unfollowed == Tryz.prog.unfollowed 3) = true from beq_iff_eq.2 jc2.symm,
    show (Rows.callsNoneRow.recurses == Tryz.prog.recurses 3) = true from beq_iff_eq.2 jc3.symm, show (Rows.callsNoneRow.named == Tryz.prog.varsNamed 3) = true from beq_iff_eq.2 jc4.symm, jm, k1, k2, k3, k4, k5, k6, k7]
  kernel_rfl
end Go.Proofs.YtjognjhmlbdlgaaGreatDoor
