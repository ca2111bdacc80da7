/- The closed facts of the row of ViewsNone. -/
import Derived.Test.YtjognjhmlbdlgaaGreatDoorJV1
import Derived.Test.YtjognjhmlbdlgaaGreatDoorJV2
import Derived.Test.YtjognjhmlbdlgaaGreatDoorJV3
import Derived.Test.YtjognjhmlbdlgaaGreatDoorJV4
import Derived.Test.YtjognjhmlbdlgaaGreatDoorJM
import Derived.Test.YtjognjhmlbdlgaaGreatDoorK1
import Derived.Test.YtjognjhmlbdlgaaGreatDoorK2
import Derived.Test.YtjognjhmlbdlgaaGreatDoorK3
import Derived.ProofKit
import Derived.OpenShut
namespace Go.Proofs.YtjognjhmlbdlgaaGreatDoor
open Go.ChangeShapes Go.WideShapes Go.ChangeAt Go.RowKit
set_option maxRecDepth 100000
theorem closed4 : joinedFacts Tryz.prog 4 Tryz.f4 Rows.viewsNoneSpec Rows.viewsNoneRow = true := by
  unfold joinedFacts
  rw [show (Rows.viewsNoneRow.inPlace == Tryz.prog.inPlace 4) = true from beq_iff_eq.2 jv1.symm, show (Rows.viewsNoneRow.unfollowed == Tryz.prog.unfollowed 4) = true from beq_iff_eq.2 jv2.symm,
    show (Rows.viewsNoneRow.recurses == Tryz.prog.recurses 4) = true from beq_iff_eq.2 jv3.symm, show (Rows.viewsNoneRow.named == Tryz.prog.varsNamed 4) = true from beq_iff_eq.2 jv4.symm, jm, k1, k2, k3, k4, k5, k6, k7]
  kernel_rfl
end Go.Proofs.YtjognjhmlbdlgaaGreatDoor
