/- The closed facts of the row of WorldsNone. -/
import Derived.Test.YtncnheodmcfmmaaGreatDoorJW1
import Derived.Test.YtncnheodmcfmmaaGreatDoorJW2
import Derived.Test.YtncnheodmcfmmaaGreatDoorJW3
import Derived.Test.YtncnheodmcfmmaaGreatDoorJW4
import Derived.Test.YtncnheodmcfmmaaGreatDoorJM
import Derived.Test.YtncnheodmcfmmaaGreatDoorK1
import Derived.Test.YtncnheodmcfmmaaGreatDoorK2
import Derived.Test.YtncnheodmcfmmaaGreatDoorK3
import Derived.ProofKit
import Derived.OpenShut
namespace Go.Proofs.YtncnheodmcfmmaaGreatDoor
open Go.ChangeShapes Go.WideShapes Go.ChangeAt Go.RowKit
set_option maxRecDepth 100000
theorem closed3 : joinedFacts Tryz.prog 3 Tryz.f3 Rows.worldsNoneSpec Rows.worldsNoneRow = true := by
  unfold joinedFacts
  rw [show (Rows.worldsNoneRow.inPlace == Tryz.prog.inPlace 3) = true from beq_iff_eq.2 jw1.symm, show (Rows.worldsNoneRow.unfollowed == Tryz.prog.unfollowed 3) = true from beq_iff_eq.2 jw2.symm,
    show (Rows.worldsNoneRow.recurses == Tryz.prog.recurses 3) = true from beq_iff_eq.2 jw3.symm, show (Rows.worldsNoneRow.named == Tryz.prog.varsNamed 3) = true from beq_iff_eq.2 jw4.symm, jm, k1, k2, k3, k4, k5, k6, k7]
  kernel_rfl
end Go.Proofs.YtncnheodmcfmmaaGreatDoor
