/- A closed fact of the load. -/
import Derived.Test.YtncnheodmcfmmaaGreatDoorRows
import Derived.ProofKit
import Derived.OpenShut
namespace Go.Proofs.YtncnheodmcfmmaaGreatDoor
open Go.ChangeShapes Go.WideShapes Go.ChangeAt Go.RowKit
theorem jw1 : Tryz.prog.inPlace 3 = ["internal/abi.NoEscape", "internal/bytealg.MakeNoZero", "internal/bytealg.IndexByteString", "internal/bytealg.IndexString", "internal/bytealg.CountString"] := by kernel_rfl
end Go.Proofs.YtncnheodmcfmmaaGreatDoor
