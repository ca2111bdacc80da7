/- A closed fact of the load. -/
import Derived.Test.YtjognjhmlbdlgaaGreatDoorRows
import Derived.ProofKit
import Derived.OpenShut
namespace Go.Proofs.YtjognjhmlbdlgaaGreatDoor
open Go.ChangeShapes Go.WideShapes Go.ChangeAt Go.RowKit
theorem jc1 : Tryz.prog.inPlace 3 = ["internal/abi.NoEscape", "internal/bytealg.MakeNoZero", "internal/bytealg.IndexByteString", "internal/bytealg.IndexString", "internal/bytealg.CountString"] := by kernel_rfl
end Go.Proofs.YtjognjhmlbdlgaaGreatDoor
