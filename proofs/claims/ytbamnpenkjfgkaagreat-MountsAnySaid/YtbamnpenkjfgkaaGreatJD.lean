/- Closed facts of the load, each by itself: what lies in place, what is followed, what is named. -/
import Derived.Test.YtbamnpenkjfgkaaGreatRows
import Derived.ProofKit
import Derived.OpenShut
namespace Go.Proofs.YtbamnpenkjfgkaaGreat
open Go.ChangeShapes Go.WideShapes Go.ChangeAt Go.RowKit
theorem jf1 : Tryz.prog.inPlace 3 = ["internal/abi.NoEscape", "internal/bytealg.MakeNoZero", "internal/bytealg.IndexByteString", "internal/bytealg.IndexString"] := by kernel_rfl
theorem jf2 : Tryz.prog.unfollowed 3=true:=by kernel_rfl
theorem jf3 : Tryz.prog.recurses 3=true:=by kernel_rfl
theorem jf4 : Tryz.prog.varsNamed 3 = ["internal/bytealg.MaxLen"] := by kernel_rfl
theorem jf5 : mapsRowed Tryz.prog=true:=by kernel_rfl
end Go.Proofs.YtbamnpenkjfgkaaGreat
