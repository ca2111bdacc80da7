/- A part of the making of a directory, as a table. -/
import Derived.Test.YtjognjhmlbdlgaaGreatDoorCP
namespace Go.Proofs.YtjognjhmlbdlgaaGreatDoor
open Go.Ex Go.Proofs
noncomputable def natK : List (FuncId × CF) := (153, memoC mD1 (fnC Tryz.T Tryz.F 153)) :: natL
theorem natK_ok {ρ : Env} : ∀ x ∈ natK, CfOK Tryz.prog ρ x.1 x.2 := cons_ok (mD1_ok (fnC_ok mixed Tryz.T_ok Tryz.F_ok (by decide +kernel))) natOK
end Go.Proofs.YtjognjhmlbdlgaaGreatDoor
