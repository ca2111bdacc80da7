/- The parts of what makes a file system, as one table. -/
import Derived.Test.YtjognjhmlbdlgaaGreatDoorGA
import Derived.Test.YtjognjhmlbdlgaaGreatDoorGB
import Derived.Test.YtjognjhmlbdlgaaGreatDoorGC
import Derived.Test.YtjognjhmlbdlgaaGreatDoorGD
namespace Go.Proofs.YtjognjhmlbdlgaaGreatDoor
open Go.Ex Go.Proofs
theorem fnc {ρ : Env} {f : FuncId} (hf : (Tryz.F.get f).isSome = true) : CfOK Tryz.prog ρ f (fnC Tryz.T Tryz.F f) := fnC_ok mixed Tryz.T_ok Tryz.F_ok hf
noncomputable def natF : List (FuncId × CF) := (98, memoC mG1 (fnC Tryz.T Tryz.F 98)) :: (102, memoC mG2 (fnC Tryz.T Tryz.F 102)) :: (103, memoC mG3 (fnC Tryz.T Tryz.F 103)) :: (183, memoC mG4 (fnC Tryz.T Tryz.F 183)) :: natLg
theorem natF_ok {ρ : Env} : ∀ x ∈ natF, CfOK Tryz.prog ρ x.1 x.2 := cons_ok (mG1_ok (fnc (by decide +kernel))) (cons_ok (mG2_ok (fnc (by decide +kernel))) (cons_ok (mG3_ok (fnc (by decide +kernel))) (cons_ok (mG4_ok (fnc (by decide +kernel))) natOKg)))
end Go.Proofs.YtjognjhmlbdlgaaGreatDoor
