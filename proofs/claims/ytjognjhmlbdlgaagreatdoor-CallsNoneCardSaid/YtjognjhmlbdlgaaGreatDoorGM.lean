/- The parts of a mount, as one table. -/
import Derived.Test.YtjognjhmlbdlgaaGreatDoorGF
import Derived.Test.YtjognjhmlbdlgaaGreatDoorGG
namespace Go.Proofs.YtjognjhmlbdlgaaGreatDoor
open Go.Ex Go.Proofs
theorem fncm {ρ : Env} {f : FuncId} (hf : (Tryz.F.get f).isSome = true) : CfOK Tryz.prog ρ f (fnC Tryz.T Tryz.F f) := fnC_ok mixed Tryz.T_ok Tryz.F_ok hf
noncomputable def natM : List (FuncId × CF) := (107, memoC mG6 (fnC Tryz.T Tryz.F 107)) :: (109, memoC mG7 (fnC Tryz.T Tryz.F 109)) :: natL
theorem natM_ok {ρ : Env} : ∀ x ∈ natM, CfOK Tryz.prog ρ x.1 x.2 := cons_ok (mG6_ok (fncm (by decide +kernel))) (cons_ok (mG7_ok (fncm (by decide +kernel))) natOK)
end Go.Proofs.YtjognjhmlbdlgaaGreatDoor
