/- Parts of the run, told once: mD23. -/
import Derived.Test.YtkjdlganghbgaaaGreatDoorDO
import Derived.Test.YtkjdlganghbgaaaGreatDoorDQ
namespace Go.Proofs.YtkjdlganghbgaaaGreatDoor
open Go.Ex Go.Proofs
set_option maxRecDepth 1000000

noncomputable def natS : List (FuncId × CF) := (82, (memoC mD22 (fnC Tryz.T Tryz.F 82))) :: (81, (memoC mD21 (fnC Tryz.T Tryz.F 81))) :: natL
theorem natS_ok {ρ : Env} : ∀ x ∈ natS, CfOK Tryz.prog ρ x.1 x.2 := (cons_ok (mD22_ok (fnw (by decide +kernel))) (cons_ok (mD21_ok (fnw (by decide +kernel))) natOK))
noncomputable def mD23 : Memo := ⟨(.cons (.str 32768 Dnum0) .nil),
  [],
  q 9234, .nslc,
  [],
  q 10163⟩
theorem mD23_run : memoRun Tryz.T Tryz.F (brC Tryz.T) (ntOf natS) 20000 200 43 mD23 = true := by kernel_rfl
theorem mD23_ok {ρ : Env} {slow : CF} (hs : CfOK Tryz.prog ρ 43 slow) : CfOK Tryz.prog ρ 43 (memoC mD23 slow) := memo_ok Tryz.T_ok Tryz.F_ok (fun _ => brC_ok mixed Tryz.T_ok) (fun _ => ntOf_ok natS_ok) mD23_run hs
end Go.Proofs.YtkjdlganghbgaaaGreatDoor
