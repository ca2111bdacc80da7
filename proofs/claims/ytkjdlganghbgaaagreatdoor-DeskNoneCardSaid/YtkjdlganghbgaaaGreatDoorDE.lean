/- Parts of the run, told once: mD6. -/
import Derived.Test.YtkjdlganghbgaaaGreatDoorDO
import Derived.Test.YtkjdlganghbgaaaGreatDoorDA
import Derived.Test.YtkjdlganghbgaaaGreatDoorDC
import Derived.Test.YtkjdlganghbgaaaGreatDoorDD
namespace Go.Proofs.YtkjdlganghbgaaaGreatDoor
open Go.Ex Go.Proofs
set_option maxRecDepth 1000000

noncomputable def natF : List (FuncId × CF) := (110, (memoC mD4 (fnC Tryz.T Tryz.F 110))) :: (98, (memoC mD3 (fnC Tryz.T Tryz.F 98))) :: (97, (memoC mD2 (fnC Tryz.T Tryz.F 97))) :: (93, (memoC mD1 (fnC Tryz.T Tryz.F 93))) :: natLg
theorem natF_ok {ρ : Env} : ∀ x ∈ natF, CfOK Tryz.prog ρ x.1 x.2 := (cons_ok (mD4_ok (fnw (by decide +kernel))) (cons_ok (mD3_ok (fnw (by decide +kernel))) (cons_ok (mD2_ok (fnw (by decide +kernel))) (cons_ok (mD1_ok (fnw (by decide +kernel))) natOKg))))
noncomputable def mD6 : Memo := ⟨(.cons (.int .i64 256) (.cons (.int .i64 128) (.cons (.int .i64 8) .nil))),
  [],
  q 71, (.tup (.cons (.ptr (q 77) 0) (.cons (.int .i64 0) .nil))),
  [(q 77, Dob32), (q 76, Dob3), (q 79, Dob33), (q 75, Dob34)],
  q 2478⟩
theorem mD6_run : memoRun Tryz.T Tryz.F (brC Tryz.T) (ntOf natF) 20000 200 57 mD6 = true := by kernel_rfl
theorem mD6_ok {ρ : Env} {slow : CF} (hs : CfOK Tryz.prog ρ 57 slow) : CfOK Tryz.prog ρ 57 (memoC mD6 slow) := memo_ok Tryz.T_ok Tryz.F_ok (fun _ => brC_ok mixed Tryz.T_ok) (fun _ => ntOf_ok natF_ok) mD6_run hs
end Go.Proofs.YtkjdlganghbgaaaGreatDoor
