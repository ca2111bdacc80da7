/- Parts of the run, told once: mD9. -/
import Derived.Test.YtkjdlganghbgaaaGreatDoorDO
import Derived.Test.YtkjdlganghbgaaaGreatDoorDF
namespace Go.Proofs.YtkjdlganghbgaaaGreatDoor
open Go.Ex Go.Proofs
set_option maxRecDepth 1000000

noncomputable def natM : List (FuncId × CF) := (82, (memoC mD8 (fnC Tryz.T Tryz.F 82))) :: (81, (memoC mD7 (fnC Tryz.T Tryz.F 81))) :: natL
theorem natM_ok {ρ : Env} : ∀ x ∈ natM, CfOK Tryz.prog ρ x.1 x.2 := (cons_ok (mD8_ok (fnw (by decide +kernel))) (cons_ok (mD7_ok (fnw (by decide +kernel))) natOK))
noncomputable def mD9 : Memo := ⟨(.cons (.ptr (q 77) 0) .nil),
  [(q 77, Dob32), (q 76, Dob3), (q 79, Dob33), (q 75, Dob34)],
  q 2479, (.tup (.cons (.ptr (q 3093) 0) (.cons (.int .i64 0) .nil))),
  [(q 3093, Dob41), (q 3092, .map .nil 0), (q 3091, .map .nil 0), (q 3090, .map .nil 0), (q 3086, Dob42), (q 77, Dob38), (q 76, Dob3), (q 79, Dob39), (q 75, Dob40), (q 3088, Dob43), (q 3359, Dob44), (q 3109, Dob45), (q 3278, Dob18), (q 3357, Dob19), (q 3199, Dob20), (q 3087, Dob46)],
  q 3471⟩
theorem mD9_run : memoRun Tryz.T Tryz.F (brC Tryz.T) (ntOf natM) 20000 200 99 mD9 = true := by kernel_rfl
theorem mD9_ok {ρ : Env} {slow : CF} (hs : CfOK Tryz.prog ρ 99 slow) : CfOK Tryz.prog ρ 99 (memoC mD9 slow) := memo_ok Tryz.T_ok Tryz.F_ok (fun _ => brC_ok mixed Tryz.T_ok) (fun _ => ntOf_ok natM_ok) mD9_run hs
end Go.Proofs.YtkjdlganghbgaaaGreatDoor
