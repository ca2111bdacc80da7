/- Parts of the run, told once: mD28. -/
import Derived.Test.YtkjdlganghbgaaaGreatDoorDO
namespace Go.Proofs.YtkjdlganghbgaaaGreatDoor
open Go.Ex Go.Proofs
set_option maxRecDepth 1000000

noncomputable def mD28 : Memo := ⟨(.cons (.ptr (q 3473) 0) (.cons (.agg (.cons (.int .i64 17) (.cons (.str 0 0) (.cons (.str 0 0) (.cons (.int .i64 0) (.cons (.int .i64 0) (.cons (.str 0 0) (.cons (.bool false) .nil)))))))) .nil)),
  [(q 3473, Dob47), (q 3472, Dob61), (q 3093, Dob41), (q 3092, .map .nil 0), (q 3091, .map (.cons (.int .i64 135) (.str 128 6430817) 0 .nil) 1), (q 3090, Dob62), (q 3086, Dob42), (q 77, Dob90), (q 76, Dob3), (q 79, Dob39), (q 75, Dob40), (q 3088, Dob86), (q 3977, Dob77), (q 3109, Dob87), (q 3713, Dob88), (q 3975, Dob71), (q 3660, Dob89), (q 3278, Dob73), (q 3357, Dob80), (q 3199, Dob81), (q 3087, Dob60)],
  q 6887, (.agg (.cons (.int .i64 61) (.cons (.int .i64 0) (.cons (.str 0 0) (.cons .nslc (.cons (.int .i64 0) (.cons (.int .i64 0) (.cons (.int .i64 0) (.cons (.bool false) (.cons .nslc (.cons (.bool false) .nil))))))))))),
  [(q 3473, Dob47), (q 3472, Dob61), (q 3093, Dob91), (q 3092, .map .nil 0), (q 3091, .map (.cons (.int .i64 135) (.str 128 6430817) 0 .nil) 1), (q 3090, Dob62), (q 3086, Dob92), (q 77, Dob90), (q 76, Dob3), (q 79, Dob39), (q 75, Dob40), (q 3088, Dob93), (q 3977, Dob77), (q 3109, Dob94), (q 3713, Dob95), (q 3975, Dob96), (q 3660, Dob89), (q 3278, Dob73), (q 3357, Dob80), (q 3199, Dob81), (q 3087, Dob60)],
  q 7086⟩
theorem mD28_run : memoRun Tryz.T Tryz.F (brC Tryz.T) (ntOf natL) 20000 200 71 mD28 = true := by kernel_rfl
theorem mD28_ok {ρ : Env} {slow : CF} (hs : CfOK Tryz.prog ρ 71 slow) : CfOK Tryz.prog ρ 71 (memoC mD28 slow) := memo_ok Tryz.T_ok Tryz.F_ok (fun _ => brC_ok mixed Tryz.T_ok) (fun _ => ntOf_ok natOK) mD28_run hs
end Go.Proofs.YtkjdlganghbgaaaGreatDoor
