/- Parts of the run, told once: mD10. -/
import Derived.Test.YtkjdlganghbgaaaGreatDoorDO
namespace Go.Proofs.YtkjdlganghbgaaaGreatDoor
open Go.Ex Go.Proofs
set_option maxRecDepth 1000000

noncomputable def mD10 : Memo := ⟨(.cons (.ptr (q 3473) 0) (.cons (.agg (.cons (.int .i64 1) (.cons (.str 2 26159) (.cons (.str 0 0) (.cons (.int .i64 0) (.cons (.int .i64 1) (.cons (.str 0 0) (.cons (.bool false) .nil)))))))) .nil)),
  [(q 3473, Dob47), (q 3472, Dob48), (q 3093, Dob41), (q 3092, .map .nil 0), (q 3091, .map .nil 0), (q 3090, .map .nil 0), (q 3086, Dob42), (q 77, Dob38), (q 76, Dob3), (q 79, Dob39), (q 75, Dob40), (q 3088, Dob43), (q 3359, Dob44), (q 3109, Dob45), (q 3278, Dob18), (q 3357, Dob19), (q 3199, Dob20), (q 3087, Dob46)],
  q 3499, (.agg (.cons (.int .i64 0) (.cons (.int .i64 0) (.cons (.str 0 0) (.cons .nslc (.cons (.int .i64 0) (.cons (.int .i64 0) (.cons (.int .i64 0) (.cons (.bool false) (.cons .nslc (.cons (.bool false) .nil))))))))))),
  [(q 3473, Dob47), (q 3472, Dob49), (q 3093, Dob41), (q 3092, .map .nil 0), (q 3091, .map .nil 0), (q 3090, Dob50), (q 3086, Dob42), (q 77, Dob38), (q 76, Dob3), (q 79, Dob39), (q 75, Dob40), (q 3088, Dob51), (q 3977, Dob52), (q 3109, Dob53), (q 3713, Dob54), (q 3660, Dob55), (q 3975, Dob56), (q 3357, Dob57), (q 3278, Dob58), (q 3199, Dob59), (q 3087, Dob60)],
  q 4793⟩
theorem mD10_run : memoRun Tryz.T Tryz.F (brC Tryz.T) (ntOf natL) 20000 200 71 mD10 = true := by kernel_rfl
theorem mD10_ok {ρ : Env} {slow : CF} (hs : CfOK Tryz.prog ρ 71 slow) : CfOK Tryz.prog ρ 71 (memoC mD10 slow) := memo_ok Tryz.T_ok Tryz.F_ok (fun _ => brC_ok mixed Tryz.T_ok) (fun _ => ntOf_ok natOK) mD10_run hs
end Go.Proofs.YtkjdlganghbgaaaGreatDoor
