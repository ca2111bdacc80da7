/- A part of the run, told once: mC2. -/
import Derived.Test.YtjognjhmlbdlgaaGreatDoorCO
namespace Go.Proofs.YtjognjhmlbdlgaaGreatDoor
open Go.Ex Go.Proofs
set_option maxRecDepth 1000000

noncomputable def mC2 : Memo := ⟨(.cons (.ptr (q 3419) 0) (.cons (.agg (.cons (.int .i64 19) (.cons (.str 0 0) (.cons (.str 0 0) (.cons (.int .i64 0) (.cons (.int .i64 0) (.cons (.str 0 0) (.cons (.bool false) .nil)))))))) .nil)),
  [(q 3419, Vob37), (q 3418, Vob38), (q 3039, Vob31), (q 3038, .map .nil 0), (q 3037, .map .nil 0), (q 3036, .map .nil 0), (q 3032, Vob32), (q 24, Vob28), (q 23, Vob3), (q 26, Vob29), (q 22, Vob30), (q 3034, Cob81), (q 3435, Cob82), (q 3224, Cob83), (q 3303, Cob84), (q 3145, Cob85), (q 3055, Cob86), (q 3433, Cob87), (q 3033, Cob88)],
  q 3759, (.agg (.cons (.int .i64 0) (.cons (.int .i64 0) (.cons (.str 0 0) (.cons .nslc (.cons (.int .i64 0) (.cons (.int .i64 0) (.cons (.int .i64 0) (.cons (.bool false) (.cons .nslc (.cons (.bool true) .nil))))))))))),
  [(q 3419, Vob37), (q 3418, Vob38), (q 3039, Vob31), (q 3038, .map .nil 0), (q 3037, .map .nil 0), (q 3036, .map .nil 0), (q 3032, Vob32), (q 24, Vob28), (q 23, Vob3), (q 26, Vob29), (q 22, Vob30), (q 3034, Cob89), (q 3777, Cob90), (q 3775, Cob91), (q 3303, Cob92), (q 3055, Cob93), (q 3145, Cob94), (q 3224, Cob95), (q 3433, Cob87), (q 3033, Cob96)],
  q 4314⟩
theorem mC2_run : memoRun Tryz.T Tryz.F (brC Tryz.T) (ntOf natL) 20000 200 9 mC2 = true := by kernel_rfl
theorem mC2_ok {ρ : Env} {slow : CF} (hs : CfOK Tryz.prog ρ 9 slow) : CfOK Tryz.prog ρ 9 (memoC mC2 slow) := memo_ok Tryz.T_ok Tryz.F_ok (fun _ => brC_ok mixed Tryz.T_ok) (fun _ => ntOf_ok natOK) mC2_run hs
end Go.Proofs.YtjognjhmlbdlgaaGreatDoor
