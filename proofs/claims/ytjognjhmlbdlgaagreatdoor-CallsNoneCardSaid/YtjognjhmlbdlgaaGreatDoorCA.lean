/- A part of the run, told once: mC1. -/
import Derived.Test.YtjognjhmlbdlgaaGreatDoorCO
namespace Go.Proofs.YtjognjhmlbdlgaaGreatDoor
open Go.Ex Go.Proofs
set_option maxRecDepth 1000000

noncomputable def mC1 : Memo := ⟨(.cons (.ptr (q 3419) 0) (.cons (.agg (.cons (.int .i64 18) (.cons (.str 0 0) (.cons (.str 0 0) (.cons (.int .i64 0) (.cons (.int .i64 0) (.cons (.str 0 0) (.cons (.bool false) .nil)))))))) .nil)),
  [(q 3419, Vob37), (q 3418, Vob38), (q 3039, Vob31), (q 3038, .map .nil 0), (q 3037, .map .nil 0), (q 3036, .map .nil 0), (q 3032, Vob32), (q 24, Vob28), (q 23, Vob3), (q 26, Vob29), (q 22, Vob30), (q 3034, Vob33), (q 3305, Vob34), (q 3055, Vob35), (q 3224, Vob18), (q 3303, Vob19), (q 3145, Vob20), (q 3033, Vob36)],
  q 3420, (.agg (.cons (.int .i64 0) (.cons (.int .i64 121) (.cons (.str 0 0) (.cons .nslc (.cons (.int .i64 0) (.cons (.int .i64 0) (.cons (.int .i64 0) (.cons (.bool false) (.cons (.slc (q 3756) 0 1 1) (.cons (.bool false) .nil))))))))))),
  [(q 3756, rowOf 1 (.cons (.int .i64 7) .nil) 3 none), (q 3419, Vob37), (q 3418, Vob38), (q 3039, Vob31), (q 3038, .map .nil 0), (q 3037, .map .nil 0), (q 3036, .map .nil 0), (q 3032, Vob32), (q 24, Vob28), (q 23, Vob3), (q 26, Vob29), (q 22, Vob30), (q 3034, Cob81), (q 3435, Cob82), (q 3224, Cob83), (q 3303, Cob84), (q 3145, Cob85), (q 3055, Cob86), (q 3433, Cob87), (q 3033, Cob88)],
  q 3758⟩
theorem mC1_run : memoRun Tryz.T Tryz.F (brC Tryz.T) (ntOf natL) 20000 200 9 mC1 = true := by kernel_rfl
theorem mC1_ok {ρ : Env} {slow : CF} (hs : CfOK Tryz.prog ρ 9 slow) : CfOK Tryz.prog ρ 9 (memoC mC1 slow) := memo_ok Tryz.T_ok Tryz.F_ok (fun _ => brC_ok mixed Tryz.T_ok) (fun _ => ntOf_ok natOK) mC1_run hs
end Go.Proofs.YtjognjhmlbdlgaaGreatDoor
