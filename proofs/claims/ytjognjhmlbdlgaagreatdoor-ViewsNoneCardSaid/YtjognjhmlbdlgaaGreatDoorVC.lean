/- A part of the run, told once: mV3. -/
import Derived.Test.YtjognjhmlbdlgaaGreatDoorVO
namespace Go.Proofs.YtjognjhmlbdlgaaGreatDoor
open Go.Ex Go.Proofs
set_option maxRecDepth 1000000

noncomputable def mV3 : Memo := ⟨(.cons (.ptr (q 3419) 0) (.cons (.agg (.cons (.int .i64 15) (.cons (.str 2 26159) (.cons (.str 0 0) (.cons (.int .i64 0) (.cons (.int .i64 0) (.cons (.str 0 0) (.cons (.bool true) .nil)))))))) .nil)),
  [(q 3419, Vob37), (q 3418, Vob51), (q 3039, Vob31), (q 3038, .map .nil 0), (q 3037, .map (.cons (.int .i64 135) (.str 128 8026488) 0 .nil) 1), (q 3036, Vob52), (q 3032, Vob32), (q 24, Vob28), (q 23, Vob3), (q 26, Vob29), (q 22, Vob30), (q 3034, Vob53), (q 3898, Vob54), (q 3055, Vob55), (q 3634, Vob44), (q 3896, Vob56), (q 3581, Vob57), (q 3303, Vob47), (q 3224, Vob48), (q 3145, Vob49), (q 3033, Vob50)],
  q 5508, (.agg (.cons (.int .i64 0) (.cons (.int .i64 0) (.cons (.str 0 0) (.cons .nslc (.cons (.int .i64 0) (.cons (.int .i64 0) (.cons (.int .i64 0) (.cons (.bool false) (.cons .nslc (.cons (.bool false) .nil))))))))))),
  [(q 3419, Vob37), (q 3418, Vob51), (q 3039, Vob31), (q 3038, .map .nil 0), (q 3037, .map (.cons (.int .i64 135) (.str 128 8026488) 0 .nil) 1), (q 3036, Vob52), (q 3032, Vob32), (q 24, Vob28), (q 23, Vob3), (q 26, Vob29), (q 22, Vob30), (q 3034, Vob58), (q 3898, Vob54), (q 3055, Vob59), (q 3634, Vob60), (q 3896, Vob61), (q 3581, Vob62), (q 3303, Vob47), (q 3224, Vob48), (q 3145, Vob49), (q 3033, Vob50)],
  q 5979⟩
theorem mV3_run : memoRun Tryz.T Tryz.F (brC Tryz.T) (ntOf natL) 20000 200 9 mV3 = true := by kernel_rfl
theorem mV3_ok {ρ : Env} {slow : CF} (hs : CfOK Tryz.prog ρ 9 slow) : CfOK Tryz.prog ρ 9 (memoC mV3 slow) := memo_ok Tryz.T_ok Tryz.F_ok (fun _ => brC_ok mixed Tryz.T_ok) (fun _ => ntOf_ok natOK) mV3_run hs
end Go.Proofs.YtjognjhmlbdlgaaGreatDoor
