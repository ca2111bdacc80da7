/- A part of the run, told once: mV2. -/
import Derived.Test.YtjognjhmlbdlgaaGreatDoorVO
namespace Go.Proofs.YtjognjhmlbdlgaaGreatDoor
open Go.Ex Go.Proofs
set_option maxRecDepth 1000000

noncomputable def mV2 : Memo := ⟨(.cons (.ptr (q 3419) 0) (.cons (.agg (.cons (.int .i64 4) (.cons (.str 0 0) (.cons (.str 0 0) (.cons (.int .i64 0) (.cons (.int .i64 0) (.cons (.str 3 8026488) (.cons (.bool false) .nil)))))))) .nil)),
  [(q 3419, Vob37), (q 3418, Vob39), (q 3039, Vob31), (q 3038, .map .nil 0), (q 3037, .map .nil 0), (q 3036, Vob40), (q 3032, Vob32), (q 24, Vob28), (q 23, Vob3), (q 26, Vob29), (q 22, Vob30), (q 3034, Vob41), (q 3898, Vob42), (q 3055, Vob43), (q 3634, Vob44), (q 3581, Vob45), (q 3896, Vob46), (q 3303, Vob47), (q 3224, Vob48), (q 3145, Vob49), (q 3033, Vob50)],
  q 4714, (.agg (.cons (.int .i64 0) (.cons (.int .i64 3) (.cons (.str 0 0) (.cons .nslc (.cons (.int .i64 0) (.cons (.int .i64 0) (.cons (.int .i64 0) (.cons (.bool false) (.cons .nslc (.cons (.bool false) .nil))))))))))),
  [(q 3419, Vob37), (q 3418, Vob51), (q 3039, Vob31), (q 3038, .map .nil 0), (q 3037, .map (.cons (.int .i64 135) (.str 128 8026488) 0 .nil) 1), (q 3036, Vob52), (q 3032, Vob32), (q 24, Vob28), (q 23, Vob3), (q 26, Vob29), (q 22, Vob30), (q 3034, Vob53), (q 3898, Vob54), (q 3055, Vob55), (q 3634, Vob44), (q 3896, Vob56), (q 3581, Vob57), (q 3303, Vob47), (q 3224, Vob48), (q 3145, Vob49), (q 3033, Vob50)],
  q 5508⟩
theorem mV2_run : memoRun Tryz.T Tryz.F (brC Tryz.T) (ntOf natL) 20000 200 9 mV2 = true := by kernel_rfl
theorem mV2_ok {ρ : Env} {slow : CF} (hs : CfOK Tryz.prog ρ 9 slow) : CfOK Tryz.prog ρ 9 (memoC mV2 slow) := memo_ok Tryz.T_ok Tryz.F_ok (fun _ => brC_ok mixed Tryz.T_ok) (fun _ => ntOf_ok natOK) mV2_run hs
end Go.Proofs.YtjognjhmlbdlgaaGreatDoor
