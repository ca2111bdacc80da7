/- A part of the run, told once: mC8. -/
import Derived.Test.YtjognjhmlbdlgaaGreatDoorCO
namespace Go.Proofs.YtjognjhmlbdlgaaGreatDoor
open Go.Ex Go.Proofs
set_option maxRecDepth 1000000

noncomputable def mC8 : Memo := ⟨(.cons (.ptr (q 3419) 0) (.cons (.agg (.cons (.int .i64 10) (.cons (.str 4 1714381871) (.cons (.str 0 0) (.cons (.int .i64 0) (.cons (.int .i64 0) (.cons (.str 0 0) (.cons (.bool false) .nil)))))))) .nil)),
  [(q 3419, Vob37), (q 3418, Vob51), (q 3039, Vob31), (q 3038, .map .nil 0), (q 3037, .map (.cons (.int .i64 135) (.str 128 8026488) 0 .nil) 1), (q 3036, Cob127), (q 3032, Vob32), (q 24, Vob28), (q 23, Vob3), (q 26, Vob29), (q 22, Vob30), (q 3034, Cob143), (q 4528, Cob123), (q 3055, Cob144), (q 4526, Cob145), (q 3433, Cob139), (q 3145, Cob146), (q 3775, Cob147), (q 3303, Cob119), (q 3224, Cob126), (q 3033, Cob134), (q 8135, Cob148)],
  q 10124, (.agg (.cons (.int .i64 0) (.cons (.int .i64 0) (.cons (.str 0 0) (.cons .nslc (.cons (.int .i64 0) (.cons (.int .i64 0) (.cons (.int .i64 0) (.cons (.bool false) (.cons .nslc (.cons (.bool false) .nil))))))))))),
  [(q 3419, Vob37), (q 3418, Vob51), (q 3039, Vob31), (q 3038, .map .nil 0), (q 3037, .map (.cons (.int .i64 135) (.str 128 8026488) 0 .nil) 1), (q 3036, Cob127), (q 3032, Vob32), (q 24, Vob28), (q 23, Vob3), (q 26, Vob29), (q 22, Vob30), (q 3034, Cob149), (q 4528, Cob123), (q 3055, Cob150), (q 4526, Cob151), (q 3433, Cob152), (q 3145, Cob153), (q 3775, Cob154), (q 3303, Cob119), (q 3224, Cob126), (q 3033, Cob134), (q 8135, Cob155)],
  q 11059⟩
theorem mC8_run : memoRun Tryz.T Tryz.F (brC Tryz.T) (ntOf natL) 20000 200 9 mC8 = true := by kernel_rfl
theorem mC8_ok {ρ : Env} {slow : CF} (hs : CfOK Tryz.prog ρ 9 slow) : CfOK Tryz.prog ρ 9 (memoC mC8 slow) := memo_ok Tryz.T_ok Tryz.F_ok (fun _ => brC_ok mixed Tryz.T_ok) (fun _ => ntOf_ok natOK) mC8_run hs
end Go.Proofs.YtjognjhmlbdlgaaGreatDoor
