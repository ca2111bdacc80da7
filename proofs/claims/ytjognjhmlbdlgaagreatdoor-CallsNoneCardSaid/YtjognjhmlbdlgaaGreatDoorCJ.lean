/- A part of the run, told once: mC10. -/
import Derived.Test.YtjognjhmlbdlgaaGreatDoorCO
namespace Go.Proofs.YtjognjhmlbdlgaaGreatDoor
open Go.Ex Go.Proofs
set_option maxRecDepth 1000000

noncomputable def mC10 : Memo := ⟨(.cons (.ptr (q 3419) 0) (.cons (.agg (.cons (.int .i64 3) (.cons (.str 0 0) (.cons (.str 0 0) (.cons (.int .i64 0) (.cons (.int .i64 9) (.cons (.str 0 0) (.cons (.bool false) .nil)))))))) .nil)),
  [(q 3419, Vob37), (q 3418, Vob39), (q 3039, Vob31), (q 3038, .map .nil 0), (q 3037, .map (.cons (.int .i64 135) (.str 128 8026488) 0 .nil) 1), (q 3036, Cob127), (q 3032, Vob32), (q 24, Vob28), (q 23, Vob3), (q 26, Vob29), (q 22, Vob30), (q 3034, Cob149), (q 4528, Cob123), (q 3055, Cob150), (q 4526, Cob151), (q 3433, Cob152), (q 3145, Cob153), (q 3775, Cob154), (q 3303, Cob119), (q 3224, Cob126), (q 3033, Cob134), (q 8135, Cob155)],
  q 11066, (.agg (.cons (.int .i64 0) (.cons (.int .i64 0) (.cons (.str 3 8026488) (.cons .nslc (.cons (.int .i64 0) (.cons (.int .i64 0) (.cons (.int .i64 0) (.cons (.bool false) (.cons .nslc (.cons (.bool false) .nil))))))))))),
  [(q 3419, Vob37), (q 3418, Vob51), (q 3039, Vob31), (q 3038, .map .nil 0), (q 3037, .map (.cons (.int .i64 135) (.str 128 8026488) 0 .nil) 1), (q 3036, Cob127), (q 3032, Vob32), (q 24, Vob28), (q 23, Vob3), (q 26, Vob29), (q 22, Vob30), (q 3034, Cob156), (q 4528, Cob123), (q 3055, Cob157), (q 4526, Cob151), (q 3433, Cob152), (q 3145, Cob153), (q 3775, Cob158), (q 3303, Cob119), (q 3224, Cob126), (q 3033, Cob134), (q 8135, Cob155)],
  q 11235⟩
theorem mC10_run : memoRun Tryz.T Tryz.F (brC Tryz.T) (ntOf natL) 20000 200 9 mC10 = true := by kernel_rfl
theorem mC10_ok {ρ : Env} {slow : CF} (hs : CfOK Tryz.prog ρ 9 slow) : CfOK Tryz.prog ρ 9 (memoC mC10 slow) := memo_ok Tryz.T_ok Tryz.F_ok (fun _ => brC_ok mixed Tryz.T_ok) (fun _ => ntOf_ok natOK) mC10_run hs
end Go.Proofs.YtjognjhmlbdlgaaGreatDoor
