/- A part of the run, told once: mC5. -/
import Derived.Test.YtjognjhmlbdlgaaGreatDoorCO
import Derived.Test.YtjognjhmlbdlgaaGreatDoorCQ
namespace Go.Proofs.YtjognjhmlbdlgaaGreatDoor
open Go.Ex Go.Proofs
set_option maxRecDepth 1000000

noncomputable def mC5 : Memo := ⟨(.cons (.ptr (q 3419) 0) (.cons (.agg (.cons (.int .i64 7) (.cons (.str 2 25647) (.cons (.str 0 0) (.cons (.int .i64 0) (.cons (.int .i64 0) (.cons (.str 0 0) (.cons (.bool false) .nil)))))))) .nil)),
  [(q 3419, Vob37), (q 3418, Vob51), (q 3039, Vob31), (q 3038, .map .nil 0), (q 3037, .map (.cons (.int .i64 135) (.str 128 8026488) 0 .nil) 1), (q 3036, Vob52), (q 3032, Vob32), (q 24, Vob28), (q 23, Vob3), (q 26, Vob29), (q 22, Vob30), (q 3034, Cob106), (q 4528, Cob107), (q 3055, Cob108), (q 4526, Vob60), (q 3433, Cob109), (q 3775, Cob110), (q 3303, Cob102), (q 3224, Cob103), (q 3145, Cob104), (q 3033, Cob105)],
  q 6399, (.agg (.cons (.int .i64 0) (.cons (.int .i64 0) (.cons (.str 0 0) (.cons .nslc (.cons (.int .i64 0) (.cons (.int .i64 0) (.cons (.int .i64 0) (.cons (.bool false) (.cons .nslc (.cons (.bool false) .nil))))))))))),
  [(q 3419, Vob37), (q 3418, Vob51), (q 3039, Vob31), (q 3038, .map .nil 0), (q 3037, .map (.cons (.int .i64 135) (.str 128 8026488) 0 .nil) 1), (q 3036, Cob127), (q 3032, Vob32), (q 24, Vob28), (q 23, Vob3), (q 26, Vob29), (q 22, Vob30), (q 3034, Cob128), (q 4528, Cob123), (q 3055, Cob129), (q 4526, Cob130), (q 3433, Cob131), (q 3145, Cob132), (q 3775, Cob133), (q 3303, Cob119), (q 3224, Cob126), (q 3033, Cob134), (q 8135, Cob135)],
  q 8149⟩
theorem mC5_run : memoRun Tryz.T Tryz.F (brC Tryz.T) (ntOf natK) 20000 200 9 mC5 = true := by kernel_rfl
theorem mC5_ok {ρ : Env} {slow : CF} (hs : CfOK Tryz.prog ρ 9 slow) : CfOK Tryz.prog ρ 9 (memoC mC5 slow) := memo_ok Tryz.T_ok Tryz.F_ok (fun _ => brC_ok mixed Tryz.T_ok) (fun _ => ntOf_ok natK_ok) mC5_run hs
end Go.Proofs.YtjognjhmlbdlgaaGreatDoor
