/- A part of the run, told once: mC12. -/
import Derived.Test.YtjognjhmlbdlgaaGreatDoorCO
namespace Go.Proofs.YtjognjhmlbdlgaaGreatDoor
open Go.Ex Go.Proofs
set_option maxRecDepth 1000000

noncomputable def mC12 : Memo := ⟨(.cons (.ptr (q 3419) 0) (.cons (.agg (.cons (.int .i64 18) (.cons (.str 0 0) (.cons (.str 0 0) (.cons (.int .i64 0) (.cons (.int .i64 0) (.cons (.str 0 0) (.cons (.bool false) .nil)))))))) .nil)),
  [(q 3419, Vob37), (q 3418, Vob38), (q 3039, Vob31), (q 3038, .map (.cons (.int .i64 135) (.bool false) 0 .nil) 1), (q 3037, .map .nil 1), (q 3036, Cob127), (q 3032, Vob32), (q 24, Vob28), (q 23, Vob3), (q 26, Vob29), (q 22, Vob30), (q 3034, Cob159), (q 4528, Cob123), (q 3055, Cob160), (q 4526, Cob151), (q 3433, Cob161), (q 3145, Cob153), (q 3775, Cob162), (q 3303, Cob119), (q 3224, Cob126), (q 3033, Cob134), (q 8135, Cob155)],
  q 11687, (.agg (.cons (.int .i64 0) (.cons (.int .i64 120) (.cons (.str 0 0) (.cons .nslc (.cons (.int .i64 0) (.cons (.int .i64 0) (.cons (.int .i64 0) (.cons (.bool false) (.cons (.slc (q 12031) 0 1 1) (.cons (.bool false) .nil))))))))))),
  [(q 12031, rowOf 1 (.cons (.int .i64 6) .nil) 3 none), (q 3419, Vob37), (q 3418, Vob38), (q 3039, Vob31), (q 3038, .map (.cons (.int .i64 135) (.bool false) 0 .nil) 1), (q 3037, .map .nil 1), (q 3036, Cob127), (q 3032, Vob32), (q 24, Vob28), (q 23, Vob3), (q 26, Vob29), (q 22, Vob30), (q 3034, Cob163), (q 4528, Cob164), (q 3055, Cob165), (q 4526, Cob151), (q 3433, Cob166), (q 3145, Cob167), (q 3303, Cob168), (q 3224, Cob169), (q 3775, Cob170), (q 3033, Cob134), (q 8135, Cob155)],
  q 12033⟩
theorem mC12_run : memoRun Tryz.T Tryz.F (brC Tryz.T) (ntOf natL) 20000 200 9 mC12 = true := by kernel_rfl
theorem mC12_ok {ρ : Env} {slow : CF} (hs : CfOK Tryz.prog ρ 9 slow) : CfOK Tryz.prog ρ 9 (memoC mC12 slow) := memo_ok Tryz.T_ok Tryz.F_ok (fun _ => brC_ok mixed Tryz.T_ok) (fun _ => ntOf_ok natOK) mC12_run hs
end Go.Proofs.YtjognjhmlbdlgaaGreatDoor
