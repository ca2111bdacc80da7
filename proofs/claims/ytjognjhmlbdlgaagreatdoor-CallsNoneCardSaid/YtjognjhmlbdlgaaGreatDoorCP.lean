/- A part of the run, told once: mD1. -/
import Derived.Test.YtjognjhmlbdlgaaGreatDoorCO
namespace Go.Proofs.YtjognjhmlbdlgaaGreatDoor
open Go.Ex Go.Proofs
set_option maxRecDepth 1000000

noncomputable def mD1 : Memo := ⟨(.cons (.ptr (q 3039) 0) (.cons (.int .i64 2) (.cons (.int .i64 0) .nil))),
  [(q 3039, Cob111), (q 6659, Cob112), (q 6658, .map .nil 0), (q 6657, .map .nil 0), (q 6656, .map (.cons (.int .i64 131) (.str 128 131074) 0 .nil) 1), (q 3038, .map .nil 0), (q 3037, .map (.cons (.int .i64 135) (.str 128 8026488) 0 .nil) 1), (q 3036, Vob52), (q 3032, Vob32), (q 24, Vob28), (q 23, Vob3), (q 26, Vob29), (q 22, Vob30), (q 3034, Cob113), (q 4528, Cob114), (q 3055, Cob115), (q 4526, Vob71), (q 3433, Cob116), (q 3145, Cob117), (q 3224, Cob118), (q 3303, Cob119), (q 3775, Cob120), (q 3033, Cob105)],
  q 7052, (.int .i64 0),
  [(q 3039, Cob111), (q 6659, Cob112), (q 6658, .map .nil 0), (q 6657, .map .nil 0), (q 6656, Cob121), (q 3038, .map .nil 0), (q 3037, .map (.cons (.int .i64 135) (.str 128 8026488) 0 .nil) 1), (q 3036, Vob52), (q 3032, Vob32), (q 24, Vob28), (q 23, Vob3), (q 26, Vob29), (q 22, Vob30), (q 3034, Cob122), (q 4528, Cob123), (q 3055, Cob115), (q 4526, Vob71), (q 3433, Cob124), (q 3145, Cob117), (q 3775, Cob125), (q 3303, Cob119), (q 3224, Cob126), (q 3033, Cob105)],
  q 7592⟩
theorem mD1_run : memoRun Tryz.T Tryz.F (brC Tryz.T) (ntOf natL) 20000 200 153 mD1 = true := by kernel_rfl
theorem mD1_ok {ρ : Env} {slow : CF} (hs : CfOK Tryz.prog ρ 153 slow) : CfOK Tryz.prog ρ 153 (memoC mD1 slow) := memo_ok Tryz.T_ok Tryz.F_ok (fun _ => brC_ok mixed Tryz.T_ok) (fun _ => ntOf_ok natOK) mD1_run hs
end Go.Proofs.YtjognjhmlbdlgaaGreatDoor
