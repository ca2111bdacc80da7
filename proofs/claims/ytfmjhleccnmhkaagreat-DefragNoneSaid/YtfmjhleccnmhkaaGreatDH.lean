/- Parts of the run, told once: dP0, dP1. -/
import Derived.Test.YtfmjhleccnmhkaaGreatDO
namespace Go.Proofs.YtfmjhleccnmhkaaGreat
open Go.Ex Go.Proofs
set_option maxRecDepth 1000000

noncomputable def dP0 : Memo := ⟨(.cons (.ptr (q 1087) 0) (.cons (.tok 55) .nil)),
  [(q 1087, Dob42), (q 4384, .map .nil 0), (q 4383, .map .nil 0), (q 4382, .map .nil 0), (q 1080, Dob32), (q 8, Dob33), (q 7, .big 512 1 (.cons z1 .nil) (trA 512 z1 []) 4 none), (q 10, Dob34), (q 6, Dob35), (q 1082, Dob36), (q 1081, Dob37), (q 1134, Dob8), (q 1696, Dob12), (q 1384, Dob13), (q 4165, Dob38), (q 1136, Dob39), (q 1852, Dob14), (q 1540, Dob15), (q 1774, Dob16), (q 1462, Dob17), (q 1306, Dob40), (q 4163, Dob41), (q 1618, Dob19), (q 4380, rowOf 0 .nil 252 (some zh))],
  q 4403, z2,
  [(q 1087, Dob44), (q 5337, .map .nil 0), (q 5336, .map .nil 0), (q 5335, .map .nil 0), (q 1080, Dob45), (q 8, Dob46), (q 7, .big 512 1 (.cons z1 .nil) (trA 512 z1 []) 4 none), (q 10, Dob47), (q 6, Dob48), (q 1082, Dob49), (q 1081, Dob37), (q 1134, Dob8), (q 1696, Dob12), (q 1384, Dob13), (q 4165, Dob38), (q 1136, Dob39), (q 1852, Dob14), (q 1540, Dob15), (q 1774, Dob16), (q 1462, Dob17), (q 1306, Dob40), (q 4163, Dob41), (q 1618, Dob19), (q 5333, rowOf 0 .nil 252 (some zh)), (q 4384, .map .nil 0), (q 4383, .map .nil 0), (q 4382, .map (.cons (z5 130) (.str 0 0) 0 .nil) 1)],
  q 5338⟩
theorem dP0_run : memoRun Tryz.T Tryz.F (brC Tryz.T) (ntOf natL) 20000 200 53 dP0 = true := by kernel_rfl
theorem dP0_ok {ρ : Env} {slow : CF} (hs : CfOK Tryz.prog ρ 53 slow) : CfOK Tryz.prog ρ 53 (memoC dP0 slow) := memo_ok Tryz.T_ok Tryz.F_ok (fun _ => brC_ok mixed Tryz.T_ok) (fun _ => ntOf_ok natOK) dP0_run hs
noncomputable def dP1 : Memo := ⟨(.cons (.ptr (q 1087) 0) (.cons (.tok 119) .nil)),
  [(q 1087, Dob42), (q 4384, .map .nil 0), (q 4383, .map .nil 0), (q 4382, .map .nil 0), (q 1080, Dob32), (q 8, Dob33), (q 7, .big 512 1 (.cons z1 .nil) (trA 512 z1 []) 4 none), (q 10, Dob34), (q 6, Dob35), (q 1082, Dob36), (q 1081, Dob37), (q 1134, Dob8), (q 1696, Dob12), (q 1384, Dob13), (q 4165, Dob38), (q 1136, Dob39), (q 1852, Dob14), (q 1540, Dob15), (q 1774, Dob16), (q 1462, Dob17), (q 1306, Dob40), (q 4163, Dob41), (q 1618, Dob19), (q 4380, rowOf 0 .nil 252 (some zh))],
  q 4403, z2,
  [(q 1087, Dob44), (q 5337, .map .nil 0), (q 5336, .map .nil 0), (q 5335, .map .nil 0), (q 1080, Dob45), (q 8, Dob46), (q 7, .big 512 1 (.cons z1 .nil) (trA 512 z1 []) 4 none), (q 10, Dob50), (q 6, Dob51), (q 1082, Dob49), (q 1081, Dob37), (q 1134, Dob8), (q 1696, Dob12), (q 1384, Dob13), (q 4165, Dob38), (q 1136, Dob39), (q 1852, Dob14), (q 1540, Dob15), (q 1774, Dob16), (q 1462, Dob17), (q 1306, Dob52), (q 4163, Dob41), (q 1618, Dob19), (q 5333, rowOf 0 .nil 252 (some zh)), (q 4384, .map .nil 0), (q 4383, .map .nil 0), (q 4382, .map (.cons (z5 130) (.str 0 0) 0 .nil) 1)],
  q 5338⟩
theorem dP1_run : memoRun Tryz.T Tryz.F (brC Tryz.T) (ntOf natL) 20000 200 53 dP1 = true := by kernel_rfl
theorem dP1_ok {ρ : Env} {slow : CF} (hs : CfOK Tryz.prog ρ 53 slow) : CfOK Tryz.prog ρ 53 (memoC dP1 slow) := memo_ok Tryz.T_ok Tryz.F_ok (fun _ => brC_ok mixed Tryz.T_ok) (fun _ => ntOf_ok natOK) dP1_run hs
end Go.Proofs.YtfmjhleccnmhkaaGreat
