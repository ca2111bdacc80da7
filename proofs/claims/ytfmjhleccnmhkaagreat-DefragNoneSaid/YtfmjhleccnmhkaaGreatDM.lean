/- Parts of the run, told once: f1a. -/
import Derived.Test.YtfmjhleccnmhkaaGreatDO
namespace Go.Proofs.YtfmjhleccnmhkaaGreat
open Go.Ex Go.Proofs
set_option maxRecDepth 1000000

noncomputable def f1a : Memo := ⟨(.cons (.ptr (q 1087) 0) (.cons (z5 2) (.cons z3 (.cons (z5 3) (.cons (.slc (q 7043) 0 1 1) .nil))))),
  [(q 1087, Dob59), (q 6127, Dob60), (q 6126, .map .nil 0), (q 6125, Dob89), (q 6124, .map (.cons (z5 129) (z4 Dm29) 0 .nil) 1), (q 4384, .map .nil 0), (q 4383, .map .nil 0), (q 4382, Dob61), (q 1080, Dob32), (q 8, Dob62), (q 7, .big 512 1 (.cons z1 .nil) (trA 512 z1 [(138,z2)]) 4 none), (q 10, Dob63), (q 6, Dob35), (q 1082, Dob90), (q 1081, Dob37), (q 1134, Dob8), (q 1696, Dob12), (q 1384, Dob65), (q 4165, Dob38), (q 1136, Dob39), (q 1852, Dob14), (q 1540, Dob15), (q 1774, Dob16), (q 1462, Dob17), (q 1306, Dob40), (q 4163, Dob66), (q 1618, Dob19), (q 4380, rowOf 0 .nil 252 (some zh)), (q 7043, Dob91)],
  q 7044, z3,
  [(q 1087, Dob59), (q 6127, Dob60), (q 6126, .map .nil 0), (q 6125, Dob89), (q 6124, Dob92), (q 4384, .map .nil 0), (q 4383, .map .nil 0), (q 4382, Dob61), (q 1080, Dob32), (q 8, Dob62), (q 7, .big 512 1 (.cons z1 .nil) (trA 512 z1 [(138,z2)]) 4 none), (q 10, Dob63), (q 6, Dob35), (q 1082, Dob93), (q 1081, Dob37), (q 1134, Dob8), (q 1696, Dob12), (q 1384, Dob65), (q 4165, Dob38), (q 1136, Dob39), (q 1852, Dob14), (q 1540, Dob15), (q 1774, Dob16), (q 1462, Dob17), (q 1306, Dob40), (q 4163, Dob66), (q 1618, Dob19), (q 4380, rowOf 0 .nil 252 (some zh)), (q 7043, Dob91)],
  q 7266⟩
theorem f1a_run : memoRun Tryz.T Tryz.F (brC Tryz.T) (ntOf natL) 20000 200 8 f1a = true := by kernel_rfl
theorem f1a_ok {ρ : Env} {slow : CF} (hs : CfOK Tryz.prog ρ 8 slow) : CfOK Tryz.prog ρ 8 (memoC f1a slow) := memo_ok Tryz.T_ok Tryz.F_ok (fun _ => brC_ok mixed Tryz.T_ok) (fun _ => ntOf_ok natOK) f1a_run hs
end Go.Proofs.YtfmjhleccnmhkaaGreat
