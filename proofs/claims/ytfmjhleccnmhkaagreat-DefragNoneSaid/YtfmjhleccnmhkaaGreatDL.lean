/- Parts of the run, told once: f0, f2. -/
import Derived.Test.YtfmjhleccnmhkaaGreatDO
namespace Go.Proofs.YtfmjhleccnmhkaaGreat
open Go.Ex Go.Proofs
set_option maxRecDepth 1000000

noncomputable def f0 : Memo := ⟨(.cons (.ptr (q 1087) 0) (.cons z3 (.cons (.agg (.cons (.int .u8 0) (.cons (.int .u8 0) (.cons (.int .u16 0) (.cons (.int .u16 0) .nil))))) .nil))),
  [(q 1087, Dob30), (q 4389, Dob31), (q 4388, .map .nil 0), (q 4387, .map .nil 0), (q 4386, .map .nil 0), (q 4384, .map .nil 0), (q 4383, .map .nil 0), (q 4382, .map .nil 0), (q 1080, Dob32), (q 8, Dob33), (q 7, .big 512 1 (.cons z1 .nil) (trA 512 z1 []) 4 none), (q 10, Dob34), (q 6, Dob35), (q 1082, Dob36), (q 1081, Dob37), (q 1134, Dob8), (q 1696, Dob12), (q 1384, Dob13), (q 4165, Dob38), (q 1136, Dob39), (q 1852, Dob14), (q 1540, Dob15), (q 1774, Dob16), (q 1462, Dob17), (q 1306, Dob40), (q 4163, Dob41), (q 1618, Dob19), (q 4380, rowOf 0 .nil 252 (some zh))],
  q 4390, z2,
  [(q 1087, Dob59), (q 6127, Dob60), (q 6126, .map .nil 0), (q 6125, .map .nil 0), (q 6124, .map .nil 0), (q 4384, .map .nil 0), (q 4383, .map .nil 0), (q 4382, Dob61), (q 1080, Dob32), (q 8, Dob62), (q 7, .big 512 1 (.cons z1 .nil) (trA 512 z1 [(138,z2)]) 4 none), (q 10, Dob63), (q 6, Dob35), (q 1082, Dob64), (q 1081, Dob37), (q 1134, Dob8), (q 1696, Dob12), (q 1384, Dob65), (q 4165, Dob38), (q 1136, Dob39), (q 1852, Dob14), (q 1540, Dob15), (q 1774, Dob16), (q 1462, Dob17), (q 1306, Dob40), (q 4163, Dob66), (q 1618, Dob19), (q 4380, rowOf 0 .nil 252 (some zh)), (q 4389, Dob31), (q 4388, .map .nil 0), (q 4387, .map .nil 0), (q 4386, Dob67)],
  q 6128⟩
theorem f0_run : memoRun Tryz.T Tryz.F (brC Tryz.T) (ntOf natL) 20000 200 120 f0 = true := by kernel_rfl
theorem f0_ok {ρ : Env} {slow : CF} (hs : CfOK Tryz.prog ρ 120 slow) : CfOK Tryz.prog ρ 120 (memoC f0 slow) := memo_ok Tryz.T_ok Tryz.F_ok (fun _ => brC_ok mixed Tryz.T_ok) (fun _ => ntOf_ok natOK) f0_run hs
noncomputable def f2 : Memo := ⟨(.cons (.ptr (q 1087) 0) (.cons (z5 2) (.cons (.agg (.cons (.int .u8 0) (.cons (.int .u8 0) (.cons (.int .u16 0) (.cons (.int .u16 0) .nil))))) .nil))),
  [(q 1087, Dob68), (q 7524, Dob69), (q 7523, .map .nil 0), (q 7522, .map .nil 0), (q 7521, .map .nil 0), (q 4384, .map .nil 0), (q 4383, Dob70), (q 4382, Dob71), (q 1080, Dob32), (q 8, Dob72), (q 7, Dob73), (q 10, Dob74), (q 6, Dob35), (q 1082, Dob75), (q 1081, Dob37), (q 1134, Dob8), (q 1696, Dob12), (q 1384, Dob76), (q 4165, Dob38), (q 1136, Dob77), (q 1852, Dob14), (q 1540, Dob15), (q 1774, Dob16), (q 1462, Dob17), (q 1306, Dob40), (q 4163, Dob66), (q 1618, Dob19), (q 4380, rowOf 0 .nil 252 (some zh))],
  q 7525, z2,
  [(q 1087, Dob78), (q 9577, Dob79), (q 9576, .map .nil 0), (q 9575, .map .nil 0), (q 9574, .map .nil 0), (q 9572, .map .nil 0), (q 9571, .map .nil 0), (q 9570, .map .nil 0), (q 1080, Dob80), (q 8, Dob81), (q 7, .big 512 1 (.cons z1 .nil) (trA 512 z1 []) 4 none), (q 10, Dob82), (q 6, Dob83), (q 1082, Dob84), (q 1081, Dob37), (q 1134, Dob8), (q 1696, Dob12), (q 1384, Dob85), (q 4165, Dob38), (q 1136, Dob86), (q 1852, Dob14), (q 1540, Dob15), (q 1774, Dob16), (q 1462, Dob17), (q 1306, Dob40), (q 4163, Dob87), (q 1618, Dob19), (q 9568, rowOf 0 .nil 252 (some zh)), (q 7524, Dob69), (q 7523, .map .nil 0), (q 7522, .map .nil 0), (q 7521, Dob88), (q 4384, .map .nil 0), (q 4383, Dob70), (q 4382, Dob71)],
  q 9578⟩
theorem f2_run : memoRun Tryz.T Tryz.F (brC Tryz.T) (ntOf natL) 20000 200 120 f2 = true := by kernel_rfl
theorem f2_ok {ρ : Env} {slow : CF} (hs : CfOK Tryz.prog ρ 120 slow) : CfOK Tryz.prog ρ 120 (memoC f2 slow) := memo_ok Tryz.T_ok Tryz.F_ok (fun _ => brC_ok mixed Tryz.T_ok) (fun _ => ntOf_ok natOK) f2_run hs
end Go.Proofs.YtfmjhleccnmhkaaGreat
