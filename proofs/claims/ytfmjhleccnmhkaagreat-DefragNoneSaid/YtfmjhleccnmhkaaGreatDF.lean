/- Parts of the run, told once: dA6, dA7, dA9, dA10, dB1, dA8. -/
import Derived.Test.YtfmjhleccnmhkaaGreatDO
namespace Go.Proofs.YtfmjhleccnmhkaaGreat
open Go.Ex Go.Proofs
set_option maxRecDepth 1000000

noncomputable def dA6 : Memo := ⟨(.cons (.ptr (q 1087) 0) (.cons z3 (.cons (.agg (.cons (z5 2) (.cons z1 (.cons (z5 3) (.cons (z5 128) (.cons z3 (.cons (.slc (q 3709) 0 1 zh) .nil))))))) .nil))),
  [(q 1087, Dob3), (q 1290, Dob4), (q 1289, .map .nil 0), (q 1288, .map .nil 0), (q 1287, Dob24), (q 1285, .map .nil 0), (q 1284, .map .nil 0), (q 1283, .map .nil 0), (q 1080, Dob5), (q 8, Dob0), (q 7, .big 512 1 (.cons z1 .nil) (trA 512 z1 []) 4 none), (q 10, Dob1), (q 6, Dob2), (q 1082, Dob25), (q 1081, Dob11), (q 1134, Dob8), (q 1696, Dob12), (q 1384, Dob13), (q 1136, Dob9), (q 1852, Dob14), (q 1540, Dob15), (q 1774, Dob16), (q 1462, Dob17), (q 1306, Dob18), (q 1618, Dob19), (q 1853, rowOf 0 .nil 252 (some zh)), (q 3709, Dob26)],
  q 3731, z3,
  [(q 1087, Dob3), (q 1290, Dob4), (q 1289, .map .nil 0), (q 1288, .map .nil 0), (q 1287, Dob27), (q 1285, .map .nil 0), (q 1284, .map .nil 0), (q 1283, .map .nil 0), (q 1080, Dob5), (q 8, Dob0), (q 7, .big 512 1 (.cons z1 .nil) (trA 512 z1 []) 4 none), (q 10, Dob1), (q 6, Dob2), (q 1082, Dob25), (q 1081, Dob11), (q 1134, Dob8), (q 1696, Dob12), (q 1384, Dob13), (q 1136, Dob9), (q 1852, Dob14), (q 1540, Dob15), (q 1774, Dob16), (q 1462, Dob17), (q 1306, Dob18), (q 1618, Dob19), (q 1853, rowOf 0 .nil 252 (some zh)), (q 3709, Dob26)],
  q 3769⟩
theorem dA6_run : memoRun Tryz.T Tryz.F (brC Tryz.T) (ntOf natL) 20000 200 24 dA6 = true := by kernel_rfl
theorem dA6_ok {ρ : Env} {slow : CF} (hs : CfOK Tryz.prog ρ 24 slow) : CfOK Tryz.prog ρ 24 (memoC dA6 slow) := memo_ok Tryz.T_ok Tryz.F_ok (fun _ => brC_ok mixed Tryz.T_ok) (fun _ => ntOf_ok natOK) dA6_run hs
noncomputable def dA7 : Memo := ⟨(.cons (.ptr (q 1087) 0) (.cons z3 (.cons (.agg (.cons (.str 1 100) (.cons (z5 1) .nil))) .nil))),
  [(q 1087, Dob3), (q 1290, Dob4), (q 1289, .map .nil 0), (q 1288, .map .nil 0), (q 1287, Dob27), (q 1285, .map .nil 0), (q 1284, .map .nil 0), (q 1283, .map .nil 0), (q 1080, Dob5), (q 8, Dob0), (q 7, .big 512 1 (.cons z1 .nil) (trA 512 z1 []) 4 none), (q 10, Dob1), (q 6, Dob2), (q 1082, Dob25), (q 1081, Dob11), (q 1134, Dob8), (q 1696, Dob12), (q 1384, Dob13), (q 1136, Dob9), (q 1852, Dob14), (q 1540, Dob15), (q 1774, Dob16), (q 1462, Dob17), (q 1306, Dob18), (q 1618, Dob19), (q 1853, rowOf 0 .nil 252 (some zh))],
  q 3769, z3,
  [(q 1087, Dob3), (q 1290, Dob4), (q 1289, .map .nil 0), (q 1288, .map .nil 0), (q 1287, Dob28), (q 1285, .map .nil 0), (q 1284, .map .nil 0), (q 1283, .map .nil 0), (q 1080, Dob5), (q 8, Dob0), (q 7, .big 512 1 (.cons z1 .nil) (trA 512 z1 []) 4 none), (q 10, Dob1), (q 6, Dob2), (q 1082, Dob29), (q 1081, Dob11), (q 1134, Dob8), (q 1696, Dob12), (q 1384, Dob13), (q 1136, Dob9), (q 1852, Dob14), (q 1540, Dob15), (q 1774, Dob16), (q 1462, Dob17), (q 1306, Dob18), (q 1618, Dob19), (q 1853, rowOf 0 .nil 252 (some zh))],
  q 4147⟩
theorem dA7_run : memoRun Tryz.T Tryz.F (brC Tryz.T) (ntOf natL) 20000 200 119 dA7 = true := by kernel_rfl
theorem dA7_ok {ρ : Env} {slow : CF} (hs : CfOK Tryz.prog ρ 119 slow) : CfOK Tryz.prog ρ 119 (memoC dA7 slow) := memo_ok Tryz.T_ok Tryz.F_ok (fun _ => brC_ok mixed Tryz.T_ok) (fun _ => ntOf_ok natOK) dA7_run hs
noncomputable def dA9 : Memo := ⟨(.cons (.ptr (q 1087) 0) .nil),
  [(q 1087, Dob30), (q 4389, Dob31), (q 4388, .map .nil 0), (q 4387, .map .nil 0), (q 4386, .map .nil 0), (q 4384, .map .nil 0), (q 4383, .map .nil 0), (q 4382, .map .nil 0), (q 1080, Dob32), (q 8, Dob33), (q 7, .big 512 1 (.cons z1 .nil) (trA 512 z1 []) 4 none), (q 10, Dob34), (q 6, Dob35), (q 1082, Dob36), (q 1081, Dob37), (q 1134, Dob8), (q 1696, Dob12), (q 1384, Dob13), (q 4165, Dob38), (q 1136, Dob39), (q 1852, Dob14), (q 1540, Dob15), (q 1774, Dob16), (q 1462, Dob17), (q 1306, Dob40), (q 4163, Dob41), (q 1618, Dob19), (q 4380, rowOf 0 .nil 252 (some zh))],
  q 4390, z3,
  [(q 1087, Dob42), (q 4384, .map .nil 0), (q 4383, .map .nil 0), (q 4382, .map .nil 0), (q 1080, Dob32), (q 8, Dob33), (q 7, .big 512 1 (.cons z1 .nil) (trA 512 z1 []) 4 none), (q 10, Dob34), (q 6, Dob35), (q 1082, Dob36), (q 1081, Dob37), (q 1134, Dob8), (q 1696, Dob12), (q 1384, Dob13), (q 4165, Dob38), (q 1136, Dob39), (q 1852, Dob14), (q 1540, Dob15), (q 1774, Dob16), (q 1462, Dob17), (q 1306, Dob40), (q 4163, Dob41), (q 1618, Dob19), (q 4380, rowOf 0 .nil 252 (some zh)), (q 4389, Dob31), (q 4388, .map .nil 0), (q 4387, .map .nil 0), (q 4386, .map .nil 0)],
  q 4403⟩
theorem dA9_run : memoRun Tryz.T Tryz.F (brC Tryz.T) (ntOf natL) 20000 200 28 dA9 = true := by kernel_rfl
theorem dA9_ok {ρ : Env} {slow : CF} (hs : CfOK Tryz.prog ρ 28 slow) : CfOK Tryz.prog ρ 28 (memoC dA9 slow) := memo_ok Tryz.T_ok Tryz.F_ok (fun _ => brC_ok mixed Tryz.T_ok) (fun _ => ntOf_ok natOK) dA9_run hs
noncomputable def dA10 : Memo := ⟨(.cons .nptr .nil),
  [],
  q 2, (z5 1),
  [],
  q 2⟩
theorem dA10_run : memoRun Tryz.T Tryz.F (brC Tryz.T) (ntOf natL) 20000 200 29 dA10 = true := by kernel_rfl
theorem dA10_ok {ρ : Env} {slow : CF} (hs : CfOK Tryz.prog ρ 29 slow) : CfOK Tryz.prog ρ 29 (memoC dA10 slow) := memo_ok Tryz.T_ok Tryz.F_ok (fun _ => brC_ok mixed Tryz.T_ok) (fun _ => ntOf_ok natOK) dA10_run hs
noncomputable def dB1 : Memo := ⟨(.cons (.ptr (q 1087) 0) .nil),
  [(q 1087, Dob42), (q 4384, .map .nil 0), (q 4383, .map .nil 0), (q 4382, .map .nil 0), (q 1080, Dob32), (q 8, Dob33), (q 7, .big 512 1 (.cons z1 .nil) (trA 512 z1 []) 4 none), (q 10, Dob34), (q 6, Dob35), (q 1082, Dob36), (q 1081, Dob37), (q 1134, Dob8), (q 1696, Dob12), (q 1384, Dob13), (q 4165, Dob38), (q 1136, Dob39), (q 1852, Dob14), (q 1540, Dob15), (q 1774, Dob16), (q 1462, Dob17), (q 1306, Dob40), (q 4163, Dob41), (q 1618, Dob19), (q 4380, rowOf 0 .nil 252 (some zh))],
  q 4403, z3,
  [(q 1087, Dob42), (q 4384, .map .nil 0), (q 4383, .map .nil 0), (q 4382, .map .nil 0), (q 1080, Dob32), (q 8, Dob33), (q 7, .big 512 1 (.cons z1 .nil) (trA 512 z1 []) 4 none), (q 10, Dob34), (q 6, Dob35), (q 1082, Dob36), (q 1081, Dob37), (q 1134, Dob8), (q 1696, Dob12), (q 1384, Dob13), (q 4165, Dob38), (q 1136, Dob39), (q 1852, Dob14), (q 1540, Dob15), (q 1774, Dob16), (q 1462, Dob17), (q 1306, Dob40), (q 4163, Dob41), (q 1618, Dob19), (q 4380, rowOf 0 .nil 252 (some zh))],
  q 4403⟩
theorem dB1_run : memoRun Tryz.T Tryz.F (brC Tryz.T) (ntOf natL) 20000 200 29 dB1 = true := by kernel_rfl
theorem dB1_ok {ρ : Env} {slow : CF} (hs : CfOK Tryz.prog ρ 29 slow) : CfOK Tryz.prog ρ 29 (memoC dB1 slow) := memo_ok Tryz.T_ok Tryz.F_ok (fun _ => brC_ok mixed Tryz.T_ok) (fun _ => ntOf_ok natOK) dB1_run hs
noncomputable def dA8 : Memo := ⟨(.cons (.ptr (q 1087) 0) (.cons z2 .nil)),
  [(q 1087, Dob3), (q 1290, Dob4), (q 1289, .map .nil 0), (q 1288, .map .nil 0), (q 1287, Dob28), (q 1285, .map .nil 0), (q 1284, .map .nil 0), (q 1283, .map .nil 0), (q 1080, Dob5), (q 8, Dob0), (q 7, .big 512 1 (.cons z1 .nil) (trA 512 z1 []) 4 none), (q 10, Dob1), (q 6, Dob2), (q 1082, Dob29), (q 1081, Dob11), (q 1134, Dob8), (q 1696, Dob12), (q 1384, Dob13), (q 1136, Dob9), (q 1852, Dob14), (q 1540, Dob15), (q 1774, Dob16), (q 1462, Dob17), (q 1306, Dob18), (q 1618, Dob19), (q 1853, rowOf 0 .nil 252 (some zh))],
  q 4147, z2,
  [(q 1087, Dob30), (q 4389, Dob31), (q 4388, .map .nil 0), (q 4387, .map .nil 0), (q 4386, .map .nil 0), (q 4384, .map .nil 0), (q 4383, .map .nil 0), (q 4382, .map .nil 0), (q 1080, Dob32), (q 8, Dob33), (q 7, .big 512 1 (.cons z1 .nil) (trA 512 z1 []) 4 none), (q 10, Dob34), (q 6, Dob35), (q 1082, Dob36), (q 1081, Dob37), (q 1134, Dob8), (q 1696, Dob12), (q 1384, Dob13), (q 4165, Dob38), (q 1136, Dob39), (q 1852, Dob14), (q 1540, Dob15), (q 1774, Dob16), (q 1462, Dob17), (q 1306, Dob40), (q 4163, Dob41), (q 1618, Dob19), (q 4380, rowOf 0 .nil 252 (some zh)), (q 1290, Dob4), (q 1289, .map .nil 0), (q 1288, .map .nil 0), (q 1287, Dob28), (q 1285, .map .nil 0), (q 1284, .map .nil 0), (q 1283, Dob43)],
  q 4390⟩
theorem dA8_run : memoRun Tryz.T Tryz.F (brC Tryz.T) (ntOf natL) 20000 200 9 dA8 = true := by kernel_rfl
theorem dA8_ok {ρ : Env} {slow : CF} (hs : CfOK Tryz.prog ρ 9 slow) : CfOK Tryz.prog ρ 9 (memoC dA8 slow) := memo_ok Tryz.T_ok Tryz.F_ok (fun _ => brC_ok mixed Tryz.T_ok) (fun _ => ntOf_ok natOK) dA8_run hs
end Go.Proofs.YtfmjhleccnmhkaaGreat
