/- Parts of the run, told once: dA3. -/
import Derived.Test.YtfmjhleccnmhkaaGreatDO
namespace Go.Proofs.YtfmjhleccnmhkaaGreat
open Go.Ex Go.Proofs
set_option maxRecDepth 1000000

noncomputable def dA3 : Memo := ⟨(.cons (.ptr (q 1087) 0) (.cons z3 (.cons z3 .nil))),
  [(q 1087, Dob3), (q 1290, Dob4), (q 1289, .map .nil 0), (q 1288, .map .nil 0), (q 1287, .map (.cons (z5 130) (z4 131074) 0 .nil) 1), (q 1285, .map .nil 0), (q 1284, .map .nil 0), (q 1283, .map .nil 0), (q 1080, Dob5), (q 8, Dob0), (q 7, .big 512 1 (.cons z1 .nil) (trA 512 z1 []) 4 none), (q 10, Dob1), (q 6, Dob2), (q 1082, Dob10), (q 1081, Dob11), (q 1134, Dob8), (q 1696, Dob12), (q 1384, Dob13), (q 1136, Dob9), (q 1852, Dob14), (q 1540, Dob15), (q 1774, Dob16), (q 1462, Dob17), (q 1306, Dob18), (q 1618, Dob19), (q 1853, rowOf 0 .nil 252 (some zh))],
  q 1950, z3,
  [(q 1087, Dob3), (q 1290, Dob4), (q 1289, .map .nil 0), (q 1288, .map .nil 0), (q 1287, Dob20), (q 1285, .map .nil 0), (q 1284, .map .nil 0), (q 1283, .map .nil 0), (q 1080, Dob5), (q 8, Dob0), (q 7, .big 512 1 (.cons z1 .nil) (trA 512 z1 []) 4 none), (q 10, Dob1), (q 6, Dob2), (q 1082, Dob21), (q 1081, Dob11), (q 1134, Dob8), (q 1696, Dob12), (q 1384, Dob13), (q 1136, Dob9), (q 1852, Dob14), (q 1540, Dob15), (q 1774, Dob16), (q 1462, Dob17), (q 1306, Dob18), (q 1618, Dob19), (q 1853, rowOf 0 .nil 252 (some zh))],
  q 2490⟩
theorem dA3_run : memoRun Tryz.T Tryz.F (brC Tryz.T) (ntOf natL) 20000 200 197 dA3 = true := by kernel_rfl
theorem dA3_ok {ρ : Env} {slow : CF} (hs : CfOK Tryz.prog ρ 197 slow) : CfOK Tryz.prog ρ 197 (memoC dA3 slow) := memo_ok Tryz.T_ok Tryz.F_ok (fun _ => brC_ok mixed Tryz.T_ok) (fun _ => ntOf_ok natOK) dA3_run hs
end Go.Proofs.YtfmjhleccnmhkaaGreat
