/- Parts of the run, told once: g1. -/
import Derived.Test.YtfmjhleccnmhkaaGreatGO
namespace Go.Proofs.YtfmjhleccnmhkaaGreat
open Go.Ex Go.Proofs
set_option maxRecDepth 1000000

noncomputable def g1 : Memo := ⟨(.cons (.ptr (q 1087) 0) .nil),
  [(q 1087, Gob0), (q 12451, .map .nil 0), (q 12450, .map .nil 0), (q 12449, .map .nil 0), (q 1080, Gob1), (q 8, Gob2), (q 7, .big 512 1 (.cons z1 .nil) (trA 512 z1 []) 4 none), (q 10, Gob3), (q 6, Gob4), (q 1082, Gob5), (q 1081, Gob6), (q 1134, Gob7), (q 1696, Gob8), (q 1384, Gob9), (q 4165, Gob10), (q 1136, Gob11), (q 1852, Gob12), (q 1540, Gob13), (q 1774, Gob14), (q 1462, Gob15), (q 1306, Gob16), (q 4163, Gob17), (q 1618, Gob18), (q 12447, rowOf 0 .nil 252 (some zh))],
  q 12452, (.tup (.cons (z5 2) (.cons z1 (.cons z3 .nil)))),
  [(q 1087, Gob19), (q 14451, .map .nil 0), (q 14450, .map .nil 0), (q 14449, .map .nil 0), (q 1080, Gob20), (q 8, Gob21), (q 7, .big 512 1 (.cons z1 .nil) (trA 512 z1 []) 4 none), (q 10, Gob22), (q 6, Gob23), (q 1082, Gob24), (q 1081, Gob6), (q 1134, Gob25), (q 1696, Gob8), (q 1384, Gob26), (q 4165, Gob10), (q 1136, Gob27), (q 1852, Gob12), (q 1540, Gob13), (q 1774, Gob14), (q 1462, Gob15), (q 1306, Gob16), (q 4163, Gob17), (q 1618, Gob18), (q 14447, rowOf 0 .nil 252 (some zh)), (q 12451, Gob28), (q 12450, Gob29), (q 12449, Gob30)],
  q 14452⟩
theorem g1_run : memoRun Tryz.T Tryz.F (brC Tryz.T) (ntOf natL) 20000 200 18 g1 = true := by kernel_rfl
theorem g1_ok {ρ : Env} {slow : CF} (hs : CfOK Tryz.prog ρ 18 slow) : CfOK Tryz.prog ρ 18 (memoC g1 slow) := memo_ok Tryz.T_ok Tryz.F_ok (fun _ => brC_ok mixed Tryz.T_ok) (fun _ => ntOf_ok natOK) g1_run hs
end Go.Proofs.YtfmjhleccnmhkaaGreat
