/- Parts of the run, told once: f3a. -/
import Derived.Test.YtfmjhleccnmhkaaGreatDO
namespace Go.Proofs.YtfmjhleccnmhkaaGreat
open Go.Ex Go.Proofs
set_option maxRecDepth 1000000

noncomputable def f3a : Memo := ⟨(.cons (.ptr (q 1087) 0) (.cons (z5 3) (.cons z3 (.cons (z5 2) (.cons (.slc (q 10497) 0 1 1) .nil))))),
  [(q 1087, Dob78), (q 9577, Dob79), (q 9576, .map .nil 0), (q 9575, .map (.cons (z5 143) z0 0 (.cons (z5 144) z0 1 .nil)) 2), (q 9574, .map (.cons (z5 129) (z4 Dm36) 0 .nil) 1), (q 9572, .map .nil 0), (q 9571, .map .nil 0), (q 9570, .map .nil 0), (q 1080, Dob80), (q 8, Dob81), (q 7, .big 512 1 (.cons z1 .nil) (trA 512 z1 []) 4 none), (q 10, Dob82), (q 6, Dob83), (q 1082, Dob94), (q 1081, Dob37), (q 1134, Dob8), (q 1696, Dob12), (q 1384, Dob85), (q 4165, Dob38), (q 1136, Dob86), (q 1852, Dob14), (q 1540, Dob15), (q 1774, Dob16), (q 1462, Dob17), (q 1306, Dob40), (q 4163, Dob87), (q 1618, Dob19), (q 9568, rowOf 0 .nil 252 (some zh)), (q 10497, Dob95)],
  q 10498, z3,
  [(q 1087, Dob78), (q 9577, Dob79), (q 9576, .map .nil 0), (q 9575, .map (.cons (z5 143) z0 0 (.cons (z5 144) z0 1 .nil)) 2), (q 9574, Dob96), (q 9572, .map .nil 0), (q 9571, .map .nil 0), (q 9570, .map .nil 0), (q 1080, Dob80), (q 8, Dob81), (q 7, .big 512 1 (.cons z1 .nil) (trA 512 z1 []) 4 none), (q 10, Dob82), (q 6, Dob83), (q 1082, Dob97), (q 1081, Dob37), (q 1134, Dob8), (q 1696, Dob12), (q 1384, Dob85), (q 4165, Dob38), (q 1136, Dob86), (q 1852, Dob14), (q 1540, Dob15), (q 1774, Dob16), (q 1462, Dob17), (q 1306, Dob40), (q 4163, Dob87), (q 1618, Dob19), (q 9568, rowOf 0 .nil 252 (some zh)), (q 10497, Dob95)],
  q 10720⟩
theorem f3a_run : memoRun Tryz.T Tryz.F (brC Tryz.T) (ntOf natL) 20000 200 8 f3a = true := by kernel_rfl
theorem f3a_ok {ρ : Env} {slow : CF} (hs : CfOK Tryz.prog ρ 8 slow) : CfOK Tryz.prog ρ 8 (memoC f3a slow) := memo_ok Tryz.T_ok Tryz.F_ok (fun _ => brC_ok mixed Tryz.T_ok) (fun _ => ntOf_ok natOK) f3a_run hs
end Go.Proofs.YtfmjhleccnmhkaaGreat
