/- Parts of the run, told once: f5, f6. -/
import Derived.Test.YtfmjhleccnmhkaaGreatDO
namespace Go.Proofs.YtfmjhleccnmhkaaGreat
open Go.Ex Go.Proofs
set_option maxRecDepth 1000000

noncomputable def f5 : Memo := ⟨(.cons (.ptr (q 1087) 0) .nil),
  [(q 1087, Dob114), (q 12243, Dob115), (q 12242, .map .nil 0), (q 12241, .map .nil 0), (q 12240, .map .nil 0), (q 9572, Dob116), (q 9571, Dob101), (q 9570, Dob102), (q 1080, Dob80), (q 8, Dob103), (q 7, Dob104), (q 10, Dob105), (q 6, Dob83), (q 1082, Dob117), (q 1081, Dob37), (q 1134, Dob8), (q 1696, Dob12), (q 1384, Dob118), (q 4165, Dob38), (q 1136, Dob119), (q 1852, Dob14), (q 1540, Dob15), (q 1774, Dob16), (q 1462, Dob17), (q 1306, Dob40), (q 4163, Dob87), (q 1618, Dob19), (q 9568, rowOf 0 .nil 252 (some zh))],
  q 12244, z3,
  [(q 1087, Dob121), (q 9572, Dob116), (q 9571, Dob101), (q 9570, Dob102), (q 1080, Dob80), (q 8, Dob103), (q 7, Dob104), (q 10, Dob105), (q 6, Dob83), (q 1082, Dob117), (q 1081, Dob37), (q 1134, Dob8), (q 1696, Dob12), (q 1384, Dob118), (q 4165, Dob38), (q 1136, Dob119), (q 1852, Dob14), (q 1540, Dob15), (q 1774, Dob16), (q 1462, Dob17), (q 1306, Dob40), (q 4163, Dob87), (q 1618, Dob19), (q 9568, rowOf 0 .nil 252 (some zh)), (q 12243, Dob115), (q 12242, .map .nil 0), (q 12241, .map .nil 0), (q 12240, .map .nil 0)],
  q 12257⟩
theorem f5_run : memoRun Tryz.T Tryz.F (brC Tryz.T) (ntOf natL) 20000 200 28 f5 = true := by kernel_rfl
theorem f5_ok {ρ : Env} {slow : CF} (hs : CfOK Tryz.prog ρ 28 slow) : CfOK Tryz.prog ρ 28 (memoC f5 slow) := memo_ok Tryz.T_ok Tryz.F_ok (fun _ => brC_ok mixed Tryz.T_ok) (fun _ => ntOf_ok natOK) f5_run hs
noncomputable def f6 : Memo := ⟨(.cons (.ptr (q 1087) 0) .nil),
  [(q 1087, Dob121), (q 9572, Dob116), (q 9571, Dob101), (q 9570, Dob102), (q 1080, Dob80), (q 8, Dob103), (q 7, Dob104), (q 10, Dob105), (q 6, Dob83), (q 1082, Dob117), (q 1081, Dob37), (q 1134, Dob8), (q 1696, Dob12), (q 1384, Dob118), (q 4165, Dob38), (q 1136, Dob119), (q 1852, Dob14), (q 1540, Dob15), (q 1774, Dob16), (q 1462, Dob17), (q 1306, Dob40), (q 4163, Dob87), (q 1618, Dob19), (q 9568, rowOf 0 .nil 252 (some zh))],
  q 12257, z3,
  [(q 1087, Dob122), (q 12451, .map .nil 0), (q 12450, .map .nil 0), (q 12449, .map .nil 0), (q 1080, Dob123), (q 8, Dob124), (q 7, .big 512 1 (.cons z1 .nil) (trA 512 z1 []) 4 none), (q 10, Dob125), (q 6, Dob126), (q 1082, Dob127), (q 1081, Dob37), (q 1134, Dob8), (q 1696, Dob12), (q 1384, Dob128), (q 4165, Dob38), (q 1136, Dob129), (q 1852, Dob14), (q 1540, Dob15), (q 1774, Dob16), (q 1462, Dob17), (q 1306, Dob40), (q 4163, Dob87), (q 1618, Dob19), (q 12447, rowOf 0 .nil 252 (some zh)), (q 9572, Dob116), (q 9571, Dob101), (q 9570, Dob102)],
  q 12452⟩
theorem f6_run : memoRun Tryz.T Tryz.F (brC Tryz.T) (ntOf natL) 20000 200 29 f6 = true := by kernel_rfl
theorem f6_ok {ρ : Env} {slow : CF} (hs : CfOK Tryz.prog ρ 29 slow) : CfOK Tryz.prog ρ 29 (memoC f6 slow) := memo_ok Tryz.T_ok Tryz.F_ok (fun _ => brC_ok mixed Tryz.T_ok) (fun _ => ntOf_ok natOK) f6_run hs
end Go.Proofs.YtfmjhleccnmhkaaGreat
