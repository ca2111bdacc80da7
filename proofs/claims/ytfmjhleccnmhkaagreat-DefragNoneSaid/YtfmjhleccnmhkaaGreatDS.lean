/- Parts of the run, told once: f4a. -/
import Derived.Test.YtfmjhleccnmhkaaGreatDO
namespace Go.Proofs.YtfmjhleccnmhkaaGreat
open Go.Ex Go.Proofs
set_option maxRecDepth 1000000

noncomputable def f4a : Memo := ⟨(.cons (.ptr (q 1087) 0) (.cons (z5 2) (.cons z3 (.cons (z5 3) (.cons .nslc .nil))))),
  [(q 1087, Dob98), (q 10962, Dob99), (q 10961, Dob100), (q 10960, .map .nil 0), (q 10959, .map (.cons (z5 129) (z4 Dm38) 0 .nil) 1), (q 9572, .map .nil 0), (q 9571, Dob101), (q 9570, Dob102), (q 1080, Dob80), (q 8, Dob103), (q 7, Dob104), (q 10, Dob105), (q 6, Dob83), (q 1082, Dob106), (q 1081, Dob37), (q 1134, Dob8), (q 1696, Dob12), (q 1384, Dob107), (q 4165, Dob38), (q 1136, Dob108), (q 1852, Dob14), (q 1540, Dob15), (q 1774, Dob16), (q 1462, Dob17), (q 1306, Dob40), (q 4163, Dob87), (q 1618, Dob19), (q 9568, rowOf 0 .nil 252 (some zh))],
  q 11932, z3,
  [(q 1087, Dob98), (q 10962, Dob99), (q 10961, Dob100), (q 10960, .map .nil 0), (q 10959, Dob109), (q 9572, .map .nil 0), (q 9571, Dob101), (q 9570, Dob102), (q 1080, Dob80), (q 8, Dob103), (q 7, Dob104), (q 10, Dob105), (q 6, Dob83), (q 1082, Dob110), (q 1081, Dob37), (q 1134, Dob8), (q 1696, Dob12), (q 1384, Dob107), (q 4165, Dob38), (q 1136, Dob108), (q 1852, Dob14), (q 1540, Dob15), (q 1774, Dob16), (q 1462, Dob17), (q 1306, Dob40), (q 4163, Dob87), (q 1618, Dob19), (q 9568, rowOf 0 .nil 252 (some zh))],
  q 12147⟩
theorem f4a_run : memoRun Tryz.T Tryz.F (brC Tryz.T) (ntOf natL) 20000 200 27 f4a = true := by kernel_rfl
theorem f4a_ok {ρ : Env} {slow : CF} (hs : CfOK Tryz.prog ρ 27 slow) : CfOK Tryz.prog ρ 27 (memoC f4a slow) := memo_ok Tryz.T_ok Tryz.F_ok (fun _ => brC_ok mixed Tryz.T_ok) (fun _ => ntOf_ok natOK) f4a_run hs
end Go.Proofs.YtfmjhleccnmhkaaGreat
