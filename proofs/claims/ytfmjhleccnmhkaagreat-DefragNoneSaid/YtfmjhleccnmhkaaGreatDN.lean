/- Parts of the run, told once: f1, f3, f4. -/
import Derived.Test.YtfmjhleccnmhkaaGreatDO
import Derived.Test.YtfmjhleccnmhkaaGreatDM
import Derived.Test.YtfmjhleccnmhkaaGreatDQ
import Derived.Test.YtfmjhleccnmhkaaGreatDS
namespace Go.Proofs.YtfmjhleccnmhkaaGreat
open Go.Ex Go.Proofs
set_option maxRecDepth 1000000

noncomputable def nF : List (FuncId × CF) := (27, (memoC f4a (fnC Tryz.T Tryz.F 27))) :: (8, (memoC f3a (memoC f1a (fnC Tryz.T Tryz.F 8)))) :: natL
theorem nF_ok {ρ : Env} : ∀ x ∈ nF, CfOK Tryz.prog ρ x.1 x.2 := (cons_ok (f4a_ok (fnw (by decide +kernel))) (cons_ok (f3a_ok (f1a_ok (fnw (by decide +kernel)))) natOK))
noncomputable def f1 : Memo := ⟨(.cons (.ptr (q 1087) 0) (.cons (z5 1) (.cons (.agg (.cons (.int .u8 1) (.cons (.int .u8 0) (.cons (.int .u16 0) (.cons (.int .u16 300) .nil))))) .nil))),
  [(q 1087, Dob59), (q 6127, Dob60), (q 6126, .map .nil 0), (q 6125, .map .nil 0), (q 6124, .map .nil 0), (q 4384, .map .nil 0), (q 4383, .map .nil 0), (q 4382, Dob61), (q 1080, Dob32), (q 8, Dob62), (q 7, .big 512 1 (.cons z1 .nil) (trA 512 z1 [(138,z2)]) 4 none), (q 10, Dob63), (q 6, Dob35), (q 1082, Dob64), (q 1081, Dob37), (q 1134, Dob8), (q 1696, Dob12), (q 1384, Dob65), (q 4165, Dob38), (q 1136, Dob39), (q 1852, Dob14), (q 1540, Dob15), (q 1774, Dob16), (q 1462, Dob17), (q 1306, Dob40), (q 4163, Dob66), (q 1618, Dob19), (q 4380, rowOf 0 .nil 252 (some zh))],
  q 6128, z2,
  [(q 1087, Dob68), (q 7524, Dob69), (q 7523, .map .nil 0), (q 7522, .map .nil 0), (q 7521, .map .nil 0), (q 4384, .map .nil 0), (q 4383, Dob70), (q 4382, Dob71), (q 1080, Dob32), (q 8, Dob72), (q 7, Dob73), (q 10, Dob74), (q 6, Dob35), (q 1082, Dob75), (q 1081, Dob37), (q 1134, Dob8), (q 1696, Dob12), (q 1384, Dob76), (q 4165, Dob38), (q 1136, Dob77), (q 1852, Dob14), (q 1540, Dob15), (q 1774, Dob16), (q 1462, Dob17), (q 1306, Dob40), (q 4163, Dob66), (q 1618, Dob19), (q 4380, rowOf 0 .nil 252 (some zh)), (q 6127, Dob60), (q 6126, .map .nil 0), (q 6125, Dob89), (q 6124, Dob111)],
  q 7525⟩
theorem f1_run : memoRun Tryz.T Tryz.F (brC Tryz.T) (ntOf nF) 20000 200 120 f1 = true := by kernel_rfl
theorem f1_ok {ρ : Env} {slow : CF} (hs : CfOK Tryz.prog ρ 120 slow) : CfOK Tryz.prog ρ 120 (memoC f1 slow) := memo_ok Tryz.T_ok Tryz.F_ok (fun _ => brC_ok mixed Tryz.T_ok) (fun _ => ntOf_ok nF_ok) f1_run hs
noncomputable def f3 : Memo := ⟨(.cons (.ptr (q 1087) 0) (.cons (z5 3) (.cons (.agg (.cons (.int .u8 1) (.cons (.int .u8 1) (.cons (.int .u16 0) (.cons (.int .u16 200) .nil))))) .nil))),
  [(q 1087, Dob78), (q 9577, Dob79), (q 9576, .map .nil 0), (q 9575, .map .nil 0), (q 9574, .map .nil 0), (q 9572, .map .nil 0), (q 9571, .map .nil 0), (q 9570, .map .nil 0), (q 1080, Dob80), (q 8, Dob81), (q 7, .big 512 1 (.cons z1 .nil) (trA 512 z1 []) 4 none), (q 10, Dob82), (q 6, Dob83), (q 1082, Dob84), (q 1081, Dob37), (q 1134, Dob8), (q 1696, Dob12), (q 1384, Dob85), (q 4165, Dob38), (q 1136, Dob86), (q 1852, Dob14), (q 1540, Dob15), (q 1774, Dob16), (q 1462, Dob17), (q 1306, Dob40), (q 4163, Dob87), (q 1618, Dob19), (q 9568, rowOf 0 .nil 252 (some zh))],
  q 9578, z2,
  [(q 1087, Dob98), (q 10962, Dob99), (q 10961, .map .nil 0), (q 10960, .map .nil 0), (q 10959, .map .nil 0), (q 9572, .map .nil 0), (q 9571, Dob101), (q 9570, Dob102), (q 1080, Dob80), (q 8, Dob103), (q 7, Dob104), (q 10, Dob105), (q 6, Dob83), (q 1082, Dob112), (q 1081, Dob37), (q 1134, Dob8), (q 1696, Dob12), (q 1384, Dob107), (q 4165, Dob38), (q 1136, Dob108), (q 1852, Dob14), (q 1540, Dob15), (q 1774, Dob16), (q 1462, Dob17), (q 1306, Dob40), (q 4163, Dob87), (q 1618, Dob19), (q 9568, rowOf 0 .nil 252 (some zh)), (q 9577, Dob79), (q 9576, .map .nil 0), (q 9575, .map (.cons (z5 143) z0 0 (.cons (z5 144) z0 1 .nil)) 2), (q 9574, Dob113)],
  q 10963⟩
theorem f3_run : memoRun Tryz.T Tryz.F (brC Tryz.T) (ntOf nF) 20000 200 120 f3 = true := by kernel_rfl
theorem f3_ok {ρ : Env} {slow : CF} (hs : CfOK Tryz.prog ρ 120 slow) : CfOK Tryz.prog ρ 120 (memoC f3 slow) := memo_ok Tryz.T_ok Tryz.F_ok (fun _ => brC_ok mixed Tryz.T_ok) (fun _ => ntOf_ok nF_ok) f3_run hs
noncomputable def f4 : Memo := ⟨(.cons (.ptr (q 1087) 0) (.cons (z5 4) (.cons (.agg (.cons (.int .u8 3) (.cons (.int .u8 0) (.cons (.int .u16 0) (.cons (.int .u16 0) .nil))))) .nil))),
  [(q 1087, Dob98), (q 10962, Dob99), (q 10961, .map .nil 0), (q 10960, .map .nil 0), (q 10959, .map .nil 0), (q 9572, .map .nil 0), (q 9571, Dob101), (q 9570, Dob102), (q 1080, Dob80), (q 8, Dob103), (q 7, Dob104), (q 10, Dob105), (q 6, Dob83), (q 1082, Dob112), (q 1081, Dob37), (q 1134, Dob8), (q 1696, Dob12), (q 1384, Dob107), (q 4165, Dob38), (q 1136, Dob108), (q 1852, Dob14), (q 1540, Dob15), (q 1774, Dob16), (q 1462, Dob17), (q 1306, Dob40), (q 4163, Dob87), (q 1618, Dob19), (q 9568, rowOf 0 .nil 252 (some zh))],
  q 10963, z2,
  [(q 1087, Dob114), (q 12243, Dob115), (q 12242, .map .nil 0), (q 12241, .map .nil 0), (q 12240, .map .nil 0), (q 9572, Dob116), (q 9571, Dob101), (q 9570, Dob102), (q 1080, Dob80), (q 8, Dob103), (q 7, Dob104), (q 10, Dob105), (q 6, Dob83), (q 1082, Dob117), (q 1081, Dob37), (q 1134, Dob8), (q 1696, Dob12), (q 1384, Dob118), (q 4165, Dob38), (q 1136, Dob119), (q 1852, Dob14), (q 1540, Dob15), (q 1774, Dob16), (q 1462, Dob17), (q 1306, Dob40), (q 4163, Dob87), (q 1618, Dob19), (q 9568, rowOf 0 .nil 252 (some zh)), (q 10962, Dob99), (q 10961, Dob100), (q 10960, .map .nil 0), (q 10959, Dob120)],
  q 12244⟩
theorem f4_run : memoRun Tryz.T Tryz.F (brC Tryz.T) (ntOf nF) 20000 200 120 f4 = true := by kernel_rfl
theorem f4_ok {ρ : Env} {slow : CF} (hs : CfOK Tryz.prog ρ 120 slow) : CfOK Tryz.prog ρ 120 (memoC f4 slow) := memo_ok Tryz.T_ok Tryz.F_ok (fun _ => brC_ok mixed Tryz.T_ok) (fun _ => ntOf_ok nF_ok) f4_run hs
end Go.Proofs.YtfmjhleccnmhkaaGreat
