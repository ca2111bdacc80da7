/- A part of the run, told once: mR2. -/
import Derived.Test.YtndhfcdmgjkmjaaGreatRA
namespace Go.Proofs.YtndhfcdmgjkmjaaGreat
open Go.Ex Go.Proofs
set_option maxRecDepth 1000000

noncomputable def mR2_o12 : O := rowOf 6 (.cons (.ptr (q 12) 0) (.cons (.int .i64 256) (.cons (.int .i64 21) (.cons (.slc (q 1085) 0 512 512) (.cons (.int .i64 10) (.cons (.slc (q 1867) 0 10 4611686018427387904) .nil)))))) 336 none
noncomputable def mR2_o13 : O := rowOf 10 (.cons (.ptr (q 1138) 0) (.cons (.ptr (q 1140) 0) (.cons (.ptr (q 1549) 0) (.cons (.ptr (q 1391) 0) (.cons (.ptr (q 1470) 0) (.cons (.ptr (q 1312) 0) (.cons (.ptr (q 1628) 0) (.cons (.ptr (q 1707) 0) (.cons (.ptr (q 1786) 0) (.cons (.ptr (q 1865) 0) .nil)))))))))) 330 (some 1)
noncomputable def mR2_o14 : O := rowOf 6 (.cons (.int .i64 137) (.cons (.str 128 0) (.cons (.bool false) (.cons (.bool false) (.cons (.int .i64 20) (.cons (.int .i64 9) .nil)))))) 339 none
noncomputable def mR2_o15 : O := rowOf 6 (.cons (.int .i64 136) (.cons (.str 128 0) (.cons (.bool false) (.cons (.bool false) (.cons (.int .i64 18) (.cons (.int .i64 8) .nil)))))) 339 none
noncomputable def mR2_o16 : O := rowOf 6 (.cons (.int .i64 135) (.cons (.str 128 0) (.cons (.bool false) (.cons (.bool false) (.cons (.int .i64 16) (.cons (.int .i64 7) .nil)))))) 339 none
noncomputable def mR2_o17 : O := rowOf 6 (.cons (.int .i64 134) (.cons (.str 128 0) (.cons (.bool false) (.cons (.bool false) (.cons (.int .i64 14) (.cons (.int .i64 6) .nil)))))) 339 none
noncomputable def mR2_o18 : O := rowOf 6 (.cons (.int .i64 130) (.cons (.str 128 0) (.cons (.bool false) (.cons (.bool false) (.cons (.int .i64 21) (.cons (.int .i64 5) .nil)))))) 339 none
noncomputable def mR2_o19 : O := rowOf 6 (.cons (.int .i64 132) (.cons (.str 128 0) (.cons (.bool false) (.cons (.bool false) (.cons (.int .i64 10) (.cons (.int .i64 4) .nil)))))) 339 none
noncomputable def mR2_o20 : O := rowOf 6 (.cons (.int .i64 131) (.cons (.str 128 0) (.cons (.bool false) (.cons (.bool false) (.cons (.int .i64 8) (.cons (.int .i64 3) .nil)))))) 339 none
noncomputable def mR2_o21 : O := rowOf 6 (.cons (.int .i64 133) (.cons (.str 128 0) (.cons (.bool false) (.cons (.bool false) (.cons (.int .i64 12) (.cons (.int .i64 2) .nil)))))) 339 none
noncomputable def mR2_o22 : O := .big 512 1 (.cons .nptr .nil) (trL [(0, (.ptr (q 1138) 0)), (135, (.ptr (q 1707) 0)), (131, (.ptr (q 1391) 0)), (129, (.ptr (q 1140) 0)), (137, (.ptr (q 1865) 0)), (133, (.ptr (q 1549) 0)), (136, (.ptr (q 1786) 0)), (132, (.ptr (q 1470) 0)), (130, (.ptr (q 1312) 0)), (134, (.ptr (q 1628) 0))]) 330 none
noncomputable def mR2 : Memo := ⟨(.cons (.ptr (q 1091) 0) (.cons (.int .i64 2) (.cons (.int .i64 2) .nil))),
  [(q 1091, mR1_o4), (q 1296, mR1_o5), (q 1295, .map .nil 0), (q 1294, .map .nil 0), (q 1293, .map .nil 0), (q 1291, .map .nil 0), (q 1290, .map .nil 0), (q 1289, .map .nil 0), (q 1084, mR1_o6), (q 12, mR1_o0), (q 11, mR1_o1), (q 14, mR1_o2), (q 10, mR1_o3), (q 1086, mR1_o7), (q 1287, mR1_o8), (q 1140, mR1_o9), (q 1138, mR1_o10), (q 1085, mR1_o11)],
  q 1297, (.tup (.cons (.int .i64 0) (.cons (.int .i64 0) .nil))),
  [(q 1091, mR1_o4), (q 1296, mR1_o5), (q 1295, .map .nil 0), (q 1294, .map .nil 0), (q 1293, .map (.cons (.int .i64 130) (.str 128 131074) 0 .nil) 1), (q 1291, .map .nil 0), (q 1290, .map .nil 0), (q 1289, .map .nil 0), (q 1084, mR1_o6), (q 12, mR1_o0), (q 11, mR1_o1), (q 14, mR1_o2), (q 10, mR1_o3), (q 1086, mR2_o12), (q 1867, mR2_o13), (q 1865, mR2_o14), (q 1786, mR2_o15), (q 1707, mR2_o16), (q 1628, mR2_o17), (q 1312, mR2_o18), (q 1470, mR2_o19), (q 1391, mR2_o20), (q 1549, mR2_o21), (q 1140, mR1_o9), (q 1138, mR1_o10), (q 1085, mR2_o22)],
  q 1964⟩
theorem mR2_run : memoRun Tryz.T Tryz.F (brC Tryz.T) (ntOf nat_mR1) 20000 200 14 mR2 = true := by kernel_rfl
noncomputable def cf_mR2 : CF := memoC mR2 (fnC Tryz.T Tryz.F 14)
theorem cf_mR2_ok {ρ : Env} : CfOK Tryz.prog ρ 14 cf_mR2 := memo_ok Tryz.T_ok Tryz.F_ok (fun q => brC_ok mixed Tryz.T_ok) (fun q => ntOf_ok nat_mR1_ok) mR2_run (fnC_ok mixed Tryz.T_ok Tryz.F_ok (by decide +kernel))
noncomputable def nat_mR2 : List (FuncId × CF) := (14, cf_mR2) :: nat_mR1
theorem nat_mR2_ok {ρ : Env} : ∀ x ∈ nat_mR2, CfOK Tryz.prog ρ x.1 x.2 := cons_ok cf_mR2_ok nat_mR1_ok
end Go.Proofs.YtndhfcdmgjkmjaaGreat
