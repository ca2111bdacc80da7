/- A part of the run, told once: mD2. -/
import Derived.Test.YtndhfcdmgjkmjaaGreatDA
namespace Go.Proofs.YtndhfcdmgjkmjaaGreat
open Go.Ex Go.Proofs
set_option maxRecDepth 1000000

noncomputable def mD2_o12 : O := rowOf 6 (.cons (.ptr (q 6) 0) (.cons (.int .i64 256) (.cons (.int .i64 21) (.cons (.slc (q 1079) 0 256 256) (.cons (.int .i64 10) (.cons (.slc (q 1861) 0 10 4611686018427387904) .nil)))))) 336 none
noncomputable def mD2_o13 : O := rowOf 10 (.cons (.ptr (q 1132) 0) (.cons (.ptr (q 1134) 0) (.cons (.ptr (q 1543) 0) (.cons (.ptr (q 1385) 0) (.cons (.ptr (q 1464) 0) (.cons (.ptr (q 1306) 0) (.cons (.ptr (q 1622) 0) (.cons (.ptr (q 1701) 0) (.cons (.ptr (q 1780) 0) (.cons (.ptr (q 1859) 0) .nil)))))))))) 330 (some 1)
noncomputable def mD2_o14 : O := rowOf 6 (.cons (.int .i64 137) (.cons (.str 128 0) (.cons (.bool false) (.cons (.bool false) (.cons (.int .i64 20) (.cons (.int .i64 9) .nil)))))) 339 none
noncomputable def mD2_o15 : O := rowOf 6 (.cons (.int .i64 136) (.cons (.str 128 0) (.cons (.bool false) (.cons (.bool false) (.cons (.int .i64 18) (.cons (.int .i64 8) .nil)))))) 339 none
noncomputable def mD2_o16 : O := rowOf 6 (.cons (.int .i64 135) (.cons (.str 128 0) (.cons (.bool false) (.cons (.bool false) (.cons (.int .i64 16) (.cons (.int .i64 7) .nil)))))) 339 none
noncomputable def mD2_o17 : O := rowOf 6 (.cons (.int .i64 134) (.cons (.str 128 0) (.cons (.bool false) (.cons (.bool false) (.cons (.int .i64 14) (.cons (.int .i64 6) .nil)))))) 339 none
noncomputable def mD2_o18 : O := rowOf 6 (.cons (.int .i64 130) (.cons (.str 128 0) (.cons (.bool false) (.cons (.bool false) (.cons (.int .i64 21) (.cons (.int .i64 5) .nil)))))) 339 none
noncomputable def mD2_o19 : O := rowOf 6 (.cons (.int .i64 132) (.cons (.str 128 0) (.cons (.bool false) (.cons (.bool false) (.cons (.int .i64 10) (.cons (.int .i64 4) .nil)))))) 339 none
noncomputable def mD2_o20 : O := rowOf 6 (.cons (.int .i64 131) (.cons (.str 128 0) (.cons (.bool false) (.cons (.bool false) (.cons (.int .i64 8) (.cons (.int .i64 3) .nil)))))) 339 none
noncomputable def mD2_o21 : O := rowOf 6 (.cons (.int .i64 133) (.cons (.str 128 0) (.cons (.bool false) (.cons (.bool false) (.cons (.int .i64 12) (.cons (.int .i64 2) .nil)))))) 339 none
noncomputable def mD2_o22 : O := .big 256 1 (.cons .nptr .nil) (trL [(0, (.ptr (q 1132) 0)), (135, (.ptr (q 1701) 0)), (131, (.ptr (q 1385) 0)), (129, (.ptr (q 1134) 0)), (137, (.ptr (q 1859) 0)), (133, (.ptr (q 1543) 0)), (136, (.ptr (q 1780) 0)), (132, (.ptr (q 1464) 0)), (130, (.ptr (q 1306) 0)), (134, (.ptr (q 1622) 0))]) 330 none
noncomputable def mD2 : Memo := ⟨(.cons (.ptr (q 1085) 0) (.cons (.int .i64 2) (.cons (.int .i64 2) .nil))),
  [(q 1085, mD1_o4), (q 1290, mD1_o5), (q 1289, .map .nil 0), (q 1288, .map .nil 0), (q 1287, .map .nil 0), (q 1285, .map .nil 0), (q 1284, .map .nil 0), (q 1283, .map .nil 0), (q 1078, mD1_o6), (q 6, mD1_o0), (q 5, mD1_o1), (q 8, mD1_o2), (q 4, mD1_o3), (q 1080, mD1_o7), (q 1281, mD1_o8), (q 1134, mD1_o9), (q 1132, mD1_o10), (q 1079, mD1_o11)],
  q 1291, (.tup (.cons (.int .i64 0) (.cons (.int .i64 0) .nil))),
  [(q 1085, mD1_o4), (q 1290, mD1_o5), (q 1289, .map .nil 0), (q 1288, .map .nil 0), (q 1287, .map (.cons (.int .i64 130) (.str 128 131074) 0 .nil) 1), (q 1285, .map .nil 0), (q 1284, .map .nil 0), (q 1283, .map .nil 0), (q 1078, mD1_o6), (q 6, mD1_o0), (q 5, mD1_o1), (q 8, mD1_o2), (q 4, mD1_o3), (q 1080, mD2_o12), (q 1861, mD2_o13), (q 1859, mD2_o14), (q 1780, mD2_o15), (q 1701, mD2_o16), (q 1622, mD2_o17), (q 1306, mD2_o18), (q 1464, mD2_o19), (q 1385, mD2_o20), (q 1543, mD2_o21), (q 1134, mD1_o9), (q 1132, mD1_o10), (q 1079, mD2_o22)],
  q 1958⟩
theorem mD2_run : memoRun Tryz.T Tryz.F (brC Tryz.T) (ntOf nat_mD1) 20000 200 14 mD2 = true := by kernel_rfl
noncomputable def cf_mD2 : CF := memoC mD2 (fnC Tryz.T Tryz.F 14)
theorem cf_mD2_ok {ρ : Env} : CfOK Tryz.prog ρ 14 cf_mD2 := memo_ok Tryz.T_ok Tryz.F_ok (fun q => brC_ok mixed Tryz.T_ok) (fun q => ntOf_ok nat_mD1_ok) mD2_run (fnC_ok mixed Tryz.T_ok Tryz.F_ok (by decide +kernel))
noncomputable def nat_mD2 : List (FuncId × CF) := (14, cf_mD2) :: nat_mD1
theorem nat_mD2_ok {ρ : Env} : ∀ x ∈ nat_mD2, CfOK Tryz.prog ρ x.1 x.2 := cons_ok cf_mD2_ok nat_mD1_ok
end Go.Proofs.YtndhfcdmgjkmjaaGreat
