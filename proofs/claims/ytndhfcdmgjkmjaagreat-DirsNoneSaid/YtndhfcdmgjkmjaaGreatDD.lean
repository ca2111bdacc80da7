/- A part of the run, told once: mD4. -/
import Derived.Test.YtndhfcdmgjkmjaaGreatDC
namespace Go.Proofs.YtndhfcdmgjkmjaaGreat
open Go.Ex Go.Proofs
set_option maxRecDepth 1000000

noncomputable def mD4_o32 : O := .map (.cons (.int .i64 130) (.str 128 1757415016609295972229565752614833075313230395568327369591738092674386498477860096437328871757928699881043331560909854250495981078658223136256116179403435802626) 0 (.cons (.int .i64 129) (.str 128 696898287454081973172991196020261297061887) 1 (.cons (.int .i64 138) (.str 128 12998426463567874) 2 .nil))) 3
noncomputable def mD4_o33 : O := rowOf 6 (.cons (.ptr (q 6) 0) (.cons (.int .i64 256) (.cons (.int .i64 39) (.cons (.slc (q 1079) 0 256 256) (.cons (.int .i64 10) (.cons (.slc (q 1861) 0 10 4611686018427387904) .nil)))))) 336 none
noncomputable def mD4_o34 : O := rowOf 10 (.cons (.ptr (q 1306) 0) (.cons (.ptr (q 1134) 0) (.cons (.ptr (q 1464) 0) (.cons (.ptr (q 1132) 0) (.cons (.ptr (q 1701) 0) (.cons (.ptr (q 1543) 0) (.cons (.ptr (q 1859) 0) (.cons (.ptr (q 1622) 0) (.cons (.ptr (q 1385) 0) (.cons (.ptr (q 1780) 0) .nil)))))))))) 330 (some 1)
noncomputable def mD4_o35 : O := rowOf 6 (.cons (.int .i64 136) (.cons (.str 128 0) (.cons (.bool false) (.cons (.bool false) (.cons (.int .i64 37) (.cons (.int .i64 9) .nil)))))) 339 none
noncomputable def mD4_o36 : O := rowOf 6 (.cons (.int .i64 131) (.cons (.str 128 0) (.cons (.bool false) (.cons (.bool false) (.cons (.int .i64 27) (.cons (.int .i64 8) .nil)))))) 339 none
noncomputable def mD4_o37 : O := rowOf 6 (.cons (.int .i64 134) (.cons (.str 128 0) (.cons (.bool false) (.cons (.bool false) (.cons (.int .i64 33) (.cons (.int .i64 7) .nil)))))) 339 none
noncomputable def mD4_o38 : O := rowOf 6 (.cons (.int .i64 137) (.cons (.str 128 0) (.cons (.bool false) (.cons (.bool false) (.cons (.int .i64 39) (.cons (.int .i64 6) .nil)))))) 339 none
noncomputable def mD4_o39 : O := rowOf 6 (.cons (.int .i64 133) (.cons (.str 128 0) (.cons (.bool false) (.cons (.bool false) (.cons (.int .i64 31) (.cons (.int .i64 5) .nil)))))) 339 none
noncomputable def mD4_o40 : O := rowOf 6 (.cons (.int .i64 135) (.cons (.str 128 0) (.cons (.bool false) (.cons (.bool false) (.cons (.int .i64 35) (.cons (.int .i64 4) .nil)))))) 339 none
noncomputable def mD4_o41 : O := rowOf 6 (.cons (.int .i64 0) (.cons (.str 128 201687225957109120592984727136816558197914240380007) (.cons (.bool true) (.cons (.bool false) (.cons (.int .i64 25) (.cons (.int .i64 3) .nil)))))) 339 none
noncomputable def mD4_o42 : O := rowOf 6 (.cons (.int .i64 132) (.cons (.str 128 0) (.cons (.bool false) (.cons (.bool false) (.cons (.int .i64 29) (.cons (.int .i64 2) .nil)))))) 339 none
noncomputable def mD4_o43 : O := rowOf 6 (.cons (.int .i64 129) (.cons (.str 128 348449143727040986586495598010130648530943) (.cons (.bool true) (.cons (.bool false) (.cons (.int .i64 24) (.cons (.int .i64 1) .nil)))))) 339 none
noncomputable def mD4_o44 : O := rowOf 6 (.cons (.int .i64 130) (.cons (.str 128 0) (.cons (.bool false) (.cons (.bool false) (.cons (.int .i64 21) (.cons (.int .i64 0) .nil)))))) 339 none
noncomputable def mD4 : Memo := ⟨(.cons (.ptr (q 1085) 0) (.cons (.int .i64 2) (.cons (.int .i64 2) .nil))),
  [(q 1085, mD1_o4), (q 1290, mD1_o5), (q 1289, .map .nil 0), (q 1288, .map .nil 0), (q 1287, mD3_o23), (q 1285, .map .nil 0), (q 1284, .map .nil 0), (q 1283, .map .nil 0), (q 1078, mD1_o6), (q 6, mD1_o0), (q 5, mD1_o1), (q 8, mD1_o2), (q 4, mD1_o3), (q 1080, mD3_o24), (q 1861, mD3_o25), (q 1134, mD3_o26), (q 1780, mD2_o15), (q 1132, mD3_o27), (q 1622, mD2_o17), (q 1306, mD2_o18), (q 1859, mD3_o28), (q 1701, mD3_o29), (q 1543, mD2_o21), (q 1464, mD3_o30), (q 1385, mD3_o31), (q 1079, mD2_o22)],
  q 2498, (.tup (.cons (.int .i64 1) (.cons (.int .i64 0) .nil))),
  [(q 1085, mD1_o4), (q 1290, mD1_o5), (q 1289, .map .nil 0), (q 1288, .map .nil 0), (q 1287, mD4_o32), (q 1285, .map .nil 0), (q 1284, .map .nil 0), (q 1283, .map .nil 0), (q 1078, mD1_o6), (q 6, mD1_o0), (q 5, mD1_o1), (q 8, mD1_o2), (q 4, mD1_o3), (q 1080, mD4_o33), (q 1861, mD4_o34), (q 1780, mD4_o35), (q 1385, mD4_o36), (q 1622, mD4_o37), (q 1859, mD4_o38), (q 1543, mD4_o39), (q 1701, mD4_o40), (q 1132, mD4_o41), (q 1464, mD4_o42), (q 1134, mD4_o43), (q 1306, mD4_o44), (q 1079, mD2_o22)],
  q 3152⟩
theorem mD4_run : memoRun Tryz.T Tryz.F (brC Tryz.T) (ntOf nat_mD3) 20000 200 14 mD4 = true := by kernel_rfl
noncomputable def cf_mD4 : CF := memoC mD4 cf_mD2
theorem cf_mD4_ok {ρ : Env} : CfOK Tryz.prog ρ 14 cf_mD4 := memo_ok Tryz.T_ok Tryz.F_ok (fun q => brC_ok mixed Tryz.T_ok) (fun q => ntOf_ok nat_mD3_ok) mD4_run cf_mD2_ok
noncomputable def nat_mD4 : List (FuncId × CF) := (14, cf_mD4) :: nat_mD3
theorem nat_mD4_ok {ρ : Env} : ∀ x ∈ nat_mD4, CfOK Tryz.prog ρ x.1 x.2 := cons_ok cf_mD4_ok nat_mD3_ok
end Go.Proofs.YtndhfcdmgjkmjaaGreat
