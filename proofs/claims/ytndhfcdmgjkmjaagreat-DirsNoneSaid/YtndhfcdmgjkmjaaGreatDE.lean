/- A part of the run, told once: mD5. -/
import Derived.Test.YtndhfcdmgjkmjaaGreatDD
namespace Go.Proofs.YtndhfcdmgjkmjaaGreat
open Go.Ex Go.Proofs
set_option maxRecDepth 1000000

noncomputable def mD5_o45 : O := .map (.cons (.int .i64 130) (.str 128 1284212908150529431783387071269980904055638993887664348763113812386438043491175000960290319171983152317982031178570474872206244750447428349268017678747696629090445958725121209207381599777666178655525846253570) 0 (.cons (.int .i64 129) (.str 128 1393796574908163946345982392040522594123775) 1 (.cons (.int .i64 138) (.str 128 12998426463567874) 2 (.cons (.int .i64 139) (.str 128 12998426463567874) 3 .nil)))) 4
noncomputable def mD5_o46 : O := rowOf 6 (.cons (.ptr (q 6) 0) (.cons (.int .i64 256) (.cons (.int .i64 42) (.cons (.slc (q 1079) 0 256 256) (.cons (.int .i64 10) (.cons (.slc (q 1861) 0 10 4611686018427387904) .nil)))))) 336 none
noncomputable def mD5_o47 : O := rowOf 10 (.cons (.ptr (q 1306) 0) (.cons (.ptr (q 1134) 0) (.cons (.ptr (q 1464) 0) (.cons (.ptr (q 1385) 0) (.cons (.ptr (q 1701) 0) (.cons (.ptr (q 1543) 0) (.cons (.ptr (q 1859) 0) (.cons (.ptr (q 1622) 0) (.cons (.ptr (q 1132) 0) (.cons (.ptr (q 1780) 0) .nil)))))))))) 330 (some 1)
noncomputable def mD5_o48 : O := rowOf 6 (.cons (.int .i64 0) (.cons (.str 128 201687225957109120592984727136816558197914240380007) (.cons (.bool true) (.cons (.bool false) (.cons (.int .i64 42) (.cons (.int .i64 8) .nil)))))) 339 none
noncomputable def mD5_o49 : O := rowOf 6 (.cons (.int .i64 131) (.cons (.str 128 0) (.cons (.bool false) (.cons (.bool false) (.cons (.int .i64 27) (.cons (.int .i64 3) .nil)))))) 339 none
noncomputable def mD5 : Memo := ⟨(.cons (.ptr (q 1085) 0) (.cons (.int .i64 1) (.cons (.int .i64 0) .nil))),
  [(q 1085, mD1_o4), (q 1290, mD1_o5), (q 1289, .map .nil 0), (q 1288, .map .nil 0), (q 1287, mD4_o32), (q 1285, .map .nil 0), (q 1284, .map .nil 0), (q 1283, .map .nil 0), (q 1078, mD1_o6), (q 6, mD1_o0), (q 5, mD1_o1), (q 8, mD1_o2), (q 4, mD1_o3), (q 1080, mD4_o33), (q 1861, mD4_o34), (q 1780, mD4_o35), (q 1385, mD4_o36), (q 1622, mD4_o37), (q 1859, mD4_o38), (q 1543, mD4_o39), (q 1701, mD4_o40), (q 1132, mD4_o41), (q 1464, mD4_o42), (q 1134, mD4_o43), (q 1306, mD4_o44), (q 1079, mD2_o22)],
  q 3152, (.int .i64 0),
  [(q 1085, mD1_o4), (q 1290, mD1_o5), (q 1289, .map .nil 0), (q 1288, .map .nil 0), (q 1287, mD5_o45), (q 1285, .map .nil 0), (q 1284, .map .nil 0), (q 1283, .map .nil 0), (q 1078, mD1_o6), (q 6, mD1_o0), (q 5, mD1_o1), (q 8, mD1_o2), (q 4, mD1_o3), (q 1080, mD5_o46), (q 1861, mD5_o47), (q 1780, mD4_o35), (q 1132, mD5_o48), (q 1622, mD4_o37), (q 1859, mD4_o38), (q 1543, mD4_o39), (q 1701, mD4_o40), (q 1385, mD5_o49), (q 1464, mD4_o42), (q 1134, mD4_o43), (q 1306, mD4_o44), (q 1079, mD2_o22)],
  q 3692⟩
theorem mD5_run : memoRun Tryz.T Tryz.F (brC Tryz.T) (ntOf nat_mD4) 20000 200 18 mD5 = true := by kernel_rfl
noncomputable def cf_mD5 : CF := memoC mD5 cf_mD3
theorem cf_mD5_ok {ρ : Env} : CfOK Tryz.prog ρ 18 cf_mD5 := memo_ok Tryz.T_ok Tryz.F_ok (fun q => brC_ok mixed Tryz.T_ok) (fun q => ntOf_ok nat_mD4_ok) mD5_run cf_mD3_ok
noncomputable def nat_mD5 : List (FuncId × CF) := (18, cf_mD5) :: nat_mD4
theorem nat_mD5_ok {ρ : Env} : ∀ x ∈ nat_mD5, CfOK Tryz.prog ρ x.1 x.2 := cons_ok cf_mD5_ok nat_mD4_ok
end Go.Proofs.YtndhfcdmgjkmjaaGreat
