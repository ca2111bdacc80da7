/- A part of the run, told once: mD6. -/
import Derived.Test.YtndhfcdmgjkmjaaGreatDE
namespace Go.Proofs.YtndhfcdmgjkmjaaGreat
open Go.Ex Go.Proofs
set_option maxRecDepth 1000000

noncomputable def mD6_o50 : O := rowOf 6 (.cons (.ptr (q 6) 0) (.cons (.int .i64 256) (.cons (.int .i64 44) (.cons (.slc (q 1079) 0 256 256) (.cons (.int .i64 10) (.cons (.slc (q 1861) 0 10 4611686018427387904) .nil)))))) 336 none
noncomputable def mD6_o51 : O := rowOf 6 (.cons (.int .i64 0) (.cons (.str 128 201687225957109120592984727136816558197914240380007) (.cons (.bool true) (.cons (.bool false) (.cons (.int .i64 44) (.cons (.int .i64 8) .nil)))))) 339 none
noncomputable def mD6_o52 : O := .map (.cons (.int .i64 130) (.str 128 1284212908150529431783387071269980904055638993887664348763113812386438043491175000960290319171983152317982031178570474872206244750447428349268017678747696629090445958725121209207381599777666178655525846253570) 0 (.cons (.int .i64 129) (.str 128 1393796574908163946345982392040522594123775) 1 (.cons (.int .i64 138) (.str 128 7764359926416436884261518180354) 2 (.cons (.int .i64 139) (.str 128 12998426463567874) 3 .nil)))) 4
noncomputable def mD6_o53 : O := rowOf 6 (.cons (.ptr (q 6) 0) (.cons (.int .i64 256) (.cons (.int .i64 46) (.cons (.slc (q 1079) 0 256 256) (.cons (.int .i64 10) (.cons (.slc (q 1861) 0 10 4611686018427387904) .nil)))))) 336 none
noncomputable def mD6_o54 : O := rowOf 6 (.cons (.int .i64 0) (.cons (.str 128 201687225957109120592984727136816558197914240380007) (.cons (.bool true) (.cons (.bool false) (.cons (.int .i64 46) (.cons (.int .i64 8) .nil)))))) 339 none
noncomputable def mD6 : Memo := ⟨(.cons (.ptr (q 1085) 0) (.cons (.int .i64 0) (.cons (.agg (.cons (.str 1 98) (.cons (.int .i64 1) .nil))) .nil))),
  [(q 1085, mD1_o4), (q 1290, mD1_o5), (q 1289, .map .nil 0), (q 1288, .map .nil 0), (q 1287, mD5_o45), (q 1285, .map .nil 0), (q 1284, .map .nil 0), (q 1283, .map .nil 0), (q 1078, mD1_o6), (q 6, mD1_o0), (q 5, mD1_o1), (q 8, mD1_o2), (q 4, mD1_o3), (q 1080, mD6_o50), (q 1861, mD5_o47), (q 1780, mD4_o35), (q 1132, mD6_o51), (q 1622, mD4_o37), (q 1859, mD4_o38), (q 1543, mD4_o39), (q 1701, mD4_o40), (q 1385, mD5_o49), (q 1464, mD4_o42), (q 1134, mD4_o43), (q 1306, mD4_o44), (q 1079, mD2_o22)],
  q 4040, (.int .i64 0),
  [(q 1085, mD1_o4), (q 1290, mD1_o5), (q 1289, .map .nil 0), (q 1288, .map .nil 0), (q 1287, mD6_o52), (q 1285, .map .nil 0), (q 1284, .map .nil 0), (q 1283, .map .nil 0), (q 1078, mD1_o6), (q 6, mD1_o0), (q 5, mD1_o1), (q 8, mD1_o2), (q 4, mD1_o3), (q 1080, mD6_o53), (q 1861, mD5_o47), (q 1780, mD4_o35), (q 1132, mD6_o54), (q 1622, mD4_o37), (q 1859, mD4_o38), (q 1543, mD4_o39), (q 1701, mD4_o40), (q 1385, mD5_o49), (q 1464, mD4_o42), (q 1134, mD4_o43), (q 1306, mD4_o44), (q 1079, mD2_o22)],
  q 4418⟩
theorem mD6_run : memoRun Tryz.T Tryz.F (brC Tryz.T) (ntOf nat_mD5) 20000 200 19 mD6 = true := by kernel_rfl
noncomputable def cf_mD6 : CF := memoC mD6 (fnC Tryz.T Tryz.F 19)
theorem cf_mD6_ok {ρ : Env} : CfOK Tryz.prog ρ 19 cf_mD6 := memo_ok Tryz.T_ok Tryz.F_ok (fun q => brC_ok mixed Tryz.T_ok) (fun q => ntOf_ok nat_mD5_ok) mD6_run (fnC_ok mixed Tryz.T_ok Tryz.F_ok (by decide +kernel))
noncomputable def nat_mD6 : List (FuncId × CF) := (19, cf_mD6) :: nat_mD5
theorem nat_mD6_ok {ρ : Env} : ∀ x ∈ nat_mD6, CfOK Tryz.prog ρ x.1 x.2 := cons_ok cf_mD6_ok nat_mD5_ok
end Go.Proofs.YtndhfcdmgjkmjaaGreat
