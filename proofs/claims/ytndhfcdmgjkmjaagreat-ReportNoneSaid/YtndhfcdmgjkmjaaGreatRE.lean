/- A part of the run, told once: mR5. -/
import Derived.Test.YtndhfcdmgjkmjaaGreatRD
namespace Go.Proofs.YtndhfcdmgjkmjaaGreat
open Go.Ex Go.Proofs
set_option maxRecDepth 1000000

noncomputable def mR5_o45 : O := .map (.cons (.int .i64 130) (.str 128 1284212908150529431783387071269980904055638993887664348763113812386438043491175000960290319171983152317982031178570474872206244750447428349268017678747696629090445958725121209207381599777666178655525846253570) 0 (.cons (.int .i64 129) (.str 128 1393796574908163946345982392040522594123775) 1 (.cons (.int .i64 138) (.str 128 12998426463567874) 2 (.cons (.int .i64 139) (.str 128 12998426463567874) 3 .nil)))) 4
noncomputable def mR5_o46 : O := rowOf 6 (.cons (.ptr (q 12) 0) (.cons (.int .i64 256) (.cons (.int .i64 42) (.cons (.slc (q 1085) 0 512 512) (.cons (.int .i64 10) (.cons (.slc (q 1867) 0 10 4611686018427387904) .nil)))))) 336 none
noncomputable def mR5_o47 : O := rowOf 10 (.cons (.ptr (q 1312) 0) (.cons (.ptr (q 1140) 0) (.cons (.ptr (q 1470) 0) (.cons (.ptr (q 1391) 0) (.cons (.ptr (q 1707) 0) (.cons (.ptr (q 1549) 0) (.cons (.ptr (q 1865) 0) (.cons (.ptr (q 1628) 0) (.cons (.ptr (q 1138) 0) (.cons (.ptr (q 1786) 0) .nil)))))))))) 330 (some 1)
noncomputable def mR5_o48 : O := rowOf 6 (.cons (.int .i64 0) (.cons (.str 128 201687225957109120592984727141538924680783885593703) (.cons (.bool true) (.cons (.bool false) (.cons (.int .i64 42) (.cons (.int .i64 8) .nil)))))) 339 none
noncomputable def mR5_o49 : O := rowOf 6 (.cons (.int .i64 131) (.cons (.str 128 0) (.cons (.bool false) (.cons (.bool false) (.cons (.int .i64 27) (.cons (.int .i64 3) .nil)))))) 339 none
noncomputable def mR5 : Memo := ⟨(.cons (.ptr (q 1091) 0) (.cons (.int .i64 1) (.cons (.int .i64 0) .nil))),
  [(q 1091, mR1_o4), (q 1296, mR1_o5), (q 1295, .map .nil 0), (q 1294, .map .nil 0), (q 1293, mR4_o32), (q 1291, .map .nil 0), (q 1290, .map .nil 0), (q 1289, .map .nil 0), (q 1084, mR1_o6), (q 12, mR1_o0), (q 11, mR1_o1), (q 14, mR1_o2), (q 10, mR1_o3), (q 1086, mR4_o33), (q 1867, mR4_o34), (q 1786, mR4_o35), (q 1391, mR4_o36), (q 1628, mR4_o37), (q 1865, mR4_o38), (q 1549, mR4_o39), (q 1707, mR4_o40), (q 1138, mR4_o41), (q 1470, mR4_o42), (q 1140, mR4_o43), (q 1312, mR4_o44), (q 1085, mR2_o22)],
  q 3159, (.int .i64 0),
  [(q 1091, mR1_o4), (q 1296, mR1_o5), (q 1295, .map .nil 0), (q 1294, .map .nil 0), (q 1293, mR5_o45), (q 1291, .map .nil 0), (q 1290, .map .nil 0), (q 1289, .map .nil 0), (q 1084, mR1_o6), (q 12, mR1_o0), (q 11, mR1_o1), (q 14, mR1_o2), (q 10, mR1_o3), (q 1086, mR5_o46), (q 1867, mR5_o47), (q 1786, mR4_o35), (q 1138, mR5_o48), (q 1628, mR4_o37), (q 1865, mR4_o38), (q 1549, mR4_o39), (q 1707, mR4_o40), (q 1391, mR5_o49), (q 1470, mR4_o42), (q 1140, mR4_o43), (q 1312, mR4_o44), (q 1085, mR2_o22)],
  q 3700⟩
theorem mR5_run : memoRun Tryz.T Tryz.F (brC Tryz.T) (ntOf nat_mR4) 20000 200 18 mR5 = true := by kernel_rfl
noncomputable def cf_mR5 : CF := memoC mR5 cf_mR3
theorem cf_mR5_ok {ρ : Env} : CfOK Tryz.prog ρ 18 cf_mR5 := memo_ok Tryz.T_ok Tryz.F_ok (fun q => brC_ok mixed Tryz.T_ok) (fun q => ntOf_ok nat_mR4_ok) mR5_run cf_mR3_ok
noncomputable def nat_mR5 : List (FuncId × CF) := (18, cf_mR5) :: nat_mR4
theorem nat_mR5_ok {ρ : Env} : ∀ x ∈ nat_mR5, CfOK Tryz.prog ρ x.1 x.2 := cons_ok cf_mR5_ok nat_mR4_ok
end Go.Proofs.YtndhfcdmgjkmjaaGreat
