/- A part of the run, told once: mF4. -/
import Derived.Test.YtndhfcdmgjkmjaaGreatFC
namespace Go.Proofs.YtndhfcdmgjkmjaaGreat
open Go.Ex Go.Proofs
set_option maxRecDepth 1000000

noncomputable def mF4_o34 : O := rowOf 6 (.cons (.ptr (q 33) 0) (.cons (.int .i64 256) (.cons (.int .i64 57) (.cons (.slc (q 1106) 0 256 256) (.cons (.int .i64 10) (.cons (.slc (q 1888) 0 10 4611686018427387904) .nil)))))) 336 none
noncomputable def mF4_o35 : O := rowOf 6 (.cons (.int .i64 0) (.cons (.str 128 201687225957109120592984727136816558197914240380007) (.cons (.bool true) (.cons (.bool false) (.cons (.int .i64 57) (.cons (.int .i64 9) .nil)))))) 339 none
noncomputable def mF4_o36 : O := .map (.cons (.int .i64 138) (.str 128 23991048942891139803868744538905777433407740862817548471664116441011030835333591115520690902940575363990974128323565515917082408327754867366851977044883637287910856898423816192) 0 .nil) 1
noncomputable def mF4_o37 : O := .map (.cons (.int .i64 130) (.str 128 1284212907851525323536516204415592378863910610812877806887812068083784409780867156991636459481131081137005466074283691592210919930753865817469420357197400108378476540208841364635306857114879901881993625927681) 0 (.cons (.int .i64 131) (.str 128 65537) 1 (.cons (.int .i64 129) (.str 128 696898287454081973172991196020261297061887) 2 .nil))) 3
noncomputable def mF4_o38 : O := rowOf 6 (.cons (.ptr (q 33) 0) (.cons (.int .i64 256) (.cons (.int .i64 59) (.cons (.slc (q 1106) 0 256 256) (.cons (.int .i64 10) (.cons (.slc (q 1888) 0 10 4611686018427387904) .nil)))))) 336 none
noncomputable def mF4_o39 : O := rowOf 6 (.cons (.int .i64 0) (.cons (.str 128 201687225957109120592984727136816558197914240380007) (.cons (.bool true) (.cons (.bool false) (.cons (.int .i64 59) (.cons (.int .i64 9) .nil)))))) 339 none
noncomputable def mF4 : Memo := ⟨(.cons (.ptr (q 1112) 0) (.cons (.int .i64 1) (.cons (.int .i64 201) .nil))),
  [(q 1112, mF1_o4), (q 1317, mF1_o5), (q 1316, .map .nil 0), (q 1315, mF3_o24), (q 1314, mF3_o25), (q 1312, .map .nil 0), (q 1311, .map .nil 0), (q 1310, .map .nil 0), (q 1105, mF1_o6), (q 33, mF1_o0), (q 32, mF1_o1), (q 35, mF1_o2), (q 31, mF1_o3), (q 1107, mF4_o34), (q 1888, mF3_o27), (q 1159, mF4_o35), (q 1807, mF2_o16), (q 1412, mF2_o17), (q 1161, mF3_o29), (q 1649, mF2_o19), (q 1886, mF3_o30), (q 1728, mF2_o21), (q 1570, mF3_o31), (q 1491, mF3_o32), (q 1333, mF3_o33), (q 1106, mF2_o23)],
  q 4351, (.int .i64 0),
  [(q 1112, mF1_o4), (q 1317, mF1_o5), (q 1316, .map .nil 0), (q 1315, mF4_o36), (q 1314, mF4_o37), (q 1312, .map .nil 0), (q 1311, .map .nil 0), (q 1310, .map .nil 0), (q 1105, mF1_o6), (q 33, mF1_o0), (q 32, mF1_o1), (q 35, mF1_o2), (q 31, mF1_o3), (q 1107, mF4_o38), (q 1888, mF3_o27), (q 1159, mF4_o39), (q 1807, mF2_o16), (q 1412, mF2_o17), (q 1161, mF3_o29), (q 1649, mF2_o19), (q 1886, mF3_o30), (q 1728, mF2_o21), (q 1570, mF3_o31), (q 1491, mF3_o32), (q 1333, mF3_o33), (q 1106, mF2_o23)],
  q 4905⟩
theorem mF4_run : memoRun Tryz.T Tryz.F (brC Tryz.T) (ntOf nat_mF3) 20000 200 10 mF4 = true := by kernel_rfl
noncomputable def cf_mF4 : CF := memoC mF4 (fnC Tryz.T Tryz.F 10)
theorem cf_mF4_ok {ρ : Env} : CfOK Tryz.prog ρ 10 cf_mF4 := memo_ok Tryz.T_ok Tryz.F_ok (fun q => brC_ok mixed Tryz.T_ok) (fun q => ntOf_ok nat_mF3_ok) mF4_run (fnC_ok mixed Tryz.T_ok Tryz.F_ok (by decide +kernel))
noncomputable def nat_mF4 : List (FuncId × CF) := (10, cf_mF4) :: nat_mF3
theorem nat_mF4_ok {ρ : Env} : ∀ x ∈ nat_mF4, CfOK Tryz.prog ρ x.1 x.2 := cons_ok cf_mF4_ok nat_mF3_ok
end Go.Proofs.YtndhfcdmgjkmjaaGreat
