/- A part of the run, told once: mR3. -/
import Derived.Test.YtndhfcdmgjkmjaaGreatRB
namespace Go.Proofs.YtndhfcdmgjkmjaaGreat
open Go.Ex Go.Proofs
set_option maxRecDepth 1000000

noncomputable def mR3_o23 : O := .map (.cons (.int .i64 130) (.str 128 95780974381620891044642965138427097272069579969003522) 0 (.cons (.int .i64 129) (.str 128 696898287454081973172991196020261297061887) 1 (.cons (.int .i64 138) (.str 128 12998426463567874) 2 .nil))) 3
noncomputable def mR3_o24 : O := rowOf 6 (.cons (.ptr (q 12) 0) (.cons (.int .i64 256) (.cons (.int .i64 25) (.cons (.slc (q 1085) 0 512 512) (.cons (.int .i64 10) (.cons (.slc (q 1867) 0 10 4611686018427387904) .nil)))))) 336 none
noncomputable def mR3_o25 : O := rowOf 10 (.cons (.ptr (q 1391) 0) (.cons (.ptr (q 1470) 0) (.cons (.ptr (q 1549) 0) (.cons (.ptr (q 1707) 0) (.cons (.ptr (q 1865) 0) (.cons (.ptr (q 1312) 0) (.cons (.ptr (q 1628) 0) (.cons (.ptr (q 1138) 0) (.cons (.ptr (q 1786) 0) (.cons (.ptr (q 1140) 0) .nil)))))))))) 330 (some 1)
noncomputable def mR3_o26 : O := rowOf 6 (.cons (.int .i64 129) (.cons (.str 128 348449143727040986586495598010130648530943) (.cons (.bool true) (.cons (.bool false) (.cons (.int .i64 24) (.cons (.int .i64 9) .nil)))))) 339 none
noncomputable def mR3_o27 : O := rowOf 6 (.cons (.int .i64 0) (.cons (.str 128 201687225957109120592984727141538924680783885593703) (.cons (.bool true) (.cons (.bool false) (.cons (.int .i64 25) (.cons (.int .i64 7) .nil)))))) 339 none
noncomputable def mR3_o28 : O := rowOf 6 (.cons (.int .i64 137) (.cons (.str 128 0) (.cons (.bool false) (.cons (.bool false) (.cons (.int .i64 20) (.cons (.int .i64 4) .nil)))))) 339 none
noncomputable def mR3_o29 : O := rowOf 6 (.cons (.int .i64 135) (.cons (.str 128 0) (.cons (.bool false) (.cons (.bool false) (.cons (.int .i64 16) (.cons (.int .i64 3) .nil)))))) 339 none
noncomputable def mR3_o30 : O := rowOf 6 (.cons (.int .i64 132) (.cons (.str 128 0) (.cons (.bool false) (.cons (.bool false) (.cons (.int .i64 10) (.cons (.int .i64 1) .nil)))))) 339 none
noncomputable def mR3_o31 : O := rowOf 6 (.cons (.int .i64 131) (.cons (.str 128 0) (.cons (.bool false) (.cons (.bool false) (.cons (.int .i64 8) (.cons (.int .i64 0) .nil)))))) 339 none
noncomputable def mR3 : Memo := ⟨(.cons (.ptr (q 1091) 0) (.cons (.int .i64 0) (.cons (.int .i64 0) .nil))),
  [(q 1091, mR1_o4), (q 1296, mR1_o5), (q 1295, .map .nil 0), (q 1294, .map .nil 0), (q 1293, .map (.cons (.int .i64 130) (.str 128 131074) 0 .nil) 1), (q 1291, .map .nil 0), (q 1290, .map .nil 0), (q 1289, .map .nil 0), (q 1084, mR1_o6), (q 12, mR1_o0), (q 11, mR1_o1), (q 14, mR1_o2), (q 10, mR1_o3), (q 1086, mR2_o12), (q 1867, mR2_o13), (q 1865, mR2_o14), (q 1786, mR2_o15), (q 1707, mR2_o16), (q 1628, mR2_o17), (q 1312, mR2_o18), (q 1470, mR2_o19), (q 1391, mR2_o20), (q 1549, mR2_o21), (q 1140, mR1_o9), (q 1138, mR1_o10), (q 1085, mR2_o22)],
  q 1964, (.int .i64 0),
  [(q 1091, mR1_o4), (q 1296, mR1_o5), (q 1295, .map .nil 0), (q 1294, .map .nil 0), (q 1293, mR3_o23), (q 1291, .map .nil 0), (q 1290, .map .nil 0), (q 1289, .map .nil 0), (q 1084, mR1_o6), (q 12, mR1_o0), (q 11, mR1_o1), (q 14, mR1_o2), (q 10, mR1_o3), (q 1086, mR3_o24), (q 1867, mR3_o25), (q 1140, mR3_o26), (q 1786, mR2_o15), (q 1138, mR3_o27), (q 1628, mR2_o17), (q 1312, mR2_o18), (q 1865, mR3_o28), (q 1707, mR3_o29), (q 1549, mR2_o21), (q 1470, mR3_o30), (q 1391, mR3_o31), (q 1085, mR2_o22)],
  q 2505⟩
theorem mR3_run : memoRun Tryz.T Tryz.F (brC Tryz.T) (ntOf nat_mR2) 20000 200 18 mR3 = true := by kernel_rfl
noncomputable def cf_mR3 : CF := memoC mR3 (fnC Tryz.T Tryz.F 18)
theorem cf_mR3_ok {ρ : Env} : CfOK Tryz.prog ρ 18 cf_mR3 := memo_ok Tryz.T_ok Tryz.F_ok (fun q => brC_ok mixed Tryz.T_ok) (fun q => ntOf_ok nat_mR2_ok) mR3_run (fnC_ok mixed Tryz.T_ok Tryz.F_ok (by decide +kernel))
noncomputable def nat_mR3 : List (FuncId × CF) := (18, cf_mR3) :: nat_mR2
theorem nat_mR3_ok {ρ : Env} : ∀ x ∈ nat_mR3, CfOK Tryz.prog ρ x.1 x.2 := cons_ok cf_mR3_ok nat_mR2_ok
end Go.Proofs.YtndhfcdmgjkmjaaGreat
