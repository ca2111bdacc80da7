/- A part of the run, told once: mF3. -/
import Derived.Test.YtndhfcdmgjkmjaaGreatFB
namespace Go.Proofs.YtndhfcdmgjkmjaaGreat
open Go.Ex Go.Proofs
set_option maxRecDepth 1000000

noncomputable def mF3_o24 : O := .map (.cons (.int .i64 138) (.str 128 1610924490064296633365033984528696040849129224402118915108431286034006758527893577315196128895740201535452043817828193535890938958333413011569910027171250574039671142090742498852864) 0 .nil) 1
noncomputable def mF3_o25 : O := .map (.cons (.int .i64 130) (.str 128 1284212907851525323536516204415592378863910725985070947193639468033570206542002744055882688010196888516348124937325756782300400098195430077075363395172712326513391694340452385289378895732868532030188317376513) 0 (.cons (.int .i64 131) (.str 128 65537) 1 (.cons (.int .i64 129) (.str 128 696898287454081973172991196020261297061887) 2 .nil))) 3
noncomputable def mF3_o26 : O := rowOf 6 (.cons (.ptr (q 33) 0) (.cons (.int .i64 256) (.cons (.int .i64 55) (.cons (.slc (q 1106) 0 256 256) (.cons (.int .i64 10) (.cons (.slc (q 1888) 0 10 4611686018427387904) .nil)))))) 336 none
noncomputable def mF3_o27 : O := rowOf 10 (.cons (.ptr (q 1333) 0) (.cons (.ptr (q 1491) 0) (.cons (.ptr (q 1570) 0) (.cons (.ptr (q 1728) 0) (.cons (.ptr (q 1886) 0) (.cons (.ptr (q 1649) 0) (.cons (.ptr (q 1161) 0) (.cons (.ptr (q 1412) 0) (.cons (.ptr (q 1807) 0) (.cons (.ptr (q 1159) 0) .nil)))))))))) 330 (some 1)
noncomputable def mF3_o28 : O := rowOf 6 (.cons (.int .i64 0) (.cons (.str 128 201687225957109120592984727136816558197914240380007) (.cons (.bool true) (.cons (.bool false) (.cons (.int .i64 55) (.cons (.int .i64 9) .nil)))))) 339 none
noncomputable def mF3_o29 : O := rowOf 6 (.cons (.int .i64 129) (.cons (.str 128 348449143727040986586495598010130648530943) (.cons (.bool true) (.cons (.bool false) (.cons (.int .i64 53) (.cons (.int .i64 6) .nil)))))) 339 none
noncomputable def mF3_o30 : O := rowOf 6 (.cons (.int .i64 137) (.cons (.str 128 0) (.cons (.bool false) (.cons (.bool false) (.cons (.int .i64 49) (.cons (.int .i64 4) .nil)))))) 339 none
noncomputable def mF3_o31 : O := rowOf 6 (.cons (.int .i64 133) (.cons (.str 128 0) (.cons (.bool false) (.cons (.bool false) (.cons (.int .i64 41) (.cons (.int .i64 2) .nil)))))) 339 none
noncomputable def mF3_o32 : O := rowOf 6 (.cons (.int .i64 132) (.cons (.str 128 0) (.cons (.bool false) (.cons (.bool false) (.cons (.int .i64 39) (.cons (.int .i64 1) .nil)))))) 339 none
noncomputable def mF3_o33 : O := rowOf 6 (.cons (.int .i64 130) (.cons (.str 128 0) (.cons (.bool false) (.cons (.bool false) (.cons (.int .i64 21) (.cons (.int .i64 0) .nil)))))) 339 none
noncomputable def mF3 : Memo := ⟨(.cons (.ptr (q 1112) 0) (.cons (.int .i64 1) (.cons (.int .i64 200) (.cons (.str 3 6513249) .nil)))),
  [(q 1112, mF1_o4), (q 1317, mF1_o5), (q 1316, .map .nil 0), (q 1315, .map .nil 0), (q 1314, mF2_o12), (q 1312, .map .nil 0), (q 1311, .map .nil 0), (q 1310, .map .nil 0), (q 1105, mF1_o6), (q 33, mF1_o0), (q 32, mF1_o1), (q 35, mF1_o2), (q 31, mF1_o3), (q 1107, mF2_o13), (q 1888, mF2_o14), (q 1886, mF2_o15), (q 1807, mF2_o16), (q 1412, mF2_o17), (q 1570, mF2_o18), (q 1649, mF2_o19), (q 1491, mF2_o20), (q 1728, mF2_o21), (q 1333, mF2_o22), (q 1161, mF1_o9), (q 1159, mF1_o10), (q 1106, mF2_o23)],
  q 3278, (.int .i64 0),
  [(q 1112, mF1_o4), (q 1317, mF1_o5), (q 1316, .map .nil 0), (q 1315, mF3_o24), (q 1314, mF3_o25), (q 1312, .map .nil 0), (q 1311, .map .nil 0), (q 1310, .map .nil 0), (q 1105, mF1_o6), (q 33, mF1_o0), (q 32, mF1_o1), (q 35, mF1_o2), (q 31, mF1_o3), (q 1107, mF3_o26), (q 1888, mF3_o27), (q 1159, mF3_o28), (q 1807, mF2_o16), (q 1412, mF2_o17), (q 1161, mF3_o29), (q 1649, mF2_o19), (q 1886, mF3_o30), (q 1728, mF2_o21), (q 1570, mF3_o31), (q 1491, mF3_o32), (q 1333, mF3_o33), (q 1106, mF2_o23)],
  q 3969⟩
theorem mF3_run : memoRun Tryz.T Tryz.F (brC Tryz.T) (ntOf nat_mF2) 20000 200 9 mF3 = true := by kernel_rfl
noncomputable def cf_mF3 : CF := memoC mF3 (fnC Tryz.T Tryz.F 9)
theorem cf_mF3_ok {ρ : Env} : CfOK Tryz.prog ρ 9 cf_mF3 := memo_ok Tryz.T_ok Tryz.F_ok (fun q => brC_ok mixed Tryz.T_ok) (fun q => ntOf_ok nat_mF2_ok) mF3_run (fnC_ok mixed Tryz.T_ok Tryz.F_ok (by decide +kernel))
noncomputable def nat_mF3 : List (FuncId × CF) := (9, cf_mF3) :: nat_mF2
theorem nat_mF3_ok {ρ : Env} : ∀ x ∈ nat_mF3, CfOK Tryz.prog ρ x.1 x.2 := cons_ok cf_mF3_ok nat_mF2_ok
end Go.Proofs.YtndhfcdmgjkmjaaGreat
