/- A part of the run, told once: mF2. -/
import Derived.Test.YtndhfcdmgjkmjaaGreatFA
namespace Go.Proofs.YtndhfcdmgjkmjaaGreat
open Go.Ex Go.Proofs
set_option maxRecDepth 1000000

noncomputable def mF2_o12 : O := .map (.cons (.int .i64 130) (.str 128 878707508304647986114782876307416537656615197784163684795869046337193249238930048218664435878964349940521617889967736314802468217846542354579422054911733465089) 0 (.cons (.int .i64 131) (.str 128 65537) 1 .nil)) 2
noncomputable def mF2_o13 : O := rowOf 6 (.cons (.ptr (q 33) 0) (.cons (.int .i64 256) (.cons (.int .i64 50) (.cons (.slc (q 1106) 0 256 256) (.cons (.int .i64 10) (.cons (.slc (q 1888) 0 10 4611686018427387904) .nil)))))) 336 none
noncomputable def mF2_o14 : O := rowOf 10 (.cons (.ptr (q 1159) 0) (.cons (.ptr (q 1161) 0) (.cons (.ptr (q 1333) 0) (.cons (.ptr (q 1728) 0) (.cons (.ptr (q 1491) 0) (.cons (.ptr (q 1649) 0) (.cons (.ptr (q 1570) 0) (.cons (.ptr (q 1412) 0) (.cons (.ptr (q 1807) 0) (.cons (.ptr (q 1886) 0) .nil)))))))))) 330 (some 1)
noncomputable def mF2_o15 : O := rowOf 6 (.cons (.int .i64 137) (.cons (.str 128 0) (.cons (.bool false) (.cons (.bool false) (.cons (.int .i64 49) (.cons (.int .i64 9) .nil)))))) 339 none
noncomputable def mF2_o16 : O := rowOf 6 (.cons (.int .i64 136) (.cons (.str 128 0) (.cons (.bool false) (.cons (.bool false) (.cons (.int .i64 47) (.cons (.int .i64 8) .nil)))))) 339 none
noncomputable def mF2_o17 : O := rowOf 6 (.cons (.int .i64 131) (.cons (.str 128 0) (.cons (.bool false) (.cons (.bool false) (.cons (.int .i64 50) (.cons (.int .i64 7) .nil)))))) 339 none
noncomputable def mF2_o18 : O := rowOf 6 (.cons (.int .i64 133) (.cons (.str 128 0) (.cons (.bool false) (.cons (.bool false) (.cons (.int .i64 41) (.cons (.int .i64 6) .nil)))))) 339 none
noncomputable def mF2_o19 : O := rowOf 6 (.cons (.int .i64 134) (.cons (.str 128 0) (.cons (.bool false) (.cons (.bool false) (.cons (.int .i64 43) (.cons (.int .i64 5) .nil)))))) 339 none
noncomputable def mF2_o20 : O := rowOf 6 (.cons (.int .i64 132) (.cons (.str 128 0) (.cons (.bool false) (.cons (.bool false) (.cons (.int .i64 39) (.cons (.int .i64 4) .nil)))))) 339 none
noncomputable def mF2_o21 : O := rowOf 6 (.cons (.int .i64 135) (.cons (.str 128 0) (.cons (.bool false) (.cons (.bool false) (.cons (.int .i64 45) (.cons (.int .i64 3) .nil)))))) 339 none
noncomputable def mF2_o22 : O := rowOf 6 (.cons (.int .i64 130) (.cons (.str 128 0) (.cons (.bool false) (.cons (.bool false) (.cons (.int .i64 21) (.cons (.int .i64 2) .nil)))))) 339 none
noncomputable def mF2_o23 : O := .big 256 1 (.cons .nptr .nil) (trL [(0, (.ptr (q 1159) 0)), (135, (.ptr (q 1728) 0)), (131, (.ptr (q 1412) 0)), (129, (.ptr (q 1161) 0)), (137, (.ptr (q 1886) 0)), (133, (.ptr (q 1570) 0)), (136, (.ptr (q 1807) 0)), (132, (.ptr (q 1491) 0)), (130, (.ptr (q 1333) 0)), (134, (.ptr (q 1649) 0))]) 330 none
noncomputable def mF2 : Memo := ⟨(.cons (.int .i64 256) .nil),
  [],
  q 25, (.tup (.cons (.ptr (q 1112) 0) (.cons (.agg (.cons (.int .i64 0) (.cons (.int .i64 1) (.cons (.int .i64 2) .nil)))) .nil))),
  [(q 1112, mF1_o4), (q 1317, mF1_o5), (q 1316, .map .nil 0), (q 1315, .map .nil 0), (q 1314, mF2_o12), (q 1312, .map .nil 0), (q 1311, .map .nil 0), (q 1310, .map .nil 0), (q 1105, mF1_o6), (q 33, mF1_o0), (q 32, mF1_o1), (q 35, mF1_o2), (q 31, mF1_o3), (q 1107, mF2_o13), (q 1888, mF2_o14), (q 1886, mF2_o15), (q 1807, mF2_o16), (q 1412, mF2_o17), (q 1570, mF2_o18), (q 1649, mF2_o19), (q 1491, mF2_o20), (q 1728, mF2_o21), (q 1333, mF2_o22), (q 1161, mF1_o9), (q 1159, mF1_o10), (q 1106, mF2_o23)],
  q 3277⟩
theorem mF2_run : memoRun Tryz.T Tryz.F (brC Tryz.T) (ntOf nat_mF1) 20000 200 11 mF2 = true := by kernel_rfl
noncomputable def cf_mF2 : CF := memoC mF2 (fnC Tryz.T Tryz.F 11)
theorem cf_mF2_ok {ρ : Env} : CfOK Tryz.prog ρ 11 cf_mF2 := memo_ok Tryz.T_ok Tryz.F_ok (fun q => brC_ok mixed Tryz.T_ok) (fun q => ntOf_ok nat_mF1_ok) mF2_run (fnC_ok mixed Tryz.T_ok Tryz.F_ok (by decide +kernel))
noncomputable def nat_mF2 : List (FuncId × CF) := (11, cf_mF2) :: nat_mF1
theorem nat_mF2_ok {ρ : Env} : ∀ x ∈ nat_mF2, CfOK Tryz.prog ρ x.1 x.2 := cons_ok cf_mF2_ok nat_mF1_ok
end Go.Proofs.YtndhfcdmgjkmjaaGreat
