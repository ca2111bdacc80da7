/- Parts of the run, told once: lD, lE. -/
import Derived.Test.YtbamnpenkjfgkaaGreatDO
namespace Go.Proofs.YtbamnpenkjfgkaaGreat
open Go.Ex Go.Proofs
set_option maxRecDepth 1000000
noncomputable def lD : Memo:=⟨(.cons (.ptr (q 1104) 0) (.cons (z5 2) (.cons (z5 2) .nil))),
  [(q 1104,Dob10),(q 1110,Dob11),(q 1109,.map .nil 0),(q 1108,.map .nil 0),(q 1107,Dob12),(q 1103,.map .nil 0),(q 1102,.map .nil 0),(q 1101,.map .nil 0),(q 1097,Dob8),(q 6,Dob4),(q 5,.big 256 1 (.cons z1 .nil) (trA 256 z1 []) 4 none),(q 8,Dob5),(q 4,Dob6),(q 1099,Dob9),(q 1098,.big 256 1 (.cons .nptr .nil) (trL []) 220 none)],
  q 1275,(.tup (.cons z3 (.cons z3 .nil))),
  [(q 1104,Dob10),(q 1110,Dob11),(q 1109,.map .nil 0),(q 1108,.map .nil 0),(q 1107,Dob13),(q 1103,.map .nil 0),(q 1102,.map .nil 0),(q 1101,.map .nil 0),(q 1097,Dob8),(q 6,Dob4),(q 5,.big 256 1 (.cons z1 .nil) (trA 256 z1 []) 4 none),(q 8,Dob5),(q 4,Dob6),(q 1099,Dob14),(q 1529,Dob15),(q 1290,Dob16),(q 1448,Dob17),(q 1527,Dob18),(q 1369,Dob19),(q 1098,Dob20)],
  q 1626⟩
theorem lD_run : memoRun Tryz.T Tryz.F (brC Tryz.T) (ntOf natL) 20000 200 75 lD=true:=by kernel_rfl
theorem lD_ok {ρ : Env} {slow : CF} (hs : CfOK Tryz.prog ρ 75 slow) : CfOK Tryz.prog ρ 75 (memoC lD slow):=memo_ok Tryz.T_ok Tryz.F_ok (fun _=>brC_ok mixed Tryz.T_ok) (fun _=>ntOf_ok natOK) lD_run hs
noncomputable def lE : Memo:=⟨(.cons (.ptr (q 1104) 0) (.cons z3 (.cons z3 .nil))),
  [(q 1104,Dob10),(q 1110,Dob11),(q 1109,.map .nil 0),(q 1108,.map .nil 0),(q 1107,Dob13),(q 1103,.map .nil 0),(q 1102,.map .nil 0),(q 1101,.map .nil 0),(q 1097,Dob8),(q 6,Dob4),(q 5,.big 256 1 (.cons z1 .nil) (trA 256 z1 []) 4 none),(q 8,Dob5),(q 4,Dob6),(q 1099,Dob14),(q 1529,Dob15),(q 1290,Dob16),(q 1448,Dob17),(q 1527,Dob18),(q 1369,Dob19),(q 1098,Dob20)],
  q 1626,z3,
  [(q 1104,Dob10),(q 1110,Dob11),(q 1109,.map .nil 0),(q 1108,.map .nil 0),(q 1107,Dob21),(q 1103,.map .nil 0),(q 1102,.map .nil 0),(q 1101,.map .nil 0),(q 1097,Dob8),(q 6,Dob4),(q 5,.big 256 1 (.cons z1 .nil) (trA 256 z1 []) 4 none),(q 8,Dob5),(q 4,Dob6),(q 1099,Dob14),(q 1529,Dob15),(q 1290,Dob16),(q 1448,Dob17),(q 1527,Dob18),(q 1369,Dob19),(q 1098,Dob20)],
  q 2166⟩
theorem lE_run : memoRun Tryz.T Tryz.F (brC Tryz.T) (ntOf natL) 20000 200 76 lE=true:=by kernel_rfl
theorem lE_ok {ρ : Env} {slow : CF} (hs : CfOK Tryz.prog ρ 76 slow) : CfOK Tryz.prog ρ 76 (memoC lE slow):=memo_ok Tryz.T_ok Tryz.F_ok (fun _=>brC_ok mixed Tryz.T_ok) (fun _=>ntOf_ok natOK) lE_run hs
end Go.Proofs.YtbamnpenkjfgkaaGreat
