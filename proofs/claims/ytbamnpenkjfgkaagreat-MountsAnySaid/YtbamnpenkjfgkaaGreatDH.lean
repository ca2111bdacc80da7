/- Parts of the run, told once: lH. -/
import Derived.Test.YtbamnpenkjfgkaaGreatDO
import Derived.Test.YtbamnpenkjfgkaaGreatDC
import Derived.Test.YtbamnpenkjfgkaaGreatDE
namespace Go.Proofs.YtbamnpenkjfgkaaGreat
open Go.Ex Go.Proofs
set_option maxRecDepth 1000000
noncomputable def nF : List (FuncId × CF):=(72,(memoC lG (fnC Tryz.T Tryz.F 72))) :: (71,(memoC lF (fnC Tryz.T Tryz.F 71))) :: (76,(memoC lE (fnC Tryz.T Tryz.F 76))) :: (75,(memoC lD (fnC Tryz.T Tryz.F 75))) :: natL
theorem nF_ok {ρ : Env} : ∀ x ∈ nF,CfOK Tryz.prog ρ x.1 x.2:=(cons_ok (lG_ok (fnw (by decide +kernel))) (cons_ok (lF_ok (fnw (by decide +kernel))) (cons_ok (lE_ok (fnw (by decide +kernel))) (cons_ok (lD_ok (fnw (by decide +kernel))) natOK))))
noncomputable def lH : Memo:=⟨(.cons (.ptr (q 1104) 0) (.cons (.slc (q 1105) 0 2 2) .nil)),
  [(q 1104,Dob7),(q 1103,.map .nil 0),(q 1102,.map .nil 0),(q 1101,.map .nil 0),(q 1097,Dob8),(q 6,Dob4),(q 5,.big 256 1 (.cons z1 .nil) (trA 256 z1 []) 4 none),(q 8,Dob5),(q 4,Dob6),(q 1099,Dob9),(q 1098,.big 256 1 (.cons .nptr .nil) (trL []) 220 none),(q 1105,Dob35)],
  q 1106,z3,
  [(q 1104,Dob29),(q 2406,.map .nil 0),(q 2405,.map .nil 0),(q 2404,.map .nil 0),(q 1097,Dob30),(q 6,Dob31),(q 5,.big 256 1 (.cons z1 .nil) (trA 256 z1 []) 4 none),(q 8,Dob32),(q 4,Dob33),(q 1099,Dob34),(q 1098,Dob25),(q 1369,Dob19),(q 1527,Dob18),(q 1448,Dob17),(q 1103,.map .nil 0),(q 1102,.map .nil 0),(q 1101,Dob22),(q 1105,Dob35)],
  q 2407⟩
theorem lH_run : memoRun Tryz.T Tryz.F (brC Tryz.T) (ntOf nF) 20000 200 26 lH=true:=by kernel_rfl
theorem lH_ok {ρ : Env} {slow : CF} (hs : CfOK Tryz.prog ρ 26 slow) : CfOK Tryz.prog ρ 26 (memoC lH slow):=memo_ok Tryz.T_ok Tryz.F_ok (fun _=>brC_ok mixed Tryz.T_ok) (fun _=>ntOf_ok nF_ok) lH_run hs
end Go.Proofs.YtbamnpenkjfgkaaGreat
