/- Parts of the run, told once: lF, lG. -/
import Derived.Test.YtbamnpenkjfgkaaGreatDO
namespace Go.Proofs.YtbamnpenkjfgkaaGreat
open Go.Ex Go.Proofs
set_option maxRecDepth 1000000
noncomputable def lF : Memo:=⟨(.cons (.ptr (q 1104) 0) .nil),
  [(q 1104,Dob10),(q 1110,Dob11),(q 1109,.map .nil 0),(q 1108,.map .nil 0),(q 1107,Dob21),(q 1103,.map .nil 0),(q 1102,.map .nil 0),(q 1101,.map .nil 0),(q 1097,Dob8),(q 6,Dob4),(q 5,.big 256 1 (.cons z1 .nil) (trA 256 z1 []) 4 none),(q 8,Dob5),(q 4,Dob6),(q 1099,Dob14),(q 1529,Dob15),(q 1290,Dob16),(q 1448,Dob17),(q 1527,Dob18),(q 1369,Dob19),(q 1098,Dob20)],
  q 2166,z3,
  [(q 1104,Dob7),(q 1103,.map .nil 0),(q 1102,.map .nil 0),(q 1101,Dob22),(q 1097,Dob8),(q 6,Dob4),(q 5,.big 256 1 (.cons z1 .nil) (trA 256 z1 []) 4 none),(q 8,Dob5),(q 4,Dob6),(q 1099,Dob23),(q 1529,Dob15),(q 1290,Dob24),(q 1448,Dob17),(q 1527,Dob18),(q 1369,Dob19),(q 1098,Dob25),(q 2179,Dob26),(q 2181,Dob27),(q 2184,Dob28),(q 1110,Dob11),(q 1109,.map .nil 0),(q 1108,.map .nil 0),(q 1107,Dob21)],
  q 2187⟩
theorem lF_run : memoRun Tryz.T Tryz.F (brC Tryz.T) (ntOf natL) 20000 200 71 lF=true:=by kernel_rfl
theorem lF_ok {ρ : Env} {slow : CF} (hs : CfOK Tryz.prog ρ 71 slow) : CfOK Tryz.prog ρ 71 (memoC lF slow):=memo_ok Tryz.T_ok Tryz.F_ok (fun _=>brC_ok mixed Tryz.T_ok) (fun _=>ntOf_ok natOK) lF_run hs
noncomputable def lG : Memo:=⟨(.cons (.ptr (q 1104) 0) .nil),
  [(q 1104,Dob7),(q 1103,.map .nil 0),(q 1102,.map .nil 0),(q 1101,Dob22),(q 1097,Dob8),(q 6,Dob4),(q 5,.big 256 1 (.cons z1 .nil) (trA 256 z1 []) 4 none),(q 8,Dob5),(q 4,Dob6),(q 1099,Dob23),(q 1529,Dob15),(q 1290,Dob24),(q 1448,Dob17),(q 1527,Dob18),(q 1369,Dob19),(q 1098,Dob25),(q 2179,Dob26),(q 2181,Dob27),(q 2184,Dob28)],
  q 2187,z3,
  [(q 1104,Dob29),(q 2406,.map .nil 0),(q 2405,.map .nil 0),(q 2404,.map .nil 0),(q 1097,Dob30),(q 6,Dob31),(q 5,.big 256 1 (.cons z1 .nil) (trA 256 z1 []) 4 none),(q 8,Dob32),(q 4,Dob33),(q 1099,Dob34),(q 1098,Dob25),(q 1369,Dob19),(q 1527,Dob18),(q 1448,Dob17),(q 1103,.map .nil 0),(q 1102,.map .nil 0),(q 1101,Dob22)],
  q 2407⟩
theorem lG_run : memoRun Tryz.T Tryz.F (brC Tryz.T) (ntOf natL) 20000 200 72 lG=true:=by kernel_rfl
theorem lG_ok {ρ : Env} {slow : CF} (hs : CfOK Tryz.prog ρ 72 slow) : CfOK Tryz.prog ρ 72 (memoC lG slow):=memo_ok Tryz.T_ok Tryz.F_ok (fun _=>brC_ok mixed Tryz.T_ok) (fun _=>ntOf_ok natOK) lG_run hs
end Go.Proofs.YtbamnpenkjfgkaaGreat
