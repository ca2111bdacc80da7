/- Parts of the run, told once: lI, lJ. -/
import Derived.Test.YtbamnpenkjfgkaaGreatDO
namespace Go.Proofs.YtbamnpenkjfgkaaGreat
open Go.Ex Go.Proofs
set_option maxRecDepth 1000000
noncomputable def lI : Memo:=⟨(.cons (.ptr (q 6) 0) .nil),
  [(q 6,Dob31),(q 5,.big 256 1 (.cons z1 .nil) (trA 256 z1 []) 4 none),(q 8,Dob32),(q 4,Dob33)],
  q 2407,(.tup (.cons (.ptr (q 3021) 0) (.cons z3 .nil))),
  [(q 3021,Dob36),(q 3020,.map .nil 0),(q 3019,.map .nil 0),(q 3018,.map .nil 0),(q 3014,Dob37),(q 6,Dob38),(q 5,.big 256 1 (.cons z1 .nil) (trA 256 z1 []) 4 none),(q 8,Dob39),(q 4,Dob40),(q 3016,Dob41),(q 3287,Dob42),(q 3037,Dob43),(q 3206,Dob17),(q 3285,Dob18),(q 3127,Dob19),(q 3015,Dob44)],
  q 3399⟩
theorem lI_run : memoRun Tryz.T Tryz.F (brC Tryz.T) (ntOf natL) 20000 200 6 lI=true:=by kernel_rfl
theorem lI_ok {ρ : Env} {slow : CF} (hs : CfOK Tryz.prog ρ 6 slow) : CfOK Tryz.prog ρ 6 (memoC lI slow):=memo_ok Tryz.T_ok Tryz.F_ok (fun _=>brC_ok mixed Tryz.T_ok) (fun _=>ntOf_ok natOK) lI_run hs
noncomputable def lJ : Memo:=⟨(.cons (.ptr (q 6) 0) .nil),
  [(q 6,Dob38),(q 5,.big 256 1 (.cons z1 .nil) (trA 256 z1 []) 4 none),(q 8,Dob39),(q 4,Dob40)],
  q 3399,(.tup (.cons (.ptr (q 3851) 0) (.cons z3 .nil))),
  [(q 3851,Dob45),(q 3850,.map .nil 0),(q 3849,.map .nil 0),(q 3848,.map .nil 0),(q 3844,Dob37),(q 6,Dob38),(q 5,.big 256 1 (.cons z1 .nil) (trA 256 z1 []) 4 none),(q 8,Dob39),(q 4,Dob40),(q 3846,Dob46),(q 4117,Dob47),(q 3867,Dob43),(q 4036,Dob17),(q 4115,Dob18),(q 3957,Dob19),(q 3845,Dob48)],
  q 4229⟩
theorem lJ_run : memoRun Tryz.T Tryz.F (brC Tryz.T) (ntOf natL) 20000 200 6 lJ=true:=by kernel_rfl
theorem lJ_ok {ρ : Env} {slow : CF} (hs : CfOK Tryz.prog ρ 6 slow) : CfOK Tryz.prog ρ 6 (memoC lJ slow):=memo_ok Tryz.T_ok Tryz.F_ok (fun _=>brC_ok mixed Tryz.T_ok) (fun _=>ntOf_ok natOK) lJ_run hs
end Go.Proofs.YtbamnpenkjfgkaaGreat
