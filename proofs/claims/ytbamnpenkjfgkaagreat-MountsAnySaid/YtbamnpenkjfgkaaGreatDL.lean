/- Parts of the run, told once: lK, lL. -/
import Derived.Test.YtbamnpenkjfgkaaGreatDO
namespace Go.Proofs.YtbamnpenkjfgkaaGreat
open Go.Ex Go.Proofs
set_option maxRecDepth 1000000
noncomputable def lK : Memo:=⟨(.cons (.ptr (q 4232) 0) .nil),
  [(q 4232,Dob49),(q 4231,.big 256 1 (.cons z1 .nil) (trL []) 4 none),(q 4234,.big 256 256 (repV 256 z0) (trL []) 9 (some 1)),(q 4230,.big 256 1 (.cons (.str 0 0) .nil) (trA 256 z0 []) 9 none)],
  q 4235,(.tup (.cons .nptr (.cons (z5 230) .nil))),
  [(q 4232,Dob49),(q 4231,.big 256 1 (.cons z1 .nil) (trL []) 4 none),(q 4234,.big 256 256 (repV 256 z0) (trL []) 9 (some 1)),(q 4230,.big 256 1 (.cons (.str 0 0) .nil) (trA 256 z0 []) 9 none)],
  q 4244⟩
theorem lK_run : memoRun Tryz.T Tryz.F (brC Tryz.T) (ntOf natL) 20000 200 6 lK=true:=by kernel_rfl
theorem lK_ok {ρ : Env} {slow : CF} (hs : CfOK Tryz.prog ρ 6 slow) : CfOK Tryz.prog ρ 6 (memoC lK slow):=memo_ok Tryz.T_ok Tryz.F_ok (fun _=>brC_ok mixed Tryz.T_ok) (fun _=>ntOf_ok natOK) lK_run hs
noncomputable def lL : Memo:=⟨(.cons (.ptr (q 3021) 0) .nil),
  [(q 3021,Dob36),(q 3020,.map .nil 0),(q 3019,.map .nil 0),(q 3018,.map .nil 0),(q 3014,Dob37),(q 6,Dob38),(q 5,.big 256 1 (.cons z1 .nil) (trA 256 z1 []) 4 none),(q 8,Dob39),(q 4,Dob40),(q 3016,Dob41),(q 3287,Dob42),(q 3037,Dob43),(q 3206,Dob17),(q 3285,Dob18),(q 3127,Dob19),(q 3015,Dob44)],
  q 4244,(.tup (.cons (z5 121) (.cons z3 .nil))),
  [(q 3021,Dob36),(q 3020,.map .nil 0),(q 3019,.map .nil 0),(q 3018,.map .nil 0),(q 3014,Dob37),(q 6,Dob38),(q 5,.big 256 1 (.cons z1 .nil) (trA 256 z1 []) 4 none),(q 8,Dob39),(q 4,Dob40),(q 3016,Dob50),(q 4254,Dob51),(q 4252,Dob52),(q 3037,Dob43),(q 3206,Dob17),(q 3285,Dob18),(q 3127,Dob19),(q 3015,Dob53)],
  q 4257⟩
theorem lL_run : memoRun Tryz.T Tryz.F (brC Tryz.T) (ntOf natL) 20000 200 10 lL=true:=by kernel_rfl
theorem lL_ok {ρ : Env} {slow : CF} (hs : CfOK Tryz.prog ρ 10 slow) : CfOK Tryz.prog ρ 10 (memoC lL slow):=memo_ok Tryz.T_ok Tryz.F_ok (fun _=>brC_ok mixed Tryz.T_ok) (fun _=>ntOf_ok natOK) lL_run hs
end Go.Proofs.YtbamnpenkjfgkaaGreat
