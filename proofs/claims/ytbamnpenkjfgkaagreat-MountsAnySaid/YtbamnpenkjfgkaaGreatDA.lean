/- Parts of the run, told once: lA, lB, lC. -/
import Derived.Test.YtbamnpenkjfgkaaGreatDO
namespace Go.Proofs.YtbamnpenkjfgkaaGreat
open Go.Ex Go.Proofs
set_option maxRecDepth 1000000
noncomputable def lA : Memo:=⟨(.cons (.ptr (q 6) 0) (.cons (.agg (.cons (z5 256) (.cons (z5 128) (.cons (z5 8) (.cons (z5 1) (.cons (z5 129) (.cons (z5 1) (.cons (z5 130) (.cons (z5 4) (.cons (z5 134) .nil)))))))))) .nil)),
  [(q 6,Dob0),(q 5,.big 256 1 (.cons z1 .nil) (trL []) 4 none),(q 8,.big 256 256 (repV 256 z0) (trL []) 9 (some 1)),(q 4,.big 256 1 (.cons (.str 0 0) .nil) (trA 256 z0 []) 9 none)],
  q 9,z3,
  [(q 6,Dob1),(q 5,.big 256 1 (.cons z1 .nil) (trA 256 z1 []) 4 none),(q 8,Dob2),(q 4,Dob3)],
  q 1048⟩
theorem lA_run : memoRun Tryz.T Tryz.F (brC Tryz.T) (ntOf natL) 20000 200 24 lA=true:=by kernel_rfl
theorem lA_ok {ρ : Env} {slow : CF} (hs : CfOK Tryz.prog ρ 24 slow) : CfOK Tryz.prog ρ 24 (memoC lA slow):=memo_ok Tryz.T_ok Tryz.F_ok (fun _=>brC_ok mixed Tryz.T_ok) (fun _=>ntOf_ok natOK) lA_run hs
noncomputable def lB : Memo:=⟨(.cons (.ptr (q 6) 0) (.cons (.agg (.cons (z5 256) (.cons (z5 128) (.cons (z5 8) (.cons (z5 1) (.cons (z5 129) (.cons (z5 1) (.cons (z5 130) (.cons (z5 4) (.cons (z5 134) .nil)))))))))) .nil)),
  [(q 6,Dob1),(q 5,.big 256 1 (.cons z1 .nil) (trA 256 z1 []) 4 none),(q 8,Dob2),(q 4,Dob3)],
  q 1048,z3,
  [(q 6,Dob4),(q 5,.big 256 1 (.cons z1 .nil) (trA 256 z1 []) 4 none),(q 8,Dob5),(q 4,Dob6)],
  q 1067⟩
theorem lB_run : memoRun Tryz.T Tryz.F (brC Tryz.T) (ntOf natL) 20000 200 25 lB=true:=by kernel_rfl
theorem lB_ok {ρ : Env} {slow : CF} (hs : CfOK Tryz.prog ρ 25 slow) : CfOK Tryz.prog ρ 25 (memoC lB slow):=memo_ok Tryz.T_ok Tryz.F_ok (fun _=>brC_ok mixed Tryz.T_ok) (fun _=>ntOf_ok natOK) lB_run hs
noncomputable def lC : Memo:=⟨(.cons (.ptr (q 6) 0) (.cons (.agg (.cons (z5 256) (.cons (z5 128) (.cons (z5 8) (.cons (z5 1) (.cons (z5 129) (.cons (z5 1) (.cons (z5 130) (.cons (z5 4) (.cons (z5 134) .nil)))))))))) .nil)),
  [(q 6,Dob4),(q 5,.big 256 1 (.cons z1 .nil) (trA 256 z1 []) 4 none),(q 8,Dob5),(q 4,Dob6)],
  q 1067,(.tup (.cons (.ptr (q 1104) 0) (.cons z3 .nil))),
  [(q 1104,Dob7),(q 1103,.map .nil 0),(q 1102,.map .nil 0),(q 1101,.map .nil 0),(q 1097,Dob8),(q 6,Dob4),(q 5,.big 256 1 (.cons z1 .nil) (trA 256 z1 []) 4 none),(q 8,Dob5),(q 4,Dob6),(q 1099,Dob9),(q 1098,.big 256 1 (.cons .nptr .nil) (trL []) 220 none)],
  q 1105⟩
theorem lC_run : memoRun Tryz.T Tryz.F (brC Tryz.T) (ntOf natL) 20000 200 19 lC=true:=by kernel_rfl
theorem lC_ok {ρ : Env} {slow : CF} (hs : CfOK Tryz.prog ρ 19 slow) : CfOK Tryz.prog ρ 19 (memoC lC slow):=memo_ok Tryz.T_ok Tryz.F_ok (fun _=>brC_ok mixed Tryz.T_ok) (fun _=>ntOf_ok natOK) lC_run hs
end Go.Proofs.YtbamnpenkjfgkaaGreat
