/- A part of the run, told once: mG1. -/
import Derived.Test.YtjognjhmlbdlgaaGreatDoorVO
namespace Go.Proofs.YtjognjhmlbdlgaaGreatDoor
open Go.Ex Go.Proofs
set_option maxRecDepth 1000000

noncomputable def mG1 : Memo := ⟨(.cons (.ptr (q 24) 0) (.cons (.agg (.cons (.int .i64 256) (.cons (.int .i64 128) (.cons (.int .i64 8) (.cons (.int .i64 1) (.cons (.int .i64 129) (.cons (.int .i64 1) (.cons (.int .i64 130) (.cons (.int .i64 4) (.cons (.int .i64 134) .nil)))))))))) .nil)),
  [(q 24, Vob0), (q 23, .big 256 1 (.cons (.bool false) .nil) (trL []) 4 none), (q 26, .big 256 256 (repV 256 (.str 128 0)) (trL []) 9 (some 1)), (q 22, Vob1)],
  q 27, (.int .i64 0),
  [(q 24, Vob2), (q 23, Vob3), (q 26, Vob4), (q 22, Vob5)],
  q 1066⟩
theorem mG1_run : memoRun Tryz.T Tryz.F (brC Tryz.T) (ntOf natLg) 20000 200 98 mG1 = true := by kernel_rfl
theorem mG1_ok {ρ : Env} {slow : CF} (hs : CfOK Tryz.prog ρ 98 slow) : CfOK Tryz.prog ρ 98 (memoC mG1 slow) := memo_ok Tryz.T_ok Tryz.F_ok (fun _ => brC_ok mixed Tryz.T_ok) (fun _ => ntOf_ok natOKg) mG1_run hs
end Go.Proofs.YtjognjhmlbdlgaaGreatDoor
