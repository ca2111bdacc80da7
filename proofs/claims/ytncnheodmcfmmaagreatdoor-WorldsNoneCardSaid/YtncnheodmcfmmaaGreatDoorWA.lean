/- Parts of the run, told once: mW1. -/
import Derived.Test.YtncnheodmcfmmaaGreatDoorWO
namespace Go.Proofs.YtncnheodmcfmmaaGreatDoor
open Go.Ex Go.Proofs
set_option maxRecDepth 1000000

noncomputable def mW1 : Memo := ⟨(.cons (.ptr (q 6) 0) (.cons (.agg (.cons (.int .i64 256) (.cons (.int .i64 128) (.cons (.int .i64 8) (.cons (.int .i64 1) (.cons (.int .i64 129) (.cons (.int .i64 1) (.cons (.int .i64 130) (.cons (.int .i64 4) (.cons (.int .i64 134) .nil)))))))))) .nil)),
  [(q 6, Wob0), (q 5, .big 256 1 (.cons (.bool false) .nil) (trL []) 4 none), (q 8, .big 256 256 (repV 256 (.str 128 0)) (trL []) 9 (some 1)), (q 4, Wob1)],
  q 9, (.int .i64 0),
  [(q 6, Wob2), (q 5, Wob3), (q 8, Wob4), (q 4, Wob5)],
  q 1048⟩
theorem mW1_run : memoRun Tryz.T Tryz.F (brC Tryz.T) (ntOf natLg) 20000 200 53 mW1 = true := by kernel_rfl
theorem mW1_ok {ρ : Env} {slow : CF} (hs : CfOK Tryz.prog ρ 53 slow) : CfOK Tryz.prog ρ 53 (memoC mW1 slow) := memo_ok Tryz.T_ok Tryz.F_ok (fun _ => brC_ok mixed Tryz.T_ok) (fun _ => ntOf_ok natOKg) mW1_run hs
end Go.Proofs.YtncnheodmcfmmaaGreatDoor
