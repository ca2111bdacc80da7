/- Parts of the run, told once: mW14. -/
import Derived.Test.YtncnheodmcfmmaaGreatDoorWO
namespace Go.Proofs.YtncnheodmcfmmaaGreatDoor
open Go.Ex Go.Proofs
set_option maxRecDepth 1000000

noncomputable def mW14 : Memo := ⟨(.cons (.ptr (q 7275) 0) (.cons (.agg (.cons (.int .i64 256) (.cons (.int .i64 128) (.cons (.int .i64 8) (.cons (.int .i64 1) (.cons (.int .i64 129) (.cons (.int .i64 1) (.cons (.int .i64 130) (.cons (.int .i64 4) (.cons (.int .i64 134) .nil)))))))))) .nil)),
  [(q 7275, Wob89), (q 7274, .big 256 1 (.cons (.bool false) .nil) (trL []) 4 none), (q 7277, Wob90), (q 7273, Wob91)],
  q 7302, (.tup (.cons (.slc (q 7416) 0 1 4611686018427387904) (.cons (.int .i64 0) .nil))),
  [(q 7416, Wob92), (q 7401, Wob58), (q 7275, Wob93), (q 7274, Wob3), (q 7277, Wob94), (q 7273, Wob95)],
  q 7464⟩
theorem mW14_run : memoRun Tryz.T Tryz.F (brC Tryz.T) (ntOf natL) 20000 200 141 mW14 = true := by kernel_rfl
theorem mW14_ok {ρ : Env} {slow : CF} (hs : CfOK Tryz.prog ρ 141 slow) : CfOK Tryz.prog ρ 141 (memoC mW14 slow) := memo_ok Tryz.T_ok Tryz.F_ok (fun _ => brC_ok mixed Tryz.T_ok) (fun _ => ntOf_ok natOK) mW14_run hs
end Go.Proofs.YtncnheodmcfmmaaGreatDoor
