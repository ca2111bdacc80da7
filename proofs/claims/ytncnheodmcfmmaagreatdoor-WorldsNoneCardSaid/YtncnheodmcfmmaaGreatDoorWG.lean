/- Parts of the run, told once: mW7. -/
import Derived.Test.YtncnheodmcfmmaaGreatDoorWO
namespace Go.Proofs.YtncnheodmcfmmaaGreatDoor
open Go.Ex Go.Proofs
set_option maxRecDepth 1000000

noncomputable def mW7 : Memo := ⟨(.cons (.agg (.cons (.int .i64 256) (.cons (.int .i64 128) (.cons (.int .i64 8) (.cons (.int .i64 1) (.cons (.int .i64 129) (.cons (.int .i64 1) (.cons (.int .i64 130) (.cons (.int .i64 4) (.cons (.int .i64 134) .nil)))))))))) (.cons (.fn 144 (.cons (.ptr (q 6) 0) .nil) .nil) .nil)),
  [(q 6, Wob28), (q 5, Wob3), (q 8, Wob29), (q 4, Wob30)],
  q 2622, .nslc,
  [(q 6, Wob28), (q 5, Wob3), (q 8, Wob29), (q 4, Wob30)],
  q 2985⟩
theorem mW7_run : memoRun Tryz.T Tryz.F (brC Tryz.T) (ntOf natL) 20000 200 143 mW7 = true := by kernel_rfl
theorem mW7_ok {ρ : Env} {slow : CF} (hs : CfOK Tryz.prog ρ 143 slow) : CfOK Tryz.prog ρ 143 (memoC mW7 slow) := memo_ok Tryz.T_ok Tryz.F_ok (fun _ => brC_ok mixed Tryz.T_ok) (fun _ => ntOf_ok natOK) mW7_run hs
end Go.Proofs.YtncnheodmcfmmaaGreatDoor
