/- Parts of the run, told once: mW15. -/
import Derived.Test.YtncnheodmcfmmaaGreatDoorWO
namespace Go.Proofs.YtncnheodmcfmmaaGreatDoor
open Go.Ex Go.Proofs
set_option maxRecDepth 1000000

noncomputable def mW15 : Memo := ⟨(.cons (.agg (.cons (.int .i64 256) (.cons (.int .i64 128) (.cons (.int .i64 8) (.cons (.int .i64 1) (.cons (.int .i64 129) (.cons (.int .i64 1) (.cons (.int .i64 130) (.cons (.int .i64 4) (.cons (.int .i64 134) .nil)))))))))) (.cons (.fn 144 (.cons (.ptr (q 7275) 0) .nil) .nil) .nil)),
  [(q 7275, Wob93), (q 7274, Wob3), (q 7277, Wob94), (q 7273, Wob95)],
  q 7464, .nslc,
  [(q 7275, Wob93), (q 7274, Wob3), (q 7277, Wob94), (q 7273, Wob95)],
  q 7897⟩
theorem mW15_run : memoRun Tryz.T Tryz.F (brC Tryz.T) (ntOf natL) 20000 200 143 mW15 = true := by kernel_rfl
theorem mW15_ok {ρ : Env} {slow : CF} (hs : CfOK Tryz.prog ρ 143 slow) : CfOK Tryz.prog ρ 143 (memoC mW15 slow) := memo_ok Tryz.T_ok Tryz.F_ok (fun _ => brC_ok mixed Tryz.T_ok) (fun _ => ntOf_ok natOK) mW15_run hs
end Go.Proofs.YtncnheodmcfmmaaGreatDoor
