/- Parts of the run, told once: mW6. -/
import Derived.Test.YtncnheodmcfmmaaGreatDoorWO
namespace Go.Proofs.YtncnheodmcfmmaaGreatDoor
open Go.Ex Go.Proofs
set_option maxRecDepth 1000000

noncomputable def mW6 : Memo := ⟨(.cons (.ptr (q 6) 0) (.cons (.agg (.cons (.int .i64 256) (.cons (.int .i64 128) (.cons (.int .i64 8) (.cons (.int .i64 1) (.cons (.int .i64 129) (.cons (.int .i64 1) (.cons (.int .i64 130) (.cons (.int .i64 4) (.cons (.int .i64 134) .nil)))))))))) .nil)),
  [(q 6, Wob24), (q 5, Wob3), (q 8, Wob25), (q 4, Wob26)],
  q 2432, (.tup (.cons (.slc (q 2567) 0 1 4611686018427387904) (.cons (.int .i64 0) .nil))),
  [(q 2567, Wob27), (q 2552, Wob22), (q 6, Wob28), (q 5, Wob3), (q 8, Wob29), (q 4, Wob30)],
  q 2622⟩
theorem mW6_run : memoRun Tryz.T Tryz.F (brC Tryz.T) (ntOf natL) 20000 200 141 mW6 = true := by kernel_rfl
theorem mW6_ok {ρ : Env} {slow : CF} (hs : CfOK Tryz.prog ρ 141 slow) : CfOK Tryz.prog ρ 141 (memoC mW6 slow) := memo_ok Tryz.T_ok Tryz.F_ok (fun _ => brC_ok mixed Tryz.T_ok) (fun _ => ntOf_ok natOK) mW6_run hs
end Go.Proofs.YtncnheodmcfmmaaGreatDoor
