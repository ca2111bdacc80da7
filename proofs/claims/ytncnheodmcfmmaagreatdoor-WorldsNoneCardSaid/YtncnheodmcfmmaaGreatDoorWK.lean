/- Parts of the run, told once: mW12. -/
import Derived.Test.YtncnheodmcfmmaaGreatDoorWO
namespace Go.Proofs.YtncnheodmcfmmaaGreatDoor
open Go.Ex Go.Proofs
set_option maxRecDepth 1000000

noncomputable def mW12 : Memo := ⟨(.cons (.ptr (q 3015) 0) (.cons (.agg (.cons (.slc (q 5516) 0 3 4611686018427387904) (.cons .nslc .nil))) (.cons (.slc (q 5521) 0 1 4611686018427387904) .nil))),
  [(q 3015, Wob32), (q 6, Wob28), (q 5, Wob3), (q 8, Wob29), (q 4, Wob30), (q 5516, Wob58), (q 5521, Wob59)],
  q 5526, (.int .i64 0),
  [(q 3015, Wob60), (q 6, Wob61), (q 5, Wob3), (q 8, Wob62), (q 4, Wob63), (q 5516, Wob58), (q 5521, Wob59)],
  q 5705⟩
theorem mW12_run : memoRun Tryz.T Tryz.F (brC Tryz.T) (ntOf natL) 20000 200 68 mW12 = true := by kernel_rfl
theorem mW12_ok {ρ : Env} {slow : CF} (hs : CfOK Tryz.prog ρ 68 slow) : CfOK Tryz.prog ρ 68 (memoC mW12 slow) := memo_ok Tryz.T_ok Tryz.F_ok (fun _ => brC_ok mixed Tryz.T_ok) (fun _ => ntOf_ok natOK) mW12_run hs
end Go.Proofs.YtncnheodmcfmmaaGreatDoor
