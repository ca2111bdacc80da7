/- A part of the run, told once: mG7. -/
import Derived.Test.YtjognjhmlbdlgaaGreatDoorVO
namespace Go.Proofs.YtjognjhmlbdlgaaGreatDoor
open Go.Ex Go.Proofs
set_option maxRecDepth 1000000

noncomputable def mG7 : Memo := ⟨(.cons (.agg (.cons (.int .i64 256) (.cons (.int .i64 128) (.cons (.int .i64 8) (.cons (.int .i64 1) (.cons (.int .i64 129) (.cons (.int .i64 1) (.cons (.int .i64 130) (.cons (.int .i64 4) (.cons (.int .i64 134) .nil)))))))))) (.cons (.fn 110 (.cons (.ptr (q 24) 0) .nil) .nil) .nil)),
  [(q 24, Vob28), (q 23, Vob3), (q 26, Vob29), (q 22, Vob30)],
  q 2639, .nslc,
  [(q 24, Vob28), (q 23, Vob3), (q 26, Vob29), (q 22, Vob30)],
  q 3002⟩
theorem mG7_run : memoRun Tryz.T Tryz.F (brC Tryz.T) (ntOf natL) 20000 200 109 mG7 = true := by kernel_rfl
theorem mG7_ok {ρ : Env} {slow : CF} (hs : CfOK Tryz.prog ρ 109 slow) : CfOK Tryz.prog ρ 109 (memoC mG7 slow) := memo_ok Tryz.T_ok Tryz.F_ok (fun _ => brC_ok mixed Tryz.T_ok) (fun _ => ntOf_ok natOK) mG7_run hs
end Go.Proofs.YtjognjhmlbdlgaaGreatDoor
