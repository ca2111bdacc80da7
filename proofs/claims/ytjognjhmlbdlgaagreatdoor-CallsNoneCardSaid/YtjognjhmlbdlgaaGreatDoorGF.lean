/- A part of the run, told once: mG6. -/
import Derived.Test.YtjognjhmlbdlgaaGreatDoorVO
namespace Go.Proofs.YtjognjhmlbdlgaaGreatDoor
open Go.Ex Go.Proofs
set_option maxRecDepth 1000000

noncomputable def mG6 : Memo := ⟨(.cons (.ptr (q 24) 0) (.cons (.agg (.cons (.int .i64 256) (.cons (.int .i64 128) (.cons (.int .i64 8) (.cons (.int .i64 1) (.cons (.int .i64 129) (.cons (.int .i64 1) (.cons (.int .i64 130) (.cons (.int .i64 4) (.cons (.int .i64 134) .nil)))))))))) .nil)),
  [(q 24, Vob24), (q 23, Vob3), (q 26, Vob25), (q 22, Vob26)],
  q 2449, (.tup (.cons (.slc (q 2584) 0 1 4611686018427387904) (.cons (.int .i64 0) .nil))),
  [(q 2584, Vob27), (q 2569, Vob22), (q 24, Vob28), (q 23, Vob3), (q 26, Vob29), (q 22, Vob30)],
  q 2639⟩
theorem mG6_run : memoRun Tryz.T Tryz.F (brC Tryz.T) (ntOf natL) 20000 200 107 mG6 = true := by kernel_rfl
theorem mG6_ok {ρ : Env} {slow : CF} (hs : CfOK Tryz.prog ρ 107 slow) : CfOK Tryz.prog ρ 107 (memoC mG6 slow) := memo_ok Tryz.T_ok Tryz.F_ok (fun _ => brC_ok mixed Tryz.T_ok) (fun _ => ntOf_ok natOK) mG6_run hs
end Go.Proofs.YtjognjhmlbdlgaaGreatDoor
