/- A part of the run, told once: mG5. -/
import Derived.Test.YtjognjhmlbdlgaaGreatDoorVO
import Derived.Test.YtjognjhmlbdlgaaGreatDoorGI
namespace Go.Proofs.YtjognjhmlbdlgaaGreatDoor
open Go.Ex Go.Proofs
set_option maxRecDepth 1000000

noncomputable def mG5 : Memo := ⟨(.cons (.int .i64 256) (.cons (.int .i64 128) (.cons (.int .i64 8) .nil))),
  [],
  q 18, (.tup (.cons (.ptr (q 24) 0) (.cons (.int .i64 0) .nil))),
  [(q 24, Vob24), (q 23, Vob3), (q 26, Vob25), (q 22, Vob26)],
  q 2425⟩
theorem mG5_run : memoRun Tryz.T Tryz.F (brC Tryz.T) (ntOf natF) 20000 200 42 mG5 = true := by kernel_rfl
theorem mG5_ok {ρ : Env} {slow : CF} (hs : CfOK Tryz.prog ρ 42 slow) : CfOK Tryz.prog ρ 42 (memoC mG5 slow) := memo_ok Tryz.T_ok Tryz.F_ok (fun _ => brC_ok mixed Tryz.T_ok) (fun _ => ntOf_ok natF_ok) mG5_run hs
end Go.Proofs.YtjognjhmlbdlgaaGreatDoor
