/- A part of the run, told once: mG8. -/
import Derived.Test.YtjognjhmlbdlgaaGreatDoorVO
import Derived.Test.YtjognjhmlbdlgaaGreatDoorGM
namespace Go.Proofs.YtjognjhmlbdlgaaGreatDoor
open Go.Ex Go.Proofs
set_option maxRecDepth 1000000

noncomputable def mG8 : Memo := ⟨(.cons (.ptr (q 24) 0) .nil),
  [(q 24, Vob24), (q 23, Vob3), (q 26, Vob25), (q 22, Vob26)],
  q 2425, (.tup (.cons (.ptr (q 3039) 0) (.cons (.int .i64 0) .nil))),
  [(q 3039, Vob31), (q 3038, .map .nil 0), (q 3037, .map .nil 0), (q 3036, .map .nil 0), (q 3032, Vob32), (q 24, Vob28), (q 23, Vob3), (q 26, Vob29), (q 22, Vob30), (q 3034, Vob33), (q 3305, Vob34), (q 3055, Vob35), (q 3224, Vob18), (q 3303, Vob19), (q 3145, Vob20), (q 3033, Vob36)],
  q 3417⟩
theorem mG8_run : memoRun Tryz.T Tryz.F (brC Tryz.T) (ntOf natM) 20000 200 43 mG8 = true := by kernel_rfl
theorem mG8_ok {ρ : Env} {slow : CF} (hs : CfOK Tryz.prog ρ 43 slow) : CfOK Tryz.prog ρ 43 (memoC mG8 slow) := memo_ok Tryz.T_ok Tryz.F_ok (fun _ => brC_ok mixed Tryz.T_ok) (fun _ => ntOf_ok natM_ok) mG8_run hs
end Go.Proofs.YtjognjhmlbdlgaaGreatDoor
