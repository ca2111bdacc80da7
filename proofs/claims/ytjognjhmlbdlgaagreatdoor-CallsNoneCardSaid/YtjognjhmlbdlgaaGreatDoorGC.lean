/- A part of the run, told once: mG3. -/
import Derived.Test.YtjognjhmlbdlgaaGreatDoorVO
namespace Go.Proofs.YtjognjhmlbdlgaaGreatDoor
open Go.Ex Go.Proofs
set_option maxRecDepth 1000000

noncomputable def mG3 : Memo := ⟨(.cons (.ptr (q 1122) 0) .nil),
  [(q 1122, Vob6), (q 1128, Vob7), (q 1127, .map .nil 0), (q 1126, .map .nil 0), (q 1125, Vob13), (q 1121, .map .nil 0), (q 1120, .map .nil 0), (q 1119, .map .nil 0), (q 1115, Vob8), (q 24, Vob9), (q 23, Vob3), (q 26, Vob10), (q 22, Vob11), (q 1117, Vob12), (q 1116, .big 256 1 (.cons .nptr .nil) (trL []) 379 none)],
  q 1293, (.int .i64 0),
  [(q 1122, Vob6), (q 1128, Vob7), (q 1127, .map .nil 0), (q 1126, .map .nil 0), (q 1125, Vob14), (q 1121, .map .nil 0), (q 1120, .map .nil 0), (q 1119, .map .nil 0), (q 1115, Vob8), (q 24, Vob9), (q 23, Vob3), (q 26, Vob10), (q 22, Vob11), (q 1117, Vob15), (q 1547, Vob16), (q 1308, Vob17), (q 1466, Vob18), (q 1545, Vob19), (q 1387, Vob20), (q 1116, Vob21)],
  q 2184⟩
theorem mG3_run : memoRun Tryz.T Tryz.F (brC Tryz.T) (ntOf natLg) 20000 200 103 mG3 = true := by kernel_rfl
theorem mG3_ok {ρ : Env} {slow : CF} (hs : CfOK Tryz.prog ρ 103 slow) : CfOK Tryz.prog ρ 103 (memoC mG3 slow) := memo_ok Tryz.T_ok Tryz.F_ok (fun _ => brC_ok mixed Tryz.T_ok) (fun _ => ntOf_ok natOKg) mG3_run hs
end Go.Proofs.YtjognjhmlbdlgaaGreatDoor
