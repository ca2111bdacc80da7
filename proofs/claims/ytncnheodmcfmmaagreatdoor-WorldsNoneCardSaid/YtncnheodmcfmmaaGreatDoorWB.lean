/- Parts of the run, told once: mW2. -/
import Derived.Test.YtncnheodmcfmmaaGreatDoorWO
namespace Go.Proofs.YtncnheodmcfmmaaGreatDoor
open Go.Ex Go.Proofs
set_option maxRecDepth 1000000

noncomputable def mW2 : Memo := ⟨(.cons (.ptr (q 1104) 0) .nil),
  [(q 1104, Wob6), (q 1110, Wob7), (q 1109, .map .nil 0), (q 1108, .map .nil 0), (q 1107, .map .nil 0), (q 1103, .map .nil 0), (q 1102, .map .nil 0), (q 1101, .map .nil 0), (q 1097, Wob8), (q 6, Wob9), (q 5, Wob3), (q 8, Wob10), (q 4, Wob11), (q 1099, Wob12), (q 1098, .big 256 1 (.cons .nptr .nil) (trL []) 212 none)],
  q 1111, (.int .i64 0),
  [(q 1104, Wob6), (q 1110, Wob7), (q 1109, .map .nil 0), (q 1108, .map .nil 0), (q 1107, Wob13), (q 1103, .map .nil 0), (q 1102, .map .nil 0), (q 1101, .map .nil 0), (q 1097, Wob8), (q 6, Wob9), (q 5, Wob3), (q 8, Wob10), (q 4, Wob11), (q 1099, Wob12), (q 1098, .big 256 1 (.cons .nptr .nil) (trL []) 212 none)],
  q 1275⟩
theorem mW2_run : memoRun Tryz.T Tryz.F (brC Tryz.T) (ntOf natLg) 20000 200 57 mW2 = true := by kernel_rfl
theorem mW2_ok {ρ : Env} {slow : CF} (hs : CfOK Tryz.prog ρ 57 slow) : CfOK Tryz.prog ρ 57 (memoC mW2 slow) := memo_ok Tryz.T_ok Tryz.F_ok (fun _ => brC_ok mixed Tryz.T_ok) (fun _ => ntOf_ok natOKg) mW2_run hs
end Go.Proofs.YtncnheodmcfmmaaGreatDoor
