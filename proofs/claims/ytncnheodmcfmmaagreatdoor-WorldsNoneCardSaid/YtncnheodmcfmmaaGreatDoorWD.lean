/- Parts of the run, told once: mW4. -/
import Derived.Test.YtncnheodmcfmmaaGreatDoorWO
namespace Go.Proofs.YtncnheodmcfmmaaGreatDoor
open Go.Ex Go.Proofs
set_option maxRecDepth 1000000

noncomputable def mW4 : Memo := ⟨(.cons (.ptr (q 1097) 0) (.cons (.agg (.cons (.slc (q 2198) 0 4 4611686018427387904) (.cons .nslc .nil))) (.cons .nslc .nil))),
  [(q 1097, Wob8), (q 6, Wob9), (q 5, Wob3), (q 8, Wob10), (q 4, Wob11), (q 2198, Wob22)],
  q 2205, (.int .i64 0),
  [(q 1097, Wob23), (q 6, Wob24), (q 5, Wob3), (q 8, Wob25), (q 4, Wob26), (q 2198, Wob22)],
  q 2395⟩
theorem mW4_run : memoRun Tryz.T Tryz.F (brC Tryz.T) (ntOf natLg) 20000 200 68 mW4 = true := by kernel_rfl
theorem mW4_ok {ρ : Env} {slow : CF} (hs : CfOK Tryz.prog ρ 68 slow) : CfOK Tryz.prog ρ 68 (memoC mW4 slow) := memo_ok Tryz.T_ok Tryz.F_ok (fun _ => brC_ok mixed Tryz.T_ok) (fun _ => ntOf_ok natOKg) mW4_run hs
end Go.Proofs.YtncnheodmcfmmaaGreatDoor
