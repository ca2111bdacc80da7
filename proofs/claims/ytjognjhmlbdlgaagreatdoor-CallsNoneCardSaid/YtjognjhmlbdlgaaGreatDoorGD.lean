/- A part of the run, told once: mG4. -/
import Derived.Test.YtjognjhmlbdlgaaGreatDoorVO
namespace Go.Proofs.YtjognjhmlbdlgaaGreatDoor
open Go.Ex Go.Proofs
set_option maxRecDepth 1000000

noncomputable def mG4 : Memo := ⟨(.cons (.ptr (q 1115) 0) (.cons (.agg (.cons (.slc (q 2216) 0 4 4611686018427387904) (.cons .nslc .nil))) (.cons .nslc .nil))),
  [(q 1115, Vob8), (q 24, Vob9), (q 23, Vob3), (q 26, Vob10), (q 22, Vob11), (q 2216, Vob22)],
  q 2223, (.int .i64 0),
  [(q 1115, Vob23), (q 24, Vob24), (q 23, Vob3), (q 26, Vob25), (q 22, Vob26), (q 2216, Vob22)],
  q 2413⟩
theorem mG4_run : memoRun Tryz.T Tryz.F (brC Tryz.T) (ntOf natLg) 20000 200 183 mG4 = true := by kernel_rfl
theorem mG4_ok {ρ : Env} {slow : CF} (hs : CfOK Tryz.prog ρ 183 slow) : CfOK Tryz.prog ρ 183 (memoC mG4 slow) := memo_ok Tryz.T_ok Tryz.F_ok (fun _ => brC_ok mixed Tryz.T_ok) (fun _ => ntOf_ok natOKg) mG4_run hs
end Go.Proofs.YtjognjhmlbdlgaaGreatDoor
