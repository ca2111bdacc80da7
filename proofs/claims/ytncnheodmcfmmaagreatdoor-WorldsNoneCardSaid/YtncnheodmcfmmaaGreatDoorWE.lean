/- Parts of the run, told once: mW5. -/
import Derived.Test.YtncnheodmcfmmaaGreatDoorWO
import Derived.Test.YtncnheodmcfmmaaGreatDoorWA
import Derived.Test.YtncnheodmcfmmaaGreatDoorWB
import Derived.Test.YtncnheodmcfmmaaGreatDoorWC
import Derived.Test.YtncnheodmcfmmaaGreatDoorWD
namespace Go.Proofs.YtncnheodmcfmmaaGreatDoor
open Go.Ex Go.Proofs
set_option maxRecDepth 1000000

noncomputable def natF : List (FuncId × CF) := (68, (memoC mW4 (fnC Tryz.T Tryz.F 68))) :: (58, (memoC mW3 (fnC Tryz.T Tryz.F 58))) :: (57, (memoC mW2 (fnC Tryz.T Tryz.F 57))) :: (53, (memoC mW1 (fnC Tryz.T Tryz.F 53))) :: natLg
theorem natF_ok {ρ : Env} : ∀ x ∈ natF, CfOK Tryz.prog ρ x.1 x.2 := (cons_ok (mW4_ok (fnw (by decide +kernel))) (cons_ok (mW3_ok (fnw (by decide +kernel))) (cons_ok (mW2_ok (fnw (by decide +kernel))) (cons_ok (mW1_ok (fnw (by decide +kernel))) natOKg))))
noncomputable def mW5 : Memo := ⟨(.cons (.int .i64 256) (.cons (.int .i64 128) (.cons (.int .i64 8) .nil))),
  [],
  q 0, (.tup (.cons (.ptr (q 6) 0) (.cons (.int .i64 0) .nil))),
  [(q 6, Wob24), (q 5, Wob3), (q 8, Wob25), (q 4, Wob26)],
  q 2407⟩
theorem mW5_run : memoRun Tryz.T Tryz.F (brC Tryz.T) (ntOf natF) 20000 200 20 mW5 = true := by kernel_rfl
theorem mW5_ok {ρ : Env} {slow : CF} (hs : CfOK Tryz.prog ρ 20 slow) : CfOK Tryz.prog ρ 20 (memoC mW5 slow) := memo_ok Tryz.T_ok Tryz.F_ok (fun _ => brC_ok mixed Tryz.T_ok) (fun _ => ntOf_ok natF_ok) mW5_run hs
end Go.Proofs.YtncnheodmcfmmaaGreatDoor
