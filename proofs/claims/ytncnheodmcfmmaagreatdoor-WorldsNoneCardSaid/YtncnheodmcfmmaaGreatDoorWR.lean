/- Parts of the run, told once: mW16. -/
import Derived.Test.YtncnheodmcfmmaaGreatDoorWO
import Derived.Test.YtncnheodmcfmmaaGreatDoorWP
import Derived.Test.YtncnheodmcfmmaaGreatDoorWQ
namespace Go.Proofs.YtncnheodmcfmmaaGreatDoor
open Go.Ex Go.Proofs
set_option maxRecDepth 1000000

noncomputable def natR : List (FuncId × CF) := (143, (memoC mW15 (fnC Tryz.T Tryz.F 143))) :: (141, (memoC mW14 (fnC Tryz.T Tryz.F 141))) :: natL
theorem natR_ok {ρ : Env} : ∀ x ∈ natR, CfOK Tryz.prog ρ x.1 x.2 := (cons_ok (mW15_ok (fnw (by decide +kernel))) (cons_ok (mW14_ok (fnw (by decide +kernel))) natOK))
noncomputable def mW16 : Memo := ⟨(.cons (.ptr (q 7275) 0) .nil),
  [(q 7275, Wob89), (q 7274, .big 256 1 (.cons (.bool false) .nil) (trL []) 4 none), (q 7277, Wob90), (q 7273, Wob91)],
  q 7278, (.tup (.cons (.ptr (q 7934) 0) (.cons (.int .i64 0) .nil))),
  [(q 7934, Wob96), (q 7933, .map .nil 0), (q 7932, .map .nil 0), (q 7931, .map .nil 0), (q 7927, Wob97), (q 7275, Wob93), (q 7274, Wob3), (q 7277, Wob94), (q 7273, Wob95), (q 7929, Wob98), (q 8211, Wob99), (q 7950, Wob100), (q 8130, Wob18), (q 8209, Wob19), (q 8051, Wob20), (q 7928, Wob101)],
  q 8371⟩
theorem mW16_run : memoRun Tryz.T Tryz.F (brC Tryz.T) (ntOf natR) 20000 200 59 mW16 = true := by kernel_rfl
theorem mW16_ok {ρ : Env} {slow : CF} (hs : CfOK Tryz.prog ρ 59 slow) : CfOK Tryz.prog ρ 59 (memoC mW16 slow) := memo_ok Tryz.T_ok Tryz.F_ok (fun _ => brC_ok mixed Tryz.T_ok) (fun _ => ntOf_ok natR_ok) mW16_run hs
end Go.Proofs.YtncnheodmcfmmaaGreatDoor
