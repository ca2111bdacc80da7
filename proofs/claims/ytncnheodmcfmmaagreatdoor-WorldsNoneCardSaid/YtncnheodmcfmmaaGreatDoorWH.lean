/- Parts of the run, told once: mW8. -/
import Derived.Test.YtncnheodmcfmmaaGreatDoorWO
import Derived.Test.YtncnheodmcfmmaaGreatDoorWF
import Derived.Test.YtncnheodmcfmmaaGreatDoorWG
namespace Go.Proofs.YtncnheodmcfmmaaGreatDoor
open Go.Ex Go.Proofs
set_option maxRecDepth 1000000

noncomputable def natM : List (FuncId × CF) := (143, (memoC mW7 (fnC Tryz.T Tryz.F 143))) :: (141, (memoC mW6 (fnC Tryz.T Tryz.F 141))) :: natL
theorem natM_ok {ρ : Env} : ∀ x ∈ natM, CfOK Tryz.prog ρ x.1 x.2 := (cons_ok (mW7_ok (fnw (by decide +kernel))) (cons_ok (mW6_ok (fnw (by decide +kernel))) natOK))
noncomputable def mW8 : Memo := ⟨(.cons (.ptr (q 6) 0) .nil),
  [(q 6, Wob24), (q 5, Wob3), (q 8, Wob25), (q 4, Wob26)],
  q 2408, (.tup (.cons (.ptr (q 3022) 0) (.cons (.int .i64 0) .nil))),
  [(q 3022, Wob31), (q 3021, .map .nil 0), (q 3020, .map .nil 0), (q 3019, .map .nil 0), (q 3015, Wob32), (q 6, Wob28), (q 5, Wob3), (q 8, Wob29), (q 4, Wob30), (q 3017, Wob33), (q 3288, Wob34), (q 3038, Wob35), (q 3207, Wob18), (q 3286, Wob19), (q 3128, Wob20), (q 3016, Wob36)],
  q 3400⟩
theorem mW8_run : memoRun Tryz.T Tryz.F (brC Tryz.T) (ntOf natM) 20000 200 59 mW8 = true := by kernel_rfl
theorem mW8_ok {ρ : Env} {slow : CF} (hs : CfOK Tryz.prog ρ 59 slow) : CfOK Tryz.prog ρ 59 (memoC mW8 slow) := memo_ok Tryz.T_ok Tryz.F_ok (fun _ => brC_ok mixed Tryz.T_ok) (fun _ => ntOf_ok natM_ok) mW8_run hs
end Go.Proofs.YtncnheodmcfmmaaGreatDoor
