/- Parts of the run, told once: mW22. -/
import Derived.Test.YtncnheodmcfmmaaGreatDoorWO
import Derived.Test.YtncnheodmcfmmaaGreatDoorWV
namespace Go.Proofs.YtncnheodmcfmmaaGreatDoor
open Go.Ex Go.Proofs
set_option maxRecDepth 1000000

noncomputable def natU : List (FuncId × CF) := (143, (memoC mW21 (fnC Tryz.T Tryz.F 143))) :: (141, (memoC mW20 (fnC Tryz.T Tryz.F 141))) :: natL
theorem natU_ok {ρ : Env} : ∀ x ∈ natU, CfOK Tryz.prog ρ x.1 x.2 := (cons_ok (mW21_ok (fnw (by decide +kernel))) (cons_ok (mW20_ok (fnw (by decide +kernel))) natOK))
noncomputable def mW22 : Memo := ⟨(.cons (.str 32768 Wnum0) .nil),
  [],
  q 8939, (.tup (.cons (.ptr (q 9455) 0) (.cons (.int .i64 0) .nil))),
  [(q 9455, Wob119), (q 10417, Wob120), (q 10416, Wob38), (q 9978, Wob121), (q 9977, .map .nil 0), (q 9976, .map .nil 0), (q 9975, .map .nil 0), (q 9971, Wob122), (q 9452, Wob117), (q 9451, .big 256 1 (.cons (.bool false) .nil) (trL []) 4 none), (q 9454, Wob118), (q 9450, Wob95), (q 9973, Wob123), (q 10255, Wob124), (q 9994, Wob100), (q 10174, Wob18), (q 10253, Wob19), (q 10095, Wob20), (q 9972, Wob125)],
  q 10418⟩
theorem mW22_run : memoRun Tryz.T Tryz.F (brC Tryz.T) (ntOf natU) 20000 200 12 mW22 = true := by kernel_rfl
theorem mW22_ok {ρ : Env} {slow : CF} (hs : CfOK Tryz.prog ρ 12 slow) : CfOK Tryz.prog ρ 12 (memoC mW22 slow) := memo_ok Tryz.T_ok Tryz.F_ok (fun _ => brC_ok mixed Tryz.T_ok) (fun _ => ntOf_ok natU_ok) mW22_run hs
end Go.Proofs.YtncnheodmcfmmaaGreatDoor
