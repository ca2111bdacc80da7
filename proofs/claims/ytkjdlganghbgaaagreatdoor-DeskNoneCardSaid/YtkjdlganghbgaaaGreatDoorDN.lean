/- Parts of the run, told once: mD19. -/
import Derived.Test.YtkjdlganghbgaaaGreatDoorDO
import Derived.Test.YtkjdlganghbgaaaGreatDoorDL
namespace Go.Proofs.YtkjdlganghbgaaaGreatDoor
open Go.Ex Go.Proofs
set_option maxRecDepth 1000000

noncomputable def natR : List (FuncId × CF) := (82, (memoC mD18 (fnC Tryz.T Tryz.F 82))) :: (81, (memoC mD17 (fnC Tryz.T Tryz.F 81))) :: natL
theorem natR_ok {ρ : Env} : ∀ x ∈ natR, CfOK Tryz.prog ρ x.1 x.2 := (cons_ok (mD18_ok (fnw (by decide +kernel))) (cons_ok (mD17_ok (fnw (by decide +kernel))) natOK))
noncomputable def mD19 : Memo := ⟨(.cons (.ptr (q 7859) 0) .nil),
  [(q 7859, Dob97), (q 7858, .big 256 1 (.cons (.bool false) .nil) (trL []) 4 none), (q 7861, Dob98), (q 7857, Dob99)],
  q 7862, (.tup (.cons (.ptr (q 8314) 0) (.cons (.int .i64 0) .nil))),
  [(q 8314, Dob100), (q 8313, .map .nil 0), (q 8312, .map .nil 0), (q 8311, .map .nil 0), (q 8307, Dob101), (q 7859, Dob97), (q 7858, .big 256 1 (.cons (.bool false) .nil) (trL []) 4 none), (q 7861, Dob98), (q 7857, Dob99), (q 8309, Dob102), (q 8580, Dob103), (q 8330, Dob45), (q 8499, Dob18), (q 8578, Dob19), (q 8420, Dob20), (q 8308, Dob104)],
  q 8692⟩
theorem mD19_run : memoRun Tryz.T Tryz.F (brC Tryz.T) (ntOf natR) 20000 200 99 mD19 = true := by kernel_rfl
theorem mD19_ok {ρ : Env} {slow : CF} (hs : CfOK Tryz.prog ρ 99 slow) : CfOK Tryz.prog ρ 99 (memoC mD19 slow) := memo_ok Tryz.T_ok Tryz.F_ok (fun _ => brC_ok mixed Tryz.T_ok) (fun _ => ntOf_ok natR_ok) mD19_run hs
end Go.Proofs.YtkjdlganghbgaaaGreatDoor
