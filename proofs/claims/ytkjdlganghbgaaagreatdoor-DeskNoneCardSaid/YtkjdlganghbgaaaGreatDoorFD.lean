/- The end of the run of the desk's none: lives, and the law's run. -/
import Derived.Test.YtkjdlganghbgaaaGreatDoorDE
import Derived.Test.YtkjdlganghbgaaaGreatDoorDH
import Derived.Test.YtkjdlganghbgaaaGreatDoorDI
import Derived.Test.YtkjdlganghbgaaaGreatDoorDJ
import Derived.Test.YtkjdlganghbgaaaGreatDoorDK
import Derived.Test.YtkjdlganghbgaaaGreatDoorDW
import Derived.Test.YtkjdlganghbgaaaGreatDoorDN
import Derived.Test.YtkjdlganghbgaaaGreatDoorDV
import Derived.Test.YtkjdlganghbgaaaGreatDoorDS
import Derived.Test.YtkjdlganghbgaaaGreatDoorDT
namespace Go.Proofs.YtkjdlganghbgaaaGreatDoor
open Go.Ex Go.Proofs
set_option maxRecDepth 1000000

noncomputable def doC : CF := memoC mD27 (memoC mD26 (memoC mD25 (memoC mD20 (memoC mD28 (memoC mD16 (memoC mD15 (memoC mD14 (memoC mD13 (memoC mD12 (memoC mD11 (memoC mD10 (fnC Tryz.T Tryz.F 71))))))))))))
theorem doC_ok {ρ : Env} : CfOK Tryz.prog ρ 71 doC := mD27_ok (mD26_ok (mD25_ok (mD20_ok (mD28_ok (mD16_ok (mD15_ok (mD14_ok (mD13_ok (mD12_ok (mD11_ok (mD10_ok (fnw (by decide +kernel)))))))))))))
noncomputable def natX : List (FuncId × CF) := (57, memoC mD6 (fnC Tryz.T Tryz.F 57)) :: (99, memoC mD19 (memoC mD9 (fnC Tryz.T Tryz.F 99))) :: (71, doC) :: (43, memoC mD23 (fnC Tryz.T Tryz.F 43)) :: (38, memoC mD24 (fnC Tryz.T Tryz.F 38)) :: natL
theorem natX_ok {ρ : Env} : ∀ x ∈ natX, CfOK Tryz.prog ρ x.1 x.2 := cons_ok (mD6_ok (fnw (by decide +kernel))) (cons_ok (mD19_ok (mD9_ok (fnw (by decide +kernel)))) (cons_ok doC_ok (cons_ok (mD23_ok (fnw (by decide +kernel))) (cons_ok (mD24_ok (fnw (by decide +kernel))) natOK))))
theorem livesD_run : lawAt Tryz.T Tryz.F (ntOf natX) 20000 200 5 .nil (q 0) = true := by kernel_rfl
theorem livesD : Holds Tryz.prog 5 := fun w hw =>
  lawAt_ok (ρ := ⟨fun _ => .int .i64 0, T5.new⟩) mixed Tryz.T_ok Tryz.F_ok (fun _ => ntOf_ok natX_ok) (nonext Tryz.func5 (by kernel_rfl) (by kernel_rfl)) livesD_run ⟨rfl, fun i a b ha => (by cases ha)⟩ w hw
noncomputable def natD : List (FuncId × CF) := (5, trueC) :: (6, memoC mL7 (memoC mL6 (memoC mL5 (memoC mL4 (fnC Tryz.T Tryz.F 6))))) :: natL
theorem natD_ok {ρ : Env} : ∀ x ∈ natD, CfOK Tryz.prog ρ x.1 x.2 := cons_ok (true_ok (nonext Tryz.func5 (by kernel_rfl) (by kernel_rfl)) livesD) (cons_ok (mL7_ok (mL6_ok (mL5_ok (mL4_ok (fnw (by decide +kernel)))))) natOK)
/-- a line of which only a bound of its length is known, and so many bytes more. -/
noncomputable def aD (k : V) (m : Nat) : V := .cons k (.cons (.int .u8 m) .nil)
noncomputable def lawD (k : V) (m : Nat) : Bool := lawAt Tryz.T Tryz.F (ntOf natD) 20000 200 3 (aD k m) (q 0)
theorem deskL_run (m : Nat) (h : m < 256) : lawD (.tok 4013) m = true := by
  have key : ((List.range 256).all fun m => lawD (.tok 4013) m) = true := by kernel_rfl
  exact List.all_eq_true.1 key m (List.mem_range.2 h)
end Go.Proofs.YtkjdlganghbgaaaGreatDoor
