/- lives, at any world. -/
import Derived.Test.YtkjdlganghbgaaaGreatDoorDE
import Derived.Test.YtkjdlganghbgaaaGreatDoorDH
import Derived.Test.YtkjdlganghbgaaaGreatDoorDI
import Derived.Test.YtkjdlganghbgaaaGreatDoorDJ
import Derived.Test.YtkjdlganghbgaaaGreatDoorDK
import Derived.Test.YtkjdlganghbgaaaGreatDoorDN
import Derived.Test.YtkjdlganghbgaaaGreatDoorDV
import Derived.Test.YtkjdlganghbgaaaGreatDoorDS
import Derived.Test.YtkjdlganghbgaaaGreatDoorDT
namespace Go.Proofs.YtkjdlganghbgaaaGreatDoor
open Go.Ex Go.Proofs
set_option maxRecDepth 1000000

noncomputable def doC : CF := zAe mD27 (zAe mD26 (zAe mD25 (zAe mD20 (zAe mD28 (zAe mD16 (zAe mD15 (zAe mD14 (zAe mD13 (zAe mD12 (zAe mD11 (zAe mD10 (fnC Tryz.T Tryz.F 71))))))))))))
theorem doC_ok {ρ : Env} : CfOK Tryz.prog ρ 71 doC := mD27_ok (mD26_ok (mD25_ok (mD20_ok (mD28_ok (mD16_ok (mD15_ok (mD14_ok (mD13_ok (mD12_ok (mD11_ok (mD10_ok (fnw (by decide +kernel)))))))))))))
noncomputable def natX : List (FuncId × CF) := (57, zAe mD6 (fnC Tryz.T Tryz.F 57)) :: (99, zAe mD19 (zAe mD9 (fnC Tryz.T Tryz.F 99))) :: (71, doC) :: (43, zAe mD23 (fnC Tryz.T Tryz.F 43)) :: (38, zAe mD24 (fnC Tryz.T Tryz.F 38)) :: natL
theorem natX_ok {ρ : Env} : ∀ x ∈ natX, CfOK Tryz.prog ρ x.1 x.2 := zB4 (mD6_ok (fnw (by decide +kernel))) (zB4 (mD19_ok (mD9_ok (fnw (by decide +kernel)))) (zB4 doC_ok (zB4 (mD23_ok (fnw (by decide +kernel))) (zB4 (mD24_ok (fnw (by decide +kernel))) natOK))))
theorem livesD_run : lawAt Tryz.T Tryz.F (ntOf natX) 20000 200 5 .nil (q 0) = true := by kernel_rfl
theorem livesD : Holds Tryz.prog 5 := fun w hw =>
  lawAt_ok (ρ := ⟨fun _ => .int .i64 0, T5.new⟩) mixed Tryz.T_ok Tryz.F_ok (fun _ => zAb natX_ok) (nonext Tryz.func5 (by kernel_rfl) (by kernel_rfl)) livesD_run ⟨rfl, fun i a b ha => (by cases ha)⟩ w hw
end Go.Proofs.YtkjdlganghbgaaaGreatDoor
