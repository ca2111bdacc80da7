/- Parts of the run, told once: mD7. -/
import Derived.Test.YtkjdlganghbgaaaGreatDoorDO
namespace Go.Proofs.YtkjdlganghbgaaaGreatDoor
open Go.Ex Go.Proofs
set_option maxRecDepth 1000000

noncomputable def mD7 : Memo := ⟨(.cons (.ptr (q 77) 0) (.cons (.agg (.cons (z5 256) (.cons (z5 128) (.cons (z5 8) (.cons (z5 1) (.cons (z5 129) (.cons (z5 1) (.cons (z5 130) (.cons (z5 4) (.cons (z5 134) .nil)))))))))) .nil)),
  [(q 77, Dob32), (q 76, Dob3), (q 79, Dob33), (q 75, Dob34)],
  q 2503, (.tup (.cons (.slc (q 2638) 0 1 4611686018427387904) (.cons z3 .nil))),
  [(q 2638, Dob36), (q 2623, Dob37), (q 77, Dob38), (q 76, Dob3), (q 79, Dob39), (q 75, Dob40)],
  q 2693⟩
theorem mD7_run : zAc Tryz.T Tryz.F (brC Tryz.T) (ntOf natL) 20000 200 81 mD7 = true := by kernel_rfl
theorem mD7_ok {ρ : Env} {slow : CF} (hs : CfOK Tryz.prog ρ 81 slow) : CfOK Tryz.prog ρ 81 (zAe mD7 slow) := zAd Tryz.T_ok Tryz.F_ok (fun _ => zAh mixed Tryz.T_ok) (fun _ => zAb natOK) mD7_run hs
end Go.Proofs.YtkjdlganghbgaaaGreatDoor
namespace Go.Proofs.YtkjdlganghbgaaaGreatDoor
open Go.Ex Go.Proofs
set_option maxRecDepth 1000000

noncomputable def mD8 : Memo := ⟨(.cons (.agg (.cons (z5 256) (.cons (z5 128) (.cons (z5 8) (.cons (z5 1) (.cons (z5 129) (.cons (z5 1) (.cons (z5 130) (.cons (z5 4) (.cons (z5 134) .nil)))))))))) (.cons (.fn 77 (.cons (.ptr (q 77) 0) .nil) .nil) .nil)),
  [(q 77, Dob38), (q 76, Dob3), (q 79, Dob39), (q 75, Dob40)],
  q 2693, .nslc,
  [(q 77, Dob38), (q 76, Dob3), (q 79, Dob39), (q 75, Dob40)],
  q 3056⟩
theorem mD8_run : zAc Tryz.T Tryz.F (brC Tryz.T) (ntOf natL) 20000 200 82 mD8 = true := by kernel_rfl
theorem mD8_ok {ρ : Env} {slow : CF} (hs : CfOK Tryz.prog ρ 82 slow) : CfOK Tryz.prog ρ 82 (zAe mD8 slow) := zAd Tryz.T_ok Tryz.F_ok (fun _ => zAh mixed Tryz.T_ok) (fun _ => zAb natOK) mD8_run hs
end Go.Proofs.YtkjdlganghbgaaaGreatDoor
namespace Go.Proofs.YtkjdlganghbgaaaGreatDoor
open Go.Ex Go.Proofs
set_option maxRecDepth 1000000

noncomputable def natM : List (FuncId × CF) := (82,(zAe mD8 (fnC Tryz.T Tryz.F 82))) :: (81,(zAe mD7 (fnC Tryz.T Tryz.F 81))) :: natL
theorem natM_ok {ρ : Env} : ∀ x ∈ natM, CfOK Tryz.prog ρ x.1 x.2 := (zB4 (mD8_ok (fnw (by decide +kernel))) (zB4 (mD7_ok (fnw (by decide +kernel))) natOK))
noncomputable def mD9 : Memo := ⟨(.cons (.ptr (q 77) 0) .nil),
  [(q 77, Dob32), (q 76, Dob3), (q 79, Dob33), (q 75, Dob34)],
  q 2479, (.tup (.cons (.ptr (q 3093) 0) (.cons z3 .nil))),
  [(q 3093, Dob41), (q 3092, .map .nil 0), (q 3091, .map .nil 0), (q 3090, .map .nil 0), (q 3086, Dob42), (q 77, Dob38), (q 76, Dob3), (q 79, Dob39), (q 75, Dob40), (q 3088, Dob43), (q 3359, Dob44), (q 3109, Dob45), (q 3278, Dob18), (q 3357, Dob19), (q 3199, Dob20), (q 3087, Dob46)],
  q 3471⟩
theorem mD9_run : zAc Tryz.T Tryz.F (brC Tryz.T) (ntOf natM) 20000 200 99 mD9 = true := by kernel_rfl
theorem mD9_ok {ρ : Env} {slow : CF} (hs : CfOK Tryz.prog ρ 99 slow) : CfOK Tryz.prog ρ 99 (zAe mD9 slow) := zAd Tryz.T_ok Tryz.F_ok (fun _ => zAh mixed Tryz.T_ok) (fun _ => zAb natM_ok) mD9_run hs
end Go.Proofs.YtkjdlganghbgaaaGreatDoor
