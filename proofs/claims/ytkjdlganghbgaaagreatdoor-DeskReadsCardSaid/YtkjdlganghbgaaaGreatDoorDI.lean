/- Parts of the run, told once: mD10. -/
import Derived.Test.YtkjdlganghbgaaaGreatDoorDO
namespace Go.Proofs.YtkjdlganghbgaaaGreatDoor
open Go.Ex Go.Proofs
set_option maxRecDepth 1000000

noncomputable def mD10 : Memo := ⟨(.cons (.ptr (q 3473) 0) (.cons (.agg (.cons (z5 1) (.cons (.str 2 26159) (.cons (.str 0 0) (.cons z3 (.cons (z5 1) (.cons (.str 0 0) (.cons z1 .nil)))))))) .nil)),
  [(q 3473, Dob47), (q 3472, Dob48), (q 3093, Dob41), (q 3092, .map .nil 0), (q 3091, .map .nil 0), (q 3090, .map .nil 0), (q 3086, Dob42), (q 77, Dob38), (q 76, Dob3), (q 79, Dob39), (q 75, Dob40), (q 3088, Dob43), (q 3359, Dob44), (q 3109, Dob45), (q 3278, Dob18), (q 3357, Dob19), (q 3199, Dob20), (q 3087, Dob46)],
  q 3499, (.agg (.cons z3 (.cons z3 (.cons (.str 0 0) (.cons .nslc (.cons z3 (.cons z3 (.cons z3 (.cons z1 (.cons .nslc (.cons z1 .nil))))))))))),
  [(q 3473, Dob47), (q 3472, Dob49), (q 3093, Dob41), (q 3092, .map .nil 0), (q 3091, .map .nil 0), (q 3090, Dob50), (q 3086, Dob42), (q 77, Dob38), (q 76, Dob3), (q 79, Dob39), (q 75, Dob40), (q 3088, Dob51), (q 3977, Dob52), (q 3109, Dob53), (q 3713, Dob54), (q 3660, Dob55), (q 3975, Dob56), (q 3357, Dob57), (q 3278, Dob58), (q 3199, Dob59), (q 3087, Dob60)],
  q 4793⟩
theorem mD10_run : zAc Tryz.T Tryz.F (brC Tryz.T) (ntOf natL) 20000 200 71 mD10 = true := by kernel_rfl
theorem mD10_ok {ρ : Env} {slow : CF} (hs : CfOK Tryz.prog ρ 71 slow) : CfOK Tryz.prog ρ 71 (zAe mD10 slow) := zAd Tryz.T_ok Tryz.F_ok (fun _ => zAh mixed Tryz.T_ok) (fun _ => zAb natOK) mD10_run hs
end Go.Proofs.YtkjdlganghbgaaaGreatDoor
namespace Go.Proofs.YtkjdlganghbgaaaGreatDoor
open Go.Ex Go.Proofs
set_option maxRecDepth 1000000

noncomputable def mD28 : Memo := ⟨(.cons (.ptr (q 3473) 0) (.cons (.agg (.cons (z5 17) (.cons (.str 0 0) (.cons (.str 0 0) (.cons z3 (.cons z3 (.cons (.str 0 0) (.cons z1 .nil)))))))) .nil)),
  [(q 3473, Dob47), (q 3472, Dob61), (q 3093, Dob41), (q 3092, .map .nil 0), (q 3091, .map (.cons (z5 135) (z4 6430817) 0 .nil) 1), (q 3090, Dob62), (q 3086, Dob42), (q 77, Dob90), (q 76, Dob3), (q 79, Dob39), (q 75, Dob40), (q 3088, Dob86), (q 3977, Dob77), (q 3109, Dob87), (q 3713, Dob88), (q 3975, Dob71), (q 3660, Dob89), (q 3278, Dob73), (q 3357, Dob80), (q 3199, Dob81), (q 3087, Dob60)],
  q 6887, (.agg (.cons (z5 61) (.cons z3 (.cons (.str 0 0) (.cons .nslc (.cons z3 (.cons z3 (.cons z3 (.cons z1 (.cons .nslc (.cons z1 .nil))))))))))),
  [(q 3473, Dob47), (q 3472, Dob61), (q 3093, Dob91), (q 3092, .map .nil 0), (q 3091, .map (.cons (z5 135) (z4 6430817) 0 .nil) 1), (q 3090, Dob62), (q 3086, Dob92), (q 77, Dob90), (q 76, Dob3), (q 79, Dob39), (q 75, Dob40), (q 3088, Dob93), (q 3977, Dob77), (q 3109, Dob94), (q 3713, Dob95), (q 3975, Dob96), (q 3660, Dob89), (q 3278, Dob73), (q 3357, Dob80), (q 3199, Dob81), (q 3087, Dob60)],
  q 7086⟩
theorem mD28_run : zAc Tryz.T Tryz.F (brC Tryz.T) (ntOf natL) 20000 200 71 mD28 = true := by kernel_rfl
theorem mD28_ok {ρ : Env} {slow : CF} (hs : CfOK Tryz.prog ρ 71 slow) : CfOK Tryz.prog ρ 71 (zAe mD28 slow) := zAd Tryz.T_ok Tryz.F_ok (fun _ => zAh mixed Tryz.T_ok) (fun _ => zAb natOK) mD28_run hs
end Go.Proofs.YtkjdlganghbgaaaGreatDoor
