/- Parts of the run, told once: mD4. -/
import Derived.Test.YtkjdlganghbgaaaGreatDoorDO
namespace Go.Proofs.YtkjdlganghbgaaaGreatDoor
open Go.Ex Go.Proofs
set_option maxRecDepth 1000000

noncomputable def mD4 : Memo := ⟨(.cons (.ptr (q 1175) 0) .nil),
  [(q 1175, Dob22), (q 1174, .map .nil 0), (q 1173, .map .nil 0), (q 1172, Dob23), (q 1168, Dob8), (q 77, Dob9), (q 76, Dob3), (q 79, Dob10), (q 75, Dob11), (q 1170, Dob24), (q 1600, Dob16), (q 1361, Dob25), (q 1519, Dob18), (q 1598, Dob19), (q 1440, Dob20), (q 1169, Dob26), (q 2250, Dob27), (q 2252, Dob28), (q 2255, Dob29)],
  q 2258, z3,
  [(q 1175, Dob30), (q 2477, .map .nil 0), (q 2476, .map .nil 0), (q 2475, .map .nil 0), (q 1168, Dob31), (q 77, Dob32), (q 76, Dob3), (q 79, Dob33), (q 75, Dob34), (q 1170, Dob35), (q 1169, Dob26), (q 1440, Dob20), (q 1598, Dob19), (q 1519, Dob18), (q 1174, .map .nil 0), (q 1173, .map .nil 0), (q 1172, Dob23)],
  q 2478⟩
theorem mD4_run : zAc Tryz.T Tryz.F (brC Tryz.T) (ntOf natLg) 20000 200 110 mD4 = true := by kernel_rfl
theorem mD4_ok {ρ : Env} {slow : CF} (hs : CfOK Tryz.prog ρ 110 slow) : CfOK Tryz.prog ρ 110 (zAe mD4 slow) := zAd Tryz.T_ok Tryz.F_ok (fun _ => zAh mixed Tryz.T_ok) (fun _ => zAb natOKg) mD4_run hs
end Go.Proofs.YtkjdlganghbgaaaGreatDoor
