/- Parts of the run, told once: mD3. -/
import Derived.Test.YtkjdlganghbgaaaGreatDoorDO
namespace Go.Proofs.YtkjdlganghbgaaaGreatDoor
open Go.Ex Go.Proofs
set_option maxRecDepth 1000000

noncomputable def mD3 : Memo := ⟨(.cons (.ptr (q 1175) 0) .nil),
  [(q 1175, Dob6),(q 1181, Dob7),(q 1180, .map .nil 0),(q 1179, .map .nil 0),(q 1178, Dob13),(q 1174, .map .nil 0),(q 1173, .map .nil 0),(q 1172, .map .nil 0),(q 1168, Dob8),(q 77, Dob9),(q 76, Dob3),(q 79, Dob10),(q 75, Dob11),(q 1170, Dob12),(q 1169, .big 256 1 (.cons .nptr .nil) (trL []) 391 none)],
  q 1346, z3,
  [(q 1175, Dob6), (q 1181, Dob7), (q 1180, .map .nil 0), (q 1179, .map .nil 0), (q 1178, Dob14), (q 1174, .map .nil 0), (q 1173, .map .nil 0), (q 1172, .map .nil 0), (q 1168, Dob8), (q 77, Dob9), (q 76, Dob3), (q 79, Dob10), (q 75, Dob11), (q 1170, Dob15), (q 1600, Dob16), (q 1361, Dob17), (q 1519, Dob18), (q 1598, Dob19), (q 1440, Dob20), (q 1169, Dob21)],
  q 2237⟩
theorem mD3_run : zAc Tryz.T Tryz.F (brC Tryz.T) (ntOf natLg) 20000 200 98 mD3 = true := by kernel_rfl
theorem mD3_ok {ρ : Env} {slow : CF} (hs : CfOK Tryz.prog ρ 98 slow) : CfOK Tryz.prog ρ 98 (zAe mD3 slow) := zAd Tryz.T_ok Tryz.F_ok (fun _ => zAh mixed Tryz.T_ok) (fun _ => zAb natOKg) mD3_run hs
end Go.Proofs.YtkjdlganghbgaaaGreatDoor
