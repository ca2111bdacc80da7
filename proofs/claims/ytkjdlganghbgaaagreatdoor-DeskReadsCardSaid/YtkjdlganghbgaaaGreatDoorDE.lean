/- Parts of the run, told once: mD1. -/
import Derived.Test.YtkjdlganghbgaaaGreatDoorDO
import Derived.Test.YtkjdlganghbgaaaGreatDoorDC
import Derived.Test.YtkjdlganghbgaaaGreatDoorDD
namespace Go.Proofs.YtkjdlganghbgaaaGreatDoor
open Go.Ex Go.Proofs
set_option maxRecDepth 1000000

noncomputable def mD1 : Memo := ⟨(.cons (.ptr (q 77) 0) (.cons (.agg (.cons (z5 256) (.cons (z5 128) (.cons (z5 8) (.cons (z5 1) (.cons (z5 129) (.cons (z5 1) (.cons (z5 130) (.cons (z5 4) (.cons (z5 134) .nil)))))))))) .nil)),
  [(q 77, Dob0),(q 76, .big 256 1 (.cons z1 .nil) (trL []) 4 none),(q 79, .big 256 256 (repV 256 z0) (trL []) 9 (some 1)),(q 75, Dob1)],
  q 80, z3,
  [(q 77, Dob2), (q 76, Dob3), (q 79, Dob4), (q 75, Dob5)],
  q 1119⟩
theorem mD1_run : zAc Tryz.T Tryz.F (brC Tryz.T) (ntOf natLg) 20000 200 93 mD1 = true := by kernel_rfl
theorem mD1_ok {ρ : Env} {slow : CF} (hs : CfOK Tryz.prog ρ 93 slow) : CfOK Tryz.prog ρ 93 (zAe mD1 slow) := zAd Tryz.T_ok Tryz.F_ok (fun _ => zAh mixed Tryz.T_ok) (fun _ => zAb natOKg) mD1_run hs
end Go.Proofs.YtkjdlganghbgaaaGreatDoor
namespace Go.Proofs.YtkjdlganghbgaaaGreatDoor
open Go.Ex Go.Proofs
set_option maxRecDepth 1000000

noncomputable def mD2 : Memo := ⟨(.cons (.ptr (q 1175) 0) .nil),
  [(q 1175, Dob6),(q 1181, Dob7),(q 1180, .map .nil 0),(q 1179, .map .nil 0),(q 1178, .map .nil 0),(q 1174, .map .nil 0),(q 1173, .map .nil 0),(q 1172, .map .nil 0),(q 1168, Dob8),(q 77, Dob9),(q 76, Dob3),(q 79, Dob10),(q 75, Dob11),(q 1170, Dob12),(q 1169, .big 256 1 (.cons .nptr .nil) (trL []) 391 none)],
  q 1182, z3,
  [(q 1175, Dob6),(q 1181, Dob7),(q 1180, .map .nil 0),(q 1179, .map .nil 0),(q 1178, Dob13),(q 1174, .map .nil 0),(q 1173, .map .nil 0),(q 1172, .map .nil 0),(q 1168, Dob8),(q 77, Dob9),(q 76, Dob3),(q 79, Dob10),(q 75, Dob11),(q 1170, Dob12),(q 1169, .big 256 1 (.cons .nptr .nil) (trL []) 391 none)],
  q 1346⟩
theorem mD2_run : zAc Tryz.T Tryz.F (brC Tryz.T) (ntOf natLg) 20000 200 97 mD2 = true := by kernel_rfl
theorem mD2_ok {ρ : Env} {slow : CF} (hs : CfOK Tryz.prog ρ 97 slow) : CfOK Tryz.prog ρ 97 (zAe mD2 slow) := zAd Tryz.T_ok Tryz.F_ok (fun _ => zAh mixed Tryz.T_ok) (fun _ => zAb natOKg) mD2_run hs
end Go.Proofs.YtkjdlganghbgaaaGreatDoor
namespace Go.Proofs.YtkjdlganghbgaaaGreatDoor
open Go.Ex Go.Proofs
set_option maxRecDepth 1000000

noncomputable def natF : List (FuncId × CF) := (110,(zAe mD4 (fnC Tryz.T Tryz.F 110))) :: (98,(zAe mD3 (fnC Tryz.T Tryz.F 98))) :: (97,(zAe mD2 (fnC Tryz.T Tryz.F 97))) :: (93,(zAe mD1 (fnC Tryz.T Tryz.F 93))) :: natLg
theorem natF_ok {ρ : Env} : ∀ x ∈ natF, CfOK Tryz.prog ρ x.1 x.2 := (zB4 (mD4_ok (fnw (by decide +kernel))) (zB4 (mD3_ok (fnw (by decide +kernel))) (zB4 (mD2_ok (fnw (by decide +kernel))) (zB4 (mD1_ok (fnw (by decide +kernel))) natOKg))))
noncomputable def mD6 : Memo := ⟨(.cons (z5 256) (.cons (z5 128) (.cons (z5 8) .nil))),
  [],
  q 71, (.tup (.cons (.ptr (q 77) 0) (.cons z3 .nil))),
  [(q 77, Dob32), (q 76, Dob3), (q 79, Dob33), (q 75, Dob34)],
  q 2478⟩
theorem mD6_run : zAc Tryz.T Tryz.F (brC Tryz.T) (ntOf natF) 20000 200 57 mD6 = true := by kernel_rfl
theorem mD6_ok {ρ : Env} {slow : CF} (hs : CfOK Tryz.prog ρ 57 slow) : CfOK Tryz.prog ρ 57 (zAe mD6 slow) := zAd Tryz.T_ok Tryz.F_ok (fun _ => zAh mixed Tryz.T_ok) (fun _ => zAb natF_ok) mD6_run hs
end Go.Proofs.YtkjdlganghbgaaaGreatDoor
