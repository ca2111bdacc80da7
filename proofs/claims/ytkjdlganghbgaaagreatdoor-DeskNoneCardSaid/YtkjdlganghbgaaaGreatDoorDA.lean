/- Parts of the run, told once: mD1. -/
import Derived.Test.YtkjdlganghbgaaaGreatDoorDO
namespace Go.Proofs.YtkjdlganghbgaaaGreatDoor
open Go.Ex Go.Proofs
set_option maxRecDepth 1000000

noncomputable def mD1 : Memo := ⟨(.cons (.ptr (q 77) 0) (.cons (.agg (.cons (.int .i64 256) (.cons (.int .i64 128) (.cons (.int .i64 8) (.cons (.int .i64 1) (.cons (.int .i64 129) (.cons (.int .i64 1) (.cons (.int .i64 130) (.cons (.int .i64 4) (.cons (.int .i64 134) .nil)))))))))) .nil)),
  [(q 77, Dob0), (q 76, .big 256 1 (.cons (.bool false) .nil) (trL []) 4 none), (q 79, .big 256 256 (repV 256 (.str 128 0)) (trL []) 9 (some 1)), (q 75, Dob1)],
  q 80, (.int .i64 0),
  [(q 77, Dob2), (q 76, Dob3), (q 79, Dob4), (q 75, Dob5)],
  q 1119⟩
theorem mD1_run : memoRun Tryz.T Tryz.F (brC Tryz.T) (ntOf natLg) 20000 200 93 mD1 = true := by kernel_rfl
theorem mD1_ok {ρ : Env} {slow : CF} (hs : CfOK Tryz.prog ρ 93 slow) : CfOK Tryz.prog ρ 93 (memoC mD1 slow) := memo_ok Tryz.T_ok Tryz.F_ok (fun _ => brC_ok mixed Tryz.T_ok) (fun _ => ntOf_ok natOKg) mD1_run hs
end Go.Proofs.YtkjdlganghbgaaaGreatDoor
namespace Go.Proofs.YtkjdlganghbgaaaGreatDoor
open Go.Ex Go.Proofs
set_option maxRecDepth 1000000

noncomputable def mD2 : Memo := ⟨(.cons (.ptr (q 1175) 0) .nil),
  [(q 1175, Dob6), (q 1181, Dob7), (q 1180, .map .nil 0), (q 1179, .map .nil 0), (q 1178, .map .nil 0), (q 1174, .map .nil 0), (q 1173, .map .nil 0), (q 1172, .map .nil 0), (q 1168, Dob8), (q 77, Dob9), (q 76, Dob3), (q 79, Dob10), (q 75, Dob11), (q 1170, Dob12), (q 1169, .big 256 1 (.cons .nptr .nil) (trL []) 391 none)],
  q 1182, (.int .i64 0),
  [(q 1175, Dob6), (q 1181, Dob7), (q 1180, .map .nil 0), (q 1179, .map .nil 0), (q 1178, Dob13), (q 1174, .map .nil 0), (q 1173, .map .nil 0), (q 1172, .map .nil 0), (q 1168, Dob8), (q 77, Dob9), (q 76, Dob3), (q 79, Dob10), (q 75, Dob11), (q 1170, Dob12), (q 1169, .big 256 1 (.cons .nptr .nil) (trL []) 391 none)],
  q 1346⟩
theorem mD2_run : memoRun Tryz.T Tryz.F (brC Tryz.T) (ntOf natLg) 20000 200 97 mD2 = true := by kernel_rfl
theorem mD2_ok {ρ : Env} {slow : CF} (hs : CfOK Tryz.prog ρ 97 slow) : CfOK Tryz.prog ρ 97 (memoC mD2 slow) := memo_ok Tryz.T_ok Tryz.F_ok (fun _ => brC_ok mixed Tryz.T_ok) (fun _ => ntOf_ok natOKg) mD2_run hs
end Go.Proofs.YtkjdlganghbgaaaGreatDoor
