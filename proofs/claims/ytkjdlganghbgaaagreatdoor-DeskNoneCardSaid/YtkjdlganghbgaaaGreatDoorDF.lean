/- Parts of the run, told once: mD7. -/
import Derived.Test.YtkjdlganghbgaaaGreatDoorDO
namespace Go.Proofs.YtkjdlganghbgaaaGreatDoor
open Go.Ex Go.Proofs
set_option maxRecDepth 1000000

noncomputable def mD7 : Memo := ⟨(.cons (.ptr (q 77) 0) (.cons (.agg (.cons (.int .i64 256) (.cons (.int .i64 128) (.cons (.int .i64 8) (.cons (.int .i64 1) (.cons (.int .i64 129) (.cons (.int .i64 1) (.cons (.int .i64 130) (.cons (.int .i64 4) (.cons (.int .i64 134) .nil)))))))))) .nil)),
  [(q 77, Dob32), (q 76, Dob3), (q 79, Dob33), (q 75, Dob34)],
  q 2503, (.tup (.cons (.slc (q 2638) 0 1 4611686018427387904) (.cons (.int .i64 0) .nil))),
  [(q 2638, Dob36), (q 2623, Dob37), (q 77, Dob38), (q 76, Dob3), (q 79, Dob39), (q 75, Dob40)],
  q 2693⟩
theorem mD7_run : memoRun Tryz.T Tryz.F (brC Tryz.T) (ntOf natL) 20000 200 81 mD7 = true := by kernel_rfl
theorem mD7_ok {ρ : Env} {slow : CF} (hs : CfOK Tryz.prog ρ 81 slow) : CfOK Tryz.prog ρ 81 (memoC mD7 slow) := memo_ok Tryz.T_ok Tryz.F_ok (fun _ => brC_ok mixed Tryz.T_ok) (fun _ => ntOf_ok natOK) mD7_run hs
end Go.Proofs.YtkjdlganghbgaaaGreatDoor
namespace Go.Proofs.YtkjdlganghbgaaaGreatDoor
open Go.Ex Go.Proofs
set_option maxRecDepth 1000000

noncomputable def mD8 : Memo := ⟨(.cons (.agg (.cons (.int .i64 256) (.cons (.int .i64 128) (.cons (.int .i64 8) (.cons (.int .i64 1) (.cons (.int .i64 129) (.cons (.int .i64 1) (.cons (.int .i64 130) (.cons (.int .i64 4) (.cons (.int .i64 134) .nil)))))))))) (.cons (.fn 77 (.cons (.ptr (q 77) 0) .nil) .nil) .nil)),
  [(q 77, Dob38), (q 76, Dob3), (q 79, Dob39), (q 75, Dob40)],
  q 2693, .nslc,
  [(q 77, Dob38), (q 76, Dob3), (q 79, Dob39), (q 75, Dob40)],
  q 3056⟩
theorem mD8_run : memoRun Tryz.T Tryz.F (brC Tryz.T) (ntOf natL) 20000 200 82 mD8 = true := by kernel_rfl
theorem mD8_ok {ρ : Env} {slow : CF} (hs : CfOK Tryz.prog ρ 82 slow) : CfOK Tryz.prog ρ 82 (memoC mD8 slow) := memo_ok Tryz.T_ok Tryz.F_ok (fun _ => brC_ok mixed Tryz.T_ok) (fun _ => ntOf_ok natOK) mD8_run hs
end Go.Proofs.YtkjdlganghbgaaaGreatDoor
