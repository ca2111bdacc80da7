/- Parts of the run, told once: mD21. -/
import Derived.Test.YtkjdlganghbgaaaGreatDoorDO
namespace Go.Proofs.YtkjdlganghbgaaaGreatDoor
open Go.Ex Go.Proofs
set_option maxRecDepth 1000000

noncomputable def mD21 : Memo := ⟨(.cons (.ptr (q 9747) 0) (.cons (.agg (.cons (.int .i64 256) (.cons (.int .i64 128) (.cons (.int .i64 8) (.cons (.int .i64 1) (.cons (.int .i64 129) (.cons (.int .i64 1) (.cons (.int .i64 130) (.cons (.int .i64 4) (.cons (.int .i64 134) .nil)))))))))) .nil)),
  [(q 9747, Dob105), (q 9746, .big 256 1 (.cons (.bool false) .nil) (trL []) 4 none), (q 9749, Dob98), (q 9745, Dob99)],
  q 9772, (.tup (.cons .nslc (.cons (.int .i64 0) .nil))),
  [(q 9747, Dob105), (q 9746, .big 256 1 (.cons (.bool false) .nil) (trL []) 4 none), (q 9749, Dob98), (q 9745, Dob99)],
  q 9800⟩
theorem mD21_run : memoRun Tryz.T Tryz.F (brC Tryz.T) (ntOf natL) 20000 200 81 mD21 = true := by kernel_rfl
theorem mD21_ok {ρ : Env} {slow : CF} (hs : CfOK Tryz.prog ρ 81 slow) : CfOK Tryz.prog ρ 81 (memoC mD21 slow) := memo_ok Tryz.T_ok Tryz.F_ok (fun _ => brC_ok mixed Tryz.T_ok) (fun _ => ntOf_ok natOK) mD21_run hs
end Go.Proofs.YtkjdlganghbgaaaGreatDoor
namespace Go.Proofs.YtkjdlganghbgaaaGreatDoor
open Go.Ex Go.Proofs
set_option maxRecDepth 1000000

noncomputable def mD22 : Memo := ⟨(.cons (.agg (.cons (.int .i64 256) (.cons (.int .i64 128) (.cons (.int .i64 8) (.cons (.int .i64 1) (.cons (.int .i64 129) (.cons (.int .i64 1) (.cons (.int .i64 130) (.cons (.int .i64 4) (.cons (.int .i64 134) .nil)))))))))) (.cons (.fn 77 (.cons (.ptr (q 9747) 0) .nil) .nil) .nil)),
  [(q 9747, Dob105), (q 9746, .big 256 1 (.cons (.bool false) .nil) (trL []) 4 none), (q 9749, Dob98), (q 9745, Dob99)],
  q 9800, .nslc,
  [(q 9747, Dob105), (q 9746, .big 256 1 (.cons (.bool false) .nil) (trL []) 4 none), (q 9749, Dob98), (q 9745, Dob99)],
  q 10163⟩
theorem mD22_run : memoRun Tryz.T Tryz.F (brC Tryz.T) (ntOf natL) 20000 200 82 mD22 = true := by kernel_rfl
theorem mD22_ok {ρ : Env} {slow : CF} (hs : CfOK Tryz.prog ρ 82 slow) : CfOK Tryz.prog ρ 82 (memoC mD22 slow) := memo_ok Tryz.T_ok Tryz.F_ok (fun _ => brC_ok mixed Tryz.T_ok) (fun _ => ntOf_ok natOK) mD22_run hs
end Go.Proofs.YtkjdlganghbgaaaGreatDoor
