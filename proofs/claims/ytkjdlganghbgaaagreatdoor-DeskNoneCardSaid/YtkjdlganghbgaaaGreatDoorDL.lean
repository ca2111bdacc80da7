/- Parts of the run, told once: mD17. -/
import Derived.Test.YtkjdlganghbgaaaGreatDoorDO
namespace Go.Proofs.YtkjdlganghbgaaaGreatDoor
open Go.Ex Go.Proofs
set_option maxRecDepth 1000000

noncomputable def mD17 : Memo := ⟨(.cons (.ptr (q 7859) 0) (.cons (.agg (.cons (.int .i64 256) (.cons (.int .i64 128) (.cons (.int .i64 8) (.cons (.int .i64 1) (.cons (.int .i64 129) (.cons (.int .i64 1) (.cons (.int .i64 130) (.cons (.int .i64 4) (.cons (.int .i64 134) .nil)))))))))) .nil)),
  [(q 7859, Dob97), (q 7858, .big 256 1 (.cons (.bool false) .nil) (trL []) 4 none), (q 7861, Dob98), (q 7857, Dob99)],
  q 7886, (.tup (.cons .nslc (.cons (.int .i64 0) .nil))),
  [(q 7859, Dob97), (q 7858, .big 256 1 (.cons (.bool false) .nil) (trL []) 4 none), (q 7861, Dob98), (q 7857, Dob99)],
  q 7914⟩
theorem mD17_run : memoRun Tryz.T Tryz.F (brC Tryz.T) (ntOf natL) 20000 200 81 mD17 = true := by kernel_rfl
theorem mD17_ok {ρ : Env} {slow : CF} (hs : CfOK Tryz.prog ρ 81 slow) : CfOK Tryz.prog ρ 81 (memoC mD17 slow) := memo_ok Tryz.T_ok Tryz.F_ok (fun _ => brC_ok mixed Tryz.T_ok) (fun _ => ntOf_ok natOK) mD17_run hs
end Go.Proofs.YtkjdlganghbgaaaGreatDoor
namespace Go.Proofs.YtkjdlganghbgaaaGreatDoor
open Go.Ex Go.Proofs
set_option maxRecDepth 1000000

noncomputable def mD18 : Memo := ⟨(.cons (.agg (.cons (.int .i64 256) (.cons (.int .i64 128) (.cons (.int .i64 8) (.cons (.int .i64 1) (.cons (.int .i64 129) (.cons (.int .i64 1) (.cons (.int .i64 130) (.cons (.int .i64 4) (.cons (.int .i64 134) .nil)))))))))) (.cons (.fn 77 (.cons (.ptr (q 7859) 0) .nil) .nil) .nil)),
  [(q 7859, Dob97), (q 7858, .big 256 1 (.cons (.bool false) .nil) (trL []) 4 none), (q 7861, Dob98), (q 7857, Dob99)],
  q 7914, .nslc,
  [(q 7859, Dob97), (q 7858, .big 256 1 (.cons (.bool false) .nil) (trL []) 4 none), (q 7861, Dob98), (q 7857, Dob99)],
  q 8277⟩
theorem mD18_run : memoRun Tryz.T Tryz.F (brC Tryz.T) (ntOf natL) 20000 200 82 mD18 = true := by kernel_rfl
theorem mD18_ok {ρ : Env} {slow : CF} (hs : CfOK Tryz.prog ρ 82 slow) : CfOK Tryz.prog ρ 82 (memoC mD18 slow) := memo_ok Tryz.T_ok Tryz.F_ok (fun _ => brC_ok mixed Tryz.T_ok) (fun _ => ntOf_ok natOK) mD18_run hs
end Go.Proofs.YtkjdlganghbgaaaGreatDoor
