/- Parts of the run, told once: mW20, mW21. -/
import Derived.Test.YtncnheodmcfmmaaGreatDoorWO
namespace Go.Proofs.YtncnheodmcfmmaaGreatDoor
open Go.Ex Go.Proofs
set_option maxRecDepth 1000000

noncomputable def mW20 : Memo := ⟨(.cons (.ptr (q 9452) 0) (.cons (.agg (.cons (.int .i64 256) (.cons (.int .i64 128) (.cons (.int .i64 8) (.cons (.int .i64 1) (.cons (.int .i64 129) (.cons (.int .i64 1) (.cons (.int .i64 130) (.cons (.int .i64 4) (.cons (.int .i64 134) .nil)))))))))) .nil)),
  [(q 9452, Wob117), (q 9451, .big 256 1 (.cons (.bool false) .nil) (trL []) 4 none), (q 9454, Wob118), (q 9450, Wob95)],
  q 9480, (.tup (.cons .nslc (.cons (.int .i64 0) .nil))),
  [(q 9452, Wob117), (q 9451, .big 256 1 (.cons (.bool false) .nil) (trL []) 4 none), (q 9454, Wob118), (q 9450, Wob95)],
  q 9508⟩
theorem mW20_run : memoRun Tryz.T Tryz.F (brC Tryz.T) (ntOf natL) 20000 200 141 mW20 = true := by kernel_rfl
theorem mW20_ok {ρ : Env} {slow : CF} (hs : CfOK Tryz.prog ρ 141 slow) : CfOK Tryz.prog ρ 141 (memoC mW20 slow) := memo_ok Tryz.T_ok Tryz.F_ok (fun _ => brC_ok mixed Tryz.T_ok) (fun _ => ntOf_ok natOK) mW20_run hs
noncomputable def mW21 : Memo := ⟨(.cons (.agg (.cons (.int .i64 256) (.cons (.int .i64 128) (.cons (.int .i64 8) (.cons (.int .i64 1) (.cons (.int .i64 129) (.cons (.int .i64 1) (.cons (.int .i64 130) (.cons (.int .i64 4) (.cons (.int .i64 134) .nil)))))))))) (.cons (.fn 144 (.cons (.ptr (q 9452) 0) .nil) .nil) .nil)),
  [(q 9452, Wob117), (q 9451, .big 256 1 (.cons (.bool false) .nil) (trL []) 4 none), (q 9454, Wob118), (q 9450, Wob95)],
  q 9508, .nslc,
  [(q 9452, Wob117), (q 9451, .big 256 1 (.cons (.bool false) .nil) (trL []) 4 none), (q 9454, Wob118), (q 9450, Wob95)],
  q 9941⟩
theorem mW21_run : memoRun Tryz.T Tryz.F (brC Tryz.T) (ntOf natL) 20000 200 143 mW21 = true := by kernel_rfl
theorem mW21_ok {ρ : Env} {slow : CF} (hs : CfOK Tryz.prog ρ 143 slow) : CfOK Tryz.prog ρ 143 (memoC mW21 slow) := memo_ok Tryz.T_ok Tryz.F_ok (fun _ => brC_ok mixed Tryz.T_ok) (fun _ => ntOf_ok natOK) mW21_run hs
end Go.Proofs.YtncnheodmcfmmaaGreatDoor
