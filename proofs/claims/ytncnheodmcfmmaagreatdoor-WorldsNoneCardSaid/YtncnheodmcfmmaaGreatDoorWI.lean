/- Parts of the run, told once: mW9. -/
import Derived.Test.YtncnheodmcfmmaaGreatDoorWO
namespace Go.Proofs.YtncnheodmcfmmaaGreatDoor
open Go.Ex Go.Proofs
set_option maxRecDepth 1000000

noncomputable def mW9 : Memo := ⟨(.cons (.ptr (q 3402) 0) (.cons (.agg (.cons (.int .i64 1) (.cons (.str 2 26159) (.cons (.str 0 0) (.cons (.int .i64 0) (.cons (.int .i64 1) (.cons (.str 0 0) (.cons (.bool false) .nil)))))))) .nil)),
  [(q 3402, Wob37), (q 3401, Wob38), (q 3022, Wob31), (q 3021, .map .nil 0), (q 3020, .map .nil 0), (q 3019, .map .nil 0), (q 3015, Wob32), (q 6, Wob28), (q 5, Wob3), (q 8, Wob29), (q 4, Wob30), (q 3017, Wob33), (q 3288, Wob34), (q 3038, Wob35), (q 3207, Wob18), (q 3286, Wob19), (q 3128, Wob20), (q 3016, Wob36)],
  q 3409, (.agg (.cons (.int .i64 0) (.cons (.int .i64 0) (.cons (.str 0 0) (.cons .nslc (.cons (.int .i64 0) (.cons (.int .i64 0) (.cons (.int .i64 0) (.cons (.bool false) (.cons .nslc (.cons (.bool false) .nil))))))))))),
  [(q 3402, Wob37), (q 3401, Wob39), (q 3022, Wob31), (q 3021, .map .nil 0), (q 3020, .map .nil 0), (q 3019, Wob40), (q 3015, Wob32), (q 6, Wob28), (q 5, Wob3), (q 8, Wob29), (q 4, Wob30), (q 3017, Wob41), (q 3884, Wob42), (q 3038, Wob43), (q 3620, Wob44), (q 3567, Wob45), (q 3882, Wob46), (q 3286, Wob47), (q 3207, Wob48), (q 3128, Wob49), (q 3016, Wob50)],
  q 4699⟩
theorem mW9_run : memoRun Tryz.T Tryz.F (brC Tryz.T) (ntOf natL) 20000 200 28 mW9 = true := by kernel_rfl
theorem mW9_ok {ρ : Env} {slow : CF} (hs : CfOK Tryz.prog ρ 28 slow) : CfOK Tryz.prog ρ 28 (memoC mW9 slow) := memo_ok Tryz.T_ok Tryz.F_ok (fun _ => brC_ok mixed Tryz.T_ok) (fun _ => ntOf_ok natOK) mW9_run hs
end Go.Proofs.YtncnheodmcfmmaaGreatDoor
