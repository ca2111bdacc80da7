/- Parts of the run, told once: mW10. -/
import Derived.Test.YtncnheodmcfmmaaGreatDoorWO
namespace Go.Proofs.YtncnheodmcfmmaaGreatDoor
open Go.Ex Go.Proofs
set_option maxRecDepth 1000000

noncomputable def mW10 : Memo := ⟨(.cons (.ptr (q 3402) 0) (.cons (.agg (.cons (.int .i64 4) (.cons (.str 0 0) (.cons (.str 0 0) (.cons (.int .i64 0) (.cons (.int .i64 0) (.cons (.str 3 6513249) (.cons (.bool false) .nil)))))))) .nil)),
  [(q 3402, Wob37), (q 3401, Wob39), (q 3022, Wob31), (q 3021, .map .nil 0), (q 3020, .map .nil 0), (q 3019, Wob40), (q 3015, Wob32), (q 6, Wob28), (q 5, Wob3), (q 8, Wob29), (q 4, Wob30), (q 3017, Wob41), (q 3884, Wob42), (q 3038, Wob43), (q 3620, Wob44), (q 3567, Wob45), (q 3882, Wob46), (q 3286, Wob47), (q 3207, Wob48), (q 3128, Wob49), (q 3016, Wob50)],
  q 4707, (.agg (.cons (.int .i64 0) (.cons (.int .i64 3) (.cons (.str 0 0) (.cons .nslc (.cons (.int .i64 0) (.cons (.int .i64 0) (.cons (.int .i64 0) (.cons (.bool false) (.cons .nslc (.cons (.bool false) .nil))))))))))),
  [(q 3402, Wob37), (q 3401, Wob51), (q 3022, Wob31), (q 3021, .map .nil 0), (q 3020, .map (.cons (.int .i64 135) (.str 128 6513249) 0 .nil) 1), (q 3019, Wob52), (q 3015, Wob32), (q 6, Wob28), (q 5, Wob3), (q 8, Wob29), (q 4, Wob30), (q 3017, Wob53), (q 3884, Wob54), (q 3038, Wob55), (q 3620, Wob44), (q 3882, Wob56), (q 3567, Wob57), (q 3286, Wob47), (q 3207, Wob48), (q 3128, Wob49), (q 3016, Wob50)],
  q 5497⟩
theorem mW10_run : memoRun Tryz.T Tryz.F (brC Tryz.T) (ntOf natL) 20000 200 31 mW10 = true := by kernel_rfl
theorem mW10_ok {ρ : Env} {slow : CF} (hs : CfOK Tryz.prog ρ 31 slow) : CfOK Tryz.prog ρ 31 (memoC mW10 slow) := memo_ok Tryz.T_ok Tryz.F_ok (fun _ => brC_ok mixed Tryz.T_ok) (fun _ => ntOf_ok natOK) mW10_run hs
end Go.Proofs.YtncnheodmcfmmaaGreatDoor
