/- Parts of the run, told once: mW25, mW27. -/
import Derived.Test.YtncnheodmcfmmaaGreatDoorWO
namespace Go.Proofs.YtncnheodmcfmmaaGreatDoor
open Go.Ex Go.Proofs
set_option maxRecDepth 1000000

noncomputable def mW25 : Memo := ⟨(.cons (.ptr (q 3402) 0) (.cons (.agg (.cons (.int .i64 4) (.cons (.str 0 0) (.cons (.str 0 0) (.cons (.int .i64 0) (.cons (.int .i64 0) (.cons (.str 1 100) (.cons (.bool false) .nil)))))))) .nil)),
  [(q 3402, Wob37), (q 3401, Wob51), (q 3022, Wob64), (q 5712, .map .nil 0), (q 5711, .map .nil 0), (q 5710, .map .nil 0), (q 3015, Wob60), (q 6, Wob61), (q 5, Wob3), (q 8, Wob62), (q 4, Wob63), (q 3017, Wob65), (q 3884, Wob84), (q 3882, Wob67), (q 3038, Wob85), (q 3620, Wob83), (q 3567, Wob57), (q 3286, Wob47), (q 3207, Wob48), (q 3128, Wob49), (q 3016, Wob50)],
  q 5722, (.agg (.cons (.int .i64 0) (.cons (.int .i64 1) (.cons (.str 0 0) (.cons .nslc (.cons (.int .i64 0) (.cons (.int .i64 0) (.cons (.int .i64 0) (.cons (.bool false) (.cons .nslc (.cons (.bool false) .nil))))))))))),
  [(q 3402, Wob37), (q 3401, Wob70), (q 3022, Wob64), (q 5712, .map .nil 0), (q 5711, .map (.cons (.int .i64 135) (.str 128 1684234849) 0 .nil) 1), (q 5710, .map (.cons (.int .i64 130) (.str 0 0) 0 .nil) 1), (q 3015, Wob60), (q 6, Wob71), (q 5, Wob72), (q 8, Wob73), (q 4, Wob63), (q 3017, Wob74), (q 3884, Wob81), (q 3038, Wob75), (q 3882, Wob82), (q 3620, Wob83), (q 3567, Wob77), (q 3286, Wob47), (q 3207, Wob48), (q 3128, Wob49), (q 3016, Wob50)],
  q 6198⟩
theorem mW25_run : memoRun Tryz.T Tryz.F (brC Tryz.T) (ntOf natL) 20000 200 31 mW25 = true := by kernel_rfl
theorem mW25_ok {ρ : Env} {slow : CF} (hs : CfOK Tryz.prog ρ 31 slow) : CfOK Tryz.prog ρ 31 (memoC mW25 slow) := memo_ok Tryz.T_ok Tryz.F_ok (fun _ => brC_ok mixed Tryz.T_ok) (fun _ => ntOf_ok natOK) mW25_run hs
noncomputable def mW27 : Memo := ⟨(.cons (.ptr (q 3402) 0) (.cons (.agg (.cons (.int .i64 4) (.cons (.str 0 0) (.cons (.str 0 0) (.cons (.int .i64 0) (.cons (.int .i64 0) (.cons (.str 1 100) (.cons (.bool false) .nil)))))))) .nil)),
  [(q 3402, Wob37), (q 3401, Wob51), (q 3022, Wob64), (q 5712, .map .nil 0), (q 5711, .map .nil 0), (q 5710, .map .nil 0), (q 3015, Wob60), (q 6, Wob61), (q 5, Wob3), (q 8, Wob62), (q 4, Wob63), (q 3017, Wob65), (q 3884, Wob81), (q 3038, Wob86), (q 3882, Wob80), (q 3620, Wob83), (q 3567, Wob57), (q 3286, Wob47), (q 3207, Wob48), (q 3128, Wob49), (q 3016, Wob50)],
  q 5722, (.agg (.cons (.int .i64 0) (.cons (.int .i64 1) (.cons (.str 0 0) (.cons .nslc (.cons (.int .i64 0) (.cons (.int .i64 0) (.cons (.int .i64 0) (.cons (.bool false) (.cons .nslc (.cons (.bool false) .nil))))))))))),
  [(q 3402, Wob37), (q 3401, Wob70), (q 3022, Wob64), (q 5712, .map .nil 0), (q 5711, .map (.cons (.int .i64 135) (.str 128 1684234849) 0 .nil) 1), (q 5710, .map (.cons (.int .i64 130) (.str 0 0) 0 .nil) 1), (q 3015, Wob60), (q 6, Wob71), (q 5, Wob72), (q 8, Wob73), (q 4, Wob63), (q 3017, Wob74), (q 3884, Wob81), (q 3038, Wob75), (q 3882, Wob82), (q 3620, Wob83), (q 3567, Wob77), (q 3286, Wob47), (q 3207, Wob48), (q 3128, Wob49), (q 3016, Wob50)],
  q 6198⟩
theorem mW27_run : memoRun Tryz.T Tryz.F (brC Tryz.T) (ntOf natL) 20000 200 31 mW27 = true := by kernel_rfl
theorem mW27_ok {ρ : Env} {slow : CF} (hs : CfOK Tryz.prog ρ 31 slow) : CfOK Tryz.prog ρ 31 (memoC mW27 slow) := memo_ok Tryz.T_ok Tryz.F_ok (fun _ => brC_ok mixed Tryz.T_ok) (fun _ => ntOf_ok natOK) mW27_run hs
end Go.Proofs.YtncnheodmcfmmaaGreatDoor
