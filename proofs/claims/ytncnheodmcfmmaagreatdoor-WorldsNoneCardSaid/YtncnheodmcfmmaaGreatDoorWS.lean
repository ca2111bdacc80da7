/- Parts of the run, told once: mW17. -/
import Derived.Test.YtncnheodmcfmmaaGreatDoorWO
import Derived.Test.YtncnheodmcfmmaaGreatDoorWR
namespace Go.Proofs.YtncnheodmcfmmaaGreatDoor
open Go.Ex Go.Proofs
set_option maxRecDepth 1000000

noncomputable def natS : List (FuncId × CF) := (59, (memoC mW16 (fnC Tryz.T Tryz.F 59))) :: natL
theorem natS_ok {ρ : Env} : ∀ x ∈ natS, CfOK Tryz.prog ρ x.1 x.2 := (cons_ok (mW16_ok (fnw (by decide +kernel))) natOK)
noncomputable def mW17 : Memo := ⟨(.cons (.ptr (q 2407) 0) (.cons (.agg (.cons (.int .i64 13) (.cons (.str 2 26159) (.cons (.str 0 0) (.cons (.int .i64 0) (.cons (.int .i64 0) (.cons (.str 0 0) (.cons (.bool false) (.cons (.bool false) (.cons (.bool true) (.cons (.int .i64 0) (.cons .nslc .nil)))))))))))) .nil)),
  [(q 2407, Wob102), (q 3402, Wob37), (q 3401, Wob70), (q 3022, Wob64), (q 5712, .map .nil 0), (q 5711, .map (.cons (.int .i64 135) (.str 128 1684234849) 0 .nil) 1), (q 5710, .map (.cons (.int .i64 130) (.str 0 0) 0 .nil) 1), (q 3015, Wob60), (q 6, Wob71), (q 5, Wob72), (q 8, Wob73), (q 4, Wob63), (q 3017, Wob74), (q 3884, Wob54), (q 3038, Wob75), (q 3620, Wob68), (q 3882, Wob76), (q 3567, Wob77), (q 3286, Wob47), (q 3207, Wob48), (q 3128, Wob49), (q 3016, Wob50)],
  q 6203, (.tup (.cons (.agg (.cons (.int .i64 0) (.cons (.int .i64 0) (.cons (.str 0 0) (.cons .nslc (.cons (.int .i64 1) (.cons (.int .i64 4) (.cons (.int .i64 1) (.cons (.bool false) (.cons .nslc (.cons (.bool false) .nil))))))))))) (.cons (.int .i64 0) .nil))),
  [(q 2407, Wob103), (q 8373, Wob104), (q 8372, Wob38), (q 7934, Wob96), (q 7933, .map .nil 0), (q 7932, .map .nil 0), (q 7931, .map .nil 0), (q 7927, Wob97), (q 7275, Wob93), (q 7274, Wob3), (q 7277, Wob94), (q 7273, Wob95), (q 7929, Wob98), (q 8211, Wob99), (q 7950, Wob100), (q 8130, Wob18), (q 8209, Wob19), (q 8051, Wob20), (q 7928, Wob101), (q 3402, Wob37), (q 3401, Wob70), (q 3022, Wob64), (q 5712, .map .nil 0), (q 5711, .map (.cons (.int .i64 135) (.str 128 1684234849) 0 .nil) 1), (q 5710, .map (.cons (.int .i64 130) (.str 0 0) 0 .nil) 1), (q 3015, Wob60), (q 6, Wob105), (q 5, Wob72), (q 8, Wob73), (q 4, Wob63), (q 3017, Wob106), (q 3884, Wob54), (q 3038, Wob107), (q 3620, Wob108), (q 3882, Wob76), (q 3567, Wob109), (q 3286, Wob47), (q 3207, Wob48), (q 3128, Wob49), (q 3016, Wob50)],
  q 8374⟩
theorem mW17_run : memoRun Tryz.T Tryz.F (brC Tryz.T) (ntOf natS) 20000 200 14 mW17 = true := by kernel_rfl
theorem mW17_ok {ρ : Env} {slow : CF} (hs : CfOK Tryz.prog ρ 14 slow) : CfOK Tryz.prog ρ 14 (memoC mW17 slow) := memo_ok Tryz.T_ok Tryz.F_ok (fun _ => brC_ok mixed Tryz.T_ok) (fun _ => ntOf_ok natS_ok) mW17_run hs
end Go.Proofs.YtncnheodmcfmmaaGreatDoor
