/- Parts of the run, told once: mW18, mW19. -/
import Derived.Test.YtncnheodmcfmmaaGreatDoorWO
namespace Go.Proofs.YtncnheodmcfmmaaGreatDoor
open Go.Ex Go.Proofs
set_option maxRecDepth 1000000

noncomputable def mW18 : Memo := ⟨(.cons (.ptr (q 8373) 0) (.cons (.agg (.cons (.int .i64 13) (.cons (.str 2 26159) (.cons (.str 0 0) (.cons (.int .i64 0) (.cons (.int .i64 0) (.cons (.str 0 0) (.cons (.bool false) .nil)))))))) .nil)),
  [(q 8373, Wob104), (q 8372, Wob38), (q 7934, Wob96), (q 7933, .map .nil 0), (q 7932, .map .nil 0), (q 7931, .map .nil 0), (q 7927, Wob97), (q 7275, Wob93), (q 7274, Wob3), (q 7277, Wob94), (q 7273, Wob95), (q 7929, Wob98), (q 8211, Wob99), (q 7950, Wob100), (q 8130, Wob18), (q 8209, Wob19), (q 8051, Wob20), (q 7928, Wob101)],
  q 8381, (.agg (.cons (.int .i64 0) (.cons (.int .i64 0) (.cons (.str 0 0) (.cons .nslc (.cons (.int .i64 1) (.cons (.int .i64 3) (.cons (.int .i64 1) (.cons (.bool false) (.cons .nslc (.cons (.bool false) .nil))))))))))),
  [(q 8373, Wob104), (q 8372, Wob38), (q 7934, Wob96), (q 7933, .map .nil 0), (q 7932, .map .nil 0), (q 7931, .map .nil 0), (q 7927, Wob97), (q 7275, Wob93), (q 7274, Wob3), (q 7277, Wob94), (q 7273, Wob95), (q 7929, Wob111), (q 8591, Wob112), (q 8589, Wob113), (q 8536, Wob114), (q 7950, Wob115), (q 8130, Wob18), (q 8209, Wob19), (q 8051, Wob20), (q 7928, Wob116)],
  q 8677⟩
theorem mW18_run : memoRun Tryz.T Tryz.F (brC Tryz.T) (ntOf natL) 20000 200 40 mW18 = true := by kernel_rfl
theorem mW18_ok {ρ : Env} {slow : CF} (hs : CfOK Tryz.prog ρ 40 slow) : CfOK Tryz.prog ρ 40 (memoC mW18 slow) := memo_ok Tryz.T_ok Tryz.F_ok (fun _ => brC_ok mixed Tryz.T_ok) (fun _ => ntOf_ok natOK) mW18_run hs
noncomputable def mW19 : Memo := ⟨(.cons (.ptr (q 2407) 0) (.cons .nslc .nil)),
  [(q 2407, Wob103), (q 8373, Wob104), (q 8372, Wob38), (q 7934, Wob96), (q 7933, .map .nil 0), (q 7932, .map .nil 0), (q 7931, .map .nil 0), (q 7927, Wob97), (q 7275, Wob93), (q 7274, Wob3), (q 7277, Wob94), (q 7273, Wob95), (q 7929, Wob111), (q 8591, Wob112), (q 8589, Wob113), (q 8536, Wob114), (q 7950, Wob115), (q 8130, Wob18), (q 8209, Wob19), (q 8051, Wob20), (q 7928, Wob116)],
  q 8679, (.str 32768 Wnum0),
  [(q 2407, Wob103), (q 8373, Wob104), (q 8372, Wob38), (q 7934, Wob96), (q 7933, .map .nil 0), (q 7932, .map .nil 0), (q 7931, .map .nil 0), (q 7927, Wob97), (q 7275, Wob93), (q 7274, Wob3), (q 7277, Wob94), (q 7273, Wob95), (q 7929, Wob111), (q 8591, Wob112), (q 8589, Wob113), (q 8536, Wob114), (q 7950, Wob115), (q 8130, Wob18), (q 8209, Wob19), (q 8051, Wob20), (q 7928, Wob116)],
  q 8939⟩
theorem mW19_run : memoRun Tryz.T Tryz.F (brC Tryz.T) (ntOf natL) 20000 200 9 mW19 = true := by kernel_rfl
theorem mW19_ok {ρ : Env} {slow : CF} (hs : CfOK Tryz.prog ρ 9 slow) : CfOK Tryz.prog ρ 9 (memoC mW19 slow) := memo_ok Tryz.T_ok Tryz.F_ok (fun _ => brC_ok mixed Tryz.T_ok) (fun _ => ntOf_ok natOK) mW19_run hs
end Go.Proofs.YtncnheodmcfmmaaGreatDoor
