/- Parts of the run, told once: k4a. -/
import Derived.Test.YtfmjhleccnmhkaaGreatGO
namespace Go.Proofs.YtfmjhleccnmhkaaGreat
open Go.Ex Go.Proofs
set_option maxRecDepth 1000000

noncomputable def k4a : Memo := ⟨(.cons (.ptr (q 15538) 0) (.cons (z5 2) (.cons z3 (.cons (z5 3) (.cons .nslc .nil))))),
  [(q 15538, Gob103), (q 25413, Gob104), (q 25412, Gob105), (q 25411, .map .nil 0), (q 25410, .map (.cons (z5 129) (z4 Gm17) 0 .nil) 1), (q 24023, .map .nil 0), (q 24022, Gob106), (q 24021, Gob107), (q 15531, Gob86), (q 14459, Gob108), (q 14458, Gob109), (q 14461, Gob110), (q 14457, Gob89), (q 15533, Gob111), (q 15532, Gob61), (q 15585, Gob7), (q 16147, Gob8), (q 15835, Gob112), (q 18616, Gob10), (q 15587, Gob113), (q 16303, Gob12), (q 15991, Gob13), (q 16225, Gob14), (q 15913, Gob15), (q 15757, Gob16), (q 18614, Gob17), (q 16069, Gob18), (q 24019, rowOf 0 .nil 252 (some zh))],
  q 26383, z3,
  [(q 15538, Gob103), (q 25413, Gob104), (q 25412, Gob105), (q 25411, .map .nil 0), (q 25410, Gob114), (q 24023, .map .nil 0), (q 24022, Gob106), (q 24021, Gob107), (q 15531, Gob86), (q 14459, Gob108), (q 14458, Gob109), (q 14461, Gob110), (q 14457, Gob89), (q 15533, Gob115), (q 15532, Gob61), (q 15585, Gob7), (q 16147, Gob8), (q 15835, Gob112), (q 18616, Gob10), (q 15587, Gob113), (q 16303, Gob12), (q 15991, Gob13), (q 16225, Gob14), (q 15913, Gob15), (q 15757, Gob16), (q 18614, Gob17), (q 16069, Gob18), (q 24019, rowOf 0 .nil 252 (some zh))],
  q 26598⟩
theorem k4a_run : memoRun Tryz.T Tryz.F (brC Tryz.T) (ntOf natL) 20000 200 27 k4a = true := by kernel_rfl
theorem k4a_ok {ρ : Env} {slow : CF} (hs : CfOK Tryz.prog ρ 27 slow) : CfOK Tryz.prog ρ 27 (memoC k4a slow) := memo_ok Tryz.T_ok Tryz.F_ok (fun _ => brC_ok mixed Tryz.T_ok) (fun _ => ntOf_ok natOK) k4a_run hs
end Go.Proofs.YtfmjhleccnmhkaaGreat
