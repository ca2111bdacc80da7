/- Parts of the run, told once: k1, k3, k4. -/
import Derived.Test.YtfmjhleccnmhkaaGreatGO
import Derived.Test.YtfmjhleccnmhkaaGreatGJ
import Derived.Test.YtfmjhleccnmhkaaGreatGM
import Derived.Test.YtfmjhleccnmhkaaGreatGP
namespace Go.Proofs.YtfmjhleccnmhkaaGreat
open Go.Ex Go.Proofs
set_option maxRecDepth 1000000

noncomputable def nK : List (FuncId × CF) := (27, (memoC k4a (fnC Tryz.T Tryz.F 27))) :: (8, (memoC k3a (memoC k1a (fnC Tryz.T Tryz.F 8)))) :: natL
theorem nK_ok {ρ : Env} : ∀ x ∈ nK, CfOK Tryz.prog ρ x.1 x.2 := (cons_ok (k4a_ok (fnw (by decide +kernel))) (cons_ok (k3a_ok (k1a_ok (fnw (by decide +kernel)))) natOK))
noncomputable def k1 : Memo := ⟨(.cons (.ptr (q 15538) 0) (.cons (z5 1) (.cons (.agg (.cons (.int .u8 1) (.cons (.int .u8 0) (.cons (.int .u16 0) (.cons (.int .u16 300) .nil))))) .nil))),
  [(q 15538, Gob65), (q 20578, Gob66), (q 20577, .map .nil 0), (q 20576, .map .nil 0), (q 20575, .map .nil 0), (q 18835, .map .nil 0), (q 18834, .map .nil 0), (q 18833, Gob67), (q 15531, Gob56), (q 14459, Gob68), (q 14458, .big 512 1 (.cons z1 .nil) (trA 512 z1 [(138,z2)]) 4 none), (q 14461, Gob69), (q 14457, Gob59), (q 15533, Gob70), (q 15532, Gob61), (q 15585, Gob7), (q 16147, Gob8), (q 15835, Gob71), (q 18616, Gob10), (q 15587, Gob62), (q 16303, Gob12), (q 15991, Gob13), (q 16225, Gob14), (q 15913, Gob15), (q 15757, Gob16), (q 18614, Gob72), (q 16069, Gob18), (q 18831, rowOf 0 .nil 252 (some zh))],
  q 20579, z2,
  [(q 15538, Gob74), (q 21975, Gob75), (q 21974, .map .nil 0), (q 21973, .map .nil 0), (q 21972, .map .nil 0), (q 18835, .map .nil 0), (q 18834, Gob76), (q 18833, Gob77), (q 15531, Gob56), (q 14459, Gob78), (q 14458, Gob79), (q 14461, Gob80), (q 14457, Gob59), (q 15533, Gob81), (q 15532, Gob61), (q 15585, Gob7), (q 16147, Gob8), (q 15835, Gob82), (q 18616, Gob10), (q 15587, Gob83), (q 16303, Gob12), (q 15991, Gob13), (q 16225, Gob14), (q 15913, Gob15), (q 15757, Gob16), (q 18614, Gob72), (q 16069, Gob18), (q 18831, rowOf 0 .nil 252 (some zh)), (q 20578, Gob66), (q 20577, .map .nil 0), (q 20576, Gob94), (q 20575, Gob116)],
  q 21976⟩
theorem k1_run : memoRun Tryz.T Tryz.F (brC Tryz.T) (ntOf nK) 20000 200 120 k1 = true := by kernel_rfl
theorem k1_ok {ρ : Env} {slow : CF} (hs : CfOK Tryz.prog ρ 120 slow) : CfOK Tryz.prog ρ 120 (memoC k1 slow) := memo_ok Tryz.T_ok Tryz.F_ok (fun _ => brC_ok mixed Tryz.T_ok) (fun _ => ntOf_ok nK_ok) k1_run hs
noncomputable def k3 : Memo := ⟨(.cons (.ptr (q 15538) 0) (.cons (z5 3) (.cons (.agg (.cons (.int .u8 1) (.cons (.int .u8 1) (.cons (.int .u16 0) (.cons (.int .u16 200) .nil))))) .nil))),
  [(q 15538, Gob84), (q 24028, Gob85), (q 24027, .map .nil 0), (q 24026, .map .nil 0), (q 24025, .map .nil 0), (q 24023, .map .nil 0), (q 24022, .map .nil 0), (q 24021, .map .nil 0), (q 15531, Gob86), (q 14459, Gob87), (q 14458, .big 512 1 (.cons z1 .nil) (trA 512 z1 []) 4 none), (q 14461, Gob88), (q 14457, Gob89), (q 15533, Gob90), (q 15532, Gob61), (q 15585, Gob7), (q 16147, Gob8), (q 15835, Gob91), (q 18616, Gob10), (q 15587, Gob92), (q 16303, Gob12), (q 15991, Gob13), (q 16225, Gob14), (q 15913, Gob15), (q 15757, Gob16), (q 18614, Gob17), (q 16069, Gob18), (q 24019, rowOf 0 .nil 252 (some zh))],
  q 24029, z2,
  [(q 15538, Gob103), (q 25413, Gob104), (q 25412, .map .nil 0), (q 25411, .map .nil 0), (q 25410, .map .nil 0), (q 24023, .map .nil 0), (q 24022, Gob106), (q 24021, Gob107), (q 15531, Gob86), (q 14459, Gob108), (q 14458, Gob109), (q 14461, Gob110), (q 14457, Gob89), (q 15533, Gob117), (q 15532, Gob61), (q 15585, Gob7), (q 16147, Gob8), (q 15835, Gob112), (q 18616, Gob10), (q 15587, Gob113), (q 16303, Gob12), (q 15991, Gob13), (q 16225, Gob14), (q 15913, Gob15), (q 15757, Gob16), (q 18614, Gob17), (q 16069, Gob18), (q 24019, rowOf 0 .nil 252 (some zh)), (q 24028, Gob85), (q 24027, .map .nil 0), (q 24026, .map (.cons (z5 143) z0 0 (.cons (z5 144) z0 1 .nil)) 2), (q 24025, Gob118)],
  q 25414⟩
theorem k3_run : memoRun Tryz.T Tryz.F (brC Tryz.T) (ntOf nK) 20000 200 120 k3 = true := by kernel_rfl
theorem k3_ok {ρ : Env} {slow : CF} (hs : CfOK Tryz.prog ρ 120 slow) : CfOK Tryz.prog ρ 120 (memoC k3 slow) := memo_ok Tryz.T_ok Tryz.F_ok (fun _ => brC_ok mixed Tryz.T_ok) (fun _ => ntOf_ok nK_ok) k3_run hs
noncomputable def k4 : Memo := ⟨(.cons (.ptr (q 15538) 0) (.cons (z5 4) (.cons (.agg (.cons (.int .u8 3) (.cons (.int .u8 0) (.cons (.int .u16 0) (.cons (.int .u16 0) .nil))))) .nil))),
  [(q 15538, Gob103), (q 25413, Gob104), (q 25412, .map .nil 0), (q 25411, .map .nil 0), (q 25410, .map .nil 0), (q 24023, .map .nil 0), (q 24022, Gob106), (q 24021, Gob107), (q 15531, Gob86), (q 14459, Gob108), (q 14458, Gob109), (q 14461, Gob110), (q 14457, Gob89), (q 15533, Gob117), (q 15532, Gob61), (q 15585, Gob7), (q 16147, Gob8), (q 15835, Gob112), (q 18616, Gob10), (q 15587, Gob113), (q 16303, Gob12), (q 15991, Gob13), (q 16225, Gob14), (q 15913, Gob15), (q 15757, Gob16), (q 18614, Gob17), (q 16069, Gob18), (q 24019, rowOf 0 .nil 252 (some zh))],
  q 25414, z2,
  [(q 15538, Gob119), (q 26694, Gob120), (q 26693, .map .nil 0), (q 26692, .map .nil 0), (q 26691, .map .nil 0), (q 24023, Gob121), (q 24022, Gob106), (q 24021, Gob107), (q 15531, Gob86), (q 14459, Gob108), (q 14458, Gob109), (q 14461, Gob110), (q 14457, Gob89), (q 15533, Gob122), (q 15532, Gob61), (q 15585, Gob7), (q 16147, Gob8), (q 15835, Gob123), (q 18616, Gob10), (q 15587, Gob124), (q 16303, Gob12), (q 15991, Gob13), (q 16225, Gob14), (q 15913, Gob15), (q 15757, Gob16), (q 18614, Gob17), (q 16069, Gob18), (q 24019, rowOf 0 .nil 252 (some zh)), (q 25413, Gob104), (q 25412, Gob105), (q 25411, .map .nil 0), (q 25410, Gob125)],
  q 26695⟩
theorem k4_run : memoRun Tryz.T Tryz.F (brC Tryz.T) (ntOf nK) 20000 200 120 k4 = true := by kernel_rfl
theorem k4_ok {ρ : Env} {slow : CF} (hs : CfOK Tryz.prog ρ 120 slow) : CfOK Tryz.prog ρ 120 (memoC k4 slow) := memo_ok Tryz.T_ok Tryz.F_ok (fun _ => brC_ok mixed Tryz.T_ok) (fun _ => ntOf_ok nK_ok) k4_run hs
end Go.Proofs.YtfmjhleccnmhkaaGreat
