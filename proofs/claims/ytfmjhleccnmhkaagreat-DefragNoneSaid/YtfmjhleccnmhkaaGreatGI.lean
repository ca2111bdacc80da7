/- Parts of the run, told once: k0, k2. -/
import Derived.Test.YtfmjhleccnmhkaaGreatGO
namespace Go.Proofs.YtfmjhleccnmhkaaGreat
open Go.Ex Go.Proofs
set_option maxRecDepth 1000000

noncomputable def k0 : Memo := ⟨(.cons (.ptr (q 15538) 0) (.cons z3 (.cons (.agg (.cons (.int .u8 0) (.cons (.int .u8 0) (.cons (.int .u16 0) (.cons (.int .u16 0) .nil))))) .nil))),
  [(q 15538, Gob54), (q 18840, Gob55), (q 18839, .map .nil 0), (q 18838, .map .nil 0), (q 18837, .map .nil 0), (q 18835, .map .nil 0), (q 18834, .map .nil 0), (q 18833, .map .nil 0), (q 15531, Gob56), (q 14459, Gob57), (q 14458, .big 512 1 (.cons z1 .nil) (trA 512 z1 []) 4 none), (q 14461, Gob58), (q 14457, Gob59), (q 15533, Gob60), (q 15532, Gob61), (q 15585, Gob7), (q 16147, Gob8), (q 15835, Gob42), (q 18616, Gob10), (q 15587, Gob62), (q 16303, Gob12), (q 15991, Gob13), (q 16225, Gob14), (q 15913, Gob15), (q 15757, Gob16), (q 18614, Gob63), (q 16069, Gob18), (q 18831, rowOf 0 .nil 252 (some zh))],
  q 18841, z2,
  [(q 15538, Gob65), (q 20578, Gob66), (q 20577, .map .nil 0), (q 20576, .map .nil 0), (q 20575, .map .nil 0), (q 18835, .map .nil 0), (q 18834, .map .nil 0), (q 18833, Gob67), (q 15531, Gob56), (q 14459, Gob68), (q 14458, .big 512 1 (.cons z1 .nil) (trA 512 z1 [(138,z2)]) 4 none), (q 14461, Gob69), (q 14457, Gob59), (q 15533, Gob70), (q 15532, Gob61), (q 15585, Gob7), (q 16147, Gob8), (q 15835, Gob71), (q 18616, Gob10), (q 15587, Gob62), (q 16303, Gob12), (q 15991, Gob13), (q 16225, Gob14), (q 15913, Gob15), (q 15757, Gob16), (q 18614, Gob72), (q 16069, Gob18), (q 18831, rowOf 0 .nil 252 (some zh)), (q 18840, Gob55), (q 18839, .map .nil 0), (q 18838, .map .nil 0), (q 18837, Gob73)],
  q 20579⟩
theorem k0_run : memoRun Tryz.T Tryz.F (brC Tryz.T) (ntOf natL) 20000 200 120 k0 = true := by kernel_rfl
theorem k0_ok {ρ : Env} {slow : CF} (hs : CfOK Tryz.prog ρ 120 slow) : CfOK Tryz.prog ρ 120 (memoC k0 slow) := memo_ok Tryz.T_ok Tryz.F_ok (fun _ => brC_ok mixed Tryz.T_ok) (fun _ => ntOf_ok natOK) k0_run hs
noncomputable def k2 : Memo := ⟨(.cons (.ptr (q 15538) 0) (.cons (z5 2) (.cons (.agg (.cons (.int .u8 0) (.cons (.int .u8 0) (.cons (.int .u16 0) (.cons (.int .u16 0) .nil))))) .nil))),
  [(q 15538, Gob74), (q 21975, Gob75), (q 21974, .map .nil 0), (q 21973, .map .nil 0), (q 21972, .map .nil 0), (q 18835, .map .nil 0), (q 18834, Gob76), (q 18833, Gob77), (q 15531, Gob56), (q 14459, Gob78), (q 14458, Gob79), (q 14461, Gob80), (q 14457, Gob59), (q 15533, Gob81), (q 15532, Gob61), (q 15585, Gob7), (q 16147, Gob8), (q 15835, Gob82), (q 18616, Gob10), (q 15587, Gob83), (q 16303, Gob12), (q 15991, Gob13), (q 16225, Gob14), (q 15913, Gob15), (q 15757, Gob16), (q 18614, Gob72), (q 16069, Gob18), (q 18831, rowOf 0 .nil 252 (some zh))],
  q 21976, z2,
  [(q 15538, Gob84), (q 24028, Gob85), (q 24027, .map .nil 0), (q 24026, .map .nil 0), (q 24025, .map .nil 0), (q 24023, .map .nil 0), (q 24022, .map .nil 0), (q 24021, .map .nil 0), (q 15531, Gob86), (q 14459, Gob87), (q 14458, .big 512 1 (.cons z1 .nil) (trA 512 z1 []) 4 none), (q 14461, Gob88), (q 14457, Gob89), (q 15533, Gob90), (q 15532, Gob61), (q 15585, Gob7), (q 16147, Gob8), (q 15835, Gob91), (q 18616, Gob10), (q 15587, Gob92), (q 16303, Gob12), (q 15991, Gob13), (q 16225, Gob14), (q 15913, Gob15), (q 15757, Gob16), (q 18614, Gob17), (q 16069, Gob18), (q 24019, rowOf 0 .nil 252 (some zh)), (q 21975, Gob75), (q 21974, .map .nil 0), (q 21973, .map .nil 0), (q 21972, Gob93), (q 18835, .map .nil 0), (q 18834, Gob76), (q 18833, Gob77)],
  q 24029⟩
theorem k2_run : memoRun Tryz.T Tryz.F (brC Tryz.T) (ntOf natL) 20000 200 120 k2 = true := by kernel_rfl
theorem k2_ok {ρ : Env} {slow : CF} (hs : CfOK Tryz.prog ρ 120 slow) : CfOK Tryz.prog ρ 120 (memoC k2 slow) := memo_ok Tryz.T_ok Tryz.F_ok (fun _ => brC_ok mixed Tryz.T_ok) (fun _ => ntOf_ok natOK) k2_run hs
end Go.Proofs.YtfmjhleccnmhkaaGreat
