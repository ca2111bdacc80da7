/- Parts of the run, told once: k5, k6, k8. -/
import Derived.Test.YtfmjhleccnmhkaaGreatGO
namespace Go.Proofs.YtfmjhleccnmhkaaGreat
open Go.Ex Go.Proofs
set_option maxRecDepth 1000000

noncomputable def k5 : Memo := ⟨(.cons (.ptr (q 15538) 0) .nil),
  [(q 15538, Gob119), (q 26694, Gob120), (q 26693, .map .nil 0), (q 26692, .map .nil 0), (q 26691, .map .nil 0), (q 24023, Gob121), (q 24022, Gob106), (q 24021, Gob107), (q 15531, Gob86), (q 14459, Gob108), (q 14458, Gob109), (q 14461, Gob110), (q 14457, Gob89), (q 15533, Gob122), (q 15532, Gob61), (q 15585, Gob7), (q 16147, Gob8), (q 15835, Gob123), (q 18616, Gob10), (q 15587, Gob124), (q 16303, Gob12), (q 15991, Gob13), (q 16225, Gob14), (q 15913, Gob15), (q 15757, Gob16), (q 18614, Gob17), (q 16069, Gob18), (q 24019, rowOf 0 .nil 252 (some zh))],
  q 26695, z3,
  [(q 15538, Gob126), (q 24023, Gob121), (q 24022, Gob106), (q 24021, Gob107), (q 15531, Gob86), (q 14459, Gob108), (q 14458, Gob109), (q 14461, Gob110), (q 14457, Gob89), (q 15533, Gob122), (q 15532, Gob61), (q 15585, Gob7), (q 16147, Gob8), (q 15835, Gob123), (q 18616, Gob10), (q 15587, Gob124), (q 16303, Gob12), (q 15991, Gob13), (q 16225, Gob14), (q 15913, Gob15), (q 15757, Gob16), (q 18614, Gob17), (q 16069, Gob18), (q 24019, rowOf 0 .nil 252 (some zh)), (q 26694, Gob120), (q 26693, .map .nil 0), (q 26692, .map .nil 0), (q 26691, .map .nil 0)],
  q 26708⟩
theorem k5_run : memoRun Tryz.T Tryz.F (brC Tryz.T) (ntOf natL) 20000 200 28 k5 = true := by kernel_rfl
theorem k5_ok {ρ : Env} {slow : CF} (hs : CfOK Tryz.prog ρ 28 slow) : CfOK Tryz.prog ρ 28 (memoC k5 slow) := memo_ok Tryz.T_ok Tryz.F_ok (fun _ => brC_ok mixed Tryz.T_ok) (fun _ => ntOf_ok natOK) k5_run hs
noncomputable def k6 : Memo := ⟨(.cons (.ptr (q 15538) 0) .nil),
  [(q 15538, Gob126), (q 24023, Gob121), (q 24022, Gob106), (q 24021, Gob107), (q 15531, Gob86), (q 14459, Gob108), (q 14458, Gob109), (q 14461, Gob110), (q 14457, Gob89), (q 15533, Gob122), (q 15532, Gob61), (q 15585, Gob7), (q 16147, Gob8), (q 15835, Gob123), (q 18616, Gob10), (q 15587, Gob124), (q 16303, Gob12), (q 15991, Gob13), (q 16225, Gob14), (q 15913, Gob15), (q 15757, Gob16), (q 18614, Gob17), (q 16069, Gob18), (q 24019, rowOf 0 .nil 252 (some zh))],
  q 26708, z3,
  [(q 15538, Gob127), (q 26902, .map .nil 0), (q 26901, .map .nil 0), (q 26900, .map .nil 0), (q 15531, Gob128), (q 14459, Gob129), (q 14458, .big 512 1 (.cons z1 .nil) (trA 512 z1 []) 4 none), (q 14461, Gob3), (q 14457, Gob4), (q 15533, Gob130), (q 15532, Gob61), (q 15585, Gob7), (q 16147, Gob8), (q 15835, Gob9), (q 18616, Gob10), (q 15587, Gob11), (q 16303, Gob12), (q 15991, Gob13), (q 16225, Gob14), (q 15913, Gob15), (q 15757, Gob16), (q 18614, Gob17), (q 16069, Gob18), (q 26898, rowOf 0 .nil 252 (some zh)), (q 24023, Gob121), (q 24022, Gob106), (q 24021, Gob107)],
  q 26903⟩
theorem k6_run : memoRun Tryz.T Tryz.F (brC Tryz.T) (ntOf natL) 20000 200 29 k6 = true := by kernel_rfl
theorem k6_ok {ρ : Env} {slow : CF} (hs : CfOK Tryz.prog ρ 29 slow) : CfOK Tryz.prog ρ 29 (memoC k6 slow) := memo_ok Tryz.T_ok Tryz.F_ok (fun _ => brC_ok mixed Tryz.T_ok) (fun _ => ntOf_ok natOK) k6_run hs
noncomputable def k8 : Memo := ⟨(.cons (.ptr (q 15538) 0) .nil),
  [(q 15538, Gob131), (q 28042, .map .nil 0), (q 28041, .map .nil 0), (q 28040, .map .nil 0), (q 15531, Gob132), (q 14459, Gob133), (q 14458, .big 512 1 (.cons z1 .nil) (trA 512 z1 []) 4 none), (q 14461, Gob134), (q 14457, Gob135), (q 15533, Gob136), (q 15532, Gob61), (q 15585, Gob7), (q 16147, Gob8), (q 15835, Gob137), (q 18616, Gob10), (q 15587, Gob11), (q 16303, Gob12), (q 15991, Gob13), (q 16225, Gob14), (q 15913, Gob15), (q 15757, Gob138), (q 18614, Gob17), (q 16069, Gob18), (q 28038, rowOf 0 .nil 252 (some zh))],
  q 28043, (.tup (.cons z3 (.cons z2 (.cons z3 .nil)))),
  [(q 15538, Gob131), (q 28042, .map .nil 0), (q 28041, .map .nil 0), (q 28040, .map .nil 0), (q 15531, Gob132), (q 14459, Gob133), (q 14458, .big 512 1 (.cons z1 .nil) (trA 512 z1 []) 4 none), (q 14461, Gob134), (q 14457, Gob135), (q 15533, Gob139), (q 15532, Gob61), (q 15585, Gob7), (q 16147, Gob8), (q 15835, Gob137), (q 18616, Gob10), (q 15587, Gob11), (q 16303, Gob12), (q 15991, Gob13), (q 16225, Gob14), (q 15913, Gob15), (q 15757, Gob138), (q 18614, Gob17), (q 16069, Gob18), (q 28038, rowOf 0 .nil 252 (some zh))],
  q 29352⟩
theorem k8_run : memoRun Tryz.T Tryz.F (brC Tryz.T) (ntOf natL) 20000 200 18 k8 = true := by kernel_rfl
theorem k8_ok {ρ : Env} {slow : CF} (hs : CfOK Tryz.prog ρ 18 slow) : CfOK Tryz.prog ρ 18 (memoC k8 slow) := memo_ok Tryz.T_ok Tryz.F_ok (fun _ => brC_ok mixed Tryz.T_ok) (fun _ => ntOf_ok natOK) k8_run hs
end Go.Proofs.YtfmjhleccnmhkaaGreat
