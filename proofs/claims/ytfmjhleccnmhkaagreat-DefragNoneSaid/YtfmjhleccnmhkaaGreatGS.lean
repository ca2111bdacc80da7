/- Parts of the run, told once: k7. -/
import Derived.Test.YtfmjhleccnmhkaaGreatGO
namespace Go.Proofs.YtfmjhleccnmhkaaGreat
open Go.Ex Go.Proofs
set_option maxRecDepth 1000000

noncomputable def k7 : Memo := ⟨(.cons (.ptr (q 15538) 0) (.cons (.int .u16 15) .nil)),
  [(q 15538, Gob127), (q 26902, .map .nil 0), (q 26901, .map .nil 0), (q 26900, .map .nil 0), (q 15531, Gob128), (q 14459, Gob129), (q 14458, .big 512 1 (.cons z1 .nil) (trA 512 z1 []) 4 none), (q 14461, Gob3), (q 14457, Gob4), (q 15533, Gob130), (q 15532, Gob61), (q 15585, Gob7), (q 16147, Gob8), (q 15835, Gob9), (q 18616, Gob10), (q 15587, Gob11), (q 16303, Gob12), (q 15991, Gob13), (q 16225, Gob14), (q 15913, Gob15), (q 15757, Gob16), (q 18614, Gob17), (q 16069, Gob18), (q 26898, rowOf 0 .nil 252 (some zh))],
  q 26903, z2,
  [(q 15538, Gob131), (q 28042, .map .nil 0), (q 28041, .map .nil 0), (q 28040, .map .nil 0), (q 15531, Gob132), (q 14459, Gob133), (q 14458, .big 512 1 (.cons z1 .nil) (trA 512 z1 []) 4 none), (q 14461, Gob134), (q 14457, Gob135), (q 15533, Gob136), (q 15532, Gob61), (q 15585, Gob7), (q 16147, Gob8), (q 15835, Gob137), (q 18616, Gob10), (q 15587, Gob11), (q 16303, Gob12), (q 15991, Gob13), (q 16225, Gob14), (q 15913, Gob15), (q 15757, Gob138), (q 18614, Gob17), (q 16069, Gob18), (q 28038, rowOf 0 .nil 252 (some zh)), (q 26902, .map .nil 0), (q 26901, .map .nil 0), (q 26900, Gob140)],
  q 28043⟩
theorem k7_run : memoRun Tryz.T Tryz.F (brC Tryz.T) (ntOf natL) 20000 200 53 k7 = true := by kernel_rfl
theorem k7_ok {ρ : Env} {slow : CF} (hs : CfOK Tryz.prog ρ 53 slow) : CfOK Tryz.prog ρ 53 (memoC k7 slow) := memo_ok Tryz.T_ok Tryz.F_ok (fun _ => brC_ok mixed Tryz.T_ok) (fun _ => ntOf_ok natOK) k7_run hs
end Go.Proofs.YtfmjhleccnmhkaaGreat
