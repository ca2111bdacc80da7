/- Parts of the run, told once: h3. -/
import Derived.Test.YtfmjhleccnmhkaaGreatGO
namespace Go.Proofs.YtfmjhleccnmhkaaGreat
open Go.Ex Go.Proofs
set_option maxRecDepth 1000000

noncomputable def h3 : Memo := ⟨(.cons (.ptr (q 15538) 0) (.cons z3 (.cons z3 .nil))),
  [(q 15538, Gob34), (q 15741, Gob35), (q 15740, .map .nil 0), (q 15739, .map .nil 0), (q 15738, .map (.cons (z5 130) (z4 131074) 0 .nil) 1), (q 15736, .map .nil 0), (q 15735, .map .nil 0), (q 15734, .map .nil 0), (q 15531, Gob36), (q 14459, Gob31), (q 14458, .big 512 1 (.cons z1 .nil) (trA 512 z1 []) 4 none), (q 14461, Gob32), (q 14457, Gob33), (q 15533, Gob40), (q 15532, Gob41), (q 15585, Gob7), (q 16147, Gob8), (q 15835, Gob42), (q 15587, Gob39), (q 16303, Gob12), (q 15991, Gob13), (q 16225, Gob14), (q 15913, Gob15), (q 15757, Gob43), (q 16069, Gob18), (q 16304, rowOf 0 .nil 252 (some zh))],
  q 16401, z3,
  [(q 15538, Gob34), (q 15741, Gob35), (q 15740, .map .nil 0), (q 15739, .map .nil 0), (q 15738, Gob44), (q 15736, .map .nil 0), (q 15735, .map .nil 0), (q 15734, .map .nil 0), (q 15531, Gob36), (q 14459, Gob31), (q 14458, .big 512 1 (.cons z1 .nil) (trA 512 z1 []) 4 none), (q 14461, Gob32), (q 14457, Gob33), (q 15533, Gob45), (q 15532, Gob41), (q 15585, Gob7), (q 16147, Gob8), (q 15835, Gob42), (q 15587, Gob39), (q 16303, Gob12), (q 15991, Gob13), (q 16225, Gob14), (q 15913, Gob15), (q 15757, Gob43), (q 16069, Gob18), (q 16304, rowOf 0 .nil 252 (some zh))],
  q 16941⟩
theorem h3_run : memoRun Tryz.T Tryz.F (brC Tryz.T) (ntOf natL) 20000 200 197 h3 = true := by kernel_rfl
theorem h3_ok {ρ : Env} {slow : CF} (hs : CfOK Tryz.prog ρ 197 slow) : CfOK Tryz.prog ρ 197 (memoC h3 slow) := memo_ok Tryz.T_ok Tryz.F_ok (fun _ => brC_ok mixed Tryz.T_ok) (fun _ => ntOf_ok natOK) h3_run hs
end Go.Proofs.YtfmjhleccnmhkaaGreat
