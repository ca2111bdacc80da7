/- Parts of the run, told once: k1a. -/
import Derived.Test.YtfmjhleccnmhkaaGreatGO
namespace Go.Proofs.YtfmjhleccnmhkaaGreat
open Go.Ex Go.Proofs
set_option maxRecDepth 1000000

noncomputable def k1a : Memo := ⟨(.cons (.ptr (q 15538) 0) (.cons (z5 2) (.cons z3 (.cons (z5 3) (.cons (.slc (q 21494) 0 1 1) .nil))))),
  [(q 15538, Gob65), (q 20578, Gob66), (q 20577, .map .nil 0), (q 20576, Gob94), (q 20575, .map (.cons (z5 129) (z4 Gm9) 0 .nil) 1), (q 18835, .map .nil 0), (q 18834, .map .nil 0), (q 18833, Gob67), (q 15531, Gob56), (q 14459, Gob68), (q 14458, .big 512 1 (.cons z1 .nil) (trA 512 z1 [(138,z2)]) 4 none), (q 14461, Gob69), (q 14457, Gob59), (q 15533, Gob95), (q 15532, Gob61), (q 15585, Gob7), (q 16147, Gob8), (q 15835, Gob71), (q 18616, Gob10), (q 15587, Gob62), (q 16303, Gob12), (q 15991, Gob13), (q 16225, Gob14), (q 15913, Gob15), (q 15757, Gob16), (q 18614, Gob72), (q 16069, Gob18), (q 18831, rowOf 0 .nil 252 (some zh)), (q 21494, Gob96)],
  q 21495, z3,
  [(q 15538, Gob65), (q 20578, Gob66), (q 20577, .map .nil 0), (q 20576, Gob94), (q 20575, Gob97), (q 18835, .map .nil 0), (q 18834, .map .nil 0), (q 18833, Gob67), (q 15531, Gob56), (q 14459, Gob68), (q 14458, .big 512 1 (.cons z1 .nil) (trA 512 z1 [(138,z2)]) 4 none), (q 14461, Gob69), (q 14457, Gob59), (q 15533, Gob98), (q 15532, Gob61), (q 15585, Gob7), (q 16147, Gob8), (q 15835, Gob71), (q 18616, Gob10), (q 15587, Gob62), (q 16303, Gob12), (q 15991, Gob13), (q 16225, Gob14), (q 15913, Gob15), (q 15757, Gob16), (q 18614, Gob72), (q 16069, Gob18), (q 18831, rowOf 0 .nil 252 (some zh)), (q 21494, Gob96)],
  q 21717⟩
theorem k1a_run : memoRun Tryz.T Tryz.F (brC Tryz.T) (ntOf natL) 20000 200 8 k1a = true := by kernel_rfl
theorem k1a_ok {ρ : Env} {slow : CF} (hs : CfOK Tryz.prog ρ 8 slow) : CfOK Tryz.prog ρ 8 (memoC k1a slow) := memo_ok Tryz.T_ok Tryz.F_ok (fun _ => brC_ok mixed Tryz.T_ok) (fun _ => ntOf_ok natOK) k1a_run hs
end Go.Proofs.YtfmjhleccnmhkaaGreat
