/- Parts of the run, told once: h6, h7, h8. -/
import Derived.Test.YtfmjhleccnmhkaaGreatGO
namespace Go.Proofs.YtfmjhleccnmhkaaGreat
open Go.Ex Go.Proofs
set_option maxRecDepth 1000000

noncomputable def h6 : Memo := ⟨(.cons (.ptr (q 15538) 0) (.cons z3 (.cons (.agg (.cons (z5 2) (.cons z1 (.cons (z5 3) (.cons (z5 128) (.cons z3 (.cons (.slc (q 18160) 0 1 zh) .nil))))))) .nil))),
  [(q 15538, Gob34), (q 15741, Gob35), (q 15740, .map .nil 0), (q 15739, .map .nil 0), (q 15738, Gob48), (q 15736, .map .nil 0), (q 15735, .map .nil 0), (q 15734, .map .nil 0), (q 15531, Gob36), (q 14459, Gob31), (q 14458, .big 512 1 (.cons z1 .nil) (trA 512 z1 []) 4 none), (q 14461, Gob32), (q 14457, Gob33), (q 15533, Gob49), (q 15532, Gob41), (q 15585, Gob7), (q 16147, Gob8), (q 15835, Gob42), (q 15587, Gob39), (q 16303, Gob12), (q 15991, Gob13), (q 16225, Gob14), (q 15913, Gob15), (q 15757, Gob43), (q 16069, Gob18), (q 16304, rowOf 0 .nil 252 (some zh)), (q 18160, Gob50)],
  q 18182, z3,
  [(q 15538, Gob34), (q 15741, Gob35), (q 15740, .map .nil 0), (q 15739, .map .nil 0), (q 15738, Gob51), (q 15736, .map .nil 0), (q 15735, .map .nil 0), (q 15734, .map .nil 0), (q 15531, Gob36), (q 14459, Gob31), (q 14458, .big 512 1 (.cons z1 .nil) (trA 512 z1 []) 4 none), (q 14461, Gob32), (q 14457, Gob33), (q 15533, Gob49), (q 15532, Gob41), (q 15585, Gob7), (q 16147, Gob8), (q 15835, Gob42), (q 15587, Gob39), (q 16303, Gob12), (q 15991, Gob13), (q 16225, Gob14), (q 15913, Gob15), (q 15757, Gob43), (q 16069, Gob18), (q 16304, rowOf 0 .nil 252 (some zh)), (q 18160, Gob50)],
  q 18220⟩
theorem h6_run : memoRun Tryz.T Tryz.F (brC Tryz.T) (ntOf natL) 20000 200 24 h6 = true := by kernel_rfl
theorem h6_ok {ρ : Env} {slow : CF} (hs : CfOK Tryz.prog ρ 24 slow) : CfOK Tryz.prog ρ 24 (memoC h6 slow) := memo_ok Tryz.T_ok Tryz.F_ok (fun _ => brC_ok mixed Tryz.T_ok) (fun _ => ntOf_ok natOK) h6_run hs
noncomputable def h7 : Memo := ⟨(.cons (.ptr (q 15538) 0) (.cons z3 (.cons (.agg (.cons (.str 1 100) (.cons (z5 1) .nil))) .nil))),
  [(q 15538, Gob34), (q 15741, Gob35), (q 15740, .map .nil 0), (q 15739, .map .nil 0), (q 15738, Gob51), (q 15736, .map .nil 0), (q 15735, .map .nil 0), (q 15734, .map .nil 0), (q 15531, Gob36), (q 14459, Gob31), (q 14458, .big 512 1 (.cons z1 .nil) (trA 512 z1 []) 4 none), (q 14461, Gob32), (q 14457, Gob33), (q 15533, Gob49), (q 15532, Gob41), (q 15585, Gob7), (q 16147, Gob8), (q 15835, Gob42), (q 15587, Gob39), (q 16303, Gob12), (q 15991, Gob13), (q 16225, Gob14), (q 15913, Gob15), (q 15757, Gob43), (q 16069, Gob18), (q 16304, rowOf 0 .nil 252 (some zh))],
  q 18220, z3,
  [(q 15538, Gob34), (q 15741, Gob35), (q 15740, .map .nil 0), (q 15739, .map .nil 0), (q 15738, Gob52), (q 15736, .map .nil 0), (q 15735, .map .nil 0), (q 15734, .map .nil 0), (q 15531, Gob36), (q 14459, Gob31), (q 14458, .big 512 1 (.cons z1 .nil) (trA 512 z1 []) 4 none), (q 14461, Gob32), (q 14457, Gob33), (q 15533, Gob53), (q 15532, Gob41), (q 15585, Gob7), (q 16147, Gob8), (q 15835, Gob42), (q 15587, Gob39), (q 16303, Gob12), (q 15991, Gob13), (q 16225, Gob14), (q 15913, Gob15), (q 15757, Gob43), (q 16069, Gob18), (q 16304, rowOf 0 .nil 252 (some zh))],
  q 18598⟩
theorem h7_run : memoRun Tryz.T Tryz.F (brC Tryz.T) (ntOf natL) 20000 200 119 h7 = true := by kernel_rfl
theorem h7_ok {ρ : Env} {slow : CF} (hs : CfOK Tryz.prog ρ 119 slow) : CfOK Tryz.prog ρ 119 (memoC h7 slow) := memo_ok Tryz.T_ok Tryz.F_ok (fun _ => brC_ok mixed Tryz.T_ok) (fun _ => ntOf_ok natOK) h7_run hs
noncomputable def h8 : Memo := ⟨(.cons (.ptr (q 15538) 0) (.cons z2 .nil)),
  [(q 15538, Gob34), (q 15741, Gob35), (q 15740, .map .nil 0), (q 15739, .map .nil 0), (q 15738, Gob52), (q 15736, .map .nil 0), (q 15735, .map .nil 0), (q 15734, .map .nil 0), (q 15531, Gob36), (q 14459, Gob31), (q 14458, .big 512 1 (.cons z1 .nil) (trA 512 z1 []) 4 none), (q 14461, Gob32), (q 14457, Gob33), (q 15533, Gob53), (q 15532, Gob41), (q 15585, Gob7), (q 16147, Gob8), (q 15835, Gob42), (q 15587, Gob39), (q 16303, Gob12), (q 15991, Gob13), (q 16225, Gob14), (q 15913, Gob15), (q 15757, Gob43), (q 16069, Gob18), (q 16304, rowOf 0 .nil 252 (some zh))],
  q 18598, z2,
  [(q 15538, Gob54), (q 18840, Gob55), (q 18839, .map .nil 0), (q 18838, .map .nil 0), (q 18837, .map .nil 0), (q 18835, .map .nil 0), (q 18834, .map .nil 0), (q 18833, .map .nil 0), (q 15531, Gob56), (q 14459, Gob57), (q 14458, .big 512 1 (.cons z1 .nil) (trA 512 z1 []) 4 none), (q 14461, Gob58), (q 14457, Gob59), (q 15533, Gob60), (q 15532, Gob61), (q 15585, Gob7), (q 16147, Gob8), (q 15835, Gob42), (q 18616, Gob10), (q 15587, Gob62), (q 16303, Gob12), (q 15991, Gob13), (q 16225, Gob14), (q 15913, Gob15), (q 15757, Gob16), (q 18614, Gob63), (q 16069, Gob18), (q 18831, rowOf 0 .nil 252 (some zh)), (q 15741, Gob35), (q 15740, .map .nil 0), (q 15739, .map .nil 0), (q 15738, Gob52), (q 15736, .map .nil 0), (q 15735, .map .nil 0), (q 15734, Gob64)],
  q 18841⟩
theorem h8_run : memoRun Tryz.T Tryz.F (brC Tryz.T) (ntOf natL) 20000 200 9 h8 = true := by kernel_rfl
theorem h8_ok {ρ : Env} {slow : CF} (hs : CfOK Tryz.prog ρ 9 slow) : CfOK Tryz.prog ρ 9 (memoC h8 slow) := memo_ok Tryz.T_ok Tryz.F_ok (fun _ => brC_ok mixed Tryz.T_ok) (fun _ => ntOf_ok natOK) h8_run hs
end Go.Proofs.YtfmjhleccnmhkaaGreat
