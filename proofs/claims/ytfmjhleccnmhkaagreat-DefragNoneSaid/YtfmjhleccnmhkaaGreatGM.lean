/- Parts of the run, told once: k3a. -/
import Derived.Test.YtfmjhleccnmhkaaGreatGO
namespace Go.Proofs.YtfmjhleccnmhkaaGreat
open Go.Ex Go.Proofs
set_option maxRecDepth 1000000

noncomputable def k3a : Memo := ⟨(.cons (.ptr (q 15538) 0) (.cons (z5 3) (.cons z3 (.cons (z5 2) (.cons (.slc (q 24948) 0 1 1) .nil))))),
  [(q 15538, Gob84), (q 24028, Gob85), (q 24027, .map .nil 0), (q 24026, .map (.cons (z5 143) z0 0 (.cons (z5 144) z0 1 .nil)) 2), (q 24025, .map (.cons (z5 129) (z4 Gm38) 0 .nil) 1), (q 24023, .map .nil 0), (q 24022, .map .nil 0), (q 24021, .map .nil 0), (q 15531, Gob86), (q 14459, Gob87), (q 14458, .big 512 1 (.cons z1 .nil) (trA 512 z1 []) 4 none), (q 14461, Gob88), (q 14457, Gob89), (q 15533, Gob99), (q 15532, Gob61), (q 15585, Gob7), (q 16147, Gob8), (q 15835, Gob91), (q 18616, Gob10), (q 15587, Gob92), (q 16303, Gob12), (q 15991, Gob13), (q 16225, Gob14), (q 15913, Gob15), (q 15757, Gob16), (q 18614, Gob17), (q 16069, Gob18), (q 24019, rowOf 0 .nil 252 (some zh)), (q 24948, Gob100)],
  q 24949, z3,
  [(q 15538, Gob84), (q 24028, Gob85), (q 24027, .map .nil 0), (q 24026, .map (.cons (z5 143) z0 0 (.cons (z5 144) z0 1 .nil)) 2), (q 24025, Gob101), (q 24023, .map .nil 0), (q 24022, .map .nil 0), (q 24021, .map .nil 0), (q 15531, Gob86), (q 14459, Gob87), (q 14458, .big 512 1 (.cons z1 .nil) (trA 512 z1 []) 4 none), (q 14461, Gob88), (q 14457, Gob89), (q 15533, Gob102), (q 15532, Gob61), (q 15585, Gob7), (q 16147, Gob8), (q 15835, Gob91), (q 18616, Gob10), (q 15587, Gob92), (q 16303, Gob12), (q 15991, Gob13), (q 16225, Gob14), (q 15913, Gob15), (q 15757, Gob16), (q 18614, Gob17), (q 16069, Gob18), (q 24019, rowOf 0 .nil 252 (some zh)), (q 24948, Gob100)],
  q 25171⟩
theorem k3a_run : memoRun Tryz.T Tryz.F (brC Tryz.T) (ntOf natL) 20000 200 8 k3a = true := by kernel_rfl
theorem k3a_ok {ρ : Env} {slow : CF} (hs : CfOK Tryz.prog ρ 8 slow) : CfOK Tryz.prog ρ 8 (memoC k3a slow) := memo_ok Tryz.T_ok Tryz.F_ok (fun _ => brC_ok mixed Tryz.T_ok) (fun _ => ntOf_ok natOK) k3a_run hs
end Go.Proofs.YtfmjhleccnmhkaaGreat
