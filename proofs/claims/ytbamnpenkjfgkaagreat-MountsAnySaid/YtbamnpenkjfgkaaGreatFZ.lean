/- lives, at any world. -/
import Derived.Test.YtbamnpenkjfgkaaGreatDA
import Derived.Test.YtbamnpenkjfgkaaGreatDH
import Derived.Test.YtbamnpenkjfgkaaGreatDJ
import Derived.Test.YtbamnpenkjfgkaaGreatDL
namespace Go.Proofs.YtbamnpenkjfgkaaGreat
open Go.Ex Go.Proofs
set_option maxRecDepth 1000000
theorem pins_any (w : World) : PinsIn w:=fun x hx=>by cases hx
noncomputable def natLiv : List (FuncId × CF):=(10,memoC lL (fnC Tryz.T Tryz.F 10)) :: (6,memoC lK (memoC lJ (memoC lI (fnC Tryz.T Tryz.F 6)))) :: (26,memoC lH (fnC Tryz.T Tryz.F 26)) :: (19,memoC lC (fnC Tryz.T Tryz.F 19)) :: (25,memoC lB (fnC Tryz.T Tryz.F 25)) :: (24,memoC lA (fnC Tryz.T Tryz.F 24)) :: natL
theorem natLiv_ok {ρ : Env} : ∀ x ∈ natLiv,CfOK Tryz.prog ρ x.1 x.2:=cons_ok (lL_ok (fnw (by decide +kernel))) (cons_ok (lK_ok (lJ_ok (lI_ok (fnw (by decide +kernel))))) (cons_ok (lH_ok (fnw (by decide +kernel))) (cons_ok (lC_ok (fnw (by decide +kernel))) (cons_ok (lB_ok (fnw (by decide +kernel))) (cons_ok (lA_ok (fnw (by decide +kernel))) natOK)))))
theorem lives_run : lawAt Tryz.T Tryz.F (ntOf natLiv) 20000 200 4 .nil (q 0)=true:=by kernel_rfl
theorem lives_holds : Holds Tryz.prog 4:=fun w hp =>
  lawAt_ok (ρ:=⟨fun _=>.int .i64 0,T5.new⟩) mixed Tryz.T_ok Tryz.F_ok (fun _=>ntOf_ok natLiv_ok) (nonext Tryz.func4 (by kernel_rfl) (by kernel_rfl)) lives_run ⟨rfl,fun i a b ha=>(by cases ha)⟩ w hp
theorem lives_any (w : World) : Calls Tryz.prog 4 #[] w fun e w'=>e=.returned (.bool true)∧RowKit.Below w.heap.size w w':=lives_holds w (pins_any w)
end Go.Proofs.YtbamnpenkjfgkaaGreat
