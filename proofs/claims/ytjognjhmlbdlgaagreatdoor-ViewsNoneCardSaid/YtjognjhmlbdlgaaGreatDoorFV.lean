/- The end of the run of views' none: lives, and the law for false and for true. -/
import Derived.Test.YtjognjhmlbdlgaaGreatDoorGE
import Derived.Test.YtjognjhmlbdlgaaGreatDoorGH
import Derived.Test.YtjognjhmlbdlgaaGreatDoorVA
import Derived.Test.YtjognjhmlbdlgaaGreatDoorVB
import Derived.Test.YtjognjhmlbdlgaaGreatDoorVC
import Derived.Test.YtjognjhmlbdlgaaGreatDoorVD
import Derived.Test.YtjognjhmlbdlgaaGreatDoorVE
import Derived.Test.YtjognjhmlbdlgaaGreatDoorVF
namespace Go.Proofs.YtjognjhmlbdlgaaGreatDoor
open Go.Ex Go.Proofs
set_option maxRecDepth 1000000

noncomputable def natV : List (FuncId × CF) := (42, memoC mG5 (fnC Tryz.T Tryz.F 42)) :: (43, memoC mG8 (fnC Tryz.T Tryz.F 43)) :: (9, memoC mV3 (memoC mV2 (memoC mV1 (fnC Tryz.T Tryz.F 9)))) :: (12, memoC mV4 (fnC Tryz.T Tryz.F 12)) :: (13, memoC mV5 (fnC Tryz.T Tryz.F 13)) :: (14, memoC mV6 (fnC Tryz.T Tryz.F 14)) :: natL
theorem natV_ok {ρ : Env} : ∀ x ∈ natV, CfOK Tryz.prog ρ x.1 x.2 := cons_ok (mG5_ok (fnc (by decide +kernel))) (cons_ok (mG8_ok (fnc (by decide +kernel))) (cons_ok (mV3_ok (mV2_ok (mV1_ok (fnc (by decide +kernel))))) (cons_ok (mV4_ok (fnc (by decide +kernel))) (cons_ok (mV5_ok (fnc (by decide +kernel))) (cons_ok (mV6_ok (fnc (by decide +kernel))) natOK)))))
theorem livesV_run : lawAt Tryz.T Tryz.F (ntOf natV) 20000 200 15 .nil (q 18) = true := by kernel_rfl
theorem livesV : Holds Tryz.prog 15 := fun w =>
  lawAt_ok (ρ := ⟨fun _ => .int .i64 0, T5.new⟩) mixed Tryz.T_ok Tryz.F_ok (fun _ => ntOf_ok natV_ok) (nonext Tryz.func15 (by kernel_rfl) (by kernel_rfl)) livesV_run ⟨rfl, fun i a b ha => (by cases ha)⟩ w
noncomputable def natW : List (FuncId × CF) := (15, trueC) :: natL
theorem natW_ok {ρ : Env} : ∀ x ∈ natW, CfOK Tryz.prog ρ x.1 x.2 := cons_ok (true_ok (nonext Tryz.func15 (by kernel_rfl) (by kernel_rfl)) livesV) natOK
theorem viewsF_run : lawAt Tryz.T Tryz.F (ntOf natW) 20000 200 4 (.cons (.bool false) .nil) (q 0) = true := by kernel_rfl
theorem viewsT_run : lawAt Tryz.T Tryz.F (ntOf natW) 20000 200 4 (.cons (.bool true) .nil) (q 0) = true := by kernel_rfl
theorem one_flat {b : Bool} {ρ : Env} : RVs (fun _ => none) ⟨V.vals ρ (.cons (.bool b) .nil)⟩ #[.bool b] := ⟨rfl, fun i x y hx hy => by
  cases i with
  | zero => injection hx with hx; injection hy with hy; subst hx hy; exact .bool b
  | succ i => simp at hy⟩
/-- the law, at both. -/
theorem views_any (b : Bool) (w : World) : Calls Tryz.prog 4 #[.bool b] w fun e w' => e = .returned (.bool true) ∧ RowKit.Below w.heap.size w w' := by
  cases b with
  | false => exact lawAt_ok (ρ := ⟨fun _ => .int .i64 0, T5.new⟩) mixed Tryz.T_ok Tryz.F_ok (fun _ => ntOf_ok natW_ok) (nonext Tryz.func4 (by kernel_rfl) (by kernel_rfl)) viewsF_run one_flat w
  | true => exact lawAt_ok (ρ := ⟨fun _ => .int .i64 0, T5.new⟩) mixed Tryz.T_ok Tryz.F_ok (fun _ => ntOf_ok natW_ok) (nonext Tryz.func4 (by kernel_rfl) (by kernel_rfl)) viewsT_run one_flat w
end Go.Proofs.YtjognjhmlbdlgaaGreatDoor
