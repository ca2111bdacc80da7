/- The end of the run of report's none: lives, and the law for false and for true. -/
import Derived.Test.YtndhfcdmgjkmjaaGreatRE
namespace Go.Proofs.YtndhfcdmgjkmjaaGreat
open Go.Ex Go.Proofs
set_option maxRecDepth 1000000

theorem livesR_run : lawAt Tryz.T Tryz.F (ntOf nat_mR5) 20000 200 25 .nil (q 6) = true := by kernel_rfl
theorem livesR : Holds Tryz.prog 25 := fun w =>
  lawAt_ok (ρ := ⟨fun _ => .int .i64 0, T5.new⟩) mixed Tryz.T_ok Tryz.F_ok (fun _ => ntOf_ok nat_mR5_ok) (nonext Tryz.func25 (by kernel_rfl) (by kernel_rfl)) livesR_run ⟨rfl, fun i a b ha => (by cases ha)⟩ w
noncomputable def natR : List (FuncId × CF) := (25, trueC) :: natL
theorem natR_ok {ρ : Env} : ∀ x ∈ natR, CfOK Tryz.prog ρ x.1 x.2 := cons_ok (true_ok (nonext Tryz.func25 (by kernel_rfl) (by kernel_rfl)) livesR) natOK
theorem reportF_run : lawAt Tryz.T Tryz.F (ntOf natR) 20000 200 5 (.cons (.bool false) .nil) (q 0) = true := by kernel_rfl
theorem reportT_run : lawAt Tryz.T Tryz.F (ntOf natR) 20000 200 5 (.cons (.bool true) .nil) (q 0) = true := by kernel_rfl
theorem one_flat {b : Bool} {ρ : Env} : RVs (fun _ => none) ⟨V.vals ρ (.cons (.bool b) .nil)⟩ #[.bool b] := ⟨rfl, fun i x y hx hy => by
  cases i with
  | zero => injection hx with hx; injection hy with hy; subst hx hy; exact .bool b
  | succ i => simp at hy⟩
/-- the law, at both. -/
theorem report_any (b : Bool) (w : World) : Calls Tryz.prog 5 #[.bool b] w fun e w' => e = .returned (.bool true) ∧ RowKit.Below w.heap.size w w' := by
  cases b with
  | false => exact lawAt_ok (ρ := ⟨fun _ => .int .i64 0, T5.new⟩) mixed Tryz.T_ok Tryz.F_ok (fun _ => ntOf_ok natR_ok) (nonext Tryz.func5 (by kernel_rfl) (by kernel_rfl)) reportF_run one_flat w
  | true => exact lawAt_ok (ρ := ⟨fun _ => .int .i64 0, T5.new⟩) mixed Tryz.T_ok Tryz.F_ok (fun _ => ntOf_ok natR_ok) (nonext Tryz.func5 (by kernel_rfl) (by kernel_rfl)) reportT_run one_flat w
end Go.Proofs.YtndhfcdmgjkmjaaGreat
