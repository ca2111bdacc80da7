/- No function of the program starts a goroutine. -/
import Derived.Test.YtkjdlganghbgaaaGreatDoorRows
import Derived.ProofKit
import Derived.SevenTiedAt
namespace Go.Proofs.YtkjdlganghbgaaaGreatDoor
theorem goes_none : (Tryz.prog.funcs.toList.any Func.goes) = false := by kernel_rfl
theorem goes_no {P : Program} (h : (P.funcs.toList.any Func.goes) = false) (c : OpenClaim) (hs : c.start = .entering) : false = c.goesBy P := by
  have hall : ∀ f, P.goes f = false := fun f => by
    unfold Program.goes
    have h2 : P.funcs.any Func.goes = false := by rw [← Array.any_toList]; exact h
    rw [h2, Bool.and_false, Bool.or_false, Bool.eq_false_iff]
    intro ha
    obtain ⟨g, _, hg⟩ := List.any_eq_true.1 ha
    cases hgf : P.funcs[g]? with
    | none => rw [hgf] at hg; cases hg
    | some fn =>
      rw [hgf] at hg
      have hm : fn ∈ P.funcs.toList := by
        rw [← Array.getElem?_toList] at hgf
        exact List.mem_of_getElem? hgf
      have : (P.funcs.toList.any Func.goes) = true := List.any_eq_true.2 ⟨fn, hm, hg⟩
      rw [h] at this
      cases this
  unfold OpenClaim.goesBy Program.goesAt Program.goesFrom
  rw [hs]
  cases P.funcNamed c.func with
  | none => rfl
  | some f => exact (by rw [Option.any_some, hall f]; rfl)
end Go.Proofs.YtkjdlganghbgaaaGreatDoor
