/- CallsNone: for every input the law returns true and leaves its arguments as they were. Conditions: the package-level variables that the card lists hold what it says (the card ties that to the program's text); none of them is read. -/
import Derived.Test.YtjognjhmlbdlgaaGreatDoorPCc
import Derived.Test.YtjognjhmlbdlgaaGreatDoorCards
import Derived.Test.YtjognjhmlbdlgaaGreatDoorTie
import Derived.Test.YtjognjhmlbdlgaaGreatDoorJG
import Derived.ProofKit
import Derived.OpenShut
import Derived.LaidMore
import Derived.Lay
import Derived.SevenTiedAt
import Derived.Stop.Joined
namespace Go.Proofs.YtjognjhmlbdlgaaGreatDoor
open Go.ChangeShapes Go.WideShapes Go.ChangeAt Go.RowKit Go.Deep Go.Joins
theorem cf1 : Rows.callsNoneRow.wfByText (OpenSpec.ofChange Rows.callsNoneSpec) = true := by kernel_rfl
theorem cf2 : Tryz.prog.mainIs = some (true, "9cd6166600b8b8c79e447b0caf9923fb8e8edc35b357ec0b560cc7ddd7a2933a".toList) := by kernel_rfl
theorem cf3 : Tryz.prog.funcNamed "glissade/glissadelaw28.CallsNone" = some 3 := by kernel_rfl
theorem cf4 : Tryz.prog.wantsStandIn 3 = false := by kernel_rfl
theorem cf6 : Tryz.prog.wantsStandIn 23 = false := by kernel_rfl
theorem cf5 : true = Tryz.prog.looks [] := by kernel_rfl
theorem callsNone_holds : Rows.CallsNoneCardSaid :=
  Claim7.holds_tied_plain_at .later [] [.data, .pinned] true (true, "9cd6166600b8b8c79e447b0caf9923fb8e8edc35b357ec0b560cc7ddd7a2933a") true
    callsNone_row (fun _ h => by cases h) cf1 (fun _ h => by cases h) callsNone_row_tie rfl ⟨rfl, rfl⟩ cf2 rfl
    (fun f fn hf hfn => by
      obtain rfl : f = 3 := Option.some.inj (cf3.symm.trans hf) |>.symm
      obtain rfl : fn = Tryz.f3 := (Option.some.inj (Tryz.func3.symm.trans hfn)).symm
      exact ⟨cf5, fun j t ht => by
        rw [Tryz.params3] at ht
        have hm : t ∈ [23, 3] := by simpa using Array.mem_of_getElem? ht
        rw [List.mem_cons, List.mem_singleton] at hm
        rcases hm with rfl | rfl
        · exact cf6
        · exact cf4⟩)
    (goes_no goes_none _ rfl)
end Go.Proofs.YtjognjhmlbdlgaaGreatDoor
