/- DeskReads: for every line and every call the law returns true and leaves its arguments as they were. Conditions: the package-level variables that the card lists hold what it says (the card ties that to the program's text; strconv.ErrSyntax, strconv.ErrRange and internal/strconv.uint64pow10 are read), and each string that comes in takes at most 2^47 - 4096 bytes, as the form of the claim itself asks. -/
import Derived.Test.YtkjdlganghbgaaaGreatDoorPRc
import Derived.Test.YtkjdlganghbgaaaGreatDoorCards
import Derived.Test.YtkjdlganghbgaaaGreatDoorTZ
import Derived.Test.YtkjdlganghbgaaaGreatDoorJG
import Derived.ProofKit
import Derived.OpenShut
import Derived.LaidMore
import Derived.Lay
import Derived.SevenTiedAt
import Derived.Stop.Joined
namespace Go.Proofs.YtkjdlganghbgaaaGreatDoor
open Go.ChangeShapes Go.WideShapes Go.ChangeAt Go.RowKit Go.Deep Go.Joins
theorem cf1 : Rows.deskReadsRow.wfByText (OpenSpec.ofChange Rows.deskReadsSpec) = true := by kernel_rfl
theorem cf2 : Tryz.prog.mainIs = some (true, "f478b0f2e05181107d604947f41b4352cd1468c25af33479222cf03815980a9f".toList) := by kernel_rfl
theorem cf3 : Tryz.prog.funcNamed "glissade/glissadelaw31.DeskReads" = some 4 := by kernel_rfl
theorem cf4 : Tryz.prog.wantsStandIn 9 = false := by kernel_rfl
theorem cf6 : Tryz.prog.wantsStandIn 34 = false := by kernel_rfl
theorem cf5 : true = Tryz.prog.looks [] := by kernel_rfl
theorem deskReads_holds : Rows.DeskReadsCardSaid :=
  Claim7.holds_tied_plain_at .later [] [.pinned, .data, .sentinel, .sentinel, .data, .data, .data] true (true, "f478b0f2e05181107d604947f41b4352cd1468c25af33479222cf03815980a9f") true
    deskReads_row (fun _ h => by cases h) cf1 (fun _ h => by cases h) deskReads_row_tie rfl ⟨rfl, rfl⟩ cf2 rfl
    (fun f fn hf hfn => by
      obtain rfl : f = 4 := Option.some.inj (cf3.symm.trans hf) |>.symm
      obtain rfl : fn = Tryz.f4 := (Option.some.inj (Tryz.func4.symm.trans hfn)).symm
      exact ⟨cf5, fun j t ht => by
        rw [Tryz.params4] at ht
        have hm : t ∈ [9, 34] := by simpa using Array.mem_of_getElem? ht
        rw [List.mem_cons, List.mem_singleton] at hm
        rcases hm with rfl | rfl
        · exact cf4
        · exact cf6⟩)
    (goes_no goes_none _ rfl)
end Go.Proofs.YtkjdlganghbgaaaGreatDoor
