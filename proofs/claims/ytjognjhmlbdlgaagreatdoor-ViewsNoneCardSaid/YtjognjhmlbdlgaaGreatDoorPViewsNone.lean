/- ViewsNone: for every input the law returns true and leaves its arguments as they were. Conditions: the package-level variables that the card lists hold what it says (the card ties that to the program's text); none of them is read. -/
import Derived.Test.YtjognjhmlbdlgaaGreatDoorPVc
import Derived.Test.YtjognjhmlbdlgaaGreatDoorCards
import Derived.Test.YtjognjhmlbdlgaaGreatDoorTie
import Derived.Test.YtjognjhmlbdlgaaGreatDoorJG
import Derived.ProofKit
import Derived.OpenShut
import Derived.LaidMore
import Derived.Lay
import Derived.SevenTiedAt
import Derived.Stop.Joined
namespace Go.Proofs.YtjognjhmlbdlgaaGreatDoor
open Go.ChangeShapes Go.WideShapes Go.ChangeAt Go.RowKit Go.Deep Go.Joins
theorem vf1 : Rows.viewsNoneRow.wfByText (OpenSpec.ofChange Rows.viewsNoneSpec) = true := by kernel_rfl
theorem vf2 : Tryz.prog.mainIs = some (true, "9cd6166600b8b8c79e447b0caf9923fb8e8edc35b357ec0b560cc7ddd7a2933a".toList) := by kernel_rfl
theorem vf3 : Tryz.prog.funcNamed "glissade/glissadelaw29.ViewsNone" = some 4 := by kernel_rfl
theorem vf4 : Tryz.prog.wantsStandIn 4 = false := by kernel_rfl
theorem vf5 : true = Tryz.prog.looks [] := by kernel_rfl
theorem viewsNone_holds : Rows.ViewsNoneCardSaid :=
  Claim7.holds_tied_plain_at .later [] [.data, .pinned] true (true, "9cd6166600b8b8c79e447b0caf9923fb8e8edc35b357ec0b560cc7ddd7a2933a") true
    viewsNone_row (fun _ h => by cases h) vf1 (fun _ h => by cases h) viewsNone_row_tie rfl ⟨rfl, rfl⟩ vf2 rfl
    (fun f fn hf hfn => by
      obtain rfl : f = 4 := Option.some.inj (vf3.symm.trans hf) |>.symm
      obtain rfl : fn = Tryz.f4 := (Option.some.inj (Tryz.func4.symm.trans hfn)).symm
      exact ⟨vf5, fun j t ht => by
        rw [Tryz.params4] at ht
        have hm : t ∈ [4] := by simpa using Array.mem_of_getElem? ht
        rw [List.mem_singleton] at hm
        rw [hm]
        exact vf4⟩)
    (goes_no goes_none _ rfl)
end Go.Proofs.YtjognjhmlbdlgaaGreatDoor
