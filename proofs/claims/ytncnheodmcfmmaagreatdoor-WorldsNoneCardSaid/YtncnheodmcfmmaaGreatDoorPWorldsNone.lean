/- WorldsNone: for every input the law returns true and leaves its arguments as they were. Conditions: the package-level variables that the card lists hold what it says (the card ties that to the program's text); none of them is read. -/
import Derived.Test.YtncnheodmcfmmaaGreatDoorPWc
import Derived.Test.YtncnheodmcfmmaaGreatDoorCards
import Derived.Test.YtncnheodmcfmmaaGreatDoorTie
import Derived.Test.YtncnheodmcfmmaaGreatDoorJG
import Derived.ProofKit
import Derived.OpenShut
import Derived.LaidMore
import Derived.Lay
import Derived.SevenTiedAt
import Derived.Stop.Joined
namespace Go.Proofs.YtncnheodmcfmmaaGreatDoor
open Go.ChangeShapes Go.WideShapes Go.ChangeAt Go.RowKit Go.Deep Go.Joins
theorem cf1 : Rows.worldsNoneRow.wfByText (OpenSpec.ofChange Rows.worldsNoneSpec) = true := by kernel_rfl
theorem cf2 : Tryz.prog.mainIs = some (true, "c2b3d2bfb3179415d4b2402066bde75f004ce3e5f8561d52db94dfac20596a13".toList) := by kernel_rfl
theorem cf3 : Tryz.prog.funcNamed "glissade/glissadelaw30.WorldsNone" = some 3 := by kernel_rfl
theorem cf4 : Tryz.prog.wantsStandIn 3 = false := by kernel_rfl
theorem cf6 : Tryz.prog.wantsStandIn 26 = false := by kernel_rfl
theorem cf5 : true = Tryz.prog.looks [] := by kernel_rfl
theorem worldsNone_holds : Rows.WorldsNoneCardSaid :=
  Claim7.holds_tied_plain_at .later [] [.data, .pinned] true (true, "c2b3d2bfb3179415d4b2402066bde75f004ce3e5f8561d52db94dfac20596a13") true
    worldsNone_row (fun _ h => by cases h) cf1 (fun _ h => by cases h) worldsNone_row_tie rfl ⟨rfl, rfl⟩ cf2 rfl
    (fun f fn hf hfn => by
      obtain rfl : f = 3 := Option.some.inj (cf3.symm.trans hf) |>.symm
      obtain rfl : fn = Tryz.f3 := (Option.some.inj (Tryz.func3.symm.trans hfn)).symm
      exact ⟨cf5, fun j t ht => by
        rw [Tryz.params3] at ht
        have hm : t ∈ [26, 3, 3] := by simpa using Array.mem_of_getElem? ht
        rw [List.mem_cons, List.mem_cons, List.mem_singleton] at hm
        rcases hm with rfl | rfl | rfl
        · exact cf6
        · exact cf4
        · exact cf4⟩)
    (goes_no goes_none _ rfl)
end Go.Proofs.YtncnheodmcfmmaaGreatDoor
