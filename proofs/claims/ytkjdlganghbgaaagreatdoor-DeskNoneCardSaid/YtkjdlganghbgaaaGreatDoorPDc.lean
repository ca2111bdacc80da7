/- The closed facts of the row of DeskNone. -/
import Derived.Test.YtkjdlganghbgaaaGreatDoorJD1
import Derived.Test.YtkjdlganghbgaaaGreatDoorJD4
import Derived.Test.YtkjdlganghbgaaaGreatDoorK2
import Derived.Test.YtkjdlganghbgaaaGreatDoorK1
import Derived.Test.YtkjdlganghbgaaaGreatDoorK3
import Derived.ProofKit
import Derived.OpenShut
import Derived.Test.YtkjdlganghbgaaaGreatDoorPDa
import Derived.LaidMore
import Derived.Lay
import Derived.SevenTiedAt
import Derived.Stop.Joined
namespace Go.Proofs.YtkjdlganghbgaaaGreatDoor
open Go.ChangeShapes Go.WideShapes Go.ChangeAt Go.RowKit
set_option maxRecDepth 100000
theorem closed3 : joinedFacts Tryz.prog 3 Tryz.f3 Rows.deskNoneSpec Rows.deskNoneRow = true := by
  unfold joinedFacts
  rw [show (Rows.deskNoneRow.inPlace == Tryz.prog.inPlace 3) = true from beq_iff_eq.2 jd1.symm, show (Rows.deskNoneRow.unfollowed == Tryz.prog.unfollowed 3) = true from beq_iff_eq.2 jd2.symm,
    show (Rows.deskNoneRow.recurses == Tryz.prog.recurses 3) = true from beq_iff_eq.2 jd3.symm, show (Rows.deskNoneRow.named == Tryz.prog.varsNamed 3) = true from beq_iff_eq.2 jd4.symm, jm, k1, k2, k3, k4, k5, k6, k7]
  kernel_rfl
end Go.Proofs.YtkjdlganghbgaaaGreatDoor
namespace Go.Proofs.YtkjdlganghbgaaaGreatDoor
open Go.ChangeShapes Go.WideShapes Go.ChangeAt Go.RowKit Go.Deep Go.Joins
theorem deskNone_row : Rows.DeskNoneSaid :=
  OpenClaim.holds_of_wide 3 Tryz.f3 rfl rfl rfl rfl rfl rfl rfl ⟨rfl, rfl, rfl, rfl, rfl⟩ rfl rfl rfl rfl rfl (by kernel_rfl) Tryz.func3 closed3
    (of_decide_eq_true (by kernel_rfl)) (by unfold Func.isWrapper; first | (rw [if_pos (by decide +kernel)]; kernel_rfl) | (rw [if_neg (by decide +kernel)]; exact ⟨rfl, rfl⟩))
    (fun os started H enc _ => deskNone_lifted os started H enc)
end Go.Proofs.YtkjdlganghbgaaaGreatDoor
