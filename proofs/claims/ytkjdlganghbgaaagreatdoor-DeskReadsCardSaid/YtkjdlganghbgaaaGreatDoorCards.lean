/-
  DERIVED. GIVEN WITH THE SEED: THE CARDS: each row of YtkjdlganghbgaaaGreatDoorRows.lean that lists a variable, with what it lists TIED to the program's text (the seventh form; the later family's looks); each row that meets fmt, with fmt's text TOLD by the authors' own Lean function (tested against real Go, not proved from fmt's source: count such statements apart). THE CARD IS WHAT COUNTS. Prove the row's statement (the work); the ties are given (YtkjdlganghbgaaaGreatDoorTie.lean); close each card by the builder's one call (the guide's Derived/Test/ToyasCard.lean, 'card_holds'). Laid BY PROGRAM, IN A SANDBOX (cutbox-door.mjs). By AI agents, Wed Nov 11 2026. No macro, syntax, notation, axiom, sorry.
-/
import Derived.Test.YtkjdlganghbgaaaGreatDoorRows
import GoSem.ClaimSeven
namespace Go.Proofs.YtkjdlganghbgaaaGreatDoor
namespace Rows

/-- THE TIED CARD OF 'glissadelaw31.DeskNone'. -/
def deskNoneCard : Claim7 := { stood := { row := deskNoneRow, standIns := [], harness := (true, "f478b0f2e05181107d604947f41b4352cd1468c25af33479222cf03815980a9f"), looks := true }, kinds := [], alts := [], laidByText := true, laidKinds := [.pinned, .data, .sentinel, .sentinel, .data, .data, .data], laidTests := true, laidLooks := .later }
def DeskNoneCardSaid : Prop := Claim7.holds Tryz.pinned (.plain (OpenSpec.ofChange deskNoneSpec)) deskNoneCard

/-- THE TIED CARD OF 'glissadelaw31.DeskReads'. -/
def deskReadsCard : Claim7 := { stood := { row := deskReadsRow, standIns := [], harness := (true, "f478b0f2e05181107d604947f41b4352cd1468c25af33479222cf03815980a9f"), looks := true }, kinds := [], alts := [], laidByText := true, laidKinds := [.pinned, .data, .sentinel, .sentinel, .data, .data, .data], laidTests := true, laidLooks := .later }
def DeskReadsCardSaid : Prop := Claim7.holds Tryz.pinned (.plain (OpenSpec.ofChange deskReadsSpec)) deskReadsCard

/-- THE SECOND FORM's CARD OF 'glissadelaw31.DeskNone'. -/
def deskNoneUptoCard : Claim7 := { stood := { row := deskNoneUptoRow, standIns := [], harness := (true, "f478b0f2e05181107d604947f41b4352cd1468c25af33479222cf03815980a9f"), looks := true }, kinds := [], alts := [], laidByText := true, laidKinds := [.pinned, .data, .sentinel, .sentinel, .data, .data, .data], laidTests := true, laidLooks := .later }
def DeskNoneUptoCardSaid : Prop := Claim7.holds Tryz.pinned (.plain (OpenSpec.upto deskNoneSpec)) deskNoneUptoCard

/-- THE SECOND FORM's CARD OF 'glissadelaw31.DeskReads'. -/
def deskReadsUptoCard : Claim7 := { stood := { row := deskReadsUptoRow, standIns := [], harness := (true, "f478b0f2e05181107d604947f41b4352cd1468c25af33479222cf03815980a9f"), looks := true }, kinds := [], alts := [], laidByText := true, laidKinds := [.pinned, .data, .sentinel, .sentinel, .data, .data, .data], laidTests := true, laidLooks := .later }
def DeskReadsUptoCardSaid : Prop := Claim7.holds Tryz.pinned (.plain (OpenSpec.upto deskReadsSpec)) deskReadsUptoCard
end Rows
end Go.Proofs.YtkjdlganghbgaaaGreatDoor
