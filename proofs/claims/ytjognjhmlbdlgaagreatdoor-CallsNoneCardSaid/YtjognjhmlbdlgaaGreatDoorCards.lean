/-
  DERIVED. GIVEN WITH THE SEED: THE CARDS: each row of YtjognjhmlbdlgaaGreatDoorRows.lean that lists a variable, with what it lists TIED to the program's text (the seventh form; the later family's looks); each row that meets fmt, with fmt's text TOLD by the authors' own Lean function (tested against real Go, not proved from fmt's source: count such statements apart). THE CARD IS WHAT COUNTS. Prove the row's statement (the work); the ties are given (YtjognjhmlbdlgaaGreatDoorTie.lean); close each card by the builder's one call (the guide's Derived/Test/ToyasCard.lean, 'card_holds'). Laid BY PROGRAM, IN A SANDBOX (cutbox-door.mjs). By AI agents, Wed Nov 11 2026. No macro, syntax, notation, axiom, sorry.
-/
import Derived.Test.YtjognjhmlbdlgaaGreatDoorRows
import GoSem.ClaimSeven
namespace Go.Proofs.YtjognjhmlbdlgaaGreatDoor
namespace Rows

/-- THE TIED CARD OF 'glissadelaw28.CallsNone'. -/
def callsNoneCard : Claim7 := { stood := { row := callsNoneRow, standIns := [], harness := (true, "9cd6166600b8b8c79e447b0caf9923fb8e8edc35b357ec0b560cc7ddd7a2933a"), looks := true }, kinds := [], alts := [], laidByText := true, laidKinds := [.data, .pinned], laidTests := true, laidLooks := .later }
def CallsNoneCardSaid : Prop := Claim7.holds Tryz.pinned (.plain (OpenSpec.ofChange callsNoneSpec)) callsNoneCard

/-- THE TIED CARD OF 'glissadelaw29.ViewsNone'. -/
def viewsNoneCard : Claim7 := { stood := { row := viewsNoneRow, standIns := [], harness := (true, "9cd6166600b8b8c79e447b0caf9923fb8e8edc35b357ec0b560cc7ddd7a2933a"), looks := true }, kinds := [], alts := [], laidByText := true, laidKinds := [.data, .pinned], laidTests := true, laidLooks := .later }
def ViewsNoneCardSaid : Prop := Claim7.holds Tryz.pinned (.plain (OpenSpec.ofChange viewsNoneSpec)) viewsNoneCard

/-- THE SECOND FORM's CARD OF 'glissadelaw28.CallsNone'. -/
def callsNoneUptoCard : Claim7 := { stood := { row := callsNoneUptoRow, standIns := [], harness := (true, "9cd6166600b8b8c79e447b0caf9923fb8e8edc35b357ec0b560cc7ddd7a2933a"), looks := true }, kinds := [], alts := [], laidByText := true, laidKinds := [.data, .pinned], laidTests := true, laidLooks := .later }
def CallsNoneUptoCardSaid : Prop := Claim7.holds Tryz.pinned (.plain (OpenSpec.upto callsNoneSpec)) callsNoneUptoCard

/-- THE SECOND FORM's CARD OF 'glissadelaw29.ViewsNone'. -/
def viewsNoneUptoCard : Claim7 := { stood := { row := viewsNoneUptoRow, standIns := [], harness := (true, "9cd6166600b8b8c79e447b0caf9923fb8e8edc35b357ec0b560cc7ddd7a2933a"), looks := true }, kinds := [], alts := [], laidByText := true, laidKinds := [.data, .pinned], laidTests := true, laidLooks := .later }
def ViewsNoneUptoCardSaid : Prop := Claim7.holds Tryz.pinned (.plain (OpenSpec.upto viewsNoneSpec)) viewsNoneUptoCard
end Rows
end Go.Proofs.YtjognjhmlbdlgaaGreatDoor
