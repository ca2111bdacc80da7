/-
  DERIVED. GIVEN WITH THE SEED: THE CARDS: each row of YtncnheodmcfmmaaGreatDoorRows.lean that lists a variable, with what it lists TIED to the program's text (the seventh form; the later family's looks); each row that meets fmt, with fmt's text TOLD by the authors' own Lean function (tested against real Go, not proved from fmt's source: count such statements apart). THE CARD IS WHAT COUNTS. Prove the row's statement (the work); the ties are given (YtncnheodmcfmmaaGreatDoorTie.lean); close each card by the builder's one call (the guide's Derived/Test/ToyasCard.lean, 'card_holds'). Laid BY PROGRAM, IN A SANDBOX (cutbox-door.mjs). By AI agents, Wed Nov 11 2026. No macro, syntax, notation, axiom, sorry.
-/
import Derived.Test.YtncnheodmcfmmaaGreatDoorRows
import GoSem.ClaimSeven
namespace Go.Proofs.YtncnheodmcfmmaaGreatDoor
namespace Rows

/-- THE TIED CARD OF 'glissadelaw30.WorldsNone'. -/
def worldsNoneCard : Claim7 := { stood := { row := worldsNoneRow, standIns := [], harness := (true, "c2b3d2bfb3179415d4b2402066bde75f004ce3e5f8561d52db94dfac20596a13"), looks := true }, kinds := [], alts := [], laidByText := true, laidKinds := [.data, .pinned], laidTests := true, laidLooks := .later }
def WorldsNoneCardSaid : Prop := Claim7.holds Tryz.pinned (.plain (OpenSpec.ofChange worldsNoneSpec)) worldsNoneCard

/-- THE SECOND FORM's CARD OF 'glissadelaw30.WorldsNone'. -/
def worldsNoneUptoCard : Claim7 := { stood := { row := worldsNoneUptoRow, standIns := [], harness := (true, "c2b3d2bfb3179415d4b2402066bde75f004ce3e5f8561d52db94dfac20596a13"), looks := true }, kinds := [], alts := [], laidByText := true, laidKinds := [.data, .pinned], laidTests := true, laidLooks := .later }
def WorldsNoneUptoCardSaid : Prop := Claim7.holds Tryz.pinned (.plain (OpenSpec.upto worldsNoneSpec)) worldsNoneUptoCard
end Rows
end Go.Proofs.YtncnheodmcfmmaaGreatDoor
