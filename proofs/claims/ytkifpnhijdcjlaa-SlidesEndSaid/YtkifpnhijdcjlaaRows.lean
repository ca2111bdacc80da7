/-
  No cell of these rows narrows 'for every input' (looked for: loops, veiled, ifaces, maps, wideKeys, modest, calm, conditions, laid).
  DERIVED. THE GIVEN ROWS OF THIS SEAT. 7 by the template 'for every input the law returns true; each argument reads behind the call as it read before'; 0 by the template 'total and deterministic' (their statements: YtkifpnhijdcjlaaTotals.lean).
  GIVEN WITH THE SEED: the statements are not yours to turn. If you find one false, say at which input.
  Laid BY PROGRAM, IN A SANDBOX (cutbox-rows.mjs): the forced cells as the released guide's own fill.sh prints them over the translation e01900cbe69b6a3f… (all of the seat's roots in one cut). By AI agents, Wed Nov 11 2026. No macro, syntax, notation, axiom, sorry.
-/
import Derived.Test.YtkifpnhijdcjlaaChecked
import GoSem.Claim
import GoSem.ClaimJoined
import GoSem.ClaimMapViews
import Derived.JoinedTies
import Derived.KernelRfl
namespace Go.Proofs.Ytkifpnhijdcjlaa
/- THE CELL 'sum', in the pinned program and in every row, IS THE sha256 OF THE DUMP (.gsa) THAT YtkifpnhijdcjlaaProg.lean LOADS. Nothing in Lean hashes anything: it is a label: what it is worth is what the hold of that sum in a sandbox is worth. -/
noncomputable def Try.pinned : Pinned := { name := "ytkifpnhijdcjlaa", sum := "e01900cbe69b6a3f08bb3e911c1e7b8acc22907ad478fa40ca942add4c731799", checked := Try.checked }
namespace Rows
def none {H : Type} : Left H := { results := [], args := [] }

/-- 'glissadelaw24.SlidesMoves': WHATEVER THE INPUT: true; the input reads as it did. -/
def slidesMovesSpec : ChangeSpec := { name := "slidesMoves", fn := fun _ => fun
  | [d1, d2] => { results := [.lit (.bool true)], args := [d1, d2] }
  | _ => none }
def slidesMovesRow : OpenClaim := { program := "ytkifpnhijdcjlaa", sum := "e01900cbe69b6a3f08bb3e911c1e7b8acc22907ad478fa40ca942add4c731799", func := "glissade/glissadelaw24.SlidesMoves", spec := "slidesMoves", unfollowed := true, recurses := true, apart := false }
def SlidesMovesSaid : Prop := slidesMovesRow.holds Try.pinned (OpenSpec.ofChange slidesMovesSpec)

/-- ITS FALSE NEIGHBOUR: 'it returns false'. Refute it at one input. -/
def slidesMovesWrong : ChangeSpec := { name := "slidesMoves", fn := fun _ => fun
  | [d1, d2] => { results := [.lit (.bool false)], args := [d1, d2] }
  | _ => none }
def SlidesMovesWrongFalsely : Prop := slidesMovesRow.holds Try.pinned (OpenSpec.ofChange slidesMovesWrong)

/-- 'glissadelaw24.SlidesFree': WHATEVER THE INPUT: true; the input reads as it did. -/
def slidesFreeSpec : ChangeSpec := { name := "slidesFree", fn := fun _ => fun
  | [d1, d2] => { results := [.lit (.bool true)], args := [d1, d2] }
  | _ => none }
def slidesFreeRow : OpenClaim := { program := "ytkifpnhijdcjlaa", sum := "e01900cbe69b6a3f08bb3e911c1e7b8acc22907ad478fa40ca942add4c731799", func := "glissade/glissadelaw24.SlidesFree", spec := "slidesFree", unfollowed := true, recurses := true, apart := false }
def SlidesFreeSaid : Prop := slidesFreeRow.holds Try.pinned (OpenSpec.ofChange slidesFreeSpec)

/-- ITS FALSE NEIGHBOUR: 'it returns false'. Refute it at one input. -/
def slidesFreeWrong : ChangeSpec := { name := "slidesFree", fn := fun _ => fun
  | [d1, d2] => { results := [.lit (.bool false)], args := [d1, d2] }
  | _ => none }
def SlidesFreeWrongFalsely : Prop := slidesFreeRow.holds Try.pinned (OpenSpec.ofChange slidesFreeWrong)

/-- 'glissadelaw24.SlidesTell': WHATEVER THE INPUT: true; the input reads as it did. -/
def slidesTellSpec : ChangeSpec := { name := "slidesTell", fn := fun _ => fun
  | [d1, d2] => { results := [.lit (.bool true)], args := [d1, d2] }
  | _ => none }
def slidesTellRow : OpenClaim := { program := "ytkifpnhijdcjlaa", sum := "e01900cbe69b6a3f08bb3e911c1e7b8acc22907ad478fa40ca942add4c731799", func := "glissade/glissadelaw24.SlidesTell", spec := "slidesTell", unfollowed := true, recurses := true, apart := false }
def SlidesTellSaid : Prop := slidesTellRow.holds Try.pinned (OpenSpec.ofChange slidesTellSpec)

/-- ITS FALSE NEIGHBOUR: 'it returns false'. Refute it at one input. -/
def slidesTellWrong : ChangeSpec := { name := "slidesTell", fn := fun _ => fun
  | [d1, d2] => { results := [.lit (.bool false)], args := [d1, d2] }
  | _ => none }
def SlidesTellWrongFalsely : Prop := slidesTellRow.holds Try.pinned (OpenSpec.ofChange slidesTellWrong)

/-- 'glissadelaw24.SlidesEnd': WHATEVER THE INPUT: true; the input reads as it did. -/
def slidesEndSpec : ChangeSpec := { name := "slidesEnd", fn := fun _ => fun
  | [d1, d2] => { results := [.lit (.bool true)], args := [d1, d2] }
  | _ => none }
def slidesEndRow : OpenClaim := { program := "ytkifpnhijdcjlaa", sum := "e01900cbe69b6a3f08bb3e911c1e7b8acc22907ad478fa40ca942add4c731799", func := "glissade/glissadelaw24.SlidesEnd", spec := "slidesEnd", unfollowed := true, recurses := true, apart := false }
def SlidesEndSaid : Prop := slidesEndRow.holds Try.pinned (OpenSpec.ofChange slidesEndSpec)

/-- ITS FALSE NEIGHBOUR: 'it returns false'. Refute it at one input. -/
def slidesEndWrong : ChangeSpec := { name := "slidesEnd", fn := fun _ => fun
  | [d1, d2] => { results := [.lit (.bool false)], args := [d1, d2] }
  | _ => none }
def SlidesEndWrongFalsely : Prop := slidesEndRow.holds Try.pinned (OpenSpec.ofChange slidesEndWrong)

/-- 'glissadelaw24.SlidesChecks': WHATEVER THE INPUT: true; the input reads as it did. -/
def slidesChecksSpec : ChangeSpec := { name := "slidesChecks", fn := fun _ => fun
  | [d] => { results := [.lit (.bool true)], args := [d] }
  | _ => none }
def slidesChecksRow : OpenClaim := { program := "ytkifpnhijdcjlaa", sum := "e01900cbe69b6a3f08bb3e911c1e7b8acc22907ad478fa40ca942add4c731799", func := "glissade/glissadelaw24.SlidesChecks", spec := "slidesChecks", unfollowed := true, recurses := true, apart := false }
def SlidesChecksSaid : Prop := slidesChecksRow.holds Try.pinned (OpenSpec.ofChange slidesChecksSpec)

/-- ITS FALSE NEIGHBOUR: 'it returns false'. Refute it at one input. -/
def slidesChecksWrong : ChangeSpec := { name := "slidesChecks", fn := fun _ => fun
  | [d] => { results := [.lit (.bool false)], args := [d] }
  | _ => none }
def SlidesChecksWrongFalsely : Prop := slidesChecksRow.holds Try.pinned (OpenSpec.ofChange slidesChecksWrong)

/-- 'glissadelaw24.SlidesFull': WHATEVER THE INPUT: true; the input reads as it did. -/
def slidesFullSpec : ChangeSpec := { name := "slidesFull", fn := fun _ => fun
  | [d1, d2] => { results := [.lit (.bool true)], args := [d1, d2] }
  | _ => none }
def slidesFullRow : OpenClaim := { program := "ytkifpnhijdcjlaa", sum := "e01900cbe69b6a3f08bb3e911c1e7b8acc22907ad478fa40ca942add4c731799", func := "glissade/glissadelaw24.SlidesFull", spec := "slidesFull", unfollowed := true, recurses := true, apart := false }
def SlidesFullSaid : Prop := slidesFullRow.holds Try.pinned (OpenSpec.ofChange slidesFullSpec)

/-- ITS FALSE NEIGHBOUR: 'it returns false'. Refute it at one input. -/
def slidesFullWrong : ChangeSpec := { name := "slidesFull", fn := fun _ => fun
  | [d1, d2] => { results := [.lit (.bool false)], args := [d1, d2] }
  | _ => none }
def SlidesFullWrongFalsely : Prop := slidesFullRow.holds Try.pinned (OpenSpec.ofChange slidesFullWrong)

/-- 'glissadelaw24.SlidesParts': WHATEVER THE INPUT: true; the input reads as it did. -/
def slidesPartsSpec : ChangeSpec := { name := "slidesParts", fn := fun _ => fun
  | [d1, d2] => { results := [.lit (.bool true)], args := [d1, d2] }
  | _ => none }
def slidesPartsRow : OpenClaim := { program := "ytkifpnhijdcjlaa", sum := "e01900cbe69b6a3f08bb3e911c1e7b8acc22907ad478fa40ca942add4c731799", func := "glissade/glissadelaw24.SlidesParts", spec := "slidesParts", unfollowed := true, recurses := true, apart := false }
def SlidesPartsSaid : Prop := slidesPartsRow.holds Try.pinned (OpenSpec.ofChange slidesPartsSpec)

/-- ITS FALSE NEIGHBOUR: 'it returns false'. Refute it at one input. -/
def slidesPartsWrong : ChangeSpec := { name := "slidesParts", fn := fun _ => fun
  | [d1, d2] => { results := [.lit (.bool false)], args := [d1, d2] }
  | _ => none }
def SlidesPartsWrongFalsely : Prop := slidesPartsRow.holds Try.pinned (OpenSpec.ofChange slidesPartsWrong)

/- THE SECOND FORM. 'bulk': how many values and letters a reading holds, each counted each time it is reached (what is shared counts as often as it is met; a slice's spare places count too). A statement '..UptoSaid' is the law's where the arguments, and the package variables that the reading takes, are together of bulk at most 1048576: NARROWER than '..Said'. Prove '..Said' where nothing that the law and all that it calls make is longer than what came in: it says more and counts as full. Else prove '..UptoSaid'. A law counts once. -/
mutual
def uptoBulk {H : Type} : DataW H → Nat
  | .lit (.string bytes) => bytes.length + 1
  | .lit _ => 1
  | .nil => 1
  | .ptr d => uptoBulk d + 1
  | .slice elems spare => uptoBulkAll elems + uptoBulkAll spare + 1
  | .agg parts => uptoBulkAll parts + 1
  | .iface _ d => uptoBulk d + 1
  | .map entries => uptoBulkEntries entries + 1
  | .held _ => 1
def uptoBulkAll {H : Type} : List (DataW H) → Nat
  | [] => 0
  | d :: r => uptoBulk d + uptoBulkAll r
def uptoBulkEntries {H : Type} : List (Lit × DataW H) → Nat
  | [] => 0
  | x :: r => uptoBulkEntry x + uptoBulkEntries r
def uptoBulkEntry {H : Type} : Lit × DataW H → Nat
  | (.string bytes, d) => bytes.length + uptoBulk d + 1
  | (_, d) => uptoBulk d + 1
 end
def uptoSmall : (H : Type) → List (DataW H) → Bool := fun _ ds => decide (uptoBulkAll ds ≤ 1048576)
def OpenSpec.upto (s : _root_.Go.ChangeSpec) : _root_.Go.OpenSpec := { _root_.Go.OpenSpec.ofChange s with cond := some uptoSmall }

/-- 'glissadelaw24.SlidesMoves', WHERE WHAT IT READS IS OF BULK AT MOST 1048576: true; the input reads as it did. -/
def slidesMovesUptoRow : OpenClaim := { program := "ytkifpnhijdcjlaa", sum := "e01900cbe69b6a3f08bb3e911c1e7b8acc22907ad478fa40ca942add4c731799", func := "glissade/glissadelaw24.SlidesMoves", spec := "slidesMoves", unfollowed := true, recurses := true, apart := false, narrowed := true }
def SlidesMovesUptoSaid : Prop := slidesMovesUptoRow.holds Try.pinned (OpenSpec.upto slidesMovesSpec)

/-- 'glissadelaw24.SlidesFree', WHERE WHAT IT READS IS OF BULK AT MOST 1048576: true; the input reads as it did. -/
def slidesFreeUptoRow : OpenClaim := { program := "ytkifpnhijdcjlaa", sum := "e01900cbe69b6a3f08bb3e911c1e7b8acc22907ad478fa40ca942add4c731799", func := "glissade/glissadelaw24.SlidesFree", spec := "slidesFree", unfollowed := true, recurses := true, apart := false, narrowed := true }
def SlidesFreeUptoSaid : Prop := slidesFreeUptoRow.holds Try.pinned (OpenSpec.upto slidesFreeSpec)

/-- 'glissadelaw24.SlidesTell', WHERE WHAT IT READS IS OF BULK AT MOST 1048576: true; the input reads as it did. -/
def slidesTellUptoRow : OpenClaim := { program := "ytkifpnhijdcjlaa", sum := "e01900cbe69b6a3f08bb3e911c1e7b8acc22907ad478fa40ca942add4c731799", func := "glissade/glissadelaw24.SlidesTell", spec := "slidesTell", unfollowed := true, recurses := true, apart := false, narrowed := true }
def SlidesTellUptoSaid : Prop := slidesTellUptoRow.holds Try.pinned (OpenSpec.upto slidesTellSpec)

/-- 'glissadelaw24.SlidesEnd', WHERE WHAT IT READS IS OF BULK AT MOST 1048576: true; the input reads as it did. -/
def slidesEndUptoRow : OpenClaim := { program := "ytkifpnhijdcjlaa", sum := "e01900cbe69b6a3f08bb3e911c1e7b8acc22907ad478fa40ca942add4c731799", func := "glissade/glissadelaw24.SlidesEnd", spec := "slidesEnd", unfollowed := true, recurses := true, apart := false, narrowed := true }
def SlidesEndUptoSaid : Prop := slidesEndUptoRow.holds Try.pinned (OpenSpec.upto slidesEndSpec)

/-- 'glissadelaw24.SlidesChecks', WHERE WHAT IT READS IS OF BULK AT MOST 1048576: true; the input reads as it did. -/
def slidesChecksUptoRow : OpenClaim := { program := "ytkifpnhijdcjlaa", sum := "e01900cbe69b6a3f08bb3e911c1e7b8acc22907ad478fa40ca942add4c731799", func := "glissade/glissadelaw24.SlidesChecks", spec := "slidesChecks", unfollowed := true, recurses := true, apart := false, narrowed := true }
def SlidesChecksUptoSaid : Prop := slidesChecksUptoRow.holds Try.pinned (OpenSpec.upto slidesChecksSpec)

/-- 'glissadelaw24.SlidesFull', WHERE WHAT IT READS IS OF BULK AT MOST 1048576: true; the input reads as it did. -/
def slidesFullUptoRow : OpenClaim := { program := "ytkifpnhijdcjlaa", sum := "e01900cbe69b6a3f08bb3e911c1e7b8acc22907ad478fa40ca942add4c731799", func := "glissade/glissadelaw24.SlidesFull", spec := "slidesFull", unfollowed := true, recurses := true, apart := false, narrowed := true }
def SlidesFullUptoSaid : Prop := slidesFullUptoRow.holds Try.pinned (OpenSpec.upto slidesFullSpec)

/-- 'glissadelaw24.SlidesParts', WHERE WHAT IT READS IS OF BULK AT MOST 1048576: true; the input reads as it did. -/
def slidesPartsUptoRow : OpenClaim := { program := "ytkifpnhijdcjlaa", sum := "e01900cbe69b6a3f08bb3e911c1e7b8acc22907ad478fa40ca942add4c731799", func := "glissade/glissadelaw24.SlidesParts", spec := "slidesParts", unfollowed := true, recurses := true, apart := false, narrowed := true }
def SlidesPartsUptoSaid : Prop := slidesPartsUptoRow.holds Try.pinned (OpenSpec.upto slidesPartsSpec)

end Rows
end Go.Proofs.Ytkifpnhijdcjlaa
