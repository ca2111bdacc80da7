/-
  No cell of these rows narrows 'for every input' (looked for: loops, veiled, ifaces, maps, wideKeys, modest, calm, conditions, laid).
  DERIVED. THE GIVEN ROWS OF THIS SEAT. 2 by the template 'for every input the law returns true; each argument reads behind the call as it read before'; 0 by the template 'total and deterministic' (their statements: YtfmjhleccnmhkaaGreatTotals.lean).
  GIVEN WITH THE SEED: the statements are not yours to turn. If you find one false, say at which input.
  Laid BY PROGRAM, IN A SANDBOX (cutbox-rows.mjs): the forced cells as the released guide's own fill.sh prints them over the translation 3a9d671d5de72d3e… (all of the seat's roots in one cut). By AI agents, Wed Nov 11 2026. No macro, syntax, notation, axiom, sorry.
-/
import Derived.Test.YtfmjhleccnmhkaaGreatChecked
import GoSem.Claim
import GoSem.ClaimJoined
import GoSem.ClaimMapViews
import Derived.JoinedTies
import Derived.KernelRfl
namespace Go.Proofs.YtfmjhleccnmhkaaGreat
/- THE CELL 'sum', in the pinned program and in every row, IS THE sha256 OF THE DUMP (.gsa) THAT YtfmjhleccnmhkaaGreatProg.lean LOADS. Nothing in Lean hashes anything: it is a label: what it is worth is what the hold of that sum in a sandbox is worth. -/
noncomputable def Tryz.pinned : Pinned := { name := "ytfmjhleccnmhkaagreat", sum := "3a9d671d5de72d3ed45828ab7f5a52c048d2257342cf33c6f2b08a0f65f9f0d4", checked := Tryz.checked }
namespace Rows
def none {H : Type} : Left H := { results := [], args := [] }

/-- 'glissadelaw18.TableSlide': WHATEVER THE INPUT: true; the input reads as it did. -/
def tableSlideSpec : ChangeSpec := { name := "tableSlide", fn := fun _ => fun
  | [d1, d2] => { results := [.lit (.bool true)], args := [d1, d2] }
  | _ => none }
def tableSlideRow : OpenClaim := { program := "ytfmjhleccnmhkaagreat", sum := "3a9d671d5de72d3ed45828ab7f5a52c048d2257342cf33c6f2b08a0f65f9f0d4", func := "glissade/glissadelaw18.TableSlide", spec := "tableSlide", inPlace := ["internal/abi.NoEscape", "internal/bytealg.MakeNoZero"], unfollowed := true, recurses := true, apart := false }
def TableSlideSaid : Prop := tableSlideRow.holds Tryz.pinned (OpenSpec.ofChange tableSlideSpec)

/-- ITS FALSE NEIGHBOUR: 'it returns false'. Refute it at one input. -/
def tableSlideWrong : ChangeSpec := { name := "tableSlide", fn := fun _ => fun
  | [d1, d2] => { results := [.lit (.bool false)], args := [d1, d2] }
  | _ => none }
def TableSlideWrongFalsely : Prop := tableSlideRow.holds Tryz.pinned (OpenSpec.ofChange tableSlideWrong)

/-- 'glissadelaw25.DefragNone': WHATEVER THE INPUT: true; the input reads as it did. -/
def defragNoneSpec : ChangeSpec := { name := "defragNone", fn := fun _ => fun
  | [d] => { results := [.lit (.bool true)], args := [d] }
  | _ => none }
def defragNoneRow : OpenClaim := { program := "ytfmjhleccnmhkaagreat", sum := "3a9d671d5de72d3ed45828ab7f5a52c048d2257342cf33c6f2b08a0f65f9f0d4", func := "glissade/glissadelaw25.DefragNone", spec := "defragNone", inPlace := ["internal/abi.NoEscape", "internal/bytealg.MakeNoZero", "internal/bytealg.IndexByteString", "internal/bytealg.IndexString"], unfollowed := true, recurses := true, named := ["internal/bytealg.MaxLen"], apart := false }
def DefragNoneSaid : Prop := defragNoneRow.holds Tryz.pinned (OpenSpec.ofChange defragNoneSpec)

/-- ITS FALSE NEIGHBOUR: 'it returns false'. Refute it at one input. -/
def defragNoneWrong : ChangeSpec := { name := "defragNone", fn := fun _ => fun
  | [d] => { results := [.lit (.bool false)], args := [d] }
  | _ => none }
def DefragNoneWrongFalsely : Prop := defragNoneRow.holds Tryz.pinned (OpenSpec.ofChange defragNoneWrong)

/- THE SECOND FORM. 'bulk': how many values and letters a reading holds, each counted each time it is reached (what is shared counts as often as it is met; a slice's spare places count too). A statement '..UptoSaid' is the law's where the arguments, and the package variables that the reading takes, are together of bulk at most 1048576: NARROWER than '..Said'. Prove '..Said' where nothing that the law and all that it calls make is longer than what came in: it says more and counts as full. Else prove '..UptoSaid'. A law counts once. -/
mutual
def uptoBulk {H : Type} : DataW H → Nat
  | .lit (.string bytes) => bytes.length + 1
  | .lit _ => 1
  | .nil => 1
  | .ptr d => uptoBulk d + 1
  | .slice elems spare => uptoBulkAll elems + uptoBulkAll spare + 1
  | .agg parts => uptoBulkAll parts + 1
  | .iface _ d => uptoBulk d + 1
  | .map entries => uptoBulkEntries entries + 1
  | .held _ => 1
def uptoBulkAll {H : Type} : List (DataW H) → Nat
  | [] => 0
  | d :: r => uptoBulk d + uptoBulkAll r
def uptoBulkEntries {H : Type} : List (Lit × DataW H) → Nat
  | [] => 0
  | x :: r => uptoBulkEntry x + uptoBulkEntries r
def uptoBulkEntry {H : Type} : Lit × DataW H → Nat
  | (.string bytes, d) => bytes.length + uptoBulk d + 1
  | (_, d) => uptoBulk d + 1
 end
def uptoSmall : (H : Type) → List (DataW H) → Bool := fun _ ds => decide (uptoBulkAll ds ≤ 1048576)
def OpenSpec.upto (s : _root_.Go.ChangeSpec) : _root_.Go.OpenSpec := { _root_.Go.OpenSpec.ofChange s with cond := some uptoSmall }

/-- 'glissadelaw18.TableSlide', WHERE WHAT IT READS IS OF BULK AT MOST 1048576: true; the input reads as it did. -/
def tableSlideUptoRow : OpenClaim := { program := "ytfmjhleccnmhkaagreat", sum := "3a9d671d5de72d3ed45828ab7f5a52c048d2257342cf33c6f2b08a0f65f9f0d4", func := "glissade/glissadelaw18.TableSlide", spec := "tableSlide", inPlace := ["internal/abi.NoEscape", "internal/bytealg.MakeNoZero"], unfollowed := true, recurses := true, apart := false, narrowed := true }
def TableSlideUptoSaid : Prop := tableSlideUptoRow.holds Tryz.pinned (OpenSpec.upto tableSlideSpec)

/-- 'glissadelaw25.DefragNone', WHERE WHAT IT READS IS OF BULK AT MOST 1048576: true; the input reads as it did. -/
def defragNoneUptoRow : OpenClaim := { program := "ytfmjhleccnmhkaagreat", sum := "3a9d671d5de72d3ed45828ab7f5a52c048d2257342cf33c6f2b08a0f65f9f0d4", func := "glissade/glissadelaw25.DefragNone", spec := "defragNone", inPlace := ["internal/abi.NoEscape", "internal/bytealg.MakeNoZero", "internal/bytealg.IndexByteString", "internal/bytealg.IndexString"], unfollowed := true, recurses := true, named := ["internal/bytealg.MaxLen"], apart := false, narrowed := true }
def DefragNoneUptoSaid : Prop := defragNoneUptoRow.holds Tryz.pinned (OpenSpec.upto defragNoneSpec)

end Rows
end Go.Proofs.YtfmjhleccnmhkaaGreat
