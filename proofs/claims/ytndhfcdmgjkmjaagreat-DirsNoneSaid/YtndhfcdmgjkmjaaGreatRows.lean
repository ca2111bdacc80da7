/-
  No cell of these rows narrows 'for every input' (looked for: loops, veiled, ifaces, maps, wideKeys, modest, calm, conditions, laid).
  DERIVED. THE GIVEN ROWS OF THIS SEAT. 3 by the template 'for every input the law returns true; each argument reads behind the call as it read before'; 0 by the template 'total and deterministic' (their statements: YtndhfcdmgjkmjaaGreatTotals.lean).
  GIVEN WITH THE SEED: the statements are not yours to turn. If you find one false, say at which input.
  Laid BY PROGRAM, IN A SANDBOX (cutbox-rows.mjs): the forced cells as the released guide's own fill.sh prints them over the translation 23612d919f0bc81a… (all of the seat's roots in one cut). By AI agents, Wed Nov 11 2026. No macro, syntax, notation, axiom, sorry.
-/
import Derived.Test.YtndhfcdmgjkmjaaGreatChecked
import GoSem.Claim
import GoSem.ClaimJoined
import GoSem.ClaimMapViews
import Derived.JoinedTies
import Derived.KernelRfl
namespace Go.Proofs.YtndhfcdmgjkmjaaGreat
/- THE CELL 'sum', in the pinned program and in every row, IS THE sha256 OF THE DUMP (.gsa) THAT YtndhfcdmgjkmjaaGreatProg.lean LOADS. Nothing in Lean hashes anything: it is a label: what it is worth is what the hold of that sum in a sandbox is worth. -/
noncomputable def Tryz.pinned : Pinned := { name := "ytndhfcdmgjkmjaagreat", sum := "23612d919f0bc81a8123e8022ee45ee8524ad45fa0a4482524d146dffce225d9", checked := Tryz.checked }
namespace Rows
def none {H : Type} : Left H := { results := [], args := [] }

/-- 'glissadelaw19.FilesNone': WHATEVER THE INPUT: true; the input reads as it did. -/
def filesNoneSpec : ChangeSpec := { name := "filesNone", fn := fun _ => fun
  | [d1, d2] => { results := [.lit (.bool true)], args := [d1, d2] }
  | _ => none }
def filesNoneRow : OpenClaim := { program := "ytndhfcdmgjkmjaagreat", sum := "23612d919f0bc81a8123e8022ee45ee8524ad45fa0a4482524d146dffce225d9", func := "glissade/glissadelaw19.FilesNone", spec := "filesNone", inPlace := ["internal/abi.NoEscape", "internal/bytealg.MakeNoZero"], unfollowed := true, recurses := true, apart := false }
def FilesNoneSaid : Prop := filesNoneRow.holds Tryz.pinned (OpenSpec.ofChange filesNoneSpec)

/-- ITS FALSE NEIGHBOUR: 'it returns false'. Refute it at one input. -/
def filesNoneWrong : ChangeSpec := { name := "filesNone", fn := fun _ => fun
  | [d1, d2] => { results := [.lit (.bool false)], args := [d1, d2] }
  | _ => none }
def FilesNoneWrongFalsely : Prop := filesNoneRow.holds Tryz.pinned (OpenSpec.ofChange filesNoneWrong)

/-- 'glissadelaw20.DirsNone': WHATEVER THE INPUT: true; the input reads as it did. -/
def dirsNoneSpec : ChangeSpec := { name := "dirsNone", fn := fun _ => fun
  | [d1, d2, d3] => { results := [.lit (.bool true)], args := [d1, d2, d3] }
  | _ => none }
def dirsNoneRow : OpenClaim := { program := "ytndhfcdmgjkmjaagreat", sum := "23612d919f0bc81a8123e8022ee45ee8524ad45fa0a4482524d146dffce225d9", func := "glissade/glissadelaw20.DirsNone", spec := "dirsNone", inPlace := ["internal/abi.NoEscape", "internal/bytealg.MakeNoZero", "internal/bytealg.IndexByteString", "internal/bytealg.IndexString"], unfollowed := true, recurses := true, named := ["internal/bytealg.MaxLen"], apart := false }
def DirsNoneSaid : Prop := dirsNoneRow.holds Tryz.pinned (OpenSpec.ofChange dirsNoneSpec)

/-- ITS FALSE NEIGHBOUR: 'it returns false'. Refute it at one input. -/
def dirsNoneWrong : ChangeSpec := { name := "dirsNone", fn := fun _ => fun
  | [d1, d2, d3] => { results := [.lit (.bool false)], args := [d1, d2, d3] }
  | _ => none }
def DirsNoneWrongFalsely : Prop := dirsNoneRow.holds Tryz.pinned (OpenSpec.ofChange dirsNoneWrong)

/-- 'glissadelaw26.ReportNone': WHATEVER THE INPUT: true; the input reads as it did. -/
def reportNoneSpec : ChangeSpec := { name := "reportNone", fn := fun _ => fun
  | [d] => { results := [.lit (.bool true)], args := [d] }
  | _ => none }
def reportNoneRow : OpenClaim := { program := "ytndhfcdmgjkmjaagreat", sum := "23612d919f0bc81a8123e8022ee45ee8524ad45fa0a4482524d146dffce225d9", func := "glissade/glissadelaw26.ReportNone", spec := "reportNone", inPlace := ["internal/abi.NoEscape", "internal/bytealg.MakeNoZero", "internal/bytealg.IndexByteString", "internal/bytealg.IndexString"], unfollowed := true, recurses := true, named := ["internal/bytealg.MaxLen"], apart := false }
def ReportNoneSaid : Prop := reportNoneRow.holds Tryz.pinned (OpenSpec.ofChange reportNoneSpec)

/-- ITS FALSE NEIGHBOUR: 'it returns false'. Refute it at one input. -/
def reportNoneWrong : ChangeSpec := { name := "reportNone", fn := fun _ => fun
  | [d] => { results := [.lit (.bool false)], args := [d] }
  | _ => none }
def ReportNoneWrongFalsely : Prop := reportNoneRow.holds Tryz.pinned (OpenSpec.ofChange reportNoneWrong)

/- THE SECOND FORM. 'bulk': how many values and letters a reading holds, each counted each time it is reached (what is shared counts as often as it is met; a slice's spare places count too). A statement '..UptoSaid' is the law's where the arguments, and the package variables that the reading takes, are together of bulk at most 1048576: NARROWER than '..Said'. Prove '..Said' where nothing that the law and all that it calls make is longer than what came in: it says more and counts as full. Else prove '..UptoSaid'. A law counts once. -/
mutual
def uptoBulk {H : Type} : DataW H → Nat
  | .lit (.string bytes) => bytes.length + 1
  | .lit _ => 1
  | .nil => 1
  | .ptr d => uptoBulk d + 1
  | .slice elems spare => uptoBulkAll elems + uptoBulkAll spare + 1
  | .agg parts => uptoBulkAll parts + 1
  | .iface _ d => uptoBulk d + 1
  | .map entries => uptoBulkEntries entries + 1
  | .held _ => 1
def uptoBulkAll {H : Type} : List (DataW H) → Nat
  | [] => 0
  | d :: r => uptoBulk d + uptoBulkAll r
def uptoBulkEntries {H : Type} : List (Lit × DataW H) → Nat
  | [] => 0
  | x :: r => uptoBulkEntry x + uptoBulkEntries r
def uptoBulkEntry {H : Type} : Lit × DataW H → Nat
  | (.string bytes, d) => bytes.length + uptoBulk d + 1
  | (_, d) => uptoBulk d + 1
 end
def uptoSmall : (H : Type) → List (DataW H) → Bool := fun _ ds => decide (uptoBulkAll ds ≤ 1048576)
def OpenSpec.upto (s : _root_.Go.ChangeSpec) : _root_.Go.OpenSpec := { _root_.Go.OpenSpec.ofChange s with cond := some uptoSmall }

/-- 'glissadelaw19.FilesNone', WHERE WHAT IT READS IS OF BULK AT MOST 1048576: true; the input reads as it did. -/
def filesNoneUptoRow : OpenClaim := { program := "ytndhfcdmgjkmjaagreat", sum := "23612d919f0bc81a8123e8022ee45ee8524ad45fa0a4482524d146dffce225d9", func := "glissade/glissadelaw19.FilesNone", spec := "filesNone", inPlace := ["internal/abi.NoEscape", "internal/bytealg.MakeNoZero"], unfollowed := true, recurses := true, apart := false, narrowed := true }
def FilesNoneUptoSaid : Prop := filesNoneUptoRow.holds Tryz.pinned (OpenSpec.upto filesNoneSpec)

/-- 'glissadelaw20.DirsNone', WHERE WHAT IT READS IS OF BULK AT MOST 1048576: true; the input reads as it did. -/
def dirsNoneUptoRow : OpenClaim := { program := "ytndhfcdmgjkmjaagreat", sum := "23612d919f0bc81a8123e8022ee45ee8524ad45fa0a4482524d146dffce225d9", func := "glissade/glissadelaw20.DirsNone", spec := "dirsNone", inPlace := ["internal/abi.NoEscape", "internal/bytealg.MakeNoZero", "internal/bytealg.IndexByteString", "internal/bytealg.IndexString"], unfollowed := true, recurses := true, named := ["internal/bytealg.MaxLen"], apart := false, narrowed := true }
def DirsNoneUptoSaid : Prop := dirsNoneUptoRow.holds Tryz.pinned (OpenSpec.upto dirsNoneSpec)

/-- 'glissadelaw26.ReportNone', WHERE WHAT IT READS IS OF BULK AT MOST 1048576: true; the input reads as it did. -/
def reportNoneUptoRow : OpenClaim := { program := "ytndhfcdmgjkmjaagreat", sum := "23612d919f0bc81a8123e8022ee45ee8524ad45fa0a4482524d146dffce225d9", func := "glissade/glissadelaw26.ReportNone", spec := "reportNone", inPlace := ["internal/abi.NoEscape", "internal/bytealg.MakeNoZero", "internal/bytealg.IndexByteString", "internal/bytealg.IndexString"], unfollowed := true, recurses := true, named := ["internal/bytealg.MaxLen"], apart := false, narrowed := true }
def ReportNoneUptoSaid : Prop := reportNoneUptoRow.holds Tryz.pinned (OpenSpec.upto reportNoneSpec)

end Rows
end Go.Proofs.YtndhfcdmgjkmjaaGreat
