/- A verified executor: part 1. -/
import Derived.RangeFuncRecord
import Derived.Deep.Draws
import Derived.MapKept
import Derived.Laws.AppendOwn
import Derived.Below
namespace Go.Ex
def ChunkIs (P : Program) (f : FuncId) : Prop:=∀ (w : World) (l : Nat) (sa na : Addr) (pa : Option Addr) (L c m : Nat),w.cell? sa=some (.slice pa L c)→w.frozen? sa=false→w.cell? na=some (.int .i64 (.ofNat m))→w.frozen? na=false→L≤m→0 < m→m < 4611686018427387904→L≤c→∀ R : World→Prop,(L=0→R w) →
  (0 < L→∃ g o fn tmps assign body,pa=some ⟨g,o,none⟩∧∀ q,(Instr.yield l #[.slice (some ⟨g,o,none⟩) L L]).run P (w.drewN q)=.ok (.round l fn tmps assign body) (w.drewN q) ∧
   RoundIn Fence.wide (0 - 1) P l fn tmps assign body (w.drewN q) fun en w1=>en=.returned (.bool true)∧w1.cell? sa=some (.slice (some ⟨g,o,none⟩) L c)∧w1.frozen? sa=false∧w1.cell? na=some (.int .i64 (.ofNat m))∧w1.frozen? na=false∧R w1) →
  CallsIn Fence.wide 0 P f #[.func (.yield l) #[] #[],.pointer (some sa),.pointer (some na)] w fun en w'=>en=.returned (.tuple #[])∧R w'
def NodesIs (P : Program) (f : FuncId) : Prop:=∀ (w : World) (b : Nat) (g o L c : Nat),w.cell? ⟨b,3,none⟩=some (.slice (some ⟨g,o,none⟩) L c)→w.frozen? ⟨b,3,none⟩=false→L < 4611686018427387904 →
  (∀ k,k < L→w.cell? ⟨g,o+k,none⟩=some (.string ⟨#[]⟩)∧w.frozen? ⟨g,o+k,none⟩=false)→Calls P f #[.pointer (some ⟨b,0,none⟩)] w fun en w'=>en=.returned (.slice none 0 0)∧w'=w
def keyInt (x : MapEntry) : Int:=match x.key with
 | .int _ n=>n
 | _=>0
def SortedIs (P : Program) (fs : FuncId) (g : FuncId→Bool) (e : TypeId) : Prop:=∀ fk,g fk=true→∀ (w : World) (bm b : Nat) (es : Array MapEntry) (clock : Nat),w.cell? ⟨bm,0,none⟩=some (.map (some b))→w.heap[b]?=some (.map es clock)→MapKept.Stamped es clock →
  (∀ x ∈ es.toList,∃ k : Nat,k < 4611686018427387904∧x.key=.int .i64 (.ofNat k))→es.size < 4096→Calls P fs #[.func (.func fk) #[] #[.pointer (some ⟨bm,0,none⟩)]] w fun en w'=>∃ (v : Value) (ss : List Int),en=.returned v∧ss.Perm (es.toList.map keyInt) ∧
   w'.ownsRow w.heap.size e 1 v ss.length ((ss.mergeSort fun x y=>decide (x≤y)).map (Value.int .i64))∧(v=.slice none 0 0 ↔ ss=[])∧RowKit.Below w.heap.size w w'
end Go.Ex
