/- Regions that draw their order, whose operations read and whose calls only make memory of their own: one walk in the order of the text. -/
import Derived.Test.YtkifpnhijdcjlaaBase
import Derived.BigQuiet
import Derived.Deep.QuietTactic
namespace Go.Proofs.Ytkifpnhijdcjlaa
open Go.RowKit

/-- The world with more blocks behind, after some draws. -/
def ext (w : World) (x : World) : World := { w with heap := w.heap ++ x.heap, drawn := x.drawn }

theorem ext_heap (w : World) (x : World) {b : Nat} (h : b < w.heap.size) : (ext w x).heap[b]? = w.heap[b]? := by
  show (w.heap ++ x.heap)[b]? = _
  rw [Array.getElem?_append_left h]
theorem ext_cell (w : World) (x : World) {b o : Nat} (h : b < w.heap.size) : (ext w x).cell? ⟨b, o, none⟩ = w.cell? ⟨b, o, none⟩ :=
  World.cell?_of_block (a := ⟨b, o, none⟩) (ext_heap w x h)
theorem ext_frozen (w : World) (x : World) {b o : Nat} (h : b < w.heap.size) : (ext w x).frozen? ⟨b, o, none⟩ = w.frozen? ⟨b, o, none⟩ :=
  World.frozen?_of_block (a := ⟨b, o, none⟩) (ext_heap w x h)
theorem ext_below (w : World) (x : World) : Below w.heap.size w (ext w x) :=
  ⟨rfl, rfl, rfl, by show _ ≤ (w.heap ++ x.heap).size; simp, fun k hk => ext_heap w x hk⟩
theorem below_ext {w w' : World} (h : Below w.heap.size w w') : ∃ x, w' = ext w x := by
  refine ⟨{ w with heap := w'.heap.extract w.heap.size w'.heap.size, drawn := w'.drawn }, ?_⟩
  obtain ⟨h1, h2, h3, h4, h5⟩ := h
  obtain ⟨hp, t, d, os, out⟩ := w'
  obtain ⟨hp0, t0, d0, os0, out0⟩ := w
  simp only at h1 h2 h3 h4 h5
  subst h1 h2 h3
  show World.mk _ _ _ _ _ = World.mk _ _ _ _ _
  congr 1
  apply Array.ext_getElem?
  intro i
  simp only [Array.getElem?_append, Array.getElem?_extract]
  split
  · rename_i hlt; exact h5 i hlt
  · rename_i hge
    have hge' : hp0.size ≤ i := Nat.le_of_not_lt hge
    rw [Nat.add_sub_cancel' hge']
    split
    · rfl
    · rw [Array.getElem?_eq_none]; omega
theorem grow_of {P : Program} {f : FuncId} {args : Array Value} {w : World} {x : World} {v : Value}
    (h : Calls P f args (ext w x) fun e w' => e = .returned v ∧ Below (ext w x).heap.size (ext w x) w') : Calls P f args (ext w x) fun e w'' => e = .returned v ∧ ∃ y, w'' = ext w y :=
  h.mono fun _ _ ⟨he, hb⟩ => ⟨he, below_ext ((ext_below w x).trans (hb.mono (ext_below w x).size))⟩
theorem grow_same {P : Program} {f : FuncId} {args : Array Value} {w : World} {x : World} {v : Value}
    (h : Calls P f args (ext w x) fun e w' => e = .returned v ∧ ext w x = w') : Calls P f args (ext w x) fun e w'' => e = .returned v ∧ ∃ y, w'' = ext w y :=
  h.mono fun _ _ ⟨he, hb⟩ => ⟨he, x, hb.symm⟩

theorem wp_region_grow_lit {P : Program} {id : Nat} {Q : Exit → Act → World → Prop} {a : Act} {w : World} {l : List Oper} (hm : P.follows .mixedOrders = true) (hB : Region.lexB .any l.toArray = true)
    (h : wpQuiet P l.toArray (fun w' => ∃ x, w' = ext w x) (fun a' => ∀ w', (∃ x, w' = ext w x) → Q .normal a' w') l a) : (Code.region id l.toArray true).wp P Q a w :=
  wp_region_quiet (C := fun w' => ∃ x, w' = ext w x) hm hB (below_ext ((Below.refl w.heap.size w).drew)) (by simpa using h)
end Go.Proofs.Ytkifpnhijdcjlaa
