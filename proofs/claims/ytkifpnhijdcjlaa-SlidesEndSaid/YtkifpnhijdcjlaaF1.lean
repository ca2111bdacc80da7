/- A field in a box of the call's own; what stays behind calls. -/
import Derived.Test.YtkifpnhijdcjlaaN3
import Derived.Test.YtkifpnhijdcjlaaL2
import Derived.Deep.RegionHeld3
namespace Go.Proofs.Ytkifpnhijdcjlaa
open Go.RowKit

/-- A field: its numbers, and where its runs lie. -/
structure Fld where
  first : Int
  n : Int
  A : Option Addr
  m : Nat
  c : Nat
  ps : RunL
  B : Option Addr
  l : Nat
  d : Nat
  qs : RunL
def Fld.val (f : Fld) : Value := fieldV f.first f.n f.A f.m f.c f.B f.l f.d
def Fld.obj (f : Fld) : Obj := .cells #[.int .i64 f.first, .int .i64 f.n, .slice f.A f.m f.c, .slice f.B f.l f.d] 31
/-- the cells of the box. -/
def Box (w : World) (X : Nat) (f : Fld) : Prop := w.cell? ⟨X, 0, none⟩ = some (.int .i64 f.first) ∧ w.cell? ⟨X, 1, none⟩ = some (.int .i64 f.n) ∧ w.cell? ⟨X, 2, none⟩ = some (.slice f.A f.m f.c) ∧ w.cell? ⟨X, 3, none⟩ = some (.slice f.B f.l f.d)
/-- what holds at each world behind the box was laid. -/
structure Kept (w0 : World) (X : Nat) (f : Fld) (w : World) : Prop where
  bel : Below w0.heap.size w0 w
  box : Box w X f
  lt : X < w.heap.size
  rp : Runs w w.heap.size f.A f.m f.ps
  rq : Runs w w.heap.size f.B f.l f.qs
theorem Kept.next {w0 : World} {X : Nat} {f : Fld} {w w' : World} (h : Kept w0 X f w) (hb : Below w.heap.size w w') : Kept w0 X f w' := by
  have hs := hb.size
  obtain ⟨c0, c1, c2, c3⟩ := h.box
  exact ⟨h.bel.trans (hb.mono h.bel.size), ⟨(hb.cell (p := ⟨X, 0, none⟩) h.lt).trans c0, (hb.cell (p := ⟨X, 1, none⟩) h.lt).trans c1, (hb.cell (p := ⟨X, 2, none⟩) h.lt).trans c2, (hb.cell (p := ⟨X, 3, none⟩) h.lt).trans c3⟩,
    Nat.lt_of_lt_of_le h.lt hs, (h.rp.below hb (Nat.le_refl _)).more hs, (h.rq.below hb (Nat.le_refl _)).more hs⟩
theorem Kept.drewN {w0 : World} {X : Nat} {f : Fld} {w : World} (h : Kept w0 X f w) (k : Nat) : Kept w0 X f (w.drewN k) := h.next (below_drewN (Below.refl _ _) _)
theorem Kept.drew {w0 : World} {X : Nat} {f : Fld} {w : World} (h : Kept w0 X f w) : Kept w0 X f w.drew := h.next (Below.refl _ _).drew
theorem Kept.alloc {w0 : World} {X : Nat} {f : Fld} {w : World} (h : Kept w0 X f w) (o : Obj) : Kept w0 X f (w.alloc o) := h.next ((Below.refl _ _).alloc (Nat.le_refl _) _)
theorem Kept.new {w : World} {f : Fld} (h1 : Runs w w.heap.size f.A f.m f.ps) (h2 : Runs w w.heap.size f.B f.l f.qs) : Kept w w.heap.size f (w.alloc f.obj) := by
  have hb := (Below.refl w.heap.size w).alloc (Nat.le_refl _) f.obj
  have hg := heap_alloc_new w f.obj
  refine ⟨hb, ⟨?_, ?_, ?_, ?_⟩, by simp, (h1.below hb (Nat.le_refl _)).more hb.size, (h2.below hb (Nat.le_refl _)).more hb.size⟩ <;> (unfold Fld.obj at *; rw [cell_of_row _ _ _ _ _ _ hg]; rfl)
theorem Runs.nx {w w' : World} {A : Option Addr} {n : Nat} {xs : RunL} (h : Runs w w.heap.size A n xs) (hb : Below w.heap.size w w') : Runs w' w'.heap.size A n xs := (h.below hb (Nat.le_refl _)).more hb.size
theorem Runs.dn {w : World} {A : Option Addr} {n : Nat} {xs : RunL} (h : Runs w w.heap.size A n xs) (k : Nat) : Runs (w.drewN k) (w.drewN k).heap.size A n xs := h.nx (below_drewN (Below.refl _ _) _)
theorem Runs.d1 {w : World} {A : Option Addr} {n : Nat} {xs : RunL} (h : Runs w w.heap.size A n xs) : Runs w.drew w.drew.heap.size A n xs := h.nx (Below.refl _ _).drew
/-- the same rows, twice. -/
theorem same_self (A : Option Addr) (m c : Nat) (xs : RunL) (B : Option Addr) (l d : Nat) (w : World) (hx : Runs w w.heap.size A m xs) (hy : Runs w w.heap.size B l xs) (hm : m ≤ 1048576) :
    Calls Try.prog 12 #[.slice A m c, .slice B l d] w fun e w' => e = .returned (.bool true) ∧ ∃ q, w' = w.drewN q := by
  have h := same_any A m c xs B l d xs w hx hy hm (by have := hx.1; have := hy.1; omega)
  rw [sameB_self] at h
  exact h
end Go.Proofs.Ytkifpnhijdcjlaa
