/- What stays behind calls: a field in a box, and moves in boxes. -/
import Derived.Test.YtkifpnhijdcjlaaF1
namespace Go.Proofs.Ytkifpnhijdcjlaa
open Go.RowKit

/-- block g holds a move. -/
def MoveAt (w : World) (g : Nat) (o : MoveO) : Prop := w.cell? ⟨g, 0, none⟩ = some (.int .i64 (o.getD (0, 0, 0)).1) ∧ w.cell? ⟨g, 1, none⟩ = some (.int .i64 (o.getD (0, 0, 0)).2.1) ∧ w.cell? ⟨g, 2, none⟩ = some (.int .i64 (o.getD (0, 0, 0)).2.2)
theorem MoveAt.lt {w : World} {g : Nat} {o : MoveO} (h : MoveAt w g o) : g < w.heap.size := World.block_lt_of_cell? w _ h.1
theorem MoveAt.next {w w' : World} {g : Nat} {o : MoveO} (h : MoveAt w g o) (hb : Below w.heap.size w w') : MoveAt w' g o :=
  ⟨(hb.cell (p := ⟨g, 0, none⟩) h.lt).trans h.1, (hb.cell (p := ⟨g, 1, none⟩) h.lt).trans h.2.1, (hb.cell (p := ⟨g, 2, none⟩) h.lt).trans h.2.2⟩
abbrev st3 (w : World) (g : Nat) (a b c : Value) : World := ((w.setCell ⟨g, 0, none⟩ a).setCell ⟨g, 1, none⟩ b).setCell ⟨g, 2, none⟩ c
theorem cell_st3 {w : World} {g b k : Nat} {x y z : Value} (h : b ≠ g) : (st3 w g x y z).cell? ⟨b, k, none⟩ = w.cell? ⟨b, k, none⟩ := by
  have h' : ¬ g = b := fun e => h e.symm
  unfold st3
  simp [World.cell?, World.setCell, Array.getElem?_modify, h']
theorem MoveAt.st3 {w : World} {g h : Nat} {o : MoveO} {a b c : Value} (hm : MoveAt w g o) (hn : g ≠ h) : MoveAt (st3 w h a b c) g o :=
  ⟨(cell_st3 hn).trans hm.1, (cell_st3 hn).trans hm.2.1, (cell_st3 hn).trans hm.2.2⟩
/-- a field in a box, moves in boxes, and what lay there ahead of the call. -/
structure Kep (w0 : World) (f : Fld) (ms : List (Nat × MoveO)) (w : World) : Prop where
  bel : Below w0.heap.size w0 w
  lt : w0.heap.size < w.heap.size
  box : Box w w0.heap.size f
  r0 : Runs w0 w0.heap.size f.A f.m f.ps
  q0 : Runs w0 w0.heap.size f.B f.l f.qs
  mv : ∀ x ∈ ms, w0.heap.size < x.1 ∧ MoveAt w x.1 x.2
variable {w0 w w' : World} {f : Fld} {ms : List (Nat × MoveO)}
theorem Kep.rp (h : Kep w0 f ms w) : Runs w w.heap.size f.A f.m f.ps := h.r0.nx h.bel
theorem Kep.rq (h : Kep w0 f ms w) : Runs w w.heap.size f.B f.l f.qs := h.q0.nx h.bel
theorem Kep.next (h : Kep w0 f ms w) (hb : Below w.heap.size w w') : Kep w0 f ms w' := by
  have hs := hb.size
  obtain ⟨c0, c1, c2, c3⟩ := h.box
  have hlt := h.lt
  exact ⟨h.bel.trans (hb.mono h.bel.size), Nat.lt_of_lt_of_le h.lt hs, ⟨(hb.cell (p := ⟨_, 0, none⟩) h.lt).trans c0, (hb.cell (p := ⟨_, 1, none⟩) h.lt).trans c1, (hb.cell (p := ⟨_, 2, none⟩) h.lt).trans c2, (hb.cell (p := ⟨_, 3, none⟩) h.lt).trans c3⟩,
    h.r0, h.q0, fun x hx => ⟨(h.mv x hx).1, (h.mv x hx).2.next hb⟩⟩
theorem Kep.drewN (h : Kep w0 f ms w) (k : Nat) : Kep w0 f ms (w.drewN k) := h.next (below_drewN (Below.refl _ _) _)
theorem Kep.drew (h : Kep w0 f ms w) : Kep w0 f ms w.drew := h.next (Below.refl _ _).drew
theorem Kep.alloc (h : Kep w0 f ms w) (o : Obj) : Kep w0 f ms (w.alloc o) := h.next ((Below.refl _ _).alloc (Nat.le_refl _) _)
theorem Kep.new (h1 : Runs w w.heap.size f.A f.m f.ps) (h2 : Runs w w.heap.size f.B f.l f.qs) : Kep w f [] (w.alloc f.obj) := by
  have h := Kept.new (f := f) h1 h2
  exact ⟨h.bel, h.lt, h.box, h1, h2, fun x hx => by cases hx⟩
theorem Kep.newMove (h : Kep w0 f ms w) (o : MoveO) : Kep w0 f ((w.heap.size, o) :: ms) (w.alloc (.cells #[.int .i64 (o.getD (0, 0, 0)).1, .int .i64 (o.getD (0, 0, 0)).2.1, .int .i64 (o.getD (0, 0, 0)).2.2] 24)) := by
  have ha := h.alloc (.cells #[.int .i64 (o.getD (0, 0, 0)).1, .int .i64 (o.getD (0, 0, 0)).2.1, .int .i64 (o.getD (0, 0, 0)).2.2] 24)
  refine ⟨ha.bel, ha.lt, ha.box, h.r0, h.q0, fun x hx => ?_⟩
  rcases List.mem_cons.1 hx with rfl | hx
  · have hg := heap_alloc_new w (.cells #[.int .i64 (o.getD (0, 0, 0)).1, .int .i64 (o.getD (0, 0, 0)).2.1, .int .i64 (o.getD (0, 0, 0)).2.2] 24)
    exact ⟨h.lt, by rw [cell_of_row _ _ _ _ _ _ hg]; rfl, by rw [cell_of_row _ _ _ _ _ _ hg]; rfl, by rw [cell_of_row _ _ _ _ _ _ hg]; rfl⟩
  · exact ha.mv x hx
theorem Kep.st3 {v : World} {a b c : Value} (hv : Kep w0 f ms v) (h : Kep w0 f ms w) : Kep w0 f ms (st3 w v.heap.size a b c) := by
  have hne : w0.heap.size ≠ v.heap.size := by have := hv.lt; omega
  obtain ⟨c0, c1, c2, c3⟩ := h.box
  refine ⟨((h.bel.setCell (p := ⟨v.heap.size, 0, none⟩) (Nat.le_of_lt hv.lt) _).setCell (p := ⟨v.heap.size, 1, none⟩) (Nat.le_of_lt hv.lt) _).setCell (p := ⟨v.heap.size, 2, none⟩) (Nat.le_of_lt hv.lt) _, by have := h.lt; simpa [Go.Proofs.Ytkifpnhijdcjlaa.st3, World.setCell] using this,
    ⟨(cell_st3 hne).trans c0, (cell_st3 hne).trans c1, (cell_st3 hne).trans c2, (cell_st3 hne).trans c3⟩, h.r0, h.q0, fun x hx => ⟨(h.mv x hx).1, (h.mv x hx).2.st3 (by have := (hv.mv x hx).2.lt; omega)⟩⟩
theorem Kep.putMove {v : World} (hv : Kep w0 f ms v) (h : Kep w0 f ms w) (hr : Res3 w v.heap.size) (o : MoveO) : Kep w0 f ((v.heap.size, o) :: ms) (Go.Proofs.Ytkifpnhijdcjlaa.st3 w v.heap.size (.int .i64 (o.getD (0, 0, 0)).1) (.int .i64 (o.getD (0, 0, 0)).2.1) (.int .i64 (o.getD (0, 0, 0)).2.2)) := by
  have ha := Kep.st3 (a := .int .i64 (o.getD (0, 0, 0)).1) (b := .int .i64 (o.getD (0, 0, 0)).2.1) (c := .int .i64 (o.getD (0, 0, 0)).2.2) hv h
  refine ⟨ha.bel, ha.lt, ha.box, h.r0, h.q0, fun x hx => ?_⟩
  rcases List.mem_cons.1 hx with rfl | hx
  · obtain ⟨⟨q0, q1, q2, z0, z1, z2⟩, _⟩ := hr
    obtain ⟨p0, p1, p2⟩ := three' (v0 := .int .i64 (o.getD (0, 0, 0)).1) (v1 := .int .i64 (o.getD (0, 0, 0)).2.1) (v2 := .int .i64 (o.getD (0, 0, 0)).2.2) z0 z1 z2
    exact ⟨hv.lt, p0, p1, p2⟩
  · exact ha.mv x hx
theorem Kep.cells {first n : Int} {A : Option Addr} {m c : Nat} {ps : RunL} {B : Option Addr} {l d : Nat} {qs : RunL} (h : Kep w0 ⟨first, n, A, m, c, ps, B, l, d, qs⟩ ms w) :
    w.cell? ⟨w0.heap.size, 0, none⟩ = some (.int .i64 first) ∧ w.cell? ⟨w0.heap.size, 1, none⟩ = some (.int .i64 n) ∧ w.cell? ⟨w0.heap.size, 2, none⟩ = some (.slice A m c) ∧ w.cell? ⟨w0.heap.size, 3, none⟩ = some (.slice B l d) := h.box
theorem Res3.newBelow {v v' : World} {t : TypeId} {a b c : Value} (hb : Below (v.alloc (.cells #[a, b, c] t)).heap.size (v.alloc (.cells #[a, b, c] t)) v') : Res3 v' v.heap.size := Res3.below Res3.new hb (by simp)
theorem Res3.newBelow1 {v v' : World} {t : TypeId} {a b c : Value} (hb : Below (v.alloc (.cells #[a, b, c] t)).drew.heap.size (v.alloc (.cells #[a, b, c] t)).drew v') : Res3 v' v.heap.size :=
  Res3.below (w := (v.alloc (.cells #[a, b, c] t)).drew) (show Res3 (v.alloc (.cells #[a, b, c] t)) v.heap.size from Res3.new) hb (show v.heap.size < (v.alloc (.cells #[a, b, c] t)).heap.size by simp)
end Go.Proofs.Ytkifpnhijdcjlaa
