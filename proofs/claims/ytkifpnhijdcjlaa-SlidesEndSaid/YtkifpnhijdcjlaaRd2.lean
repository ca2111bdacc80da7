/- Readings: a field among the arguments. -/
import Derived.Test.YtkifpnhijdcjlaaRd
import Derived.Test.YtkifpnhijdcjlaaG1
namespace Go.Proofs.Ytkifpnhijdcjlaa
open Go.ChangeShapes Go.WideShapes Go.ChangeAt Go.RowKit Go.Deep Go.Joins

theorem Try.cells31 : Try.prog.cellsOf 31 = 4 := by kernel_rfl
theorem field_of_trod {H : Type} {enc : TypeId × Value → H} {W : World} {spare : Nat → Bool} {held : Bool} {b0 : Nat} {v : Value} {d : DataW H} {p : List MemPlace} (ho : Value.okWide Try.prog W .any b0 31 v) (h : DataW.Trod enc Try.prog W 0 spare held 31 v d p) :
    ∃ (first n : Int) (A : Option Addr) (m c : Nat) (ps : RunL) (B : Option Addr) (l d : Nat) (qs : RunL), v = fieldV first n A m c B l d ∧ I64 first ∧ I64 n ∧ Runs W W.heap.size A m ps ∧ Runs W W.heap.size B l qs ∧ m ≤ maxLen ∧ l ≤ maxLen := by
  obtain ⟨v0, v1, v2, v3, y0, y1, y2, y3, n, rfl, _, _, t0, t1, t2, t3⟩ := open_agg4 Try.underlying31 (by kernel_rfl) Try.cells31 ho h
  obtain ⟨n0, e0, _, wf0⟩ := DataW.trod_int Try.underlying3 t0
  obtain ⟨n1, e1, _, wf1⟩ := DataW.trod_int Try.underlying3 t1
  obtain ⟨A, m, c, ps, e2, hr, hm⟩ := runs_of_trod t2
  obtain ⟨B, l, d, qs, e3, hq, hl⟩ := runs_of_trod t3
  simp at e0 e1 e2 e3
  subst e0 e1 e2 e3
  exact ⟨n0, n1, A, m, c, ps, B, l, d, qs, rfl, wf_I64 wf0, wf_I64 wf1, hr, hq, hm, hl⟩
end Go.Proofs.Ytkifpnhijdcjlaa
