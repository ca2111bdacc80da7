/- A step among the arguments: what it is made of. -/
import Derived.Test.YtncnheodmcfmmaaGreatDoorRows
import Derived.ProofKit
import Derived.OpenShut
import Derived.Deep.Slices
import Derived.Deep.Fields
namespace Go.Proofs.YtncnheodmcfmmaaGreatDoor
open Go.ChangeShapes Go.WideShapes Go.RowKit Go.Deep
set_option maxRecDepth 100000
section
variable {P : Program} {w : World} {r : Reach} {b : Nat} {u : TypeId} {v : Value}
theorem cell_int (hu : P.underlying u = some (.int .i64)) (h : Cell.okWide P w r b u v) : ∃ n, v = .int .i64 n := by
  unfold Cell.okWide Cell.ok at h
  rw [hu] at h
  cases v <;> simp at h
  rename_i k n
  obtain ⟨rfl, _⟩ := h
  exact ⟨n, rfl⟩
theorem cell_str (hu : P.underlying u = some .string) (h : Cell.okWide P w r b u v) : ∃ s, v = .string s := by
  unfold Cell.okWide Cell.ok at h
  rw [hu] at h
  cases v <;> simp at h
  exact ⟨_, rfl⟩
theorem cell_bool (hu : P.underlying u = some .bool) (h : Cell.okWide P w r b u v) : ∃ s, v = .bool s := by
  unfold Cell.okWide Cell.ok at h
  rw [hu] at h
  cases v <;> simp at h
  exact ⟨_, rfl⟩
theorem cell_slice {e : TypeId} (hu : P.underlying u = some (.slice e)) (h : Cell.okWide P w r b u v) : v = .slice none 0 0 ∨ ∃ (B off len cap : Nat), v = .slice (some ⟨B, off, none⟩) len cap ∧ B < w.heap.size ∧ len ≤ cap := by
  unfold Cell.okWide Cell.ok at h
  rw [hu] at h
  cases v with
  | slice a l c =>
    cases a with
    | none =>
      cases l with
      | zero =>
        cases c with
        | zero => exact .inl rfl
        | succ c => simp at h
      | succ l => simp at h
    | some a =>
      simp only [World.has] at h
      obtain ⟨hl, _, _, hs, row, cells, hsh, _⟩ := h
      obtain ⟨B, off, sp⟩ := a
      dsimp only at hs hsh
      subst hs
      refine .inr ⟨B, off, l, c, rfl, ?_, hl⟩
      unfold World.shape? at hsh
      cases hb : w.heap[B]? with
      | none => rw [hb] at hsh; cases hsh
      | some o => exact (Array.getElem?_eq_some_iff.1 hb).1
  | _ => simp at h
end
theorem cells26 : Tryz.prog.cellsOf 26 = 11 := by kernel_rfl
theorem types26 : Tryz.prog.cellTypes Tryz.prog.depth 26 = some [3, 9, 9, 3, 3, 9, 4, 4, 4, 3, 24] := by kernel_rfl
theorem open_step {W : World} {b : Nat} {v : Value} (h : Value.okWide Tryz.prog W .any b 26 v) : ∃ (kd : Int) (p o : ByteArray) (fd n : Int) (s : ByteArray) (on ag cr : Bool) (ac : Int) (kp : Value),
    v = .agg #[.int .i64 kd, .string p, .string o, .int .i64 fd, .int .i64 n, .string s, .bool on, .bool ag, .bool cr, .int .i64 ac, kp] ∧ (kp = .slice none 0 0 ∨ ∃ (B off len cap : Nat), kp = .slice (some ⟨B, off, none⟩) len cap ∧ B < W.heap.size ∧ len ≤ cap) := by
  unfold Value.okWide at h
  rw [Tryz.underlying26] at h
  obtain ⟨cs, rfl, hsz, ts, hts, _, hc⟩ := h
  rw [types26] at hts
  injection hts with hts
  subst hts
  rw [cells26] at hsz
  obtain ⟨l⟩ := cs
  match l, hsz with
  | [c0, c1, c2, c3, c4, c5, c6, c7, c8, c9, c10], _ =>
    have at_ : ∀ (i : Nat) (x : Value) (u : TypeId), (⟨[c0, c1, c2, c3, c4, c5, c6, c7, c8, c9, c10]⟩ : Array Value)[i]? = some x → [3, 9, 9, 3, 3, 9, 4, 4, 4, 3, 24][i % 11]? = some u → Cell.okWide Tryz.prog W .any b u x := fun i x u hx hu => by
      obtain ⟨u', h1, h2⟩ := hc i x hx
      have h1 : [3, 9, 9, 3, 3, 9, 4, 4, 4, 3, 24][i % 11]? = some u' := h1
      rw [hu] at h1
      injection h1 with h1
      subst h1
      exact h2
    obtain ⟨kd, rfl⟩ := cell_int Tryz.underlying3 (at_ 0 _ 3 rfl rfl)
    obtain ⟨p, rfl⟩ := cell_str Tryz.underlying9 (at_ 1 _ 9 rfl rfl)
    obtain ⟨o, rfl⟩ := cell_str Tryz.underlying9 (at_ 2 _ 9 rfl rfl)
    obtain ⟨fd, rfl⟩ := cell_int Tryz.underlying3 (at_ 3 _ 3 rfl rfl)
    obtain ⟨n, rfl⟩ := cell_int Tryz.underlying3 (at_ 4 _ 3 rfl rfl)
    obtain ⟨s, rfl⟩ := cell_str Tryz.underlying9 (at_ 5 _ 9 rfl rfl)
    obtain ⟨on, rfl⟩ := cell_bool Tryz.underlying4 (at_ 6 _ 4 rfl rfl)
    obtain ⟨ag, rfl⟩ := cell_bool Tryz.underlying4 (at_ 7 _ 4 rfl rfl)
    obtain ⟨cr, rfl⟩ := cell_bool Tryz.underlying4 (at_ 8 _ 4 rfl rfl)
    obtain ⟨ac, rfl⟩ := cell_int Tryz.underlying3 (at_ 9 _ 3 rfl rfl)
    exact ⟨kd, p, o, fd, n, s, on, ag, cr, ac, c10, rfl, cell_slice Tryz.underlying24 (at_ 10 _ 24 rfl rfl)⟩
end Go.Proofs.YtncnheodmcfmmaaGreatDoor
