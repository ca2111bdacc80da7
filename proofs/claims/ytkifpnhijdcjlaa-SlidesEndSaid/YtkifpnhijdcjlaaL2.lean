/- Walks: lives. -/
import Derived.Test.YtkifpnhijdcjlaaL1
namespace Go.Proofs.Ytkifpnhijdcjlaa
open Go.RowKit

theorem Runs.block {w : World} {g : Nat} {cs : Array Value} {fr : Nat × Nat} (xs : RunL) (hg : w.heap[g]? = some (.cells cs 39 fr)) (hc : cs.toList = flat xs) (hw : Wf xs) : Runs w w.heap.size (some ⟨g, 0, none⟩) xs.length xs := by
  refine ⟨rfl, fun i x hx => ?_⟩
  have hlt := (Array.getElem?_eq_some_iff.1 hg).1
  have hm := hw x (List.mem_of_getElem? hx)
  refine ⟨hm.1, hm.2, g, 0, rfl, hlt, ?_, ?_⟩
  · rw [cell_of_row w g _ _ _ _ hg, Nat.zero_add, ← Array.getElem?_toList, hc, flat_even, hx]; rfl
  · rw [cell_of_row w g _ _ _ _ hg, Nat.zero_add, ← Array.getElem?_toList, hc, flat_odd, hx]; rfl

def livesP : RunL := [(12, 3), (20, 10)]
def livesQ : RunL := [(15, 2)]
theorem lives1 : nextB 10 30 livesP livesQ 13 = some (20, 17, 3) := by decide
theorem lives2 : stepB 10 30 livesP livesQ 25 = (some (12, 10, 2), 12, false) := by decide
theorem lives3 : movedL 12 10 2 livesP = [(10, 2), (14, 1), (20, 10)] := by simp [movedL, movedPre, onePiece, livesP, wrap64, srt, ins]
theorem lives4 : checkB 10 30 [(16, 1)] livesQ = false := by decide
theorem lives5 : checkB 10 30 livesP livesQ = true := by decide
theorem wfP : Wf livesP := by intro x hx; simp [livesP] at hx; rcases hx with rfl | rfl <;> (constructor <;> (constructor <;> decide))
theorem wfQ : Wf livesQ := by intro x hx; simp [livesQ] at hx; subst hx; (constructor <;> (constructor <;> decide))
theorem wf4 : Wf [(16, 1)] := by intro x hx; simp at hx; subst hx; (constructor <;> (constructor <;> decide))

set_option maxRecDepth 100000 in
set_option maxHeartbeats 4000000 in
theorem lives_any (w : World) : Calls Try.prog 10 #[] w fun e w' => e = .returned (.bool true) ∧ Below w.heap.size w w' := by
  have hP0 : Runs (w.alloc (.cells #[.int .i64 12, .int .i64 3, .int .i64 20, .int .i64 10] 39)) _ (some ⟨w.heap.size, 0, none⟩) 2 livesP := Runs.block livesP (heap_alloc_new w _) rfl wfP
  have hb0 : Below w.heap.size w (w.alloc (.cells #[.int .i64 12, .int .i64 3, .int .i64 20, .int .i64 10] 39)) := (Below.refl _ _).alloc (Nat.le_refl _) _
  have hs0 : (w.alloc (.cells #[.int .i64 12, .int .i64 3, .int .i64 20, .int .i64 10] 39)).heap.size = w.heap.size + 1 := by simp
  have hQ0 : Runs ((w.alloc (.cells #[.int .i64 12, .int .i64 3, .int .i64 20, .int .i64 10] 39)).alloc (.cells #[.int .i64 15, .int .i64 2] 39)) _ (some ⟨(w.alloc (.cells #[.int .i64 12, .int .i64 3, .int .i64 20, .int .i64 10] 39)).heap.size, 0, none⟩) 1 livesQ :=
    Runs.block livesQ (heap_alloc_new _ _) rfl wfQ
  rw [hs0] at hQ0
  have hb1 : Below w.heap.size w ((w.alloc (.cells #[.int .i64 12, .int .i64 3, .int .i64 20, .int .i64 10] 39)).alloc (.cells #[.int .i64 15, .int .i64 2] 39)) := hb0.alloc hb0.size _
  have hP1 := (hP0.below ((Below.refl _ _).alloc (Nat.le_refl _) (.cells #[.int .i64 15, .int .i64 2] 39)) (Nat.le_refl _)).more (B' := ((w.alloc (.cells #[.int .i64 12, .int .i64 3, .int .i64 20, .int .i64 10] 39)).alloc (.cells #[.int .i64 15, .int .i64 2] 39)).heap.size) (by simp)
  go_enter Try.func10, Try.ntmps10
  go_wp2_with fail
  generalize (w.alloc (.cells #[.int .i64 12, .int .i64 3, .int .i64 20, .int .i64 10] 39)).alloc (.cells #[.int .i64 15, .int .i64 2] 39) = w1 at *
  clear hP0 hs0 hb0
  refine (Next_any 10 30 13 (some ⟨w.heap.size, 0, none⟩) 2 2 livesP (some ⟨w.heap.size + 1, 0, none⟩) 1 1 livesQ _ hP1 hQ0 (by omega) (by omega)).mono ?_
  rw [lives1, lives5]
  rintro e w2 ⟨rfl, hb2⟩
  have hb2' := hb1.trans (hb2.mono hb1.size)
  have hP2 := (hP1.below hb2 (Nat.le_refl _)).more hb2.size
  have hQ2 := (hQ0.below hb2 (Nat.le_refl _)).more hb2.size
  have e1 : mvV (some (20, 17, 3)) = .agg #[.int .i64 20, .int .i64 17, .int .i64 3] := rfl
  have e2 : errB true = 0 := rfl
  rw [e1, e2]
  clear hb2 hb1 hP1 hQ0
  have hm3 : (w2.alloc (.cells #[.int .i64 20, .int .i64 17, .int .i64 3] 24)).heap[w2.heap.size]? = some (.cells #[.int .i64 20, .int .i64 17, .int .i64 3] 24 (0, 0)) := heap_alloc_new _ _
  have hb3 : Below w.heap.size w (w2.alloc (.cells #[.int .i64 20, .int .i64 17, .int .i64 3] 24)) := hb2'.alloc hb2'.size _
  have hP3 := (hP2.below ((Below.refl _ _).alloc (Nat.le_refl _) (.cells #[.int .i64 20, .int .i64 17, .int .i64 3] 24)) (Nat.le_refl _)).more (B' := (w2.alloc (.cells #[.int .i64 20, .int .i64 17, .int .i64 3] 24)).heap.size) (by simp)
  have hQ3 := (hQ2.below ((Below.refl _ _).alloc (Nat.le_refl _) (.cells #[.int .i64 20, .int .i64 17, .int .i64 3] 24)) (Nat.le_refl _)).more (B' := (w2.alloc (.cells #[.int .i64 20, .int .i64 17, .int .i64 3] 24)).heap.size) (by simp)
  go_wp2_with fail
  have m0 := cell_of_row _ _ 0 _ _ _ hm3
  have m1 := cell_of_row _ _ 1 _ _ _ hm3
  have m2 := cell_of_row _ _ 2 _ _ _ hm3
  have hml : w2.heap.size < (w2.alloc (.cells #[.int .i64 20, .int .i64 17, .int .i64 3] 24)).heap.size := by simp
  clear hm3
  generalize w2.alloc (.cells #[.int .i64 20, .int .i64 17, .int .i64 3] 24) = w3 at *
  refine (Step_any 10 30 25 (some ⟨w.heap.size, 0, none⟩) 2 2 livesP (some ⟨w.heap.size + 1, 0, none⟩) 1 1 livesQ _ hP3 hQ3 (by omega) (by omega)).mono ?_
  rw [lives2, lives5]
  rintro e w4 ⟨rfl, hb4⟩
  have e3 : mvV (some (12, 10, 2)) = .agg #[.int .i64 12, .int .i64 10, .int .i64 2] := rfl
  dsimp only
  rw [e3, e2]
  have hb4' := hb3.trans (hb4.mono hb3.size)
  have hP4 := (hP3.below hb4 (Nat.le_refl _)).more hb4.size
  have hQ4 := (hQ3.below hb4 (Nat.le_refl _)).more hb4.size
  have hsz4 := hb4.size
  have m0' := (hb4.cell (p := ⟨w2.heap.size, 0, none⟩) hml).trans m0
  have m1' := (hb4.cell (p := ⟨w2.heap.size, 1, none⟩) hml).trans m1
  have m2' := (hb4.cell (p := ⟨w2.heap.size, 2, none⟩) hml).trans m2
  have hm5 : (w4.alloc (.cells #[.int .i64 12, .int .i64 10, .int .i64 2] 24)).heap[w4.heap.size]? = some (.cells #[.int .i64 12, .int .i64 10, .int .i64 2] 24 (0, 0)) := heap_alloc_new _ _
  have hbs : Below w4.heap.size w4 (w4.alloc (.cells #[.int .i64 12, .int .i64 10, .int .i64 2] 24)) := (Below.refl _ _).alloc (Nat.le_refl _) _
  have hb5 := hb4'.trans (hbs.mono hb4'.size)
  have hP5 := (hP4.below hbs (Nat.le_refl _)).more hbs.size
  have hQ5 := (hQ4.below hbs (Nat.le_refl _)).more hbs.size
  have hml4 : w2.heap.size < w4.heap.size := by omega
  have p0 := (hbs.cell (p := ⟨w2.heap.size, 0, none⟩) hml4).trans m0'
  have p1 := (hbs.cell (p := ⟨w2.heap.size, 1, none⟩) hml4).trans m1'
  have p2 := (hbs.cell (p := ⟨w2.heap.size, 2, none⟩) hml4).trans m2'
  have q0 := cell_of_row _ _ 0 _ _ _ hm5
  have q1 := cell_of_row _ _ 1 _ _ _ hm5
  have q2 := cell_of_row _ _ 2 _ _ _ hm5
  have hml5 : w4.heap.size < (w4.alloc (.cells #[.int .i64 12, .int .i64 10, .int .i64 2] 24)).heap.size := by simp
  clear m0 m1 m2 m0' m1' m2' hP3 hQ3 hP4 hQ4 hb4 hm5 hP2 hQ2 hb2'
  go_wp2_with fail
  generalize w4.alloc (.cells #[.int .i64 12, .int .i64 10, .int .i64 2] 24) = w5 at *
  refine (Moved_any 12 10 2 (some ⟨w.heap.size, 0, none⟩) 2 2 livesP _ hP5 (by omega) ⟨by omega, by omega⟩ ⟨by omega, by omega⟩ ⟨by omega, by omega⟩).mono ?_
  rw [lives3]
  rintro e w6 ⟨A6, k6, c6, rfl, ho6, hb6⟩
  have hr6 := ho6.runs
  obtain rfl : k6 = 3 := hr6.1
  obtain ⟨x1, x2, b, o, hx, _, _, _, _, rfl, hbB, u0, u1⟩ := hr6.at_ (k := 1) (by omega)
  simp at hx
  obtain ⟨rfl, rfl⟩ := hx
  have hb6' := hb5.trans (hb6.mono hb5.size)
  have hQ6 := (hQ5.below hb6 (Nat.le_refl _)).more hb6.size
  have hml2 : w2.heap.size < w5.heap.size := by omega
  have r0 := (hb6.cell (p := ⟨w2.heap.size, 0, none⟩) hml2).trans p0
  have r1 := (hb6.cell (p := ⟨w2.heap.size, 1, none⟩) hml2).trans p1
  have r2 := (hb6.cell (p := ⟨w2.heap.size, 2, none⟩) hml2).trans p2
  have s0 := (hb6.cell (p := ⟨w4.heap.size, 0, none⟩) hml5).trans q0
  have s1 := (hb6.cell (p := ⟨w4.heap.size, 1, none⟩) hml5).trans q1
  have s2 := (hb6.cell (p := ⟨w4.heap.size, 2, none⟩) hml5).trans q2
  have h4 : Runs (w6.alloc (.cells #[.int .i64 16, .int .i64 1] 39)) _ (some ⟨w6.heap.size, 0, none⟩) 1 [(16, 1)] := Runs.block [(16, 1)] (heap_alloc_new w6 _) rfl wf4
  have hbt : Below w6.heap.size w6 (w6.alloc (.cells #[.int .i64 16, .int .i64 1] 39)) := (Below.refl _ _).alloc (Nat.le_refl _) _
  have hQ7 := (hQ6.below hbt (Nat.le_refl _)).more hbt.size
  have hb7 := hb6'.trans (hbt.mono hb6'.size)
  clear p0 p1 p2 q0 q1 q2 hb6 hr6 ho6 hQ6 hQ5 hP5
  simp only [List.getElem?_toArray, List.getElem?_cons_zero, List.getElem?_cons_succ] at *
  go_wp2_with fail
  refine (check_any 10 30 (some ⟨w6.heap.size, 0, none⟩) 1 1 [(16, 1)] (some ⟨w.heap.size + 1, 0, none⟩) 1 1 livesQ _ h4 hQ7 (by omega) (by omega)).mono ?_
  rw [lives4]
  rintro e w8 ⟨rfl, hb8⟩
  have e4 : errB false = 2 := rfl
  rw [e4]
  go_wp2
  go_ret
  exact ⟨by simp, hb7.trans (hb8.mono hb7.size)⟩
end Go.Proofs.Ytkifpnhijdcjlaa
