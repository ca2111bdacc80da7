/- The law SlidesMoves, walked. -/
import Derived.Test.YtkifpnhijdcjlaaR2
import Derived.Test.YtkifpnhijdcjlaaL2
import Derived.Deep.RegionHeld3
namespace Go.Proofs.Ytkifpnhijdcjlaa
open Go.RowKit

theorem onePiece_len (f t l : Int) (p : Int × Int) : (onePiece f t l p).length ≤ 2 := by
  unfold onePiece; split
  · simp
  · split <;> simp
theorem movedL_len (f t l : Int) (ps : RunL) : (movedL f t l ps).length ≤ 2 * ps.length := by
  unfold movedL movedPre
  rw [srt_len]
  induction ps with
  | nil => simp
  | cons p ps ih => rw [List.flatMap_cons, List.length_append, List.length_cons]; have := onePiece_len f t l p; omega

set_option maxHeartbeats 1000000 in
theorem lawMoves_any (f t l : Int) (A : Option Addr) (m c : Nat) (ps : RunL) (w : World) (hr : Runs w w.heap.size A m ps) (hf : I64 f) (ht : I64 t) (hl : I64 l) (hmax : m ≤ maxLen) :
    Calls Try.prog 3 #[.slice A m c, .agg #[.int .i64 f, .int .i64 t, .int .i64 l]] w fun e w' => e = .returned (.bool true) ∧ Below w.heap.size w w' := by
  unfold maxLen at hmax
  have hb0 : Below w.heap.size w (w.alloc (.cells #[.int .i64 f, .int .i64 t, .int .i64 l] 24)) := (Below.refl _ _).alloc (Nat.le_refl _) _
  by_cases hm : 300 < m
  · go_enter Try.func3, Try.ntmps3
    go_wp2_with (go_at_call 10; refine (lives_any _).mono ?_; rintro e w2 ⟨rfl, hb2⟩)
    go_ret
    exact ⟨rfl, hb0.trans (hb2.mono hb0.size)⟩
  · have hx0 : (w.alloc (.cells #[.int .i64 f, .int .i64 t, .int .i64 l] 24)).cell? ⟨w.heap.size, 0, none⟩ = some (.int .i64 f) := by go_simp
    have hx1 : (w.alloc (.cells #[.int .i64 f, .int .i64 t, .int .i64 l] 24)).cell? ⟨w.heap.size, 1, none⟩ = some (.int .i64 t) := by go_simp
    have hx2 : (w.alloc (.cells #[.int .i64 f, .int .i64 t, .int .i64 l] 24)).cell? ⟨w.heap.size, 2, none⟩ = some (.int .i64 l) := by go_simp
    have hxl : w.heap.size < (w.alloc (.cells #[.int .i64 f, .int .i64 t, .int .i64 l] 24)).heap.size := by simp
    have hr0 := (hr.below hb0 (Nat.le_refl _)).more hb0.size
    go_enter Try.func3, Try.ntmps3
    go_wp2_with fail
    generalize w.alloc (.cells #[.int .i64 f, .int .i64 t, .int .i64 l] 24) = wx at *
    refine (own_any A m c ps _ hr0 (by omega)).mono ?_
    rintro e w1 ⟨A1, c1, rfl, ho1, hb1⟩
    have hb1' := hb0.trans (hb1.mono hb0.size)
    have hr1 := (hr.below hb1' (Nat.le_refl _)).more hb1'.size
    have hq1 := ho1.runs
    have y0 := (hb1.cell (p := ⟨w.heap.size, 0, none⟩) hxl).trans hx0
    have y1 := (hb1.cell (p := ⟨w.heap.size, 1, none⟩) hxl).trans hx1
    have y2 := (hb1.cell (p := ⟨w.heap.size, 2, none⟩) hxl).trans hx2
    have hwl : w.heap.size < w1.heap.size := World.block_lt_of_cell? w1 _ y0
    clear hr hb0 hx0 hx1 hx2 hr0 hxl ho1 hb1
    go_wp2_with fail
    have hself : sameB (movedL f t l ps) (movedL f t l ps) = true := sameB_self _
    have hself2 : sameB ps ps = true := sameB_self _
    have hM : ∀ (w' : World), Runs w' w'.heap.size A1 m ps → Calls Try.prog 13 #[.slice A1 m c1, .agg #[.int .i64 f, .int .i64 t, .int .i64 l]] w' fun e w2 => ∃ A' m' c', e = .returned (.slice A' m' c') ∧ Own w2 w'.heap.size (.slice A' m' c') (movedL f t l ps) ∧ Below w'.heap.size w' w2 := fun w' h => Moved_any f t l A1 m c1 ps w' h (by omega) hf ht hl
    have HM := Lib.hid hM
    have Hself := Lib.hid hself
    have Hself2 := Lib.hid hself2
    have hb1d := hb1'.drew
    have Hq1 : Hid (Runs w1.drew w1.drew.heap.size A1 m ps) := hq1
    have Hr1 : Hid (Runs w1.drew w1.drew.heap.size A m ps) := hr1
    clear hM hself hself2 hq1 hr1
    go_region_held3 (fun w' => w'.cell? ⟨w.heap.size, 0, none⟩ = some (.int .i64 f) ∧ w'.cell? ⟨w.heap.size, 1, none⟩ = some (.int .i64 t) ∧ w'.cell? ⟨w.heap.size, 2, none⟩ = some (.int .i64 l))
      (first | go_keep | (exact ⟨z0, z1, z2⟩) | (exact ⟨u0, u1, u2⟩) | (exact ⟨(hb6.cell (p := ⟨w.heap.size, 0, none⟩) hwl3).trans u0, (hb6.cell (p := ⟨w.heap.size, 1, none⟩) hwl3).trans u1, (hb6.cell (p := ⟨w.heap.size, 2, none⟩) hwl3).trans u2⟩))
      (first
        | (go_at_call 13; refine (HM.out _ Hq1.out).mono ?_; rintro e w2 ⟨A2, m2, c2, rfl, ho2, hb2⟩; have hb2' := hb1d.trans (hb2.mono hb1d.size); have Hr2 := Lib.hid ((Hr1.out.below hb2 (Nat.le_refl _)).more hb2.size); have Hq2 := Lib.hid ((Hq1.out.below hb2 (Nat.le_refl _)).more hb2.size); have Ho2 := Lib.hid ho2.runs; have z0 := (hb2.cell (p := ⟨w.heap.size, 0, none⟩) hwl).trans y0; have z1 := (hb2.cell (p := ⟨w.heap.size, 1, none⟩) hwl).trans y1; have z2 := (hb2.cell (p := ⟨w.heap.size, 2, none⟩) hwl).trans y2; have hwl2 := World.block_lt_of_cell? w2 _ z0; have Hlm2 := Lib.hid ho2.runs.1; clear ho2)
        | (go_at_call 14; refine (refMoved_any f t l A m c ps _ Hr2.out (by omega) hf ht hl).mono ?_; rintro e w3 ⟨A3, m3, c3, rfl, ho3, hb3⟩; have hb3' := hb2'.trans (hb3.mono hb2'.size); have Hr3 := Lib.hid ((Hr2.out.below hb3 (Nat.le_refl _)).more hb3.size); have Hq3 := Lib.hid ((Hq2.out.below hb3 (Nat.le_refl _)).more hb3.size); have Ho3 := Lib.hid ho3.runs; have Ho23 := Lib.hid ((Ho2.out.below hb3 (Nat.le_refl _)).more hb3.size); have u0 := (hb3.cell (p := ⟨w.heap.size, 0, none⟩) hwl2).trans z0; have u1 := (hb3.cell (p := ⟨w.heap.size, 1, none⟩) hwl2).trans z1; have u2 := (hb3.cell (p := ⟨w.heap.size, 2, none⟩) hwl2).trans z2; have hwl3 := World.block_lt_of_cell? w3 _ u0; have Hlm3 := Lib.hid ho3.runs.1; clear ho3)
        | (go_at_call 12; refine (same_any A1 m c1 ps A m c ps _ (show Runs (w3.drewN q4) (w3.drewN q4).heap.size A1 m ps from Hq3.out) (show Runs (w3.drewN q4) (w3.drewN q4).heap.size A m ps from Hr3.out) (by omega) (by omega)).mono ?_; rw [Hself2.out]; rintro e w5 ⟨rfl, q5, rfl⟩)
        | (go_at_call 12; refine (same_any A2 m2 c2 _ A3 m3 c3 _ _ Ho23.out Ho3.out (by have := Hlm2.out; have := movedL_len f t l ps; have := Hq1.out.1; omega) (by have := Hlm3.out; have := movedL_len f t l ps; have := Hq1.out.1; omega)).mono ?_; rw [Hself.out]; rintro e w4 ⟨rfl, q4, rfl⟩)
        | (go_at_call 10; refine (lives_any _).mono ?_; rintro e w6 ⟨rfl, hb6⟩))
    go_wp2
    go_ret
    exact ⟨rfl, (below_drewN hb3' _).trans (hb6.mono (below_drewN hb3' _).size)⟩
end Go.Proofs.Ytkifpnhijdcjlaa
