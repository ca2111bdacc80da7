/- The law SlidesTell, walked. -/
import Derived.Test.YtkifpnhijdcjlaaF2
import Derived.Deep.DeepCutAuto
namespace Go.Proofs.Ytkifpnhijdcjlaa
open Go.RowKit

def CutN (w0 : World) (f : Fld) (ms : List (Nat × MoveO)) (o : MoveO) (b : Bool) (s5 s6 s7 : Value) (wx : World) : Prop := ∃ G, s5 = .pointer (some ⟨G, 0, none⟩) ∧ s6 = .bool o.isSome ∧ s7 = .int .i64 (errB b) ∧ Kep w0 f ((G, o) :: ms) wx
def CutS (w0 : World) (f : Fld) (ms : List (Nat × MoveO)) (o : MoveO) (i : Int) (t b : Bool) (s5 s6 s7 s8 : Value) (wx : World) : Prop := ∃ G, s5 = .pointer (some ⟨G, 0, none⟩) ∧ s6 = .int .i64 i ∧ s7 = .bool t ∧ s8 = .int .i64 (errB b) ∧ Kep w0 f ((G, o) :: ms) wx

set_option maxRecDepth 100000 in
set_option maxHeartbeats 8000000 in
theorem lawTell_any (first n : Int) (A : Option Addr) (m c : Nat) (ps : RunL) (B : Option Addr) (l d : Nat) (qs : RunL) (f : Int) (w : World) (hr : Runs w w.heap.size A m ps) (hq : Runs w w.heap.size B l qs) (hm : m ≤ maxLen) (hl : l ≤ maxLen)
    (h0 : I64 first) (hf : I64 f) :
    Calls Try.prog 5 #[fieldV first n A m c B l d, .int .i64 f] w fun e w' => e = .returned (.bool true) ∧ Below w.heap.size w w' := by
  have HK : Hid (Kep w ⟨first, n, A, m, c, ps, B, l, d, qs⟩ [] (w.alloc (.cells #[.int .i64 first, .int .i64 n, .slice A m c, .slice B l d] 31))) := Kep.new (f := ⟨first, n, A, m, c, ps, B, l, d, qs⟩) hr hq
  have hg := great_any first n A m c B l d
  have Hg := Lib.hid (fun w => hg w hm hl)
  unfold fieldV at *
  unfold I64 at h0 hf
  obtain ⟨h01, h02⟩ := h0
  obtain ⟨hf1, hf2⟩ := hf
  clear hg
  by_cases hgt : 300 < m ∨ 300 < l
  · have hb : (decide (300 < m) || decide (300 < l)) = true := by rcases hgt with h | h <;> simp [h]
    rw [hb] at Hg
    clear hb hr hq
    go_enter Try.func5, Try.ntmps5
    go_wp2_with fail
    refine (Hg.out _).mono ?_
    rintro e w1 ⟨rfl, hb1⟩
    go_wp2_with fail
    refine (lives_any _).mono ?_
    rintro e w2 ⟨rfl, hb2⟩
    go_wp2
    go_ret
    exact ⟨rfl, ((HK.out.next hb1).next hb2).bel⟩
  · have hb : (decide (300 < m) || decide (300 < l)) = false := by simp; omega
    rw [hb] at Hg
    clear hb
    have hm3 : m ≤ 300 := by omega
    have hl3 : l ≤ 300 := by omega
    clear hr hq hgt
    go_enter Try.func5, Try.ntmps5
    go_wp2_with fail
    refine (Hg.out _).mono ?_
    generalize w.alloc (.cells #[.int .i64 first, .int .i64 n, .slice A m c, .slice B l d] 31) = wx at *
    rintro e w1 ⟨rfl, hb1⟩
    have K1 := Lib.hid (HK.out.next hb1)
    have Kd := Lib.hid K1.out.drew
    clear hb1 HK Hg
    go_wp2_with fail
    obtain ⟨x0, x1, x2, x3⟩ := K1.out.box
    have hlt := K1.out.lt
    dsimp only at x0 x1 x2 x3
    go_cut [5, 6, 7] (CutN w ⟨first, n, A, m, c, ps, B, l, d, qs⟩ [] (nextB first n ps qs f) (checkB first n ps qs))
    case first =>
      go_region_held3 (fun w' => w'.cell? ⟨w.heap.size, 0, none⟩ = some (.int .i64 first) ∧ w'.cell? ⟨w.heap.size, 1, none⟩ = some (.int .i64 n) ∧ w'.cell? ⟨w.heap.size, 2, none⟩ = some (.slice A m c) ∧ w'.cell? ⟨w.heap.size, 3, none⟩ = some (.slice B l d))
        (first | go_keep | (with_reducible exact Kep.cells (K4.out.alloc _)) | (with_reducible exact Kep.cells K4.out) | (with_reducible exact Kep.cells (K3.out.alloc _)) | (with_reducible exact Kep.cells K3.out) | (with_reducible exact Kep.cells (K2.out.alloc _)) | (with_reducible exact Kep.cells K2.out) | (with_reducible exact Kep.cells ((K1.out.alloc _).drew)) | (with_reducible exact Kep.cells Kd.out) | (with_reducible exact Kep.cells (Kep.st3 K3.out K4.out)) | (with_reducible exact Kep.cells (Kep.st3 K2.out K4.out)) | (with_reducible exact Kep.cells (Kep.st3 K1.out K4.out)))
        (first
          | (go_at_call 16; refine (Next_any first n f A1 m c1 ps B1 l d1 qs _ (by first | (with_reducible exact Ho2.out) | (with_reducible exact Ho2.out.nx ((Below.refl _ _).alloc (Nat.le_refl _) _))) (by first | (with_reducible exact Ho3.out) | (with_reducible exact Ho3.out.nx ((Below.refl _ _).alloc (Nat.le_refl _) _))) (by omega) (by omega)).mono ?_; rintro e w4 ⟨rfl, hb4⟩; rw [mv_two]; have K4 : Hid (Kep w ⟨first, n, A, m, c, ps, B, l, d, qs⟩ [] w4) := Lib.hid (by first | (with_reducible exact K3.out.next hb4) | (with_reducible exact (K3.out.alloc _).next hb4)); first | (have R4 : Hid (Res3 w4 w3.heap.size) := (by with_reducible exact Lib.hid (Res3.newBelow hb4)); obtain ⟨⟨q0, q1, q2, z0, z1, z2⟩, y0, y1, y2⟩ := R4.out) | (have R4 := Lib.hid (R3.out.below hb4 R3.out.lt); obtain ⟨⟨q0, q1, q2, z0, z1, z2⟩, y0, y1, y2⟩ := R4.out) | skip; clear hb4)
          | (go_at_call 11; refine (own_any B l d qs _ (by first | (with_reducible exact K2.out.rq) | (with_reducible exact (K2.out.alloc _).rq)) (by omega)).mono ?_; rintro e w3 ⟨B1, d1, rfl, ho3, hb3⟩; have K3 : Hid (Kep w ⟨first, n, A, m, c, ps, B, l, d, qs⟩ [] w3) := Lib.hid (by first | (with_reducible exact K2.out.next hb3) | (with_reducible exact (K2.out.alloc _).next hb3)); have Ho2 : Hid (Runs w3 w3.heap.size A1 m ps) := Lib.hid (by first | (with_reducible exact HA.out.nx hb3) | (with_reducible exact (HA.out.nx ((Below.refl _ _).alloc (Nat.le_refl _) _)).nx hb3)); have Ho3 := Lib.hid ho3.runs; first | (have R3 : Hid (Res3 w3 w2.heap.size) := (by with_reducible exact Lib.hid (Res3.newBelow hb3))) | (have R3 := Lib.hid (R2.out.below hb3 R2.out.lt)) | skip; clear ho3 hb3)
          | (go_at_call 11; refine (own_any A m c ps _ (by first | (with_reducible exact Kd.out.rp) | (with_reducible exact ((K1.out.alloc _).drew).rp)) (by omega)).mono ?_; rintro e w2 ⟨A1, c1, rfl, ho2, hb2⟩; have K2 : Hid (Kep w ⟨first, n, A, m, c, ps, B, l, d, qs⟩ [] w2) := Lib.hid (by first | (with_reducible exact Kd.out.next hb2) | (with_reducible exact ((K1.out.alloc _).drew).next hb2)); have HA := Lib.hid ho2.runs; first | (have R2 : Hid (Res3 w2 w1.heap.size) := (by with_reducible exact Lib.hid (Res3.newBelow1 hb2))) | skip; clear ho2 hb2))
      all_goals
        go_wp2_with fail
        go_meet
        unfold CutN
        first
          | with_reducible exact ⟨_, rfl, rfl, rfl, K4.out.newMove (nextB first n ps qs f)⟩
          | with_reducible exact ⟨_, rfl, rfl, rfl, Kep.putMove K3.out K4.out R4.out (nextB first n ps qs f)⟩
          | with_reducible exact ⟨_, rfl, rfl, rfl, Kep.putMove K2.out K4.out R4.out (nextB first n ps qs f)⟩
          | with_reducible exact ⟨_, rfl, rfl, rfl, Kep.putMove K1.out K4.out R4.out (nextB first n ps qs f)⟩
    case rest =>
      clear x0 x1 x2 x3 hlt K1 Kd
      obtain ⟨G, rfl, rfl, rfl, K5'⟩ := hcut
      have K5 := Lib.hid K5'
      clear K5'
      obtain ⟨x0, x1, x2, x3⟩ := K5.out.cells
      have hlt := K5.out.lt
      go_wp2_with fail
      refine (refNext_any first n f A m c ps B l d qs _ K5.out.rp K5.out.rq (by omega) (by omega) hf1 hf2).mono ?_
      rintro e w6 ⟨rfl, hb6⟩
      rw [mv_two]
      have K6 := Lib.hid (K5.out.next hb6)
      have K7 := Lib.hid (K6.out.newMove (nextB first n ps qs f))
      clear hb6 x0 x1 x2 x3 hlt K5
      go_wp2_with fail
      clear K6
      generalize w6.alloc (.cells #[.int .i64 ((nextB first n ps qs f).getD (0, 0, 0)).1, .int .i64 ((nextB first n ps qs f).getD (0, 0, 0)).2.1, .int .i64 ((nextB first n ps qs f).getD (0, 0, 0)).2.2] 24) = w7 at *
      generalize w6.heap.size = G8 at *
      have Kd := Lib.hid K7.out.drew
      obtain ⟨x0, x1, x2, x3⟩ := K7.out.cells
      have hlt := K7.out.lt
      go_cut [11, 12, 13, 14] (CutS w ⟨first, n, A, m, c, ps, B, l, d, qs⟩ [(G8, nextB first n ps qs f), (G, nextB first n ps qs f)] (stepB first n ps qs f).1 (stepB first n ps qs f).2.1 (stepB first n ps qs f).2.2 (checkB first n ps qs))
      case first =>
        go_region_held3 (fun w' => w'.cell? ⟨w.heap.size, 0, none⟩ = some (.int .i64 first) ∧ w'.cell? ⟨w.heap.size, 1, none⟩ = some (.int .i64 n) ∧ w'.cell? ⟨w.heap.size, 2, none⟩ = some (.slice A m c) ∧ w'.cell? ⟨w.heap.size, 3, none⟩ = some (.slice B l d))
          (first | go_keep | (with_reducible exact Kep.cells (K4.out.alloc _)) | (with_reducible exact Kep.cells K4.out) | (with_reducible exact Kep.cells (K3.out.alloc _)) | (with_reducible exact Kep.cells K3.out) | (with_reducible exact Kep.cells (K2.out.alloc _)) | (with_reducible exact Kep.cells K2.out) | (with_reducible exact Kep.cells ((K7.out.alloc _).drew)) | (with_reducible exact Kep.cells Kd.out) | (with_reducible exact Kep.cells (Kep.st3 K3.out K4.out)) | (with_reducible exact Kep.cells (Kep.st3 K2.out K4.out)) | (with_reducible exact Kep.cells (Kep.st3 K7.out K4.out)))
          (first
            | (go_at_call 21; refine (Step_any first n f A1 m c1 ps B1 l d1 qs _ (by first | (with_reducible exact Ho2.out) | (with_reducible exact Ho2.out.nx ((Below.refl _ _).alloc (Nat.le_refl _) _))) (by first | (with_reducible exact Ho3.out) | (with_reducible exact Ho3.out.nx ((Below.refl _ _).alloc (Nat.le_refl _) _))) (by omega) (by omega)).mono ?_; rintro e w4 ⟨rfl, hb4⟩; rw [mv_two]; have K4 : Hid (Kep w ⟨first, n, A, m, c, ps, B, l, d, qs⟩ [(G8, nextB first n ps qs f), (G, nextB first n ps qs f)] w4) := Lib.hid (by first | (with_reducible exact K3.out.next hb4) | (with_reducible exact (K3.out.alloc _).next hb4)); first | (have R4 : Hid (Res3 w4 w3.heap.size) := (by with_reducible exact Lib.hid (Res3.newBelow hb4)); obtain ⟨⟨q0, q1, q2, z0, z1, z2⟩, y0, y1, y2⟩ := R4.out) | (have R4 := Lib.hid (R3.out.below hb4 R3.out.lt); obtain ⟨⟨q0, q1, q2, z0, z1, z2⟩, y0, y1, y2⟩ := R4.out) | skip; clear hb4)
            | (go_at_call 11; refine (own_any B l d qs _ (by first | (with_reducible exact K2.out.rq) | (with_reducible exact (K2.out.alloc _).rq)) (by omega)).mono ?_; rintro e w3 ⟨B1, d1, rfl, ho3, hb3⟩; have K3 : Hid (Kep w ⟨first, n, A, m, c, ps, B, l, d, qs⟩ [(G8, nextB first n ps qs f), (G, nextB first n ps qs f)] w3) := Lib.hid (by first | (with_reducible exact K2.out.next hb3) | (with_reducible exact (K2.out.alloc _).next hb3)); have Ho2 : Hid (Runs w3 w3.heap.size A1 m ps) := Lib.hid (by first | (with_reducible exact HA.out.nx hb3) | (with_reducible exact (HA.out.nx ((Below.refl _ _).alloc (Nat.le_refl _) _)).nx hb3)); have Ho3 := Lib.hid ho3.runs; first | (have R3 : Hid (Res3 w3 w2.heap.size) := (by with_reducible exact Lib.hid (Res3.newBelow hb3))) | (have R3 := Lib.hid (R2.out.below hb3 R2.out.lt)) | skip; clear ho3 hb3)
            | (go_at_call 11; refine (own_any A m c ps _ (by first | (with_reducible exact Kd.out.rp) | (with_reducible exact ((K7.out.alloc _).drew).rp)) (by omega)).mono ?_; rintro e w2 ⟨A1, c1, rfl, ho2, hb2⟩; have K2 : Hid (Kep w ⟨first, n, A, m, c, ps, B, l, d, qs⟩ [(G8, nextB first n ps qs f), (G, nextB first n ps qs f)] w2) := Lib.hid (by first | (with_reducible exact Kd.out.next hb2) | (with_reducible exact ((K7.out.alloc _).drew).next hb2)); have HA := Lib.hid ho2.runs; first | (have R2 : Hid (Res3 w2 w7.heap.size) := (by with_reducible exact Lib.hid (Res3.newBelow1 hb2))) | skip; clear ho2 hb2))
        all_goals
          go_wp2_with fail
          go_meet
          unfold CutS
          first
            | with_reducible exact ⟨_, rfl, rfl, rfl, rfl, K4.out.newMove (stepB first n ps qs f).1⟩
            | with_reducible exact ⟨_, rfl, rfl, rfl, rfl, Kep.putMove K3.out K4.out R4.out (stepB first n ps qs f).1⟩
            | with_reducible exact ⟨_, rfl, rfl, rfl, rfl, Kep.putMove K2.out K4.out R4.out (stepB first n ps qs f).1⟩
            | with_reducible exact ⟨_, rfl, rfl, rfl, rfl, Kep.putMove K7.out K4.out R4.out (stepB first n ps qs f).1⟩
      case rest =>
        clear x0 x1 x2 x3 hlt K7 Kd
        obtain ⟨G11, rfl, rfl, rfl, rfl, K5'⟩ := hcut
        have K5 := Lib.hid K5'
        clear K5'
        obtain ⟨x0, x1, x2, x3⟩ := K5.out.cells
        have hlt := K5.out.lt
        go_wp2_with fail
        refine (refStep_any first n f A m c ps B l d qs _ K5.out.rp K5.out.rq (by omega) (by omega) hf1 hf2).mono ?_
        rintro e w6 ⟨rfl, hb6⟩
        rw [mv_two]
        have K6 := Lib.hid (K5.out.next hb6)
        have K7 := Lib.hid (K6.out.newMove (stepB first n ps qs f).1)
        clear hb6 x0 x1 x2 x3 hlt K5
        go_wp2_with fail
        clear K6
        generalize w6.alloc (.cells #[.int .i64 ((stepB first n ps qs f).1.getD (0, 0, 0)).1, .int .i64 ((stepB first n ps qs f).1.getD (0, 0, 0)).2.1, .int .i64 ((stepB first n ps qs f).1.getD (0, 0, 0)).2.2] 24) = w7 at *
        generalize w6.heap.size = G15 at *
        have Kd := Lib.hid K7.out.drew
        obtain ⟨x0, x1, x2, x3⟩ := K7.out.cells
        have hlt := K7.out.lt
        obtain ⟨b2, hb2⟩ : ∃ b2, (nextB first n ps qs first).isSome = b2 := ⟨_, rfl⟩
        have Hb2 := Lib.hid hb2
        clear hb2
        go_region_held3 (fun w' => w'.cell? ⟨w.heap.size, 0, none⟩ = some (.int .i64 first) ∧ w'.cell? ⟨w.heap.size, 1, none⟩ = some (.int .i64 n) ∧ w'.cell? ⟨w.heap.size, 2, none⟩ = some (.slice A m c) ∧ w'.cell? ⟨w.heap.size, 3, none⟩ = some (.slice B l d))
          (first | go_keep | (with_reducible exact Kep.cells (K4.out.alloc _)) | (with_reducible exact Kep.cells K4.out) | (with_reducible exact Kep.cells (K3.out.alloc _)) | (with_reducible exact Kep.cells K3.out) | (with_reducible exact Kep.cells (K2.out.alloc _)) | (with_reducible exact Kep.cells K2.out) | (with_reducible exact Kep.cells ((K7.out.alloc _).drew)) | (with_reducible exact Kep.cells Kd.out) | (with_reducible exact Kep.cells (Kep.st3 K3.out K4.out)) | (with_reducible exact Kep.cells (Kep.st3 K2.out K4.out)) | (with_reducible exact Kep.cells (Kep.st3 K7.out K4.out)))
          (first
            | (go_at_call 23; refine (Done_any first n A1 m c1 ps B1 l d1 qs _ (by first | (with_reducible exact Ho2.out) | (with_reducible exact Ho2.out.nx ((Below.refl _ _).alloc (Nat.le_refl _) _))) (by first | (with_reducible exact Ho3.out) | (with_reducible exact Ho3.out.nx ((Below.refl _ _).alloc (Nat.le_refl _) _))) (by omega) (by omega)).mono ?_; rintro e w4 ⟨rfl, hb4⟩; rw [Hb2.out]; have K4 : Hid (Kep w ⟨first, n, A, m, c, ps, B, l, d, qs⟩ [(G15, (stepB first n ps qs f).1), (G11, (stepB first n ps qs f).1), (G8, nextB first n ps qs f), (G, nextB first n ps qs f)] w4) := Lib.hid (by first | (with_reducible exact K3.out.next hb4) | (with_reducible exact (K3.out.alloc _).next hb4)); first | (have R4 : Hid (Res3 w4 w3.heap.size) := (by with_reducible exact Lib.hid (Res3.newBelow hb4)); obtain ⟨⟨q0, q1, q2, z0, z1, z2⟩, y0, y1, y2⟩ := R4.out) | (have R4 := Lib.hid (R3.out.below hb4 R3.out.lt); obtain ⟨⟨q0, q1, q2, z0, z1, z2⟩, y0, y1, y2⟩ := R4.out) | skip; clear hb4)
            | (go_at_call 11; refine (own_any B l d qs _ (by first | (with_reducible exact K2.out.rq) | (with_reducible exact (K2.out.alloc _).rq)) (by omega)).mono ?_; rintro e w3 ⟨B1, d1, rfl, ho3, hb3⟩; have K3 : Hid (Kep w ⟨first, n, A, m, c, ps, B, l, d, qs⟩ [(G15, (stepB first n ps qs f).1), (G11, (stepB first n ps qs f).1), (G8, nextB first n ps qs f), (G, nextB first n ps qs f)] w3) := Lib.hid (by first | (with_reducible exact K2.out.next hb3) | (with_reducible exact (K2.out.alloc _).next hb3)); have Ho2 : Hid (Runs w3 w3.heap.size A1 m ps) := Lib.hid (by first | (with_reducible exact HA.out.nx hb3) | (with_reducible exact (HA.out.nx ((Below.refl _ _).alloc (Nat.le_refl _) _)).nx hb3)); have Ho3 := Lib.hid ho3.runs; first | (have R3 : Hid (Res3 w3 w2.heap.size) := (by with_reducible exact Lib.hid (Res3.newBelow hb3))) | (have R3 := Lib.hid (R2.out.below hb3 R2.out.lt)) | skip; clear ho3 hb3)
            | (go_at_call 11; refine (own_any A m c ps _ (by first | (with_reducible exact Kd.out.rp) | (with_reducible exact ((K7.out.alloc _).drew).rp)) (by omega)).mono ?_; rintro e w2 ⟨A1, c1, rfl, ho2, hb2⟩; have K2 : Hid (Kep w ⟨first, n, A, m, c, ps, B, l, d, qs⟩ [(G15, (stepB first n ps qs f).1), (G11, (stepB first n ps qs f).1), (G8, nextB first n ps qs f), (G, nextB first n ps qs f)] w2) := Lib.hid (by first | (with_reducible exact Kd.out.next hb2) | (with_reducible exact ((K7.out.alloc _).drew).next hb2)); have HA := Lib.hid ho2.runs; first | (have R2 : Hid (Res3 w2 w7.heap.size) := (by with_reducible exact Lib.hid (Res3.newBelow1 hb2))) | skip; clear ho2 hb2))
        clear x0 x1 x2 x3 hlt K7 Kd K2 K3 HA Ho2 Ho3
        obtain ⟨x0, x1, x2, x3⟩ := K4.out.cells
        have hlt := K4.out.lt
        go_wp2_with fail
        refine (refNext_any first n first A m c ps B l d qs _ K4.out.rp K4.out.rq (by omega) (by omega) h01 h02).mono ?_
        rintro e w8 ⟨rfl, hb8⟩
        rw [mv_two, Hb2.out]
        have K8 := Lib.hid (K4.out.next hb8)
        clear hb8 x0 x1 x2 x3 hlt K4
        obtain ⟨g5, m50, m51, m52⟩ := K8.out.mv (G, nextB first n ps qs f) (by simp)
        obtain ⟨g8, m80, m81, m82⟩ := K8.out.mv (G8, nextB first n ps qs f) (by simp)
        obtain ⟨g11, m110, m111, m112⟩ := K8.out.mv (G11, (stepB first n ps qs f).1) (by simp)
        obtain ⟨g15, m150, m151, m152⟩ := K8.out.mv (G15, (stepB first n ps qs f).1) (by simp)
        have i5 : G < w8.heap.size := World.block_lt_of_cell? w8 _ m50
        have i8 : G8 < w8.heap.size := World.block_lt_of_cell? w8 _ m80
        have i11 : G11 < w8.heap.size := World.block_lt_of_cell? w8 _ m110
        have i15 : G15 < w8.heap.size := World.block_lt_of_cell? w8 _ m150
        dsimp only at m50 m51 m52 m80 m81 m82 m110 m111 m112 m150 m151 m152
        generalize (nextB first n ps qs f).isSome = b1 at *
        generalize (stepB first n ps qs f).2.1 = cu at *
        generalize (stepB first n ps qs f).2.2 = dn at *
        generalize checkB first n ps qs = ck at *
        have he1 : errB true = 0 := rfl
        have he2 : errB false = 2 := rfl
        cases ck <;> cases b2 <;> simp only [he1, he2, Bool.true_and, Bool.false_and, Bool.not_true, Bool.not_false]
        all_goals
          go_wp2_with fail
          refine (lives_any _).mono ?_
          rintro e w10 ⟨rfl, hb10⟩
          go_wp2
          go_ret
          exact ⟨rfl, ((K8.out.alloc _).next hb10).bel⟩
end Go.Proofs.Ytkifpnhijdcjlaa
