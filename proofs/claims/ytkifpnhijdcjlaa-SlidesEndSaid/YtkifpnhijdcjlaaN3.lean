/- Walks: the reference's Step. -/
import Derived.Test.YtkifpnhijdcjlaaN2
import Derived.Test.YtkifpnhijdcjlaaW11
namespace Go.Proofs.Ytkifpnhijdcjlaa
open Go.RowKit

theorem stepB_next {first n f : Int} {ps qs : RunL} (h : checkB first n ps qs = true) : stepB first n ps qs f = match nextB first n ps qs f with
    | some m => (some m, m.2.1 + m.2.2, false)
    | none => match nextB first n ps qs first with
      | some m => (some m, m.2.1 + m.2.2, false)
      | none => (none, first, true) := by
  unfold stepB nextB stepL
  simp only [h, if_true]
  cases findL ps f (regionsL first n qs) with
  | some m => rfl
  | none => cases findL ps first (regionsL first n qs) <;> rfl
theorem nextB_some {first n f : Int} {ps qs : RunL} {m : Int × Int × Int} (h : nextB first n ps qs f = some m) : 0 ≤ m.2.1 ∧ m.2.1 < m.1 ∧ 1 ≤ m.2.2 ∧ m.2.2 ≤ 8 ∧ m.1 + m.2.2 ≤ 4096 ∧ m.2.1 + m.2.2 ≤ m.1 := by
  unfold nextB at h
  split at h
  · rename_i hck
    obtain ⟨c1, c2, c3, c4, c5, c6⟩ := check_parts hck
    exact findL_some (rising_small c4 c1 c3) (regions_small c5 c1 c2 c3) h
  · cases h

theorem three2 {w : World} {g h : Nat} {u0 u1 u2 v0 v1 v2 a b c : Value} (_hn : ¬ h = g) (h0 : w.cell? ⟨g, 0, none⟩ = some u0) (h1 : w.cell? ⟨g, 1, none⟩ = some u1) (h2 : w.cell? ⟨g, 2, none⟩ = some u2) :
    let W := (((((w.setCell ⟨h, 0, none⟩ a).setCell ⟨h, 1, none⟩ b).setCell ⟨h, 2, none⟩ c).setCell ⟨g, 0, none⟩ v0).setCell ⟨g, 1, none⟩ v1).setCell ⟨g, 2, none⟩ v2
    W.cell? ⟨g, 0, none⟩ = some v0 ∧ W.cell? ⟨g, 1, none⟩ = some v1 ∧ W.cell? ⟨g, 2, none⟩ = some v2 := by
  refine ⟨?_, ?_, ?_⟩ <;> simp [go_sem, h0, h1, h2]
set_option maxHeartbeats 4000000 in
theorem refStep_any (first n f : Int) (A : Option Addr) (m c : Nat) (ps : RunL) (B : Option Addr) (l d : Nat) (qs : RunL) (w : World)
    (hr : Runs w w.heap.size A m ps) (hq : Runs w w.heap.size B l qs) (hm : m ≤ 1000) (hl : l ≤ 1000) (hf1 : -9223372036854775808 ≤ f) (hf2 : f ≤ 9223372036854775807) :
    Calls Try.prog 22 #[.int .i64 first, .int .i64 n, .slice A m c, .slice B l d, .int .i64 f] w (StepPost (stepB first n ps qs f) (checkB first n ps qs) w) := by
  have hbx : Below w.heap.size w (w.alloc (.cells #[.int .i64 0, .int .i64 0, .int .i64 0] 24)) := (Below.refl _ _).alloc (Nat.le_refl _) _
  have hres : Hid (Res3 (w.alloc (.cells #[.int .i64 0, .int .i64 0, .int .i64 0] 24)) w.heap.size) := Res3.new
  have hsx : w.heap.size < (w.alloc (.cells #[.int .i64 0, .int .i64 0, .int .i64 0] 24)).heap.size := by simp
  have hrx := (hr.below hbx (Nat.le_refl _)).more hbx.size
  have hqx := (hq.below hbx (Nat.le_refl _)).more hbx.size
  go_enter Try.func22, Try.ntmps22
  go_wp2_with fail
  generalize w.alloc (.cells #[.int .i64 0, .int .i64 0, .int .i64 0] 24) = wx at *
  refine (refNext_any first n f A m c ps B l d qs _ hrx hqx hm hl hf1 hf2).mono ?_
  rintro e w1 ⟨rfl, hb1⟩
  rw [mv_two]
  have hb1' := hbx.trans (hb1.mono hbx.size)
  have hres1 := Lib.hid (hres.out.below hb1 hsx)
  have hsz1 := hb1'.size
  cases hck : checkB first n ps qs with
  | false =>
    have hN : Hid (stepB first n ps qs f = (none, 0, false)) := by show stepB first n ps qs f = _; unfold stepB; rw [hck]; simp
    have he : errB false = 2 := rfl
    rw [he]
    have Hck := Lib.hid hck
    clear hck
    generalize nextB first n ps qs f = o1 at *
    obtain ⟨⟨q0, q1, q2, z0, z1, z2⟩, y0, y1, y2⟩ := hres1.out
    have hlt1 : w.heap.size < w1.heap.size := World.block_lt_of_cell? w1 _ z0
    go_wp2
    obtain ⟨p0, p1, p2⟩ := three (o := .cells #[.int .i64 (o1.getD (0, 0, 0)).1, .int .i64 (o1.getD (0, 0, 0)).2.1, .int .i64 (o1.getD (0, 0, 0)).2.2] 24) (v0 := .int .i64 0) (v1 := .int .i64 0) (v2 := .int .i64 0) z0 z1 z2
    refine bodyPost_ret (v := .tuple #[.agg #[.int .i64 0, .int .i64 0, .int .i64 0], .int .i64 0, .bool false, .int .i64 2]) (by simp [results, Try.results22, go_sem, p0, p1, p2]) rfl ⟨by rw [hN.out, Hck.out]; rfl, ?_⟩
    exact (((hb1'.setCell (by simp) _).setCell (by simp) _).setCell (by simp) _).alloc (by simp [World.setCell]; omega) _
  | true =>
    have hst := stepB_next (f := f) hck
    have hbd := fun (m : Int × Int × Int) (h : nextB first n ps qs f = some m) => nextB_some h
    have hbd2 := fun (m : Int × Int × Int) (h : nextB first n ps qs first = some m) => nextB_some h
    obtain ⟨c1, c2, c3, _, _, _⟩ := check_parts hck
    have he : errB true = 0 := rfl
    rw [he]
    have Hck := Lib.hid hck
    clear hck
    cases ho : nextB first n ps qs f with
    | some mv =>
      obtain ⟨m1, m2, m3⟩ := mv
      have hb := hbd _ ho
      dsimp only at hb
      rw [ho] at hst
      dsimp only at hst
      have Hst := Lib.hid hst
      clear hst hbd hbd2 ho
      obtain ⟨⟨q0, q1, q2, z0, z1, z2⟩, y0, y1, y2⟩ := hres1.out
      have hlt1 : w.heap.size < w1.heap.size := World.block_lt_of_cell? w1 _ z0
      go_wp2_with fail
      go_region
      all_goals
        go_wp2
        obtain ⟨p0, p1, p2⟩ := three (o := .cells #[.int .i64 m1, .int .i64 m2, .int .i64 m3] 24) (v0 := .int .i64 m1) (v1 := .int .i64 m2) (v2 := .int .i64 m3) z0 z1 z2
        refine bodyPost_ret (v := .tuple #[.agg #[.int .i64 m1, .int .i64 m2, .int .i64 m3], .int .i64 (m2 + m3), .bool false, .int .i64 0]) (by simp [results, Try.results22, go_sem, p0, p1, p2]) rfl ⟨by rw [Hst.out, Hck.out]; rfl, ?_⟩
        exact ((((hb1'.setCell (by simp) _).setCell (by simp) _).setCell (by simp) _).alloc (by simp [World.setCell]; omega) _).drew
    | none =>
      rw [ho] at hst
      dsimp only at hst
      have Hst0 := Lib.hid hst
      clear hst hbd ho
      have hx := (Below.refl w1.heap.size w1).alloc (Nat.le_refl _) (.cells #[.int .i64 0, .int .i64 0, .int .i64 0] 24)
      have hbw := hb1'.trans (hx.mono hsz1)
      have hr2 := (hr.below hbw (Nat.le_refl _)).more hbw.size
      have hq2 := (hq.below hbw (Nat.le_refl _)).more hbw.size
      have Hres2 := Lib.hid (hres1.out.below hx hres1.out.lt)
      have Hin : Hid (Res3 (w1.alloc (.cells #[.int .i64 0, .int .i64 0, .int .i64 0] 24)) w1.heap.size) := Res3.new
      have hlw : w.heap.size < w1.heap.size := hres1.out.lt
      have hxl : w1.heap.size < (w1.alloc (.cells #[.int .i64 0, .int .i64 0, .int .i64 0] 24)).heap.size := by simp
      go_wp2_with fail
      generalize w1.alloc (.cells #[.int .i64 0, .int .i64 0, .int .i64 0] 24) = wy at *
      refine (refNext_any first n first A m c ps B l d qs _ hr2 hq2 hm hl (by omega) (by omega)).mono ?_
      rintro e w2 ⟨rfl, hb2⟩
      rw [mv_two, Hck.out, he]
      have hbw2 := hbw.trans (hb2.mono hbw.size)
      have hsz2 := hbw2.size
      have hres3 := Hres2.out.below hb2 (by omega)
      have hin3 := Hin.out.below hb2 hxl
      obtain ⟨⟨q0, q1, q2, z0, z1, z2⟩, y0, y1, y2⟩ := hres3
      obtain ⟨⟨r0, r1, r2, u0, u1, u2⟩, t0, t1, t2⟩ := hin3
      have hlt1 : w.heap.size < w2.heap.size := World.block_lt_of_cell? w2 _ z0
      have hlt2 : w1.heap.size < w2.heap.size := World.block_lt_of_cell? w2 _ u0
      have hne : ¬ w.heap.size = w1.heap.size := by omega
      have hne2 : ¬ w1.heap.size = w.heap.size := by omega
      clear hr2 hq2 hb2
      cases ho2 : nextB first n ps qs first with
      | some mv =>
        obtain ⟨m1, m2, m3⟩ := mv
        have hb := hbd2 _ ho2
        dsimp only at hb
        have hst := Hst0.out
        rw [ho2] at hst
        dsimp only at hst
        have Hst := Lib.hid hst
        clear hst hbd2 ho2
        go_wp2_with fail
        go_region
        all_goals
          go_wp2
          obtain ⟨p0, p1, p2⟩ := three2 (a := .int .i64 m1) (b := .int .i64 m2) (c := .int .i64 m3) (v0 := .int .i64 m1) (v1 := .int .i64 m2) (v2 := .int .i64 m3) hne2 z0 z1 z2
          refine bodyPost_ret (v := .tuple #[.agg #[.int .i64 m1, .int .i64 m2, .int .i64 m3], .int .i64 (m2 + m3), .bool false, .int .i64 0]) (by simp [results, Try.results22, go_sem, p0, p1, p2]) rfl ⟨by rw [Hst.out, Hck.out]; rfl, ?_⟩
          exact ((((((hbw2.setCell hsz1 _).setCell hsz1 _).setCell hsz1 _).setCell (by simp) _).setCell (by simp) _).setCell (by simp) _).drew
      | none =>
        have hst := Hst0.out
        rw [ho2] at hst
        dsimp only at hst
        have Hst := Lib.hid hst
        clear hst hbd2 ho2
        go_wp2
        obtain ⟨p0, p1, p2⟩ := three2 (a := .int .i64 0) (b := .int .i64 0) (c := .int .i64 0) (v0 := .int .i64 0) (v1 := .int .i64 0) (v2 := .int .i64 0) hne2 z0 z1 z2
        refine bodyPost_ret (v := .tuple #[.agg #[.int .i64 0, .int .i64 0, .int .i64 0], .int .i64 first, .bool true, .int .i64 0]) (by simp [results, Try.results22, go_sem, p0, p1, p2]) rfl ⟨by rw [Hst.out, Hck.out]; rfl, ?_⟩
        exact (((((hbw2.setCell hsz1 _).setCell hsz1 _).setCell hsz1 _).setCell (by simp) _).setCell (by simp) _).setCell (by simp) _
end Go.Proofs.Ytkifpnhijdcjlaa
