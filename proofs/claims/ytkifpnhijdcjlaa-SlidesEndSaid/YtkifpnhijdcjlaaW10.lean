/- Walks: Next, Done, Regions. -/
import Derived.Test.YtkifpnhijdcjlaaM2
namespace Go.Proofs.Ytkifpnhijdcjlaa
open Go.RowKit

def NextPost (o : MoveO) (b : Bool) (w : World) (e : Ending) (w' : World) : Prop := e = .returned (.tuple #[mvV o, .bool o.isSome, .int .i64 (errB b)]) ∧ Below w.heap.size w w'

set_option maxHeartbeats 2000000 in
theorem Next_any (first n f : Int) (A : Option Addr) (m c : Nat) (ps : RunL) (B : Option Addr) (l d : Nat) (qs : RunL) (w : World)
    (hr : Runs w w.heap.size A m ps) (hq : Runs w w.heap.size B l qs) (hm : m ≤ 1000) (hl : l ≤ 1000) :
    Calls Try.prog 16 #[.int .i64 first, .int .i64 n, .slice A m c, .slice B l d, .int .i64 f] w (NextPost (nextB first n ps qs f) (checkB first n ps qs) w) := by
  have hbx : Below w.heap.size w (w.alloc (.cells #[.int .i64 0, .int .i64 0, .int .i64 0] 24)) := (Below.refl _ _).alloc (Nat.le_refl _) _
  have hres : Hid (Res3 (w.alloc (.cells #[.int .i64 0, .int .i64 0, .int .i64 0] 24)) w.heap.size) := Res3.new
  have hsx : w.heap.size < (w.alloc (.cells #[.int .i64 0, .int .i64 0, .int .i64 0] 24)).heap.size := by simp
  have hrx := (hr.below hbx (Nat.le_refl _)).more hbx.size
  have hqx := (hq.below hbx (Nat.le_refl _)).more hbx.size
  go_enter Try.func16, Try.ntmps16
  go_wp2_with fail
  refine (check_any first n A m c ps B l d qs _ hrx hqx (by omega) (by omega)).mono ?_
  rintro e w1 ⟨rfl, hb1⟩
  have hb1' := hbx.trans (hb1.mono hbx.size)
  have hres1 := hres.out.below hb1 hsx
  have hsz1 := hb1'.size
  generalize w.alloc (.cells #[.int .i64 0, .int .i64 0, .int .i64 0] 24) = wx at *
  cases hck : checkB first n ps qs with
  | false =>
    have hN : Hid (nextB first n ps qs f = none) := by show nextB first n ps qs f = none; unfold nextB; rw [hck]; simp
    have he : errB false = 2 := rfl
    have Hck := Lib.hid hck
    clear hck
    rw [he]
    obtain ⟨⟨q0, q1, q2, z0, z1, z2⟩, y0, y1, y2⟩ := hres1
    obtain ⟨p0, p1, p2⟩ := three' (v0 := .int .i64 0) (v1 := .int .i64 0) (v2 := .int .i64 0) z0 z1 z2
    go_wp2
    refine bodyPost_ret (v := .tuple #[.agg #[.int .i64 0, .int .i64 0, .int .i64 0], .bool false, .int .i64 2]) (by simp [results, Try.results16, go_sem, p0, p1, p2]) rfl ⟨by rw [hN.out, Hck.out]; rfl, ?_⟩
    exact ((hb1'.setCell (by simp) _).setCell (by simp) _).setCell (by simp) _
  | true =>
    obtain ⟨c1, c2, c3, c4, c5, c6⟩ := check_parts hck
    have hN : Hid (nextB first n ps qs f = findL ps f (regionsL first n qs)) := by show nextB first n ps qs f = _; unfold nextB; rw [hck]; simp
    have he : errB true = 0 := rfl
    have Hck := Lib.hid hck
    rw [he]
    have hr1 := (hr.below hb1' (Nat.le_refl _)).more hsz1
    have hq1 := (hq.below hb1' (Nat.le_refl _)).more hsz1
    have hsm := regions_small c5 c1 c2 c3
    have hps := rising_small c4 c1 c3
    have hrl := regions_len (a := first) (n := n) (qs := qs)
    clear hck c6 c4 hrx hqx
    go_wp2_with fail
    refine (regions_any first n B l d qs _ c1 c2 c3 hq1 hl c5).mono ?_
    rintro e w2 ⟨A2, m2, d2, rfl, ho2, hb2⟩
    have hrun2 := ho2.runs
    have hb2' := hb1'.trans (hb2.mono hsz1)
    have hr2 := (hr.below hb2' (Nat.le_refl _)).more hb2'.size
    have hres2 := hres1.below hb2 hres1.lt
    clear c5 ho2 hr1 hq1 hres1
    go_wp2_with fail
    refine (find_any f A2 m2 d2 _ A m c ps _ hrun2 (by have := hrun2.1; have := hq.1; omega) hsm hr2 hm hps).mono ?_
    rintro e w3 ⟨rfl, hb3⟩
    have hb3' := hb2'.trans (hb3.mono hb2'.size)
    have hres3 := hres2.below hb3 hres2.lt
    obtain ⟨⟨q0, q1, q2, z0, z1, z2⟩, y0, y1, y2⟩ := hres3
    have hsz3 := hb3'.size
    have hlt3 : w.heap.size < w3.heap.size := World.block_lt_of_cell? w3 _ z0
    clear hrun2 hr2 hres2 hb2 hb3 hb1 hsm hps
    have hmv : ∀ o, mvV o = .agg #[.int .i64 (o.getD (0, 0, 0)).1, .int .i64 (o.getD (0, 0, 0)).2.1, .int .i64 (o.getD (0, 0, 0)).2.2] := fun _ => rfl
    generalize hF : findL ps f (regionsL first n qs) = F at *
    rw [hmv]
    have HF := Lib.hid hF
    clear hF hmv
    obtain ⟨p0, p1, p2⟩ := three (o := .cells #[.int .i64 (F.getD (0, 0, 0)).1, .int .i64 (F.getD (0, 0, 0)).2.1, .int .i64 (F.getD (0, 0, 0)).2.2] 24) (v0 := .int .i64 (F.getD (0, 0, 0)).1) (v1 := .int .i64 (F.getD (0, 0, 0)).2.1) (v2 := .int .i64 (F.getD (0, 0, 0)).2.2) z0 z1 z2
    go_wp2
    refine bodyPost_ret (v := .tuple #[.agg #[.int .i64 (F.getD (0, 0, 0)).1, .int .i64 (F.getD (0, 0, 0)).2.1, .int .i64 (F.getD (0, 0, 0)).2.2], .bool F.isSome, .int .i64 0]) (by simp [results, Try.results16, go_sem, p0, p1, p2]) rfl ⟨by rw [hN.out, Hck.out]; rfl, ?_⟩
    exact (((hb3'.setCell (by simp) _).setCell (by simp) _).setCell (by simp) _).alloc (by simp [World.setCell]; omega) _
theorem mv_two (o : MoveO) : mvV o = .agg #[.int .i64 (o.getD (0, 0, 0)).1, .int .i64 (o.getD (0, 0, 0)).2.1, .int .i64 (o.getD (0, 0, 0)).2.2] := rfl
set_option maxHeartbeats 1000000 in
theorem Done_any (first n : Int) (A : Option Addr) (m c : Nat) (ps : RunL) (B : Option Addr) (l d : Nat) (qs : RunL) (w : World)
    (hr : Runs w w.heap.size A m ps) (hq : Runs w w.heap.size B l qs) (hm : m ≤ 1000) (hl : l ≤ 1000) :
    Calls Try.prog 23 #[.int .i64 first, .int .i64 n, .slice A m c, .slice B l d] w fun e w' =>
      e = .returned (.tuple #[.bool (checkB first n ps qs && !(nextB first n ps qs first).isSome), .int .i64 (errB (checkB first n ps qs))]) ∧ Below w.heap.size w w' := by
  go_enter Try.func23, Try.ntmps23
  go_wp2_with fail
  refine (Next_any first n first A m c ps B l d qs _ hr hq hm hl).mono ?_
  rintro e w1 ⟨rfl, hb1⟩
  rw [mv_two]
  cases hck : checkB first n ps qs with
  | false =>
    have Hck := Lib.hid hck
    clear hck
    have he : errB false = 2 := rfl
    rw [he]
    go_wp2
    go_ret2
    exact ⟨by rw [Hck.out]; simp [errB], hb1.alloc hb1.size _⟩
  | true =>
    have Hck := Lib.hid hck
    clear hck
    have he : errB true = 0 := rfl
    rw [he]
    generalize hF : nextB first n ps qs first = F at *
    go_wp2
    go_ret2
    exact ⟨by rw [Hck.out, hF]; simp [errB], hb1.alloc hb1.size _⟩

def RegionsPost (first n : Int) (qs : RunL) (w : World) (e : Ending) (w' : World) : Prop := ∃ A' m' c',
  e = .returned (.tuple #[.slice A' m' c', .int .i64 (errB (checkB first n [] qs))]) ∧ Own w' w.heap.size (.slice A' m' c') (if checkB first n [] qs = true then regionsL first n qs else []) ∧ Below w.heap.size w w'
set_option maxHeartbeats 1000000 in
theorem Regions_any (first n : Int) (B : Option Addr) (l d : Nat) (qs : RunL) (w : World)
    (hq : Runs w w.heap.size B l qs) (hl : l ≤ 1000) :
    Calls Try.prog 25 #[.int .i64 first, .int .i64 n, .slice B l d] w (RegionsPost first n qs w) := by
  go_enter Try.func25, Try.ntmps25
  go_wp2_with fail
  refine (check_any first n none 0 0 [] B l d qs _ ⟨rfl, fun i x hx => by simp at hx⟩ hq (by omega) (by omega)).mono ?_
  rintro e w1 ⟨rfl, hb1⟩
  cases hck : checkB first n [] qs with
  | false =>
    have he : errB false = 2 := rfl
    rw [he]
    have Hck := Lib.hid hck
    clear hck
    go_wp2
    go_ret2
    exact ⟨none, 0, 0, by rw [Hck.out]; rfl, by rw [if_neg (by rw [Hck.out]; simp)]; exact Own.nil _ _, hb1⟩
  | true =>
    obtain ⟨c1, c2, c3, c4, c5, c6⟩ := check_parts hck
    have he : errB true = 0 := rfl
    rw [he]
    have hq1 := (hq.below hb1 (Nat.le_refl _)).more hb1.size
    have hsz1 := hb1.size
    have Hck := Lib.hid hck
    clear hck c4 c6
    go_wp2_with fail
    refine (regions_any first n B l d qs _ c1 c2 c3 hq1 hl c5).mono ?_
    rintro e w2 ⟨A2, m2, d2, rfl, ho2, hb2⟩
    have Ho := Lib.hid (ho2.lower hsz1)
    have Hb := Lib.hid (hb1.trans (hb2.mono hsz1))
    clear ho2 hb1 hb2 c5
    go_wp2
    go_ret2
    exact ⟨A2, m2, d2, by rw [Hck.out]; rfl, by rw [if_pos Hck.out]; exact Ho.out, Hb.out⟩
end Go.Proofs.Ytkifpnhijdcjlaa
