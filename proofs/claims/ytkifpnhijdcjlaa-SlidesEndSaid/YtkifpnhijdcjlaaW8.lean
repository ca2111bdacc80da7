/- Walks: next. -/
import Derived.Test.YtkifpnhijdcjlaaW7
namespace Go.Proofs.Ytkifpnhijdcjlaa
open Go.RowKit

abbrev MoveO := Option (Int × Int × Int)
def mvV (o : MoveO) : Value := .agg #[.int .i64 (o.getD (0, 0, 0)).1, .int .i64 (o.getD (0, 0, 0)).2.1, .int .i64 (o.getD (0, 0, 0)).2.2]
def nextIn (at_ : Int) : RunL → MoveO
  | [] => none
  | p :: l => if at_ < p.1 then some (p.1, at_, min (min p.2 (p.1 - at_)) 8) else nextIn (p.1 + p.2) l
theorem nextIn_step {a x1 x2 : Int} {l : RunL} {k : Nat} (h : l[k]? = some (x1, x2)) : nextIn a (l.drop k) = if a < x1 then some (x1, a, min (min x2 (x1 - a)) 8) else nextIn (x1 + x2) (l.drop (k + 1)) := by
  obtain ⟨hk, e⟩ := List.getElem?_eq_some_iff.1 h
  rw [List.drop_eq_getElem_cons hk, nextIn, e]
def nextL (ps : RunL) (r1 r2 f : Int) : MoveO := nextIn (max r1 f) (withinL r1 r2 (max r1 f) ps)
def MovePost (o : MoveO) (w : World) (e : Ending) (w' : World) : Prop := e = .returned (.tuple #[mvV o, .bool o.isSome]) ∧ Below w.heap.size w w'

theorem within_small {r1 r2 f : Int} {ps : RunL} (h : Small ps) : Small (withinL r1 r2 f ps) := fun k x hx => by
  have hm := List.mem_of_getElem? hx
  unfold withinL at hm
  obtain ⟨j, hj, e⟩ := List.getElem_of_mem (List.mem_filter.1 hm).1
  exact h j x (by rw [List.getElem?_eq_getElem hj, e])
theorem within_len {r1 r2 f : Int} {ps : RunL} : (withinL r1 r2 f ps).length ≤ ps.length := List.length_filter_le _ _

theorem three {w : World} {g : Nat} {o : Obj} {u0 u1 u2 v0 v1 v2 : Value} (h0 : w.cell? ⟨g, 0, none⟩ = some u0) (h1 : w.cell? ⟨g, 1, none⟩ = some u1) (h2 : w.cell? ⟨g, 2, none⟩ = some u2) :
    let W := (((w.setCell ⟨g, 0, none⟩ v0).setCell ⟨g, 1, none⟩ v1).setCell ⟨g, 2, none⟩ v2).alloc o
    W.cell? ⟨g, 0, none⟩ = some v0 ∧ W.cell? ⟨g, 1, none⟩ = some v1 ∧ W.cell? ⟨g, 2, none⟩ = some v2 := by
  have hg := World.block_lt_of_cell? w _ h0
  have hg' : g < w.heap.size := hg
  refine ⟨?_, ?_, ?_⟩ <;> (rw [World.cell?_alloc_lt _ _ _ (by simp [World.setCell]; exact hg')]; simp [go_sem, h0, h1, h2])

set_option maxHeartbeats 2000000 in
theorem next_any (r1 r2 f : Int) (A : Option Addr) (m c : Nat) (ps : RunL) (w : World) (h0 : 0 ≤ r1) (h1 : 0 ≤ r2) (h2 : r1 + r2 ≤ 4096) (hf : f ≤ 4096)
    (hr : Runs w w.heap.size A m ps) (hm : m ≤ 1000) (hs : Small ps) :
    Calls Try.prog 41 #[.slice A m c, .agg #[.int .i64 r1, .int .i64 r2], .int .i64 f] w (MovePost (nextL ps r1 r2 f) w) := by
  have hbx : Below w.heap.size w ((w.alloc (.cells #[.int .i64 r1, .int .i64 r2] 39)).alloc (.cells #[.int .i64 0, .int .i64 0, .int .i64 0] 24)) := ((Below.refl _ _).alloc (Nat.le_refl _) _).alloc (by simp) _
  rcases Int.lt_or_le r1 f with hmx | hmx
  · have hmax : max r1 f = f := by omega
    have Hn : Hid (nextL ps r1 r2 f = nextIn f (withinL r1 r2 f ps)) := by show nextL ps r1 r2 f = _; unfold nextL; rw [hmax]
    have hM0 : 0 ≤ f := by omega
    have hM1 : f ≤ 4096 := by omega
    clear hmax
    go_enter Try.func41, Try.ntmps41
    go_wp2_with fail
    have hr2 := (hr.below hbx (Nat.le_refl _)).more hbx.size
    refine (within_any r1 r2 f A m c ps _ h0 h1 h2 hr2 hm hs).mono ?_
    rintro e w1 ⟨A1, m1, c1, rfl, ho1, hb1⟩
    have hss := within_small (r1 := r1) (r2 := r2) (f := f) hs
    have hrun := ho1.runs
    have hlen1 : m1 ≤ 1000 := by have := hrun.1; have := within_len (r1 := r1) (r2 := r2) (f := f) (ps := ps); have := hr.1; omega
    have hfz : w1.frozen? ⟨w.heap.size + 1, 0, none⟩ = false := by rw [hb1.frozen (p := ⟨w.heap.size + 1, 0, none⟩) (by simp)]; go_simp
    have hfz1 : w1.frozen? ⟨w.heap.size + 1, 1, none⟩ = false := by rw [hb1.frozen (p := ⟨w.heap.size + 1, 1, none⟩) (by simp)]; go_simp
    have hfz2 : w1.frozen? ⟨w.heap.size + 1, 2, none⟩ = false := by rw [hb1.frozen (p := ⟨w.heap.size + 1, 2, none⟩) (by simp)]; go_simp
    have hc0 : w1.cell? ⟨w.heap.size + 1, 0, none⟩ = some (.int .i64 0) := by rw [hb1.cell (p := ⟨w.heap.size + 1, 0, none⟩) (by simp)]; go_simp
    have hc1 : w1.cell? ⟨w.heap.size + 1, 1, none⟩ = some (.int .i64 0) := by rw [hb1.cell (p := ⟨w.heap.size + 1, 1, none⟩) (by simp)]; go_simp
    have hc2 : w1.cell? ⟨w.heap.size + 1, 2, none⟩ = some (.int .i64 0) := by rw [hb1.cell (p := ⟨w.heap.size + 1, 2, none⟩) (by simp)]; go_simp
    have hlt1 : w.heap.size + 1 < w1.heap.size := World.block_lt_of_cell? w1 _ hc0
    have hbw1 : Below w.heap.size w w1 := hbx.trans (hb1.mono hbx.size)
    clear hr2 hb1 ho1
    go_wp2_with fail
    generalize hL : withinL r1 r2 f ps = L at *
    clear hL
    have Hs := Lib.hid hss
    clear hss
    go_loopw [8, 20] (fun t i wr => ∃ (k : Nat) (a : Int), k ≤ m1 ∧ i = .int .i64 k ∧ t = .int .i64 a ∧ 0 ≤ a ∧ a ≤ 4096 ∧ Hid (nextIn f L = nextIn a (L.drop k)) ∧ Below w1.heap.size w1 wr) (fun _ i _ => m1 - (intOf i).toNat)
    case atStart => exact ⟨0, f, by omega, rfl, rfl, by omega, by omega, by exact rfl, Below.refl _ _⟩
    case round =>
      obtain ⟨k, a, hk, rfl, rfl, ha0, ha1, Hg, hb⟩ := hrel
      have hsz := hb.size
      have z0 : wr.cell? ⟨w.heap.size + 1, 0, none⟩ = some (.int .i64 0) := (hb.cell (p := ⟨w.heap.size + 1, 0, none⟩) hlt1).trans hc0
      have z1 : wr.cell? ⟨w.heap.size + 1, 1, none⟩ = some (.int .i64 0) := (hb.cell (p := ⟨w.heap.size + 1, 1, none⟩) hlt1).trans hc1
      have z2 : wr.cell? ⟨w.heap.size + 1, 2, none⟩ = some (.int .i64 0) := (hb.cell (p := ⟨w.heap.size + 1, 2, none⟩) hlt1).trans hc2
      have y0 : wr.frozen? ⟨w.heap.size + 1, 0, none⟩ = false := (hb.frozen (p := ⟨w.heap.size + 1, 0, none⟩) hlt1).trans hfz
      have y1 : wr.frozen? ⟨w.heap.size + 1, 1, none⟩ = false := (hb.frozen (p := ⟨w.heap.size + 1, 1, none⟩) hlt1).trans hfz1
      have y2 : wr.frozen? ⟨w.heap.size + 1, 2, none⟩ = false := (hb.frozen (p := ⟨w.heap.size + 1, 2, none⟩) hlt1).trans hfz2
      have hltr : w.heap.size + 1 < wr.heap.size := by omega
      have hner : ¬ w.heap.size + 1 = wr.heap.size := by omega
      by_cases hlt : k < m1
      · obtain ⟨x1, x2, b, o, hx, v1, v2, v3, v4, rfl, hbB, e0, e1⟩ := (hrun.below hb (Nat.le_refl _)).at_ hlt
        obtain ⟨g1, g2, g3⟩ := Hs.out _ _ hx
        dsimp only at g1 g2 g3
        have hst := nextIn_step (a := a) hx
        have Hx := Lib.hid hx
        clear hx
        by_cases hgt : a < x1
        · rw [if_pos hgt] at hst
          have Hst := Lib.hid hst
          clear hst
          have hval : Hid (nextL ps r1 r2 f = some (x1, a, min (min x2 (x1 - a)) 8)) := Hn.out.trans (Hg.out.trans Hst.out)
          clear Hg Hst Hn
          go_wp2_with fail
          all_goals first
            | (have hV : min (min x2 (x1 - a)) 8 = 8 := by omega
               refine bodyPost_ret (v := .tuple #[.agg #[.int .i64 x1, .int .i64 a, .int .i64 8], .bool true]) (by obtain ⟨q0, q1, q2⟩ := three (o := .cells #[.int .i64 x1, .int .i64 x2] 39) (v0 := .int .i64 x1) (v1 := .int .i64 a) (v2 := .int .i64 8) z0 z1 z2; simp [results, Try.results41, go_sem, q0, q1, q2]) rfl ⟨by rw [hval.out, hV]; rfl, ?_⟩)
            | (have hV : min (min x2 (x1 - a)) 8 = x2 := by omega
               refine bodyPost_ret (v := .tuple #[.agg #[.int .i64 x1, .int .i64 a, .int .i64 x2], .bool true]) (by obtain ⟨q0, q1, q2⟩ := three (o := .cells #[.int .i64 x1, .int .i64 x2] 39) (v0 := .int .i64 x1) (v1 := .int .i64 a) (v2 := .int .i64 x2) z0 z1 z2; simp [results, Try.results41, go_sem, q0, q1, q2]) rfl ⟨by rw [hval.out, hV]; rfl, ?_⟩)
            | (have hV : min (min x2 (x1 - a)) 8 = x1 - a := by omega
               refine bodyPost_ret (v := .tuple #[.agg #[.int .i64 x1, .int .i64 a, .int .i64 (x1 - a)], .bool true]) (by obtain ⟨q0, q1, q2⟩ := three (o := .cells #[.int .i64 x1, .int .i64 x2] 39) (v0 := .int .i64 x1) (v1 := .int .i64 a) (v2 := .int .i64 (x1 - a)) z0 z1 z2; simp [results, Try.results41, go_sem, q0, q1, q2]) rfl ⟨by rw [hval.out, hV]; rfl, ?_⟩)
          all_goals exact ((((hbw1.trans (hb.mono hbw1.size)).setCell (by simp) _).setCell (by simp) _).setCell (by simp) _).alloc (by simp [World.setCell]; omega) _
        · rw [if_neg hgt] at hst
          have Hst := Lib.hid hst
          clear hst
          go_wp2_with (go_at_call 36; refine (end_any _ _ _ (by omega) (by omega)).mono ?_; rintro e w' ⟨rfl, hb2⟩)
          go_roundw
          case rel =>
            refine ⟨k + 1, x1 + x2, by omega, by go_num, by go_num, by omega, by omega, ?_, ?_⟩
            · exact Hg.out.trans Hst.out
            · exact (hb.alloc hsz _).trans (hb2.mono (by simp; omega))
          case measure => simp [intOf]; omega
      · have hd : L.drop k = [] := List.drop_eq_nil_of_le (by have := hrun.1; omega)
        have hval : Hid (nextL ps r1 r2 f = none) := Hn.out.trans (Hg.out.trans (by rw [hd]; rfl))
        clear hd Hg Hn
        go_wp2
        refine bodyPost_ret (v := .tuple #[.agg #[.int .i64 0, .int .i64 0, .int .i64 0], .bool false]) (by simp [results, Try.results41, go_sem, z0, z1, z2]) rfl ⟨by rw [hval.out]; rfl, ?_⟩
        exact (((hbw1.trans (hb.mono hbw1.size)).setCell (by simp) _).setCell (by simp) _).setCell (by simp) _
  · have hmax : max r1 f = r1 := by omega
    have Hn : Hid (nextL ps r1 r2 f = nextIn r1 (withinL r1 r2 r1 ps)) := by show nextL ps r1 r2 f = _; unfold nextL; rw [hmax]
    have hM0 : 0 ≤ r1 := by omega
    have hM1 : r1 ≤ 4096 := by omega
    clear hmax
    go_enter Try.func41, Try.ntmps41
    go_wp2_with fail
    have hr2 := (hr.below hbx (Nat.le_refl _)).more hbx.size
    refine (within_any r1 r2 r1 A m c ps _ h0 h1 h2 hr2 hm hs).mono ?_
    rintro e w1 ⟨A1, m1, c1, rfl, ho1, hb1⟩
    have hss := within_small (r1 := r1) (r2 := r2) (f := r1) hs
    have hrun := ho1.runs
    have hlen1 : m1 ≤ 1000 := by have := hrun.1; have := within_len (r1 := r1) (r2 := r2) (f := r1) (ps := ps); have := hr.1; omega
    have hfz : w1.frozen? ⟨w.heap.size + 1, 0, none⟩ = false := by rw [hb1.frozen (p := ⟨w.heap.size + 1, 0, none⟩) (by simp)]; go_simp
    have hfz1 : w1.frozen? ⟨w.heap.size + 1, 1, none⟩ = false := by rw [hb1.frozen (p := ⟨w.heap.size + 1, 1, none⟩) (by simp)]; go_simp
    have hfz2 : w1.frozen? ⟨w.heap.size + 1, 2, none⟩ = false := by rw [hb1.frozen (p := ⟨w.heap.size + 1, 2, none⟩) (by simp)]; go_simp
    have hc0 : w1.cell? ⟨w.heap.size + 1, 0, none⟩ = some (.int .i64 0) := by rw [hb1.cell (p := ⟨w.heap.size + 1, 0, none⟩) (by simp)]; go_simp
    have hc1 : w1.cell? ⟨w.heap.size + 1, 1, none⟩ = some (.int .i64 0) := by rw [hb1.cell (p := ⟨w.heap.size + 1, 1, none⟩) (by simp)]; go_simp
    have hc2 : w1.cell? ⟨w.heap.size + 1, 2, none⟩ = some (.int .i64 0) := by rw [hb1.cell (p := ⟨w.heap.size + 1, 2, none⟩) (by simp)]; go_simp
    have hlt1 : w.heap.size + 1 < w1.heap.size := World.block_lt_of_cell? w1 _ hc0
    have hbw1 : Below w.heap.size w w1 := hbx.trans (hb1.mono hbx.size)
    clear hr2 hb1 ho1
    go_wp2_with fail
    generalize hL : withinL r1 r2 r1 ps = L at *
    clear hL
    have Hs := Lib.hid hss
    clear hss
    go_loopw [8, 20] (fun t i wr => ∃ (k : Nat) (a : Int), k ≤ m1 ∧ i = .int .i64 k ∧ t = .int .i64 a ∧ 0 ≤ a ∧ a ≤ 4096 ∧ Hid (nextIn r1 L = nextIn a (L.drop k)) ∧ Below w1.heap.size w1 wr) (fun _ i _ => m1 - (intOf i).toNat)
    case atStart => exact ⟨0, r1, by omega, rfl, rfl, by omega, by omega, by exact rfl, Below.refl _ _⟩
    case round =>
      obtain ⟨k, a, hk, rfl, rfl, ha0, ha1, Hg, hb⟩ := hrel
      have hsz := hb.size
      have z0 : wr.cell? ⟨w.heap.size + 1, 0, none⟩ = some (.int .i64 0) := (hb.cell (p := ⟨w.heap.size + 1, 0, none⟩) hlt1).trans hc0
      have z1 : wr.cell? ⟨w.heap.size + 1, 1, none⟩ = some (.int .i64 0) := (hb.cell (p := ⟨w.heap.size + 1, 1, none⟩) hlt1).trans hc1
      have z2 : wr.cell? ⟨w.heap.size + 1, 2, none⟩ = some (.int .i64 0) := (hb.cell (p := ⟨w.heap.size + 1, 2, none⟩) hlt1).trans hc2
      have y0 : wr.frozen? ⟨w.heap.size + 1, 0, none⟩ = false := (hb.frozen (p := ⟨w.heap.size + 1, 0, none⟩) hlt1).trans hfz
      have y1 : wr.frozen? ⟨w.heap.size + 1, 1, none⟩ = false := (hb.frozen (p := ⟨w.heap.size + 1, 1, none⟩) hlt1).trans hfz1
      have y2 : wr.frozen? ⟨w.heap.size + 1, 2, none⟩ = false := (hb.frozen (p := ⟨w.heap.size + 1, 2, none⟩) hlt1).trans hfz2
      have hltr : w.heap.size + 1 < wr.heap.size := by omega
      have hner : ¬ w.heap.size + 1 = wr.heap.size := by omega
      by_cases hlt : k < m1
      · obtain ⟨x1, x2, b, o, hx, v1, v2, v3, v4, rfl, hbB, e0, e1⟩ := (hrun.below hb (Nat.le_refl _)).at_ hlt
        obtain ⟨g1, g2, g3⟩ := Hs.out _ _ hx
        dsimp only at g1 g2 g3
        have hst := nextIn_step (a := a) hx
        have Hx := Lib.hid hx
        clear hx
        by_cases hgt : a < x1
        · rw [if_pos hgt] at hst
          have Hst := Lib.hid hst
          clear hst
          have hval : Hid (nextL ps r1 r2 f = some (x1, a, min (min x2 (x1 - a)) 8)) := Hn.out.trans (Hg.out.trans Hst.out)
          clear Hg Hst Hn
          go_wp2_with fail
          all_goals first
            | (have hV : min (min x2 (x1 - a)) 8 = 8 := by omega
               refine bodyPost_ret (v := .tuple #[.agg #[.int .i64 x1, .int .i64 a, .int .i64 8], .bool true]) (by obtain ⟨q0, q1, q2⟩ := three (o := .cells #[.int .i64 x1, .int .i64 x2] 39) (v0 := .int .i64 x1) (v1 := .int .i64 a) (v2 := .int .i64 8) z0 z1 z2; simp [results, Try.results41, go_sem, q0, q1, q2]) rfl ⟨by rw [hval.out, hV]; rfl, ?_⟩)
            | (have hV : min (min x2 (x1 - a)) 8 = x2 := by omega
               refine bodyPost_ret (v := .tuple #[.agg #[.int .i64 x1, .int .i64 a, .int .i64 x2], .bool true]) (by obtain ⟨q0, q1, q2⟩ := three (o := .cells #[.int .i64 x1, .int .i64 x2] 39) (v0 := .int .i64 x1) (v1 := .int .i64 a) (v2 := .int .i64 x2) z0 z1 z2; simp [results, Try.results41, go_sem, q0, q1, q2]) rfl ⟨by rw [hval.out, hV]; rfl, ?_⟩)
            | (have hV : min (min x2 (x1 - a)) 8 = x1 - a := by omega
               refine bodyPost_ret (v := .tuple #[.agg #[.int .i64 x1, .int .i64 a, .int .i64 (x1 - a)], .bool true]) (by obtain ⟨q0, q1, q2⟩ := three (o := .cells #[.int .i64 x1, .int .i64 x2] 39) (v0 := .int .i64 x1) (v1 := .int .i64 a) (v2 := .int .i64 (x1 - a)) z0 z1 z2; simp [results, Try.results41, go_sem, q0, q1, q2]) rfl ⟨by rw [hval.out, hV]; rfl, ?_⟩)
          all_goals exact ((((hbw1.trans (hb.mono hbw1.size)).setCell (by simp) _).setCell (by simp) _).setCell (by simp) _).alloc (by simp [World.setCell]; omega) _
        · rw [if_neg hgt] at hst
          have Hst := Lib.hid hst
          clear hst
          go_wp2_with (go_at_call 36; refine (end_any _ _ _ (by omega) (by omega)).mono ?_; rintro e w' ⟨rfl, hb2⟩)
          go_roundw
          case rel =>
            refine ⟨k + 1, x1 + x2, by omega, by go_num, by go_num, by omega, by omega, ?_, ?_⟩
            · exact Hg.out.trans Hst.out
            · exact (hb.alloc hsz _).trans (hb2.mono (by simp; omega))
          case measure => simp [intOf]; omega
      · have hd : L.drop k = [] := List.drop_eq_nil_of_le (by have := hrun.1; omega)
        have hval : Hid (nextL ps r1 r2 f = none) := Hn.out.trans (Hg.out.trans (by rw [hd]; rfl))
        clear hd Hg Hn
        go_wp2
        refine bodyPost_ret (v := .tuple #[.agg #[.int .i64 0, .int .i64 0, .int .i64 0], .bool false]) (by simp [results, Try.results41, go_sem, z0, z1, z2]) rfl ⟨by rw [hval.out]; rfl, ?_⟩
        exact (((hbw1.trans (hb.mono hbw1.size)).setCell (by simp) _).setCell (by simp) _).setCell (by simp) _
end Go.Proofs.Ytkifpnhijdcjlaa
