/- Walks: find. -/
import Derived.Test.YtkifpnhijdcjlaaW8
namespace Go.Proofs.Ytkifpnhijdcjlaa
open Go.RowKit

def findL (ps : RunL) (f : Int) : RunL → MoveO
  | [] => none
  | r :: l => if r.1 + r.2 ≤ f then findL ps f l else match nextL ps r.1 r.2 f with | some m => some m | none => findL ps f l
theorem findL_step {ps : RunL} {f x1 x2 : Int} {l : RunL} {k : Nat} (h : l[k]? = some (x1, x2)) : findL ps f (l.drop k) = if x1 + x2 ≤ f then findL ps f (l.drop (k + 1)) else match nextL ps x1 x2 f with | some m => some m | none => findL ps f (l.drop (k + 1)) := by
  obtain ⟨hk, e⟩ := List.getElem?_eq_some_iff.1 h
  rw [List.drop_eq_getElem_cons hk, findL, e]

/-- the result's cells, whatever has been written elsewhere. -/
def Res3 (w : World) (g : Nat) : Prop := (∃ u0 u1 u2, w.cell? ⟨g, 0, none⟩ = some u0 ∧ w.cell? ⟨g, 1, none⟩ = some u1 ∧ w.cell? ⟨g, 2, none⟩ = some u2) ∧ w.frozen? ⟨g, 0, none⟩ = false ∧ w.frozen? ⟨g, 1, none⟩ = false ∧ w.frozen? ⟨g, 2, none⟩ = false
theorem Res3.below {w w' : World} {g B : Nat} (h : Res3 w g) (hb : Below B w w') (hg : g < B) : Res3 w' g := by
  obtain ⟨⟨u0, u1, u2, c0, c1, c2⟩, f0, f1, f2⟩ := h
  exact ⟨⟨u0, u1, u2, (hb.cell (p := ⟨g, 0, none⟩) hg).trans c0, (hb.cell (p := ⟨g, 1, none⟩) hg).trans c1, (hb.cell (p := ⟨g, 2, none⟩) hg).trans c2⟩, (hb.frozen (p := ⟨g, 0, none⟩) hg).trans f0, (hb.frozen (p := ⟨g, 1, none⟩) hg).trans f1, (hb.frozen (p := ⟨g, 2, none⟩) hg).trans f2⟩
theorem Res3.new {w : World} {t : TypeId} {v0 v1 v2 : Value} : Res3 (w.alloc (.cells #[v0, v1, v2] t)) w.heap.size := by
  have hh := heap_alloc_new w (.cells #[v0, v1, v2] t)
  refine ⟨⟨v0, v1, v2, ?_, ?_, ?_⟩, ?_, ?_, ?_⟩
  · rw [cell_of_row _ _ _ _ _ _ hh]; rfl
  · rw [cell_of_row _ _ _ _ _ _ hh]; rfl
  · rw [cell_of_row _ _ _ _ _ _ hh]; rfl
  · unfold World.frozen?; rw [hh]; simp
  · unfold World.frozen?; rw [hh]; simp
  · unfold World.frozen?; rw [hh]; simp
theorem Res3.lt {w : World} {g : Nat} (h : Res3 w g) : g < w.heap.size := by
  obtain ⟨⟨u0, _, _, c0, _, _⟩, _⟩ := h
  exact World.block_lt_of_cell? w _ c0
theorem three' {w : World} {g : Nat} {u0 u1 u2 v0 v1 v2 : Value} (h0 : w.cell? ⟨g, 0, none⟩ = some u0) (h1 : w.cell? ⟨g, 1, none⟩ = some u1) (h2 : w.cell? ⟨g, 2, none⟩ = some u2) :
    let W := ((w.setCell ⟨g, 0, none⟩ v0).setCell ⟨g, 1, none⟩ v1).setCell ⟨g, 2, none⟩ v2
    W.cell? ⟨g, 0, none⟩ = some v0 ∧ W.cell? ⟨g, 1, none⟩ = some v1 ∧ W.cell? ⟨g, 2, none⟩ = some v2 := by
  refine ⟨?_, ?_, ?_⟩ <;> simp [go_sem, h0, h1, h2]

set_option maxHeartbeats 2000000 in
theorem find_any (f : Int) (B : Option Addr) (l d : Nat) (rs : RunL) (A : Option Addr) (m c : Nat) (ps : RunL) (w : World)
    (hl : Runs w w.heap.size B l rs) (hll : l ≤ 2000) (hls : Small rs) (hr : Runs w w.heap.size A m ps) (hm : m ≤ 1000) (hs : Small ps) :
    Calls Try.prog 31 #[.slice B l d, .slice A m c, .int .i64 f] w (MovePost (findL ps f rs) w) := by
  have Hls := Lib.hid hls
  clear hls
  have hbx : Below w.heap.size w (w.alloc (.cells #[.int .i64 0, .int .i64 0, .int .i64 0] 24)) := (Below.refl _ _).alloc (Nat.le_refl _) _
  have hres : Hid (Res3 (w.alloc (.cells #[.int .i64 0, .int .i64 0, .int .i64 0] 24)) w.heap.size) := Res3.new
  have hsx : w.heap.size < (w.alloc (.cells #[.int .i64 0, .int .i64 0, .int .i64 0] 24)).heap.size := by simp
  go_enter Try.func31, Try.ntmps31
  go_wp2_with fail
  generalize w.alloc (.cells #[.int .i64 0, .int .i64 0, .int .i64 0] 24) = wx at *
  go_loopw [14] (fun i wr => ∃ (k : Nat), k ≤ l ∧ i = .int .i64 k ∧ Hid (findL ps f rs = findL ps f (rs.drop k)) ∧ Below wx.heap.size wx wr) (fun i _ => l - (intOf i).toNat)
  case atStart => exact ⟨0, by omega, rfl, by exact rfl, Below.refl _ _⟩
  case round =>
    obtain ⟨k, hk, rfl, Hg, hb⟩ := hrel
    have hrw := hres.out.below hb hsx
    obtain ⟨⟨q0, q1, q2, z0, z1, z2⟩, y0, y1, y2⟩ := hrw
    have hsz := hb.size
    have hbw := hbx.trans (hb.mono hbx.size)
    by_cases hlt : k < l
    · obtain ⟨x1, x2, b, o, hx, v1, v2, v3, v4, rfl, hbB, e0, e1⟩ := (hl.below hbw (Nat.le_refl _)).at_ hlt
      obtain ⟨g1, g2, g3⟩ := Hls.out _ _ hx
      dsimp only at g1 g2 g3
      have hst := findL_step (ps := ps) (f := f) hx
      have Hx := Lib.hid hx
      clear hx
      by_cases hle : x1 + x2 ≤ f
      · rw [if_pos hle] at hst
        have Hst := Lib.hid (Hg.out.trans hst)
        clear hst Hg
        go_wp2_with (go_at_call 36; refine (end_any _ _ _ (by omega) (by omega)).mono ?_; rintro e w' ⟨rfl, hb2⟩)
        go_roundw
        case rel => exact ⟨k + 1, by omega, by go_num, Hst, (hb.alloc hsz _).trans (hb2.mono (by simp; omega))⟩
        case measure => simp [intOf]; omega
      · rw [if_neg hle] at hst
        have b0 : (wr.alloc (.cells #[.int .i64 x1, .int .i64 x2] 39)).cell? ⟨wr.heap.size, 0, none⟩ = some (.int .i64 x1) := by go_simp
        have b1 : (wr.alloc (.cells #[.int .i64 x1, .int .i64 x2] 39)).cell? ⟨wr.heap.size, 1, none⟩ = some (.int .i64 x2) := by go_simp
        have hltr : wr.heap.size < (wr.alloc (.cells #[.int .i64 x1, .int .i64 x2] 39)).heap.size := by simp
        go_wp2_with fail
        refine (end_any _ _ _ (by omega) (by omega)).mono ?_
        rintro e w2 ⟨rfl, hb2⟩
        have r0 := (hb2.cell (p := ⟨wr.heap.size, 0, none⟩) hltr).trans b0
        have r1 := (hb2.cell (p := ⟨wr.heap.size, 1, none⟩) hltr).trans b1
        have hb3 : Below wx.heap.size wx w2 := (hb.alloc hsz _).trans (hb2.mono (by simp; omega))
        have hr3 := (hr.below (hbx.trans (hb3.mono hbx.size)) (Nat.le_refl _)).more (hbx.trans (hb3.mono hbx.size)).size
        clear hb2 b0 b1 e0 e1 z0 z1 z2 y0 y1 y2
        go_wp2_with fail
        refine (next_any x1 x2 f A m c ps _ g1 (by omega) g3 (by omega) hr3 hm hs).mono ?_
        rintro e w3 ⟨rfl, hb4⟩
        have hb5 : Below wx.heap.size wx w3 := hb3.trans (hb4.mono hb3.size)
        have hsz3 := hb3.size
        have hsz5 := hb5.size
        have hrw := hres.out.below hb5 hsx
        obtain ⟨⟨q0, q1, q2, z0, z1, z2⟩, y0, y1, y2⟩ := hrw
        have hlt3 : w.heap.size < w3.heap.size := by omega
        clear hb4 hr3 r0 r1
        cases hno : nextL ps x1 x2 f with
        | none =>
          rw [hno] at hst
          have Hst := Lib.hid (Hg.out.trans hst)
          clear hst Hg
          have hmv : mvV none = .agg #[.int .i64 0, .int .i64 0, .int .i64 0] := rfl
          rw [hmv]
          go_wp2
          go_roundw
          case rel => exact ⟨k + 1, by omega, by go_num, Hst, hb5.alloc hsz5 _⟩
          case measure => simp [intOf]; omega
        | some mv =>
          obtain ⟨m1, m2, m3⟩ := mv
          rw [hno] at hst
          have Hst := Lib.hid (Hg.out.trans hst)
          clear hst Hg
          have hmv : mvV (some (m1, m2, m3)) = .agg #[.int .i64 m1, .int .i64 m2, .int .i64 m3] := rfl
          rw [hmv]
          obtain ⟨p0, p1, p2⟩ := three (o := .cells #[.int .i64 m1, .int .i64 m2, .int .i64 m3] 24) (v0 := .int .i64 m1) (v1 := .int .i64 m2) (v2 := .int .i64 m3) z0 z1 z2
          go_wp2
          refine bodyPost_ret (v := .tuple #[.agg #[.int .i64 m1, .int .i64 m2, .int .i64 m3], .bool true]) (by simp [results, Try.results31, go_sem, p0, p1, p2]) rfl ⟨by rw [Hst.out]; rfl, ?_⟩
          exact ((((hbx.trans (hb5.mono hbx.size)).setCell (by simp) _).setCell (by simp) _).setCell (by simp) _).alloc (by simp [World.setCell]; omega) _
    · have hd : rs.drop k = [] := List.drop_eq_nil_of_le (by have := hl.1; omega)
      have Hst : Hid (findL ps f rs = none) := Hg.out.trans (by rw [hd]; rfl)
      clear hd Hg
      obtain ⟨p0, p1, p2⟩ := three' (v0 := .int .i64 0) (v1 := .int .i64 0) (v2 := .int .i64 0) z0 z1 z2
      go_wp2
      refine bodyPost_ret (v := .tuple #[.agg #[.int .i64 0, .int .i64 0, .int .i64 0], .bool false]) (by simp [results, Try.results31, go_sem, p0, p1, p2]) rfl ⟨by rw [Hst.out]; rfl, ?_⟩
      exact ((hbw.setCell (by simp) _).setCell (by simp) _).setCell (by simp) _
end Go.Proofs.Ytkifpnhijdcjlaa
