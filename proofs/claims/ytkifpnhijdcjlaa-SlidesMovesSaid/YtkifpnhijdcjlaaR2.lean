/- Walks: the reference's Moved. -/
import Derived.Test.YtkifpnhijdcjlaaR1
namespace Go.Proofs.Ytkifpnhijdcjlaa
open Go.RowKit

theorem Own.cap {w : World} {base n c : Nat} {A : Option Addr} {xs : RunL} (h : Own w base (.slice A n c) xs) : n ≤ c := by
  rcases h.1.2 with ⟨e, h0⟩ | ⟨g, cap, cur, e, _, _, hn, _⟩
  · injection e with e1 e2 e3; omega
  · injection e with e1 e2 e3; omega
theorem srt_snoc (xs : RunL) (y : Int × Int) : srt (xs ++ [y]) = ins y (srt xs) := by unfold srt; rw [List.foldl_append]; rfl
theorem srt_snoc2 (xs : RunL) (y z : Int × Int) : srt (xs ++ [y, z]) = ins z (ins y (srt xs)) := by unfold srt; rw [List.foldl_append]; rfl
theorem ins_len (x : Int × Int) (l : RunL) : (ins x l).length = l.length + 1 := by
  induction l with
  | nil => rfl
  | cons y l ih => unfold ins; split <;> simp [ih]

set_option maxHeartbeats 2000000 in
theorem refMoved_any (f t l : Int) (A : Option Addr) (m c : Nat) (ps : RunL) (w : World) (hr : Runs w w.heap.size A m ps) (hm : m ≤ 1000) (hf : I64 f) (ht : I64 t) (hl : I64 l) :
    Calls Try.prog 14 #[.slice A m c, .agg #[.int .i64 f, .int .i64 t, .int .i64 l]] w fun e w' => ∃ A' m' c', e = .returned (.slice A' m' c') ∧ Own w' w.heap.size (.slice A' m' c') (movedL f t l ps) ∧ Below w.heap.size w w' := by
  unfold I64 at hf ht hl
  obtain ⟨hf1, hf2⟩ := hf
  obtain ⟨ht1, ht2⟩ := ht
  obtain ⟨hl1, hl2⟩ := hl
  go_enter Try.func14, Try.ntmps14
  go_wp2_with fail
  have hbx : Below w.heap.size w (w.alloc (.cells #[.int .i64 f, .int .i64 t, .int .i64 l] 24)) := (Below.refl _ _).alloc (Nat.le_refl _) _
  have hx0 : (w.alloc (.cells #[.int .i64 f, .int .i64 t, .int .i64 l] 24)).cell? ⟨w.heap.size, 0, none⟩ = some (.int .i64 f) := by go_simp
  have hx1 : (w.alloc (.cells #[.int .i64 f, .int .i64 t, .int .i64 l] 24)).cell? ⟨w.heap.size, 1, none⟩ = some (.int .i64 t) := by go_simp
  have hx2 : (w.alloc (.cells #[.int .i64 f, .int .i64 t, .int .i64 l] 24)).cell? ⟨w.heap.size, 2, none⟩ = some (.int .i64 l) := by go_simp
  have hxl : w.heap.size < (w.alloc (.cells #[.int .i64 f, .int .i64 t, .int .i64 l] 24)).heap.size := by simp
  generalize w.alloc (.cells #[.int .i64 f, .int .i64 t, .int .i64 l] 24) = wx at *
  go_loopw [5, 6] (fun v i wr => ∃ (k : Nat) (out : RunL) (A' : Option Addr) (n' c' : Nat), k ≤ m ∧ i = .int .i64 k ∧ v = .slice A' n' c' ∧ n' ≤ 2 * k ∧
      Hid (Own wr wx.heap.size (.slice A' n' c') out) ∧ Hid (out = srt (movedPre f t l (ps.take k))) ∧ Below wx.heap.size wx wr) (fun _ i _ => m - (intOf i).toNat)
  case atStart => exact ⟨0, [], none, 0, 0, by omega, rfl, rfl, by simp, Own.nil _ _, by exact rfl, Below.refl _ _⟩
  case round =>
    obtain ⟨k, out, A', n', c', hk, rfl, rfl, hok, Ho, Hw, hb⟩ := hrel
    have hbw := hbx.trans (hb.mono hbx.size)
    by_cases hlt : k < m
    · obtain ⟨x1, x2, b, o, hx, v1, v2, v3, v4, rfl, hbB, e0, e1⟩ := (hr.below hbw (Nat.le_refl _)).at_ hlt
      have hst := Lib.hid (movedPre_step (f := f) (t := t) (l := l) hx)
      have Hx := Lib.hid hx
      clear hx
      have hsz := hb.size
      have y0 : wr.cell? ⟨w.heap.size, 0, none⟩ = some (.int .i64 f) := (hb.cell (p := ⟨w.heap.size, 0, none⟩) hxl).trans hx0
      have y1 : wr.cell? ⟨w.heap.size, 1, none⟩ = some (.int .i64 t) := (hb.cell (p := ⟨w.heap.size, 1, none⟩) hxl).trans hx1
      have y2 : wr.cell? ⟨w.heap.size, 2, none⟩ = some (.int .i64 l) := (hb.cell (p := ⟨w.heap.size, 2, none⟩) hxl).trans hx2
      have hwl : w.heap.size < wr.heap.size := by omega
      have Hup : Hid (Up out) := by rw [Hw.out]; exact srt_up _
      by_cases t1 : x1 = f
      · subst t1
        by_cases t2 : l < 1
        · have hone : Hid (onePiece x1 t l (x1, x2) = [(x1, x2)]) := by show onePiece x1 t l (x1, x2) = _; unfold onePiece; rw [if_pos (Or.inr (Or.inl t2))]
          have t2b : ¬ 1 ≤ l := by omega
          have t2c := decide_eq_false t2b
          have Ho2 : Hid (Own (wr.alloc (.cells #[.int .i64 x1, .int .i64 x2] 39)) wx.heap.size (.slice A' n' c') out) := Ho.out.alloc _
          have hrun := Ho2.out.runs
          have hcap := Ho.out.cap
          go_wp2_with fail
          refine (put_any A' n' c' out x1 x2 _ hrun hcap (by omega) Hup.out ⟨by omega, by omega⟩ ⟨by omega, by omega⟩).mono ?_
          rintro e w3 ⟨A3, n3, c3, rfl, ho3, hb3⟩
          have hb3' : Below wx.heap.size wx w3 := (hb.alloc hsz _).trans (hb3.mono (by simp; omega))
          have Hn3 : Hid (n3 = out.length + 1) := by have := ho3.runs.1; rw [ins_len] at this; exact this
          go_wp2
          go_roundw
          case rel =>
            refine ⟨k + 1, _, A3, n3, c3, by omega, by go_num, rfl, by have := hrun.1; have := Hn3.out; omega, ho3.lower (by simp; omega), ?_, hb3'⟩
            show _ = srt _
            rw [hst.out, hone.out, srt_snoc, ← Hw.out]
          case measure => simp [intOf]; omega
        · by_cases t3 : x2 < l
          · have hone : Hid (onePiece x1 t l (x1, x2) = [(x1, x2)]) := by show onePiece x1 t l (x1, x2) = _; unfold onePiece; rw [if_pos (Or.inr (Or.inr t3))]
            have t2b : 1 ≤ l := by omega
            have t3b : ¬ l ≤ x2 := by omega
            have Ho2 : Hid (Own (wr.alloc (.cells #[.int .i64 x1, .int .i64 x2] 39)) wx.heap.size (.slice A' n' c') out) := Ho.out.alloc _
            have hrun := Ho2.out.runs
            have hcap := Ho.out.cap
            go_wp2_with fail
            refine (put_any A' n' c' out x1 x2 _ hrun hcap (by omega) Hup.out ⟨by omega, by omega⟩ ⟨by omega, by omega⟩).mono ?_
            rintro e w3 ⟨A3, n3, c3, rfl, ho3, hb3⟩
            have hb3' : Below wx.heap.size wx w3 := (hb.alloc hsz _).trans (hb3.mono (by simp; omega))
            have Hn3 : Hid (n3 = out.length + 1) := by have := ho3.runs.1; rw [ins_len] at this; exact this
            go_wp2
            go_roundw
            case rel =>
              refine ⟨k + 1, _, A3, n3, c3, by omega, by go_num, rfl, by have := hrun.1; have := Hn3.out; omega, ho3.lower (by simp; omega), ?_, hb3'⟩
              show _ = srt _
              rw [hst.out, hone.out, srt_snoc, ← Hw.out]
            case measure => simp [intOf]; omega
          · have t2b : 1 ≤ l := by omega
            have t3b : l ≤ x2 := by omega
            by_cases t4 : l < x2
            · have hone : Hid (onePiece x1 t l (x1, x2) = [(t, l), (wrap64 (x1 + l), x2 - l)]) := by
                show onePiece x1 t l (x1, x2) = _
                unfold onePiece; rw [if_neg (fun h => by rcases h with h | h | h; exact h rfl; exact t2 h; exact t3 h), if_pos t4]
              have hwr := wrap64_I64 (x1 + l)
              generalize hW : wrap64 (x1 + l) = W at *
              obtain ⟨hW1, hW2⟩ := hwr
              have Ho2 : Hid (Own (wr.alloc (.cells #[.int .i64 x1, .int .i64 x2] 39)) wx.heap.size (.slice A' n' c') out) := Ho.out.alloc _
              have hrun := Ho2.out.runs
              have hcap := Ho.out.cap
              have s0 : (wr.alloc (.cells #[.int .i64 x1, .int .i64 x2] 39)).cell? ⟨wr.heap.size, 0, none⟩ = some (.int .i64 x1) := by go_simp
              have s1 : (wr.alloc (.cells #[.int .i64 x1, .int .i64 x2] 39)).cell? ⟨wr.heap.size, 1, none⟩ = some (.int .i64 x2) := by go_simp
              have s2 : (wr.alloc (.cells #[.int .i64 x1, .int .i64 x2] 39)).cell? ⟨w.heap.size, 2, none⟩ = some (.int .i64 l) := by rw [World.cell?_alloc_lt _ _ _ hwl]; exact y2
              have hrl : wr.heap.size < (wr.alloc (.cells #[.int .i64 x1, .int .i64 x2] 39)).heap.size := by simp
              have hwl2 : w.heap.size < (wr.alloc (.cells #[.int .i64 x1, .int .i64 x2] 39)).heap.size := by simp; omega
              go_wp2_with fail
              refine (put_any A' n' c' out t l _ hrun hcap (by omega) Hup.out ⟨by omega, by omega⟩ ⟨by omega, by omega⟩).mono ?_
              rintro e w3 ⟨A3, n3, c3, rfl, ho3, hb3⟩
              have hb3' : Below wx.heap.size wx w3 := (hb.alloc hsz _).trans (hb3.mono (by simp; omega))
              have hn3 : n3 = out.length + 1 := by have := ho3.runs.1; rw [ins_len] at this; exact this
              have r0 := (hb3.cell (p := ⟨wr.heap.size, 0, none⟩) hrl).trans s0
              have r1 := (hb3.cell (p := ⟨wr.heap.size, 1, none⟩) hrl).trans s1
              have r2 := (hb3.cell (p := ⟨w.heap.size, 2, none⟩) hwl2).trans s2
              have Hn3 := Lib.hid hn3
              clear hn3
              have hup3 : Up (ins (t, l) out) := ins_up Hup.out
              have hrun3 := ho3.runs
              have hcap3 := ho3.cap
              go_wp2_with fail
              refine (put_any A3 n3 c3 _ W (x2 - l) _ hrun3 hcap3 (by have := Hn3.out; have := hrun.1; omega) hup3 ⟨by omega, by omega⟩ ⟨by omega, by omega⟩).mono ?_
              rintro e w5 ⟨A5, n5, c5, rfl, ho5, hb5⟩
              have hn5 : n5 = out.length + 1 + 1 := by have := ho5.runs.1; rw [ins_len, ins_len] at this; exact this
              have Hn5 := Lib.hid hn5
              clear hn5
              go_wp2
              go_roundw
              case rel =>
                refine ⟨k + 1, _, A5, n5, c5, by omega, by go_num, rfl, by have := hrun.1; have := Hn5.out; omega, ho5.lower hb3'.size, ?_, hb3'.trans (hb5.mono hb3'.size)⟩
                show _ = srt _
                rw [hst.out, hone.out, srt_snoc2, ← Hw.out]
              case measure => simp [intOf]; omega
            · have hone : Hid (onePiece x1 t l (x1, x2) = [(t, l)]) := by
                show onePiece x1 t l (x1, x2) = _
                unfold onePiece; rw [if_neg (fun h => by rcases h with h | h | h; exact h rfl; exact t2 h; exact t3 h), if_neg t4]
              have Ho2 : Hid (Own (wr.alloc (.cells #[.int .i64 x1, .int .i64 x2] 39)) wx.heap.size (.slice A' n' c') out) := Ho.out.alloc _
              have hrun := Ho2.out.runs
              have hcap := Ho.out.cap
              have s0 : (wr.alloc (.cells #[.int .i64 x1, .int .i64 x2] 39)).cell? ⟨wr.heap.size, 0, none⟩ = some (.int .i64 x1) := by go_simp
              have s1 : (wr.alloc (.cells #[.int .i64 x1, .int .i64 x2] 39)).cell? ⟨wr.heap.size, 1, none⟩ = some (.int .i64 x2) := by go_simp
              have s2 : (wr.alloc (.cells #[.int .i64 x1, .int .i64 x2] 39)).cell? ⟨w.heap.size, 2, none⟩ = some (.int .i64 l) := by rw [World.cell?_alloc_lt _ _ _ hwl]; exact y2
              have hrl : wr.heap.size < (wr.alloc (.cells #[.int .i64 x1, .int .i64 x2] 39)).heap.size := by simp
              have hwl2 : w.heap.size < (wr.alloc (.cells #[.int .i64 x1, .int .i64 x2] 39)).heap.size := by simp; omega
              go_wp2_with fail
              refine (put_any A' n' c' out t l _ hrun hcap (by omega) Hup.out ⟨by omega, by omega⟩ ⟨by omega, by omega⟩).mono ?_
              rintro e w3 ⟨A3, n3, c3, rfl, ho3, hb3⟩
              have hb3' : Below wx.heap.size wx w3 := (hb.alloc hsz _).trans (hb3.mono (by simp; omega))
              have hn3 : n3 = out.length + 1 := by have := ho3.runs.1; rw [ins_len] at this; exact this
              have r0 := (hb3.cell (p := ⟨wr.heap.size, 0, none⟩) hrl).trans s0
              have r1 := (hb3.cell (p := ⟨wr.heap.size, 1, none⟩) hrl).trans s1
              have r2 := (hb3.cell (p := ⟨w.heap.size, 2, none⟩) hwl2).trans s2
              have Hn3 := Lib.hid hn3
              clear hn3
              go_wp2
              go_roundw
              case rel =>
                refine ⟨k + 1, _, A3, n3, c3, by omega, by go_num, rfl, by have := hrun.1; have := Hn3.out; omega, ho3.lower (by simp; omega), ?_, hb3'⟩
                show _ = srt _
                rw [hst.out, hone.out, srt_snoc, ← Hw.out]
              case measure => simp [intOf]; omega
      · have hone : Hid (onePiece f t l (x1, x2) = [(x1, x2)]) := by show onePiece f t l (x1, x2) = _; unfold onePiece; rw [if_pos (Or.inl t1)]
        have tb : (x1 == f) = false := beq_eq_false_iff_ne.2 t1
        have Ho2 : Hid (Own (wr.alloc (.cells #[.int .i64 x1, .int .i64 x2] 39)) wx.heap.size (.slice A' n' c') out) := Ho.out.alloc _
        have hrun := Ho2.out.runs
        have hcap := Ho.out.cap
        go_wp2_with fail
        refine (put_any A' n' c' out x1 x2 _ hrun hcap (by omega) Hup.out ⟨by omega, by omega⟩ ⟨by omega, by omega⟩).mono ?_
        rintro e w3 ⟨A3, n3, c3, rfl, ho3, hb3⟩
        have hb3' : Below wx.heap.size wx w3 := (hb.alloc hsz _).trans (hb3.mono (by simp; omega))
        have Hn3 : Hid (n3 = out.length + 1) := by have := ho3.runs.1; rw [ins_len] at this; exact this
        go_wp2
        go_roundw
        case rel =>
          refine ⟨k + 1, _, A3, n3, c3, by omega, by go_num, rfl, by have := hrun.1; have := Hn3.out; omega, ho3.lower (by simp; omega), ?_, hb3'⟩
          show _ = srt _
          rw [hst.out, hone.out, srt_snoc, ← Hw.out]
        case measure => simp [intOf]; omega
    · obtain rfl : k = m := by omega
      have hd : Hid (ps.take k = ps) := List.take_of_length_le (by rw [hr.1]; exact Nat.le_refl _)
      have hfin : Hid (out = movedL f t l ps) := by have := Hw.out; rw [hd.out] at this; exact this
      go_wp2
      go_ret
      exact ⟨A', _, c', rfl, by rw [← hfin.out]; exact Ho.out.lower hbx.size, hbw⟩
end Go.Proofs.Ytkifpnhijdcjlaa
