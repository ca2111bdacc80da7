/- Walks: Moved. -/
import Derived.Test.YtkifpnhijdcjlaaS9
import Derived.Test.YtkifpnhijdcjlaaW7
namespace Go.Proofs.Ytkifpnhijdcjlaa
open Go.RowKit

def onePiece (f t l : Int) (p : Int × Int) : RunL := if p.1 ≠ f ∨ l < 1 ∨ p.2 < l then [p] else (t, l) :: if l < p.2 then [(wrap64 (p.1 + l), p.2 - l)] else []
def movedPre (f t l : Int) (ps : RunL) : RunL := ps.flatMap (onePiece f t l)
def movedL (f t l : Int) (ps : RunL) : RunL := srt (movedPre f t l ps)
theorem movedPre_step {f t l : Int} {ps : RunL} {k : Nat} {x1 x2 : Int} (h : ps[k]? = some (x1, x2)) : movedPre f t l (ps.take (k + 1)) = movedPre f t l (ps.take k) ++ onePiece f t l (x1, x2) := by
  obtain ⟨hk, e⟩ := List.getElem?_eq_some_iff.1 h
  unfold movedPre
  rw [List.take_succ_eq_append_getElem hk, List.flatMap_append, e]
  simp
theorem wrap64_I64 (x : Int) : I64 (wrap64 x) := by unfold I64 wrap64; omega

set_option maxHeartbeats 2000000 in
theorem Moved_any (f t l : Int) (A : Option Addr) (m c : Nat) (ps : RunL) (w : World) (hr : Runs w w.heap.size A m ps) (hm : m ≤ 1000) (hf : I64 f) (ht : I64 t) (hl : I64 l) :
    Calls Try.prog 13 #[.slice A m c, .agg #[.int .i64 f, .int .i64 t, .int .i64 l]] w fun e w' => ∃ A' m' c', e = .returned (.slice A' m' c') ∧ Own w' w.heap.size (.slice A' m' c') (movedL f t l ps) ∧ Below w.heap.size w w' := by
  unfold I64 at hf ht hl
  obtain ⟨hf1, hf2⟩ := hf
  obtain ⟨ht1, ht2⟩ := ht
  obtain ⟨hl1, hl2⟩ := hl
  go_enter Try.func13, Try.ntmps13
  go_wp2_with fail
  have hbx : Below w.heap.size w (w.alloc (.cells #[.int .i64 f, .int .i64 t, .int .i64 l] 24)) := (Below.refl _ _).alloc (Nat.le_refl _) _
  have hx0 : (w.alloc (.cells #[.int .i64 f, .int .i64 t, .int .i64 l] 24)).cell? ⟨w.heap.size, 0, none⟩ = some (.int .i64 f) := by go_simp
  have hx1 : (w.alloc (.cells #[.int .i64 f, .int .i64 t, .int .i64 l] 24)).cell? ⟨w.heap.size, 1, none⟩ = some (.int .i64 t) := by go_simp
  have hx2 : (w.alloc (.cells #[.int .i64 f, .int .i64 t, .int .i64 l] 24)).cell? ⟨w.heap.size, 2, none⟩ = some (.int .i64 l) := by go_simp
  have hxl : w.heap.size < (w.alloc (.cells #[.int .i64 f, .int .i64 t, .int .i64 l] 24)).heap.size := by simp
  generalize w.alloc (.cells #[.int .i64 f, .int .i64 t, .int .i64 l] 24) = wx at *
  go_loopw [5, 10] (fun v i wr => ∃ (k : Nat) (out : RunL) (A' : Option Addr) (c' : Nat), k ≤ m ∧ i = .int .i64 k ∧ v = .slice A' out.length c' ∧ out.length ≤ 2 * k ∧
      Hid (Own wr wx.heap.size (.slice A' out.length c') out) ∧ Hid (out = movedPre f t l (ps.take k)) ∧ Below wx.heap.size wx wr) (fun _ i _ => m - (intOf i).toNat)
  case atStart => exact ⟨0, [], none, 0, by omega, rfl, rfl, by simp, Own.nil _ _, by exact rfl, Below.refl _ _⟩
  case round =>
    obtain ⟨k, out, A', c', hk, rfl, rfl, hok, Ho, Hw, hb⟩ := hrel
    have hbw := hbx.trans (hb.mono hbx.size)
    by_cases hlt : k < m
    · obtain ⟨x1, x2, b, o, hx, v1, v2, v3, v4, rfl, hbB, e0, e1⟩ := (hr.below hbw (Nat.le_refl _)).at_ hlt
      have hst := Lib.hid (movedPre_step (f := f) (t := t) (l := l) hx)
      have Hx := Lib.hid hx
      clear hx
      have hsz := hb.size
      have y0 : wr.cell? ⟨w.heap.size, 0, none⟩ = some (.int .i64 f) := (hb.cell (p := ⟨w.heap.size, 0, none⟩) hxl).trans hx0
      have y1 : wr.cell? ⟨w.heap.size, 1, none⟩ = some (.int .i64 t) := (hb.cell (p := ⟨w.heap.size, 1, none⟩) hxl).trans hx1
      have y2 : wr.cell? ⟨w.heap.size, 2, none⟩ = some (.int .i64 l) := (hb.cell (p := ⟨w.heap.size, 2, none⟩) hxl).trans hx2
      have hwl : w.heap.size < wr.heap.size := by omega
      have hne : some wr.heap.size ≠ (Value.slice A' out.length c').ownBlock := fun h => by have := (Ho.out.1.lt _ h.symm).2; omega
      have hne0 : some w.heap.size ≠ (Value.slice A' out.length c').ownBlock := fun h => by have := (Ho.out.1.lt _ h.symm).1; omega
      have hf0 : ∀ (g : Nat), (Value.slice A' out.length c').ownBlock = some g → wx.heap.size ≤ g := fun g hg => (Ho.out.1.lt g hg).1
      have Hne := Lib.hid hne
      have Hf0 := Lib.hid hf0
      have Hne0 := Lib.hid hne0
      clear hne hf0 hne0
      by_cases t1 : x1 = f
      · subst t1
        by_cases t2 : l < 1
        · have hone : Hid (onePiece x1 t l (x1, x2) = [(x1, x2)]) := by show onePiece x1 t l (x1, x2) = _; unfold onePiece; rw [if_pos (Or.inr (Or.inl t2))]
          have hlaid := Runs.lay (w := wr.alloc (.cells #[.int .i64 x1, .int .i64 x2] 39)) (H := wr.heap.size + 1) (a := x1) (b := x2) (by simp) (by omega) (by omega) (by omega) (by omega)
          have ho2 := (Ho.out.alloc (.cells #[.int .i64 x1, .int .i64 x2] 39)).alloc (.cells #[.int .i64 x1, .int .i64 x2] 39)
          go_wp2_with (at_builtin; refine wpList_app_runs rfl _ _ rfl wx.heap.size (.slice A' out.length c') out (by rfl) ho2 (some ⟨wr.heap.size + 1, 0, none⟩) 1 1 [(x1, x2)] (by rfl) hlaid (by omega) (by simp; omega) ?_; intro A3 c3 w3 k1 k2 k3)
          have hb3 : Below wx.heap.size wx w3 := ((hb.alloc hsz _).alloc (by simp; omega) _).grown k2 (by simp; omega) (fun g hg => Hf0.out g hg)
          go_roundw
          case rel =>
            refine ⟨k + 1, out ++ [(x1, x2)], A3, c3, by omega, by go_num, by simp, by simp; omega, ?_, ?_, hb3⟩
            · rw [List.length_append]; exact k1
            · rw [hst.out, hone.out, ← Hw.out]; exact rfl
          case measure => simp [intOf]; omega
        · by_cases t3 : x2 < l
          · have hone : Hid (onePiece x1 t l (x1, x2) = [(x1, x2)]) := by show onePiece x1 t l (x1, x2) = _; unfold onePiece; rw [if_pos (Or.inr (Or.inr t3))]
            have hlaid := Runs.lay (w := wr.alloc (.cells #[.int .i64 x1, .int .i64 x2] 39)) (H := wr.heap.size + 1) (a := x1) (b := x2) (by simp) (by omega) (by omega) (by omega) (by omega)
            have ho2 := (Ho.out.alloc (.cells #[.int .i64 x1, .int .i64 x2] 39)).alloc (.cells #[.int .i64 x1, .int .i64 x2] 39)
            go_wp2_with (at_builtin; refine wpList_app_runs rfl _ _ rfl wx.heap.size (.slice A' out.length c') out (by rfl) ho2 (some ⟨wr.heap.size + 1, 0, none⟩) 1 1 [(x1, x2)] (by rfl) hlaid (by omega) (by simp; omega) ?_; intro A3 c3 w3 k1 k2 k3)
            have hb3 : Below wx.heap.size wx w3 := ((hb.alloc hsz _).alloc (by simp; omega) _).grown k2 (by simp; omega) (fun g hg => Hf0.out g hg)
            go_roundw
            case rel =>
              refine ⟨k + 1, out ++ [(x1, x2)], A3, c3, by omega, by go_num, by simp, by simp; omega, ?_, ?_, hb3⟩
              · rw [List.length_append]; exact k1
              · rw [hst.out, hone.out, ← Hw.out]; exact rfl
            case measure => simp [intOf]; omega
          · by_cases t4 : l < x2
            · have hone : Hid (onePiece x1 t l (x1, x2) = [(t, l), (wrap64 (x1 + l), x2 - l)]) := by
                show onePiece x1 t l (x1, x2) = _
                unfold onePiece; rw [if_neg (fun h => by rcases h with h | h | h; exact h rfl; exact t2 h; exact t3 h), if_pos t4]
              have hwr := wrap64_I64 (x1 + l)
              generalize hW : wrap64 (x1 + l) = W at *
              obtain ⟨hW1, hW2⟩ := hwr
              have hlaid := Runs.lay (w := wr.alloc (.cells #[.int .i64 x1, .int .i64 x2] 39)) (H := wr.heap.size + 1) (a := t) (b := l) (by simp) (by omega) (by omega) (by omega) (by omega)
              have ho2 := (Ho.out.alloc (.cells #[.int .i64 x1, .int .i64 x2] 39)).alloc (.cells #[.int .i64 t, .int .i64 l] 39)
              have s0 : ((wr.alloc (.cells #[.int .i64 x1, .int .i64 x2] 39)).alloc (.cells #[.int .i64 t, .int .i64 l] 39)).cell? ⟨wr.heap.size, 0, none⟩ = some (.int .i64 x1) := by go_simp
              have s1 : ((wr.alloc (.cells #[.int .i64 x1, .int .i64 x2] 39)).alloc (.cells #[.int .i64 t, .int .i64 l] 39)).cell? ⟨wr.heap.size, 1, none⟩ = some (.int .i64 x2) := by go_simp
              have s2 : ((wr.alloc (.cells #[.int .i64 x1, .int .i64 x2] 39)).alloc (.cells #[.int .i64 t, .int .i64 l] 39)).cell? ⟨w.heap.size, 2, none⟩ = some (.int .i64 l) := by rw [World.cell?_alloc_lt _ _ _ (by simp; omega), World.cell?_alloc_lt _ _ _ hwl]; exact y2
              go_wp2_with (first
                | (at_builtin; refine wpList_app_runs rfl _ _ rfl wx.heap.size (.slice A' out.length c') out (by rfl) ho2 (some ⟨wr.heap.size + 1, 0, none⟩) 1 1 [(t, l)] (by rfl) hlaid (by omega) (by simp; omega) ?_; intro A3 c3 w3 k1 k2 k3; have r0 := k2.cell s0 Hne.out; have r1 := k2.cell s1 Hne.out; have r2 := k2.cell s2 Hne0.out; have ho5 := k1.alloc (.cells #[.int .i64 W, .int .i64 (x2 - l)] 39); have hlaid2 := Runs.lay (w := w3) (H := w3.heap.size) (a := W) (b := x2 - l) rfl (by omega) (by omega) (by omega) (by omega); have hb3 : Below wx.heap.size wx w3 := ((hb.alloc hsz _).alloc (by simp; omega) _).grown k2 (by simp; omega) (fun g hg => Hf0.out g hg); have hz3 := hb3.size)
                | (at_builtin; refine wpList_app_runs rfl _ _ rfl wx.heap.size (.slice A3 (out.length + 1) c3) (out ++ [(t, l)]) (by rfl) ho5 (some ⟨w3.heap.size, 0, none⟩) 1 1 [(W, x2 - l)] (by rfl) hlaid2 (by simp; omega) (by simp; omega) ?_; intro A5 c5 w5 p1 p2 p3))
              have hb5 : Below wx.heap.size wx w5 := (hb3.alloc hz3 _).grown p2 (by simp; omega) (fun g hg => (k1.1.lt g hg).1)
              go_roundw
              case rel =>
                refine ⟨k + 1, out ++ [(t, l)] ++ [(W, x2 - l)], A5, c5, by omega, by go_num, by simp, by simp; omega, ?_, ?_, hb5⟩
                · rw [List.length_append]; exact p1
                · rw [hst.out, hone.out, ← Hw.out]; simp only [List.append_assoc]; exact rfl
              case measure => simp [intOf]; omega
            · have hone : Hid (onePiece x1 t l (x1, x2) = [(t, l)]) := by
                show onePiece x1 t l (x1, x2) = _
                unfold onePiece; rw [if_neg (fun h => by rcases h with h | h | h; exact h rfl; exact t2 h; exact t3 h), if_neg t4]
              have hlaid := Runs.lay (w := wr.alloc (.cells #[.int .i64 x1, .int .i64 x2] 39)) (H := wr.heap.size + 1) (a := t) (b := l) (by simp) (by omega) (by omega) (by omega) (by omega)
              have ho2 := (Ho.out.alloc (.cells #[.int .i64 x1, .int .i64 x2] 39)).alloc (.cells #[.int .i64 t, .int .i64 l] 39)
              have s0 : ((wr.alloc (.cells #[.int .i64 x1, .int .i64 x2] 39)).alloc (.cells #[.int .i64 t, .int .i64 l] 39)).cell? ⟨wr.heap.size, 0, none⟩ = some (.int .i64 x1) := by go_simp
              have s1 : ((wr.alloc (.cells #[.int .i64 x1, .int .i64 x2] 39)).alloc (.cells #[.int .i64 t, .int .i64 l] 39)).cell? ⟨wr.heap.size, 1, none⟩ = some (.int .i64 x2) := by go_simp
              have s2 : ((wr.alloc (.cells #[.int .i64 x1, .int .i64 x2] 39)).alloc (.cells #[.int .i64 t, .int .i64 l] 39)).cell? ⟨w.heap.size, 2, none⟩ = some (.int .i64 l) := by rw [World.cell?_alloc_lt _ _ _ (by simp; omega), World.cell?_alloc_lt _ _ _ hwl]; exact y2
              go_wp2_with (at_builtin; refine wpList_app_runs rfl _ _ rfl wx.heap.size (.slice A' out.length c') out (by rfl) ho2 (some ⟨wr.heap.size + 1, 0, none⟩) 1 1 [(t, l)] (by rfl) hlaid (by omega) (by simp; omega) ?_; intro A3 c3 w3 k1 k2 k3; have r0 := k2.cell s0 Hne.out; have r1 := k2.cell s1 Hne.out; have r2 := k2.cell s2 Hne0.out)
              have hb3 : Below wx.heap.size wx w3 := ((hb.alloc hsz _).alloc (by simp; omega) _).grown k2 (by simp; omega) (fun g hg => Hf0.out g hg)
              go_roundw
              case rel =>
                refine ⟨k + 1, out ++ [(t, l)], A3, c3, by omega, by go_num, by simp, by simp; omega, ?_, ?_, hb3⟩
                · rw [List.length_append]; exact k1
                · rw [hst.out, hone.out, ← Hw.out]; exact rfl
              case measure => simp [intOf]; omega
      · have hone : Hid (onePiece f t l (x1, x2) = [(x1, x2)]) := by show onePiece f t l (x1, x2) = _; unfold onePiece; rw [if_pos (Or.inl t1)]
        have tb : (x1 == f) = false := beq_eq_false_iff_ne.2 t1
        have tb2 : (x1 != f) = true := by rw [bne_iff_ne]; exact t1
        have hlaid := Runs.lay (w := wr.alloc (.cells #[.int .i64 x1, .int .i64 x2] 39)) (H := wr.heap.size + 1) (a := x1) (b := x2) (by simp) (by omega) (by omega) (by omega) (by omega)
        have ho2 := (Ho.out.alloc (.cells #[.int .i64 x1, .int .i64 x2] 39)).alloc (.cells #[.int .i64 x1, .int .i64 x2] 39)
        go_wp2_with (at_builtin; refine wpList_app_runs rfl _ _ rfl wx.heap.size (.slice A' out.length c') out (by rfl) ho2 (some ⟨wr.heap.size + 1, 0, none⟩) 1 1 [(x1, x2)] (by rfl) hlaid (by omega) (by simp; omega) ?_; intro A3 c3 w3 k1 k2 k3)
        have hb3 : Below wx.heap.size wx w3 := ((hb.alloc hsz _).alloc (by simp; omega) _).grown k2 (by simp; omega) (fun g hg => Hf0.out g hg)
        go_roundw
        case rel =>
          refine ⟨k + 1, out ++ [(x1, x2)], A3, c3, by omega, by go_num, by simp, by simp; omega, ?_, ?_, hb3⟩
          · rw [List.length_append]; exact k1
          · rw [hst.out, hone.out, ← Hw.out]; exact rfl
        case measure => simp [intOf]; omega
    · obtain rfl : k = m := by omega
      have hd : Hid (ps.take k = ps) := List.take_of_length_le (by rw [hr.1]; exact Nat.le_refl _)
      have hfin : Hid (out = movedPre f t l ps) := by have := Hw.out; rw [hd.out] at this; exact this
      go_wp2_with (go_at_call 27; refine (sort_any wx.heap.size out.length c' A' out _ Ho.out (by omega)).mono ?_; rintro e w2 ⟨rfl, ho2, hg2⟩)
      go_ret
      refine ⟨A', _, c', rfl, ?_, hbx.trans ((hb.grown hg2 hb.size (fun g hg => (Ho.out.1.lt g hg).1)).mono hbx.size)⟩
      show Own w2 w.heap.size (.slice A' out.length c') (srt (movedPre f t l ps))
      rw [← hfin.out]
      exact ho2.lower hbx.size
end Go.Proofs.Ytkifpnhijdcjlaa
