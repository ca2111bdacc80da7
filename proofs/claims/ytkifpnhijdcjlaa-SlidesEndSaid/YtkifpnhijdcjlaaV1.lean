/- Walks: may, marks. -/
import Derived.Test.YtkifpnhijdcjlaaF2
namespace Go.Proofs.Ytkifpnhijdcjlaa
open Go.RowKit

theorem cell_set {w : World} {g i b k : Nat} {x : Value} (h : b ≠ g) : (w.setCell ⟨g, i, none⟩ x).cell? ⟨b, k, none⟩ = w.cell? ⟨b, k, none⟩ := by
  have h' : ¬ g = b := fun e => h e.symm
  simp [World.cell?, World.setCell, Array.getElem?_modify, h']
theorem Kep.set {w0 w : World} {f : Fld} {ms : List (Nat × MoveO)} {g i : Nat} {v : Value} (h : Kep w0 f ms w) (hg : w0.heap.size < g) (hm : ∀ x ∈ ms, x.1 ≠ g) : Kep w0 f ms (w.setCell ⟨g, i, none⟩ v) := by
  have hne : w0.heap.size ≠ g := by omega
  obtain ⟨c0, c1, c2, c3⟩ := h.box
  exact ⟨h.bel.setCell (p := ⟨g, i, none⟩) (Nat.le_of_lt hg) _, by have := h.lt; simpa [World.setCell] using this, ⟨(cell_set hne).trans c0, (cell_set hne).trans c1, (cell_set hne).trans c2, (cell_set hne).trans c3⟩, h.r0, h.q0,
    fun x hx => ⟨(h.mv x hx).1, (cell_set (hm x hx)).trans (h.mv x hx).2.1, (cell_set (hm x hx)).trans (h.mv x hx).2.2.1, (cell_set (hm x hx)).trans (h.mv x hx).2.2.2⟩⟩
def mayB (m l : Nat) (first n : Int) (ps qs : RunL) : Bool := !(decide (300 < m) || decide (300 < l)) && decide (n ≤ 600) && checkB first n ps qs
set_option maxHeartbeats 2000000 in
theorem may_any (first n : Int) (A : Option Addr) (m c : Nat) (ps : RunL) (B : Option Addr) (l d : Nat) (qs : RunL) (w : World) (hr : Runs w w.heap.size A m ps) (hq : Runs w w.heap.size B l qs) (hm : m ≤ maxLen) (hl : l ≤ maxLen) :
    Calls Try.prog 15 #[fieldV first n A m c B l d] w fun e w' => e = .returned (.bool (mayB m l first n ps qs)) ∧ Below w.heap.size w w' := by
  have HK : Hid (Kep w ⟨first, n, A, m, c, ps, B, l, d, qs⟩ [] (w.alloc (.cells #[.int .i64 first, .int .i64 n, .slice A m c, .slice B l d] 31))) := Kep.new (f := ⟨first, n, A, m, c, ps, B, l, d, qs⟩) hr hq
  have hg := great_any first n A m c B l d
  have Hg := Lib.hid (fun w => hg w hm hl)
  have hv : mayB m l first n ps qs = (!(decide (300 < m) || decide (300 < l)) && decide (n ≤ 600) && checkB first n ps qs) := rfl
  unfold fieldV at *
  clear hg hr hq
  by_cases hgt : 300 < m ∨ 300 < l
  · have hb : (decide (300 < m) || decide (300 < l)) = true := by rcases hgt with h | h <;> simp [h]
    rw [hb] at Hg hv
    have Hv : Hid (mayB m l first n ps qs = false) := hv
    clear hb hv
    go_enter Try.func15, Try.ntmps15
    go_wp2_with fail
    refine (Hg.out _).mono ?_
    rintro e w1 ⟨rfl, hb1⟩
    go_wp2
    go_ret
    exact ⟨by rw [Hv.out]; rfl, (HK.out.next hb1).bel⟩
  · have hb : (decide (300 < m) || decide (300 < l)) = false := by simp; omega
    rw [hb] at Hg hv
    clear hb
    have hm3 : m ≤ 300 := by omega
    have hl3 : l ≤ 300 := by omega
    clear hgt
    by_cases hn : n ≤ 600
    · have d0 := decide_eq_true hn
      rw [d0] at hv
      have Hv : Hid (mayB m l first n ps qs = checkB first n ps qs) := by show _ = _; rw [hv]; simp
      clear hv
      go_enter Try.func15, Try.ntmps15
      go_wp2_with fail
      refine (Hg.out _).mono ?_
      rintro e w1 ⟨rfl, hb1⟩
      have K1 := Lib.hid (HK.out.next hb1)
      obtain ⟨x0, x1, x2, x3⟩ := K1.out.cells
      clear hb1
      go_wp2_with fail
      refine (check_any first n A m c ps B l d qs _ K1.out.rp K1.out.rq (by omega) (by omega)).mono ?_
      rintro e w2 ⟨rfl, hb2⟩
      have K2 := Lib.hid (K1.out.next hb2)
      clear hb2 x0 x1 x2 x3
      have he1 : errB true = 0 := rfl
      have he2 : errB false = 2 := rfl
      cases hck : checkB first n ps qs
      · have Hck := Lib.hid hck
        clear hck
        rw [he2]
        go_wp2
        go_ret
        exact ⟨by rw [Hv.out, Hck.out]; rfl, K2.out.bel⟩
      · have Hck := Lib.hid hck
        clear hck
        rw [he1]
        go_wp2
        go_ret
        exact ⟨by rw [Hv.out, Hck.out]; rfl, K2.out.bel⟩
    · have d0 := decide_eq_false hn
      rw [d0] at hv
      have Hv : Hid (mayB m l first n ps qs = false) := hv
      clear hv
      go_enter Try.func15, Try.ntmps15
      go_wp2_with fail
      refine (Hg.out _).mono ?_
      rintro e w1 ⟨rfl, hb1⟩
      have K1 := Lib.hid (HK.out.next hb1)
      obtain ⟨x0, x1, x2, x3⟩ := K1.out.cells
      clear hb1
      go_wp2
      go_ret
      exact ⟨by rw [Hv.out]; rfl, K1.out.bel⟩

set_option maxHeartbeats 8000000 in
theorem marks_any (first : Int) (n : Nat) (A : Option Addr) (m c : Nat) (ps : RunL) (B : Option Addr) (l d : Nat) (qs : RunL) (w : World) (hr : Runs w w.heap.size A m ps) (hq : Runs w w.heap.size B l qs) (hm : m ≤ 300) (hl : l ≤ 300) (hck : checkB first n ps qs = true) :
    Calls Try.prog 17 #[fieldV first n A m c B l d] w (MarksPost n (marksF ps qs) w) := by
  obtain ⟨h0, h1, h2, h3, h4, _⟩ := check_parts hck
  have HK : Hid (Kep w ⟨first, n, A, m, c, ps, B, l, d, qs⟩ [] (w.alloc (.cells #[.int .i64 first, .int .i64 (n : Int), .slice A m c, .slice B l d] 31))) := Kep.new (f := ⟨first, n, A, m, c, ps, B, l, d, qs⟩) hr hq
  have Hr1 := Lib.hid (rising_less h3 h0)
  have Hr2 := Lib.hid (rising_less h4 h0)
  have hmk := fun W => run_make_row' (P := Try.prog) 36 3 (.int .i64 0) 8 (by kernel_rfl) info3m rfl .i64 .i64 n (by omega) (by omega) W
  unfold fieldV
  clear h3 h4 hr hq hck
  go_enter Try.func17, Try.ntmps17
  go_wp2_with fail
  generalize hwx : w.alloc (.cells #[.int .i64 first, .int .i64 (n : Int), .slice A m c, .slice B l d] 31) = wx at *
  have hxs : wx.heap.size = w.heap.size + 1 := by rw [← hwx]; simp
  have hI : Hid (Ints (wx.alloc (.cells (madeCells #[.int .i64 0] n) 3)) (w.heap.size + 1) n (fun _ => 0)) := by rw [← hxs]; exact Ints.made wx n
  have hK : Hid (Kep w ⟨first, n, A, m, c, ps, B, l, d, qs⟩ [] (wx.alloc (.cells (madeCells #[.int .i64 0] n) 3))) := HK.out.alloc _
  clear hwx hxs hmk HK
  generalize wx.alloc (.cells (madeCells #[.int .i64 0] n) 3) = wy at *
  go_loopw [4] (fun i wr => ∃ (k : Nat) (f : Nat → Int), k ≤ m ∧ i = .int .i64 k ∧ Hid (Ints wr (w.heap.size + 1) n f) ∧ Hid (markL f ((k : Int) + 1) (ps.drop k) = markL (fun _ => 0) 1 ps) ∧ Hid (Kep w ⟨first, n, A, m, c, ps, B, l, d, qs⟩ [] wr)) (fun i _ => m - (intOf i).toNat)
  case atStart => exact ⟨0, _, Nat.zero_le _, rfl, hI, rfl, hK⟩
  case round =>
    obtain ⟨k, f, hk, rfl, Hf, HM, HK⟩ := hrel
    obtain ⟨y0, y1, y2, y3⟩ := HK.out.cells
    by_cases hlt : k < m
    · obtain ⟨x1, x2, b, o, hx, wf1, wf2, wf3, wf4, hAe, hbB, e0, e1⟩ := HK.out.r0.at_ hlt
      dsimp only at hx hAe
      have hd := rising_get Hr1.out hx
      dsimp only at hd
      obtain ⟨hd1, hd2, hd3⟩ := hd
      have Hx := Lib.hid hx; clear hx
      subst hAe
      have Hb0 := Lib.hid HK.out.bel
      have e0r := (HK.out.bel.cell (p := ⟨b, o + k * 2, none⟩) hbB).trans e0
      have e1r := (HK.out.bel.cell (p := ⟨b, o + k * 2 + 1, none⟩) hbB).trans e1
      go_wp2_with fail
      clear e0r e1r y0 y1 y2 y3
      obtain ⟨s1, rfl⟩ : ∃ s1 : Nat, x1 = (s1 : Int) := ⟨x1.toNat, by omega⟩
      go_loopw [5] (fun v wr => ∃ (q : Nat), v = .int .i64 (q : Int) ∧ (s1 : Int) ≤ (q : Int) ∧ (q : Int) ≤ (s1 : Int) + x2 ∧ Hid (Ints wr (w.heap.size + 1) n (painted f (s1 : Int) (q : Int) ((k : Int) + 1))) ∧ Hid (Kep w ⟨first, n, some ⟨b, o, none⟩, m, c, ps, B, l, d, qs⟩ [] wr)) (fun v _ => ((s1 : Int) + x2 - intOf v).toNat)
      case atStart => exact ⟨s1, rfl, by omega, by omega, by rw [painted_none]; exact Hf, HK⟩
      case round =>
        clear HK Hb0
        obtain ⟨q, rfl, hq1, hq2, Hg, HK⟩ := hrel
        obtain ⟨y0, y1, y2, y3⟩ := HK.out.cells
        have e0' := (HK.out.bel.cell (p := ⟨b, o + k * 2, none⟩) hbB).trans e0
        have e1' := (HK.out.bel.cell (p := ⟨b, o + k * 2 + 1, none⟩) hbB).trans e1
        by_cases hlq : (q : Int) < (s1 : Int) + x2
        · have d1 := decide_eq_true hlq
          obtain ⟨g0, g1⟩ := Hg.out.get (i := q) (by omega)
          go_wp2_with fail
          go_quiet (fail)
          go_wp2_with fail
          go_roundw
          case rel => exact ⟨q + 1, by go_num, by omega, by omega, by have h := ((Hg.out.drewN nq).set (i := q) (by omega) ((k : Int) + 1)).congr (fun j _ => painted_more hq1 j); exact Lib.hid h, (HK.out.drewN nq).set (by omega) (fun x hx => by cases hx)⟩
          case measure => simp [intOf]; omega
        · have d1 := decide_eq_false hlq
          go_wp2_with fail
          go_quiet (fail)
          go_wp2_with fail
          go_roundw
          case rel =>
            have hqe : (q : Int) = (s1 : Int) + x2 := by omega
            refine ⟨k + 1, painted f (s1 : Int) ((s1 : Int) + x2) ((k : Int) + 1), by omega, by go_num, ?_, ?_, HK.out.drewN _⟩
            · rw [← hqe]; exact Hg.out.drewN _
            · refine Lib.hid (Eq.trans ?_ HM.out)
              rw [markL_drop Hx.out]; exact rfl
          case measure => simp [intOf]; omega
    · have HM' : Hid (f = markL (fun _ => 0) 1 ps) := by
        refine Lib.hid (Eq.trans ?_ HM.out)
        rw [show k = m from by omega, show ps.drop m = [] from List.drop_eq_nil_of_le (by have := HK.out.r0.1; dsimp only at this; omega)]; simp [markL]
      clear HM
      obtain ⟨f0, hf0⟩ : ∃ f0, f0 = markL (fun _ => 0) 1 ps := ⟨_, rfl⟩
      have hmf : marksF ps qs = pinL f0 qs := by rw [hf0]; rfl
      rw [← hf0] at HM'
      obtain ⟨rfl⟩ := HM'
      have Hmf := Lib.hid hmf; clear hmf hf0
      go_wp2_with fail
      clear y0 y1 y2 y3
      go_loopw [6] (fun i wr => ∃ (k : Nat) (fc : Nat → Int), k ≤ l ∧ i = .int .i64 k ∧ Hid (Ints wr (w.heap.size + 1) n fc) ∧ Hid (pinL fc (qs.drop k) = pinL f qs) ∧ Hid (Kep w ⟨first, n, A, m, c, ps, B, l, d, qs⟩ [] wr)) (fun i _ => l - (intOf i).toNat)
      case atStart => exact ⟨0, f, Nat.zero_le _, rfl, Hf, rfl, HK⟩
      case round =>
        clear HK Hf
        obtain ⟨k, fc, hk, rfl, Hf, HM, HK⟩ := hrel
        obtain ⟨y0, y1, y2, y3⟩ := HK.out.cells
        by_cases hlt : k < l
        · obtain ⟨x1, x2, b, o, hx, wf1, wf2, wf3, wf4, hAe, hbB, e0, e1⟩ := HK.out.q0.at_ hlt
          dsimp only at hx hAe
          have hd := rising_get Hr2.out hx
          dsimp only at hd
          obtain ⟨hd1, hd2, hd3⟩ := hd
          have Hx := Lib.hid hx; clear hx
          subst hAe
          have e0r := (HK.out.bel.cell (p := ⟨b, o + k * 2, none⟩) hbB).trans e0
          have e1r := (HK.out.bel.cell (p := ⟨b, o + k * 2 + 1, none⟩) hbB).trans e1
          go_wp2_with fail
          clear e0r e1r y0 y1 y2 y3
          obtain ⟨s1, rfl⟩ : ∃ s1 : Nat, x1 = (s1 : Int) := ⟨x1.toNat, by omega⟩
          go_loopw [7] (fun v wr => ∃ (q : Nat), v = .int .i64 (q : Int) ∧ (s1 : Int) ≤ (q : Int) ∧ (q : Int) ≤ (s1 : Int) + x2 ∧ Hid (Ints wr (w.heap.size + 1) n (painted fc (s1 : Int) (q : Int) (-1))) ∧ Hid (Kep w ⟨first, n, A, m, c, ps, some ⟨b, o, none⟩, l, d, qs⟩ [] wr)) (fun v _ => ((s1 : Int) + x2 - intOf v).toNat)
          case atStart => exact ⟨s1, rfl, by omega, by omega, by rw [painted_none]; exact Hf, HK⟩
          case round =>
            clear HK
            obtain ⟨q, rfl, hq1, hq2, Hg, HK⟩ := hrel
            obtain ⟨y0, y1, y2, y3⟩ := HK.out.cells
            have e0' := (HK.out.bel.cell (p := ⟨b, o + k * 2, none⟩) hbB).trans e0
            have e1' := (HK.out.bel.cell (p := ⟨b, o + k * 2 + 1, none⟩) hbB).trans e1
            by_cases hlq : (q : Int) < (s1 : Int) + x2
            · have d1 := decide_eq_true hlq
              obtain ⟨g0, g1⟩ := Hg.out.get (i := q) (by omega)
              go_wp2_with fail
              go_quiet (fail)
              go_wp2_with fail
              go_roundw
              case rel => exact ⟨q + 1, by go_num, by omega, by omega, by have h := ((Hg.out.drewN nq).set (i := q) (by omega) (-1)).congr (fun j _ => painted_more hq1 j); exact Lib.hid h, (HK.out.drewN nq).set (by omega) (fun x hx => by cases hx)⟩
              case measure => simp [intOf]; omega
            · have d1 := decide_eq_false hlq
              go_wp2_with fail
              go_quiet (fail)
              go_wp2_with fail
              go_roundw
              case rel =>
                have hqe : (q : Int) = (s1 : Int) + x2 := by omega
                refine ⟨k + 1, painted fc (s1 : Int) ((s1 : Int) + x2) (-1), by omega, by go_num, ?_, ?_, HK.out.drewN _⟩
                · rw [← hqe]; exact Hg.out.drewN _
                · refine Lib.hid (Eq.trans ?_ HM.out)
                  rw [pinL_drop Hx.out]
              case measure => simp [intOf]; omega
        · have HF : Hid (fc = pinL f qs) := by
            refine Lib.hid (Eq.trans ?_ HM.out)
            rw [show k = l from by omega, show qs.drop l = [] from List.drop_eq_nil_of_le (by have := HK.out.q0.1; dsimp only at this; omega)]; simp [pinL]
          go_wp2_with fail
          go_ret
          exact ⟨_, rfl, by omega, by rw [Hmf.out, ← HF.out]; exact Hf.out, HK.out.bel⟩
end Go.Proofs.Ytkifpnhijdcjlaa
