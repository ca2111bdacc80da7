/- Walks: the reference's Marks. -/
import Derived.Test.YtkifpnhijdcjlaaI1
import Derived.Deep.OwnRows
namespace Go.Proofs.Ytkifpnhijdcjlaa
open Go.RowKit

def painted (f : Nat → Int) (lo hi v : Int) : Nat → Int := fun j => if lo ≤ (j : Int) ∧ (j : Int) < hi then v else f j
def markL (f : Nat → Int) : Int → RunL → Nat → Int
  | _, [] => f
  | k, p :: t => markL (painted f p.1 (p.1 + p.2) k) (k + 1) t
def pinL (f : Nat → Int) : RunL → Nat → Int
  | [] => f
  | p :: t => pinL (painted f p.1 (p.1 + p.2) (-1)) t

theorem painted_none {f : Nat → Int} {lo v : Int} : painted f lo lo v = f := by
  funext j; unfold painted; rw [if_neg (by omega)]
theorem painted_more {f : Nat → Int} {lo v : Int} {i : Nat} (h : lo ≤ (i : Int)) (j : Nat) : (if j = i then v else painted f lo i v j) = painted f lo ((i : Int) + 1) v j := by
  unfold painted
  by_cases hj : j = i
  · subst hj; rw [if_pos rfl, if_pos ⟨h, by omega⟩]
  · rw [if_neg hj]
    by_cases h2 : lo ≤ (j : Int) ∧ (j : Int) < i
    · rw [if_pos h2, if_pos ⟨h2.1, by omega⟩]
    · rw [if_neg h2, if_neg (by omega)]
theorem markL_drop {f : Nat → Int} {k : Int} {l : RunL} {i : Nat} {x : Int × Int} (hx : l[i]? = some x) : markL f k (l.drop i) = markL (painted f x.1 (x.1 + x.2) k) (k + 1) (l.drop (i + 1)) := by
  obtain ⟨hi, rfl⟩ := List.getElem?_eq_some_iff.1 hx
  rw [List.drop_eq_getElem_cons hi, markL]
theorem pinL_drop {f : Nat → Int} {l : RunL} {i : Nat} {x : Int × Int} (hx : l[i]? = some x) : pinL f (l.drop i) = pinL (painted f x.1 (x.1 + x.2) (-1)) (l.drop (i + 1)) := by
  obtain ⟨hi, rfl⟩ := List.getElem?_eq_some_iff.1 hx
  rw [List.drop_eq_getElem_cons hi, pinL]
theorem info3m : (Try.prog.info? 3).map (fun i => (i.zero, i.size, i.bytes)) = some (some (.int .i64 0), 1, 8) := by kernel_rfl
theorem Ints.made (w : World) (n : Nat) : Ints (w.alloc (.cells (madeCells #[.int .i64 0] n) 3)) w.heap.size n (fun _ => 0) :=
  ⟨_, heap_alloc_new _ _, size_madeCells _ _, fun i hi => by simp [madeCells, hi, Nat.mod_one]⟩

def MarksPost (n : Nat) (F : Nat → Int) (w : World) (e : Ending) (w' : World) : Prop := ∃ g, e = .returned (.slice (some ⟨g, 0, none⟩) n n) ∧ w.heap.size ≤ g ∧ Ints w' g n F ∧ Below w.heap.size w w'

set_option maxHeartbeats 4000000 in
theorem Marks_any (n : Nat) (A1 : Option Addr) (m1 c1 : Nat) (ps : RunL) (A2 : Option Addr) (m2 c2 : Nat) (qs : RunL) (w : World) (hn : n ≤ 4096) (h1 : Runs w w.heap.size A1 m1 ps) (h2 : Runs w w.heap.size A2 m2 qs)
    (hm1 : m1 ≤ 4096) (hm2 : m2 ≤ 4096) (r1 : rising 0 n ps = true) (r2 : rising 0 n qs = true) :
    Calls Try.prog 37 #[.int .i64 (n : Int), .slice A1 m1 c1, .slice A2 m2 c2] w (MarksPost n (pinL (markL (fun _ => 0) 1 ps) qs) w) := by
  have hmk := fun W => run_make_row' (P := Try.prog) 36 3 (.int .i64 0) 8 (by kernel_rfl) info3m rfl .i64 .i64 n (by omega) (by omega) W
  have Hr1 := Lib.hid r1
  have Hr2 := Lib.hid r2
  have hx0 : Hid (Ints (w.alloc (.cells (madeCells #[.int .i64 0] n) 3)) w.heap.size n (fun _ => 0)) := Ints.made w n
  have hb0 : Below w.heap.size w (w.alloc (.cells (madeCells #[.int .i64 0] n) 3)) := (Below.refl _ _).alloc (Nat.le_refl _) _
  clear r1 r2
  go_enter Try.func37, Try.ntmps37
  go_wp2_with fail
  generalize w.alloc (.cells (madeCells #[.int .i64 0] n) 3) = wx at *
  clear hmk
  go_loopw [8] (fun i wr => ∃ (k : Nat) (f : Nat → Int), k ≤ m1 ∧ i = .int .i64 k ∧ Hid (Ints wr w.heap.size n f) ∧ Hid (markL f ((k : Int) + 1) (ps.drop k) = markL (fun _ => 0) 1 ps) ∧ Below w.heap.size w wr) (fun i _ => m1 - (intOf i).toNat)
  case atStart => exact ⟨0, _, Nat.zero_le _, rfl, hx0, rfl, hb0⟩
  case round =>
    obtain ⟨k, f, hk, rfl, Hf, HM, hb⟩ := hrel
    by_cases hlt : k < m1
    · obtain ⟨x1, x2, b, o, hx, wf1, wf2, wf3, wf4, rfl, hbB, e0, e1⟩ := (h1.below hb (Nat.le_refl _)).at_ hlt
      have hd := rising_get Hr1.out hx
      dsimp only at hd
      obtain ⟨hd1, hd2, hd3⟩ := hd
      have Hx := Lib.hid hx; clear hx
      go_wp2_with fail
      obtain ⟨s1, rfl⟩ : ∃ s1 : Nat, x1 = (s1 : Int) := ⟨x1.toNat, by omega⟩
      go_loopw [9] (fun v wr => ∃ (q : Nat), v = .int .i64 (q : Int) ∧ (s1 : Int) ≤ (q : Int) ∧ (q : Int) ≤ (s1 : Int) + x2 ∧ Hid (Ints wr w.heap.size n (painted f (s1 : Int) (q : Int) ((k : Int) + 1))) ∧ Below w.heap.size w wr) (fun v _ => ((s1 : Int) + x2 - intOf v).toNat)
      case atStart => exact ⟨s1, rfl, by omega, by omega, by rw [painted_none]; exact Hf, hb⟩
      case round =>
        obtain ⟨q, rfl, hq1, hq2, Hg, hbq⟩ := hrel
        have e0' := (hbq.cell (p := ⟨b, o + k * 2, none⟩) hbB).trans ((hb.cell (p := ⟨b, o + k * 2, none⟩) hbB).symm.trans e0)
        have e1' := (hbq.cell (p := ⟨b, o + k * 2 + 1, none⟩) hbB).trans ((hb.cell (p := ⟨b, o + k * 2 + 1, none⟩) hbB).symm.trans e1)
        by_cases hlq : (q : Int) < (s1 : Int) + x2
        · have d1 := decide_eq_true hlq
          obtain ⟨g0, g1⟩ := Hg.out.get (i := q) (by omega)
          go_wp2_with fail
          go_quiet (fail)
          go_wp2_with fail
          go_roundw
          case rel => exact ⟨q + 1, by go_num, by omega, by omega, by have h := ((Hg.out.drewN nq).set (i := q) (by omega) ((k : Int) + 1)).congr (fun j _ => painted_more hq1 j); exact Lib.hid h, (below_drewN hbq _).setCell (Nat.le_refl _) _⟩
          case measure => simp [intOf]; omega
        · have d1 := decide_eq_false hlq
          go_wp2_with fail
          go_quiet (fail)
          go_wp2_with fail
          go_roundw
          case rel =>
            have hqe : (q : Int) = (s1 : Int) + x2 := by omega
            refine ⟨k + 1, painted f (s1 : Int) ((s1 : Int) + x2) ((k : Int) + 1), by omega, by go_num, ?_, ?_, below_drewN hbq _⟩
            · rw [← hqe]; exact Hg.out.drewN _
            · refine Lib.hid (Eq.trans ?_ HM.out)
              rw [markL_drop Hx.out]; exact rfl
          case measure => simp [intOf]; omega
    · have HM' : Hid (f = markL (fun _ => 0) 1 ps) := by
        refine Lib.hid (Eq.trans ?_ HM.out)
        rw [show k = m1 from by omega, h1.1]; simp [markL]
      clear HM
      obtain ⟨f0, hf0⟩ : ∃ f0, f0 = markL (fun _ => 0) 1 ps := ⟨_, rfl⟩
      rw [← hf0] at HM' ⊢
      obtain ⟨rfl⟩ := HM'
      have Hf0 := Lib.hid hf0; clear hf0
      go_wp2_with fail
      go_loopw [10] (fun i wr => ∃ (k : Nat) (fc : Nat → Int), k ≤ m2 ∧ i = .int .i64 k ∧ Hid (Ints wr w.heap.size n fc) ∧ Hid (pinL fc (qs.drop k) = pinL f qs) ∧ Below w.heap.size w wr) (fun i _ => m2 - (intOf i).toNat)
      case atStart => exact ⟨0, f, Nat.zero_le _, rfl, Hf, rfl, hb⟩
      case round =>
        clear hb Hf
        obtain ⟨k, fc, hk, rfl, Hf, HM, hb⟩ := hrel
        by_cases hlt : k < m2
        · obtain ⟨x1, x2, b, o, hx, wf1, wf2, wf3, wf4, rfl, hbB, e0, e1⟩ := (h2.below hb (Nat.le_refl _)).at_ hlt
          have hd := rising_get Hr2.out hx
          dsimp only at hd
          obtain ⟨hd1, hd2, hd3⟩ := hd
          have Hx := Lib.hid hx; clear hx
          go_wp2_with fail
          obtain ⟨s1, rfl⟩ : ∃ s1 : Nat, x1 = (s1 : Int) := ⟨x1.toNat, by omega⟩
          go_loopw [11] (fun v wr => ∃ (q : Nat), v = .int .i64 (q : Int) ∧ (s1 : Int) ≤ (q : Int) ∧ (q : Int) ≤ (s1 : Int) + x2 ∧ Hid (Ints wr w.heap.size n (painted fc (s1 : Int) (q : Int) (-1))) ∧ Below w.heap.size w wr) (fun v _ => ((s1 : Int) + x2 - intOf v).toNat)
          case atStart => exact ⟨s1, rfl, by omega, by omega, by rw [painted_none]; exact Hf, hb⟩
          case round =>
            obtain ⟨q, rfl, hq1, hq2, Hg, hbq⟩ := hrel
            have e0' := (hbq.cell (p := ⟨b, o + k * 2, none⟩) hbB).trans ((hb.cell (p := ⟨b, o + k * 2, none⟩) hbB).symm.trans e0)
            have e1' := (hbq.cell (p := ⟨b, o + k * 2 + 1, none⟩) hbB).trans ((hb.cell (p := ⟨b, o + k * 2 + 1, none⟩) hbB).symm.trans e1)
            by_cases hlq : (q : Int) < (s1 : Int) + x2
            · have d1 := decide_eq_true hlq
              obtain ⟨g0, g1⟩ := Hg.out.get (i := q) (by omega)
              go_wp2_with fail
              go_quiet (fail)
              go_wp2_with fail
              go_roundw
              case rel => exact ⟨q + 1, by go_num, by omega, by omega, by have h := ((Hg.out.drewN nq).set (i := q) (by omega) (-1)).congr (fun j _ => painted_more hq1 j); exact Lib.hid h, (below_drewN hbq _).setCell (Nat.le_refl _) _⟩
              case measure => simp [intOf]; omega
            · have d1 := decide_eq_false hlq
              go_wp2_with fail
              go_quiet (fail)
              go_wp2_with fail
              go_roundw
              case rel =>
                have hqe : (q : Int) = (s1 : Int) + x2 := by omega
                refine ⟨k + 1, painted fc (s1 : Int) ((s1 : Int) + x2) (-1), by omega, by go_num, ?_, ?_, below_drewN hbq _⟩
                · rw [← hqe]; exact Hg.out.drewN _
                · refine Lib.hid (Eq.trans ?_ HM.out)
                  rw [pinL_drop Hx.out]
              case measure => simp [intOf]; omega
        · have HF : Hid (fc = pinL f qs) := by
            refine Lib.hid (Eq.trans ?_ HM.out)
            rw [show k = m2 from by omega, h2.1]; simp [pinL]
          go_wp2_with fail
          go_ret
          exact ⟨_, rfl, Nat.le_refl _, by rw [← Hf0.out, ← HF.out]; exact Hf.out, hb⟩
end Go.Proofs.Ytkifpnhijdcjlaa
