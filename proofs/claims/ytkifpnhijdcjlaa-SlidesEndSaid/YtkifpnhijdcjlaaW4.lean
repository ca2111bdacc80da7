/- Walks: Check. -/
import Derived.Test.YtkifpnhijdcjlaaM1
import Derived.RegionTactic
import Derived.BigQuiet
import Derived.Deep.QuietTactic
import Derived.Test.YtkifpnhijdcjlaaGrow
namespace Go.Proofs.Ytkifpnhijdcjlaa
open Go.RowKit
attribute [local go_sem] ext_cell ext_frozen

set_option maxHeartbeats 1000000 in
theorem check_main (first n : Int) (A : Option Addr) (m c : Nat) (ps : RunL) (B : Option Addr) (l d : Nat) (qs : RunL) (w : World) (h0 : 0 ≤ first) (h1 : first ≤ n) (h2 : n ≤ 4096)
    (hr : Runs w w.heap.size A m ps) (hq : Runs w w.heap.size B l qs) (hm : m ≤ 1048576) (hl : l ≤ 1048576) (hp1 : rising first n ps = true) (hq1 : rising first n qs = true) :
    Calls Try.prog 18 #[.int .i64 first, .int .i64 n, .slice A m c, .slice B l d] w fun e w' => e = .returned (.int .i64 (errB (ps.all (clears qs)))) ∧ Below w.heap.size w w' := by
  have hmono := rising_mono hq1
  have hpf := Lib.hid hp1
  have hqf := Lib.hid hq1
  have d1 : decide (first < 0) = false := decide_eq_false (by omega)
  have d2 : decide (n < first) = false := decide_eq_false (by omega)
  have d3 : decide (4096 < n) = false := decide_eq_false (by omega)
  go_enter Try.func18, Try.ntmps18
  go_wp2_with fail
  refine (rising_any first n A m c ps _ h0 h2 h1 hr (by unfold maxLen; omega)).mono ?_
  rw [hp1]
  rintro e w1 ⟨rfl, hb1⟩
  have hq' := hq.below hb1 (Nat.le_refl _)
  go_wp2_with fail
  refine (rising_any first n B l d qs _ h0 h2 h1 (hq'.more hb1.size) (by unfold maxLen; omega)).mono ?_
  rw [hq1]
  rintro e w2 ⟨rfl, hb2⟩
  have hb := hb1.trans (hb2.mono hb1.size)
  clear hq' hb1 hb2 hp1 hq1
  go_wp2_with fail
  go_loopw [40] (fun i wr => ∃ k : Nat, k ≤ m ∧ i = .int .i64 k ∧ Hid ((ps.take k).all (clears qs) = true) ∧ Below w.heap.size w wr) (fun i _ => m - (intOf i).toNat)
  case atStart => exact ⟨0, by omega, rfl, rfl, hb⟩
  case round =>
    obtain ⟨k, hk, rfl, H, hb⟩ := hrel
    by_cases hlt : k < m
    · obtain ⟨x1, x2, b, o, hx, v1, v2, v3, v4, rfl, hbB, c0, c1⟩ := (hr.below hb (Nat.le_refl _)).at_ hlt
      have hxr := rising_get hpf.out hx
      have Hs := Lib.hid (all_step hx H.out)
      have Ha := Lib.hid (all_false (f := clears qs) hx)
      have Hx := Lib.hid hx
      clear hx
      obtain ⟨hx1, hx2, hx3⟩ := hxr
      dsimp only at hx1 hx2 hx3
      have hsz := hb.size
      have hq2 := hq.below hb (Nat.le_refl _)
      go_wp2_with fail
      refine (search_any B l d qs x1 _ (hq2.below ((Below.refl w.heap.size wr).alloc hsz (.cells #[.int .i64 x1, .int .i64 x2] 39)) (Nat.le_refl _) |>.more (by simp; omega)) hl hmono).mono ?_
      rintro e w3 ⟨i, hcut, rfl, hb3⟩
      have g0 : w3.cell? ⟨wr.heap.size, 0, none⟩ = some (.int .i64 x1) := by rw [hb3.cell (p := ⟨wr.heap.size, 0, none⟩) (by simp)]; go_simp
      have g1 : w3.cell? ⟨wr.heap.size, 1, none⟩ = some (.int .i64 x2) := by rw [hb3.cell (p := ⟨wr.heap.size, 1, none⟩) (by simp)]; go_simp
      have hb4 : Below w.heap.size w w3 := (hb.alloc hsz _).trans (hb3.mono (by simp; omega))
      have hsz3 := hb4.size
      have hq3 := hq.below hb4 (Nat.le_refl _)
      clear hq2 hb3
      cases hh : hit qs x1 i
      · rcases Nat.lt_or_ge 0 i with hi0 | hi0
        rotate_left
        · have hz1 : decide ((0 : Int) < (i : Int)) = false := decide_eq_false (by omega)
          have hz2 : decide (0 < i) = false := decide_eq_false (by omega)
          have hz3 : ¬ 0 < i := by omega
          have hi0' := Lib.hid hi0; clear hi0
          have hah : Hid (∀ q, 0 < i → qs[i - 1]? = some q → q.1 + q.2 ≤ x1) := fun q h _ => absurd h hz3
          go_wp2
          go_quiet (fail)
          obtain ⟨W, hW⟩ : ∃ W, W = w3.drewN nq := ⟨_, rfl⟩
          have f0 : W.cell? ⟨wr.heap.size, 0, none⟩ = some (.int .i64 x1) := by rw [hW]; exact g0
          have f1 : W.cell? ⟨wr.heap.size, 1, none⟩ = some (.int .i64 x2) := by rw [hW]; exact g1
          have hbW : Below w.heap.size w W := by rw [hW]; exact hb4.trans ⟨rfl, rfl, rfl, Nat.le_refl _, fun _ _ => rfl⟩
          rw [← hW]
          clear hW g0 g1 hb4 hsz3 hz1 hz2 hz3 hq3
          go_wp2
          have hszR : wr.heap.size < W.heap.size := World.block_lt_of_cell? W _ f0
          have hszW := hbW.size
          by_cases hil : i < l
          · have hz1 : decide ((i : Int) < (l : Int)) = true := decide_eq_true (by omega)
            have hz2 : decide (i < l) = true := decide_eq_true hil
            obtain ⟨z1, z2, b3, o3, hz, t1, t2, t3, t4, hBe, hzB, q0, q1⟩ := (hq.below hbW (Nat.le_refl _)).at_ hil
            first | (injection hBe with hBe; injection hBe with hBe1 hBe2; subst hBe1 hBe2) | subst hBe
            have hb3W := Nat.lt_of_lt_of_le hzB hszW
            by_cases hov2 : z1 < x1 + x2
            · have hfin := Lib.hid (Ha.out (clears_behind (p := (x1, x2)) hcut hqf.out hz hov2))
              clear hz
              refine wp_region_grow_lit (by kernel_rfl) (by kernel_rfl) ?_
              repeat (go_big_quiet_step ((go_at_call 36; exact grow_of (end_any _ _ _ (by omega) (by omega)))))
              refine wpQuiet_nil ?_
              intro _ hw'
              obtain ⟨z, hw''⟩ := hw'
              subst hw''
              go_wp2
              go_ret
              exact ⟨by rw [hfin.out]; rfl, hbW.trans ((ext_below W z).mono hszW)⟩
            · have hcl := clears_of (p := (x1, x2)) hcut hqf.out hah.out (fun q hq => by rw [hz] at hq; injection hq with hq; subst hq; exact Int.not_lt.1 hov2)
              have hfin : Hid ((ps.take (k + 1)).all (clears qs) = true) := Hs.out.trans hcl
              clear hz hcl
              refine wp_region_grow_lit (by kernel_rfl) (by kernel_rfl) ?_
              repeat (go_big_quiet_step ((go_at_call 36; exact grow_of (end_any _ _ _ (by omega) (by omega)))))
              refine wpQuiet_nil ?_
              intro _ hw'
              obtain ⟨z, hw''⟩ := hw'
              subst hw''
              go_wp2
              go_roundw
              case rel => exact ⟨k + 1, by omega, by go_num, hfin, hbW.trans ((ext_below W z).mono hszW)⟩
              case measure => simp [intOf]; omega
          · have hz1 : decide ((i : Int) < (l : Int)) = false := decide_eq_false (by omega)
            have hz2 : decide (i < l) = false := decide_eq_false hil
            have hcl := clears_of (p := (x1, x2)) hcut hqf.out hah.out (fun q hqi => by have := (List.getElem?_eq_some_iff.1 hqi).1; have := hq.1; omega)
            have hfin : Hid ((ps.take (k + 1)).all (clears qs) = true) := Hs.out.trans hcl
            clear hcl
            refine wp_region_grow_lit (by kernel_rfl) (by kernel_rfl) ?_
            repeat (go_big_quiet_step (fail))
            refine wpQuiet_nil ?_
            intro _ hw'
            obtain ⟨z, hw''⟩ := hw'
            subst hw''
            go_wp2
            go_roundw
            case rel => exact ⟨k + 1, by omega, by go_num, hfin, hbW.trans ((ext_below W z).mono hszW)⟩
            case measure => simp [intOf]; omega
        · obtain ⟨j, rfl⟩ : ∃ j, i = j + 1 := ⟨i - 1, by omega⟩
          have hjl : j < l := by have := hcut.1; have := hq3.1; omega
          obtain ⟨y1, y2, b2, o2, hy, u1, u2, u3, u4, rfl, hyB, e0, e1⟩ := hq3.at_ hjl
          have hyr := rising_get hqf.out hy
          have hz1 : decide ((0 : Int) < (j : Int) + 1) = true := decide_eq_true (by omega)
          obtain ⟨hyr1, hyr2, hyr3⟩ := hyr
          dsimp only at hyr1 hyr2 hyr3
          have hszR : wr.heap.size < w3.heap.size := World.block_lt_of_cell? w3 _ g0
          have hb2W : b2 < w3.heap.size := by omega
          by_cases hov : x1 < y1 + y2
          · have hfin := Lib.hid (Ha.out (clears_ahead (p := (x1, x2)) hcut hi0 hx2 hy hov))
            clear hy
            go_wp2
            refine wp_region_grow_lit (by kernel_rfl) (by kernel_rfl) ?_
            repeat (go_big_quiet_step ((go_at_call 36; exact grow_of (end_any _ _ _ (by omega) (by omega)))))
            refine wpQuiet_nil ?_
            intro _ hw'
            obtain ⟨z, hw''⟩ := hw'
            subst hw''
            go_wp2
            go_ret
            exact ⟨by rw [hfin.out]; rfl, hb4.trans ((ext_below w3 z).mono hsz3)⟩
          · have hah : Hid (∀ q, 0 < j + 1 → qs[j + 1 - 1]? = some q → q.1 + q.2 ≤ x1) := fun q _ hq => by rw [Nat.add_sub_cancel, hy] at hq; injection hq with hq; subst hq; exact Int.not_lt.1 hov
            clear hy
            go_wp2
            refine wp_region_grow_lit (by kernel_rfl) (by kernel_rfl) ?_
            repeat (go_big_quiet_step ((go_at_call 36; exact grow_of (end_any _ _ _ (by omega) (by omega)))))
            refine wpQuiet_nil ?_
            intro _ hw'
            obtain ⟨z, hw''⟩ := hw'
            subst hw''
            obtain ⟨W, hW⟩ : ∃ W, W = ext w3 z := ⟨_, rfl⟩
            have f0 : W.cell? ⟨wr.heap.size, 0, none⟩ = some (.int .i64 x1) := by rw [hW, ext_cell _ _ hszR]; exact g0
            have f1 : W.cell? ⟨wr.heap.size, 1, none⟩ = some (.int .i64 x2) := by rw [hW, ext_cell _ _ hszR]; exact g1
            have hbW : Below w.heap.size w W := by rw [hW]; exact hb4.trans ((ext_below w3 z).mono hsz3)
            rw [← hW]
            clear hW g0 g1 hb4 hsz3 hz1 hq3 hszR hb2W e0 e1
            go_wp2
            have hszR : wr.heap.size < W.heap.size := World.block_lt_of_cell? W _ f0
            have hszW := hbW.size
            by_cases hil : j + 1 < l
            · have hz1 : decide ((j : Int) + 1 < (l : Int)) = true := decide_eq_true (by omega)
              have hz2 : decide (j + 1 < l) = true := decide_eq_true hil
              obtain ⟨z1, z2, b3, o3, hz, t1, t2, t3, t4, hBe, hzB, q0, q1⟩ := (hq.below hbW (Nat.le_refl _)).at_ hil
              first | (injection hBe with hBe; injection hBe with hBe1 hBe2; subst hBe1 hBe2) | subst hBe
              have hb3W := Nat.lt_of_lt_of_le hzB hszW
              by_cases hov2 : z1 < x1 + x2
              · have hfin := Lib.hid (Ha.out (clears_behind (p := (x1, x2)) hcut hqf.out hz hov2))
                clear hz
                refine wp_region_grow_lit (by kernel_rfl) (by kernel_rfl) ?_
                repeat (go_big_quiet_step ((go_at_call 36; exact grow_of (end_any _ _ _ (by omega) (by omega)))))
                refine wpQuiet_nil ?_
                intro _ hw'
                obtain ⟨z, hw''⟩ := hw'
                subst hw''
                go_wp2
                go_ret
                exact ⟨by rw [hfin.out]; rfl, hbW.trans ((ext_below W z).mono hszW)⟩
              · have hcl := clears_of (p := (x1, x2)) hcut hqf.out hah.out (fun q hq => by rw [hz] at hq; injection hq with hq; subst hq; exact Int.not_lt.1 hov2)
                have hfin : Hid ((ps.take (k + 1)).all (clears qs) = true) := Hs.out.trans hcl
                clear hz hcl
                refine wp_region_grow_lit (by kernel_rfl) (by kernel_rfl) ?_
                repeat (go_big_quiet_step ((go_at_call 36; exact grow_of (end_any _ _ _ (by omega) (by omega)))))
                refine wpQuiet_nil ?_
                intro _ hw'
                obtain ⟨z, hw''⟩ := hw'
                subst hw''
                go_wp2
                go_roundw
                case rel => exact ⟨k + 1, by omega, by go_num, hfin, hbW.trans ((ext_below W z).mono hszW)⟩
                case measure => simp [intOf]; omega
            · have hz1 : decide ((j : Int) + 1 < (l : Int)) = false := decide_eq_false (by omega)
              have hz2 : decide (j + 1 < l) = false := decide_eq_false hil
              have hcl := clears_of (p := (x1, x2)) hcut hqf.out hah.out (fun q hqi => by have := (List.getElem?_eq_some_iff.1 hqi).1; have := hq.1; omega)
              have hfin : Hid ((ps.take (k + 1)).all (clears qs) = true) := Hs.out.trans hcl
              clear hcl
              refine wp_region_grow_lit (by kernel_rfl) (by kernel_rfl) ?_
              repeat (go_big_quiet_step (fail))
              refine wpQuiet_nil ?_
              intro _ hw'
              obtain ⟨z, hw''⟩ := hw'
              subst hw''
              go_wp2
              go_roundw
              case rel => exact ⟨k + 1, by omega, by go_num, hfin, hbW.trans ((ext_below W z).mono hszW)⟩
              case measure => simp [intOf]; omega
      · obtain ⟨q, hqi, hqe, hcl⟩ := clears_hit (p := (x1, x2)) hqf.out hx2 hh
        have hil : i < l := by have := (List.getElem?_eq_some_iff.1 hqi).1; have := hq3.1; omega
        obtain ⟨y1, y2, b2, o2, hy, u1, u2, u3, u4, rfl, hyB, e0, e1⟩ := hq3.at_ hil
        have hey : y1 = x1 := by rw [hqi] at hy; injection hy with hy; subst hy; exact hqe
        subst hey
        have hfin := Lib.hid (Ha.out hcl)
        clear hqi hqe hcl hy hh H Hs Ha hcut
        go_wp2
        go_quiet (fail)
        go_wp2
        obtain ⟨W, hW⟩ : ∃ W, W = w3.drewN nq := ⟨_, rfl⟩
        have f0 : W.cell? ⟨wr.heap.size, 0, none⟩ = some (.int .i64 y1) := by rw [hW]; exact g0
        have f1 : W.cell? ⟨wr.heap.size, 1, none⟩ = some (.int .i64 x2) := by rw [hW]; exact g1
        have f2 : W.cell? ⟨b2, o2 + i * 2, none⟩ = some (.int .i64 y1) := by rw [hW]; exact e0
        have hbW : Below w.heap.size w W := by rw [hW]; exact hb4.trans ⟨rfl, rfl, rfl, Nat.le_refl _, fun _ _ => rfl⟩
        have hszW : w.heap.size ≤ W.heap.size := hbW.size
        have hszR : wr.heap.size < W.heap.size := World.block_lt_of_cell? W _ f0
        rw [← hW]
        clear hW g0 g1 e0 e1 hb4
        have hb2W : b2 < W.heap.size := by omega
        refine wp_region_grow_lit (by kernel_rfl) (by kernel_rfl) ?_
        repeat (go_big_quiet_step ((go_at_call 36; exact grow_of (end_any _ _ _ (by omega) (by omega)))))
        refine wpQuiet_nil ?_
        intro _ hw'
        obtain ⟨z, hw''⟩ := hw'
        subst hw''
        go_wp2
        go_ret
        exact ⟨by rw [hfin.out]; rfl, hbW.trans ((ext_below W z).mono hszW)⟩
    · obtain rfl : k = m := by omega
      have hfin : Hid (ps.all (clears qs) = true) := by
        have h := H.out
        rw [List.take_of_length_le (by rw [hr.1]; exact Nat.le_refl _)] at h
        exact h
      go_wp2
      go_ret
      exact ⟨by rw [hfin.out]; rfl, hb⟩
end Go.Proofs.Ytkifpnhijdcjlaa
