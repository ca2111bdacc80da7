/- The law SlidesChecks, walked. -/
import Derived.Test.YtkifpnhijdcjlaaF1
namespace Go.Proofs.Ytkifpnhijdcjlaa
open Go.RowKit

set_option maxHeartbeats 4000000 in
theorem lawChecks_any (first n : Int) (A : Option Addr) (m c : Nat) (ps : RunL) (B : Option Addr) (l d : Nat) (qs : RunL) (w : World) (hr : Runs w w.heap.size A m ps) (hq : Runs w w.heap.size B l qs) (hm : m ≤ maxLen) (hl : l ≤ maxLen) :
    Calls Try.prog 7 #[fieldV first n A m c B l d] w fun e w' => e = .returned (.bool true) ∧ Below w.heap.size w w' := by
  have HK : Hid (Kept w w.heap.size ⟨first, n, A, m, c, ps, B, l, d, qs⟩ (w.alloc (.cells #[.int .i64 first, .int .i64 n, .slice A m c, .slice B l d] 31))) := Kept.new (f := ⟨first, n, A, m, c, ps, B, l, d, qs⟩) hr hq
  have hg := great_any first n A m c B l d
  have Hg := Lib.hid (fun w => hg w hm hl)
  unfold fieldV at *
  clear hg
  by_cases hgt : 300 < m ∨ 300 < l
  · have hb : (decide (300 < m) || decide (300 < l)) = true := by rcases hgt with h | h <;> simp [h]
    rw [hb] at Hg
    clear hb hr hq
    go_enter Try.func7, Try.ntmps7
    go_wp2_with fail
    refine (Hg.out _).mono ?_
    rintro e w1 ⟨rfl, hb1⟩
    go_wp2_with fail
    refine (lives_any _).mono ?_
    rintro e w2 ⟨rfl, hb2⟩
    go_wp2
    go_ret
    exact ⟨rfl, ((HK.out.next hb1).next hb2).bel⟩
  · have hb : (decide (300 < m) || decide (300 < l)) = false := by simp; omega
    rw [hb] at Hg
    clear hb
    have hm3 : m ≤ 300 := by omega
    have hl3 : l ≤ 300 := by omega
    clear hr hq hgt
    go_enter Try.func7, Try.ntmps7
    go_wp2_with fail
    refine (Hg.out _).mono ?_
    generalize w.alloc (.cells #[.int .i64 first, .int .i64 n, .slice A m c, .slice B l d] 31) = wx at *
    rintro e w1 ⟨rfl, hb1⟩
    have HK1 := Lib.hid (HK.out.next hb1)
    have HK1d := Lib.hid HK1.out.drew
    clear hb1 HK Hg
    go_wp2_with fail
    obtain ⟨x0, x1, x2, x3⟩ := HK1.out.box
    have hlt := HK1.out.lt
    dsimp only at x0 x1 x2 x3
    go_region_held3 (fun w' => w'.cell? ⟨w.heap.size, 0, none⟩ = some (.int .i64 first) ∧ w'.cell? ⟨w.heap.size, 1, none⟩ = some (.int .i64 n) ∧ w'.cell? ⟨w.heap.size, 2, none⟩ = some (.slice A m c) ∧ w'.cell? ⟨w.heap.size, 3, none⟩ = some (.slice B l d))
      (first | go_keep | exact HK3.out.box | exact HK2.out.box)
      (first
        | (go_at_call 11; refine (own_any B l d qs _ HK2.out.rq (by omega)).mono ?_; rintro e w3 ⟨B1, d1, rfl, ho3, hb3⟩; have HK3 := Lib.hid (HK2.out.next hb3); have Ho2 := Lib.hid ((HA.out.below hb3 (Nat.le_refl _)).more hb3.size); have Ho3 := Lib.hid ho3.runs; clear ho3 hb3)
        | (go_at_call 11; refine (own_any A m c ps _ HK1d.out.rp (by omega)).mono ?_; rintro e w2 ⟨A1, c1, rfl, ho2, hb2⟩; have HK2 := Lib.hid (HK1d.out.next hb2); have HA := Lib.hid ho2.runs; clear ho2 hb2))
    clear x0 x1 x2 x3 hlt
    have HK3d := Lib.hid HK3.out.drew
    have Ha := Lib.hid Ho2.out.d1
    have Hb := Lib.hid Ho3.out.d1
    obtain ⟨x0, x1, x2, x3⟩ := HK3.out.box
    have hlt := HK3.out.lt
    dsimp only at x0 x1 x2 x3
    clear HK1 HK1d HK2 HA
    go_wp2_with fail
    go_region_held3 (fun w' => w'.cell? ⟨w.heap.size, 0, none⟩ = some (.int .i64 first) ∧ w'.cell? ⟨w.heap.size, 1, none⟩ = some (.int .i64 n) ∧ w'.cell? ⟨w.heap.size, 2, none⟩ = some (.slice A m c) ∧ w'.cell? ⟨w.heap.size, 3, none⟩ = some (.slice B l d))
      (first | go_keep | exact HK5.out.box | exact HK4.out.box)
      (first
        | (go_at_call 24; refine (refCheck_any first n A m c ps B l d qs _ HK4.out.rp HK4.out.rq (by omega) (by omega)).mono ?_; rintro e w5 ⟨rfl, hb5⟩; have HK5 := Lib.hid (HK4.out.next hb5); have Ha5 := Lib.hid (Ha4.out.nx hb5); have Hb5 := Lib.hid (Hb4.out.nx hb5); clear hb5)
        | (go_at_call 18; refine (check_any first n A1 m c1 ps B1 l d1 qs _ Ha.out Hb.out (by omega) (by omega)).mono ?_; rintro e w4 ⟨rfl, hb4⟩; have HK4 := Lib.hid (HK3d.out.next hb4); have Ha4 := Lib.hid (Ha.out.nx hb4); have Hb4 := Lib.hid (Hb.out.nx hb4); clear hb4))
    clear x0 x1 x2 x3 hlt
    obtain ⟨x0, x1, x2, x3⟩ := HK5.out.box
    have hlt := HK5.out.lt
    dsimp only at x0 x1 x2 x3
    clear HK3 HK4 HK3d Ha Hb Ha4 Hb4 Ho2 Ho3
    go_wp2_with fail
    refine (Regions_any first n B1 l d1 qs _ Hb5.out (by omega)).mono ?_
    rintro e w6 ⟨A6, m6, c6, rfl, ho6, hb6⟩
    have HK6 := Lib.hid (HK5.out.next hb6)
    have Ha6 := Lib.hid (Ha5.out.nx hb6)
    have Hb6 := Lib.hid (Hb5.out.nx hb6)
    have Hl6 : Hid ((if checkB first n [] qs = true then regionsL first n qs else []).length ≤ 301) := by
      show List.length _ ≤ 301
      have := regions_len (a := first) (n := n) (qs := qs)
      have := HK5.out.rq.1
      dsimp only at this
      split <;> simp; omega
    have HR6 := Lib.hid ho6.runs
    clear ho6 hb6 x0 x1 x2 x3 hlt HK5 Ha5 Hb5
    obtain ⟨x0, x1, x2, x3⟩ := HK6.out.box
    have hlt := HK6.out.lt
    dsimp only at x0 x1 x2 x3
    go_wp2_with fail
    refine (refRegions_any first n B l d qs _ HK6.out.rq (by omega)).mono ?_
    rintro e w7 ⟨A7, m7, c7, rfl, ho7, hb7⟩
    have HK7 := Lib.hid (HK6.out.next hb7)
    have Ha7 := Lib.hid (Ha6.out.nx hb7)
    have Hb7 := Lib.hid (Hb6.out.nx hb7)
    have HR67 := Lib.hid (HR6.out.nx hb7)
    have HR7 := Lib.hid ho7.runs
    clear ho7 hb7 x0 x1 x2 x3 hlt HK6 Ha6 Hb6 HR6
    obtain ⟨x0, x1, x2, x3⟩ := HK7.out.box
    have hlt := HK7.out.lt
    dsimp only at x0 x1 x2 x3
    generalize (if checkB first n [] qs = true then regionsL first n qs else []) = R at *
    have hl6 : m6 ≤ 1048576 := by have := HR67.out.1; have := Hl6.out; omega
    generalize errB (checkB first n [] qs) = er at *
    go_wp2_with fail
    refine (same_self A6 m6 c6 R A7 m7 c7 _ HR67.out HR7.out hl6).mono ?_
    rintro e w8 ⟨rfl, q8, rfl⟩
    go_wp2_with fail
    refine (same_self A1 m c1 ps A m c _ (Ha7.out.dn q8) (HK7.out.drewN q8).rp (by omega)).mono ?_
    rintro e w9 ⟨rfl, q9, rfl⟩
    go_wp2_with fail
    refine (same_self B1 l d1 qs B l d (w7.drewN (q8 + q9)) (Hb7.out.dn _) (HK7.out.drewN _).rq (by omega)).mono ?_
    rintro e w10 ⟨rfl, q10, rfl⟩
    go_wp2_with fail
    refine (lives_any _).mono ?_
    rintro e w11 ⟨rfl, hb11⟩
    go_wp2
    go_ret
    exact ⟨rfl, ((HK7.out.drewN _).next hb11).bel⟩
end Go.Proofs.Ytkifpnhijdcjlaa
