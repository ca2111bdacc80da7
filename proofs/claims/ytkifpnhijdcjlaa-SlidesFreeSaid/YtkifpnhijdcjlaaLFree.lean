/- The law SlidesFree, walked. -/
import Derived.Test.YtkifpnhijdcjlaaQ3
namespace Go.Proofs.Ytkifpnhijdcjlaa
open Go.RowKit

set_option maxRecDepth 100000 in
set_option maxHeartbeats 8000000 in
theorem lawFree_any (first n : Int) (A : Option Addr) (m c : Nat) (ps : RunL) (B : Option Addr) (l d : Nat) (qs : RunL) (f : Int) (w : World) (hr : Runs w w.heap.size A m ps) (hq : Runs w w.heap.size B l qs) (hm : m ≤ maxLen) (hl : l ≤ maxLen)
    (hf : I64 f) :
    Calls Try.prog 4 #[fieldV first n A m c B l d, .int .i64 f] w fun e w' => e = .returned (.bool true) ∧ Below w.heap.size w w' := by
  have HK : Hid (Kep w ⟨first, n, A, m, c, ps, B, l, d, qs⟩ [] (w.alloc (.cells #[.int .i64 first, .int .i64 n, .slice A m c, .slice B l d] 31))) := Kep.new (f := ⟨first, n, A, m, c, ps, B, l, d, qs⟩) hr hq
  have hg := may_any first n A m c ps B l d qs
  have hmk := fun (nn : Nat) => marks_any first nn A m c ps B l d qs
  have Hg := Lib.hid (fun w h1 h2 => hg w h1 h2 hm hl)
  unfold fieldV at *
  unfold I64 at hf
  obtain ⟨hf1, hf2⟩ := hf
  clear hg
  cases hmay : mayB m l first n ps qs
  · rw [hmay] at Hg
    clear hr hq hmay
    go_enter Try.func4, Try.ntmps4
    go_wp2_with fail
    refine (Hg.out _ HK.out.rp HK.out.rq).mono ?_
    rintro e w1 ⟨rfl, hb1⟩
    go_wp2_with fail
    refine (lives_any _).mono ?_
    rintro e w2 ⟨rfl, hb2⟩
    go_wp2
    go_ret
    exact ⟨rfl, ((HK.out.next hb1).next hb2).bel⟩
  · obtain ⟨hm3, hl3, hn6, hck⟩ := mayB_parts hmay
    obtain ⟨c1, c2, c3, c4, c5, c6⟩ := check_parts hck
    have Hmk := Lib.hid (fun nn w h1 h2 h3 => hmk nn w h1 h2 hm3 hl3 h3)
    clear hmk
    obtain ⟨fst, rfl⟩ : ∃ fst : Nat, first = (fst : Int) := ⟨first.toNat, by omega⟩
    obtain ⟨nn, rfl⟩ : ∃ nn : Nat, n = (nn : Int) := ⟨n.toNat, by omega⟩
    have Hsm := Lib.hid (rising_small c4 c1 c3)
    rw [hmay] at Hg
    have Hck := Lib.hid hck
    clear hr hq hmay c4 c5 c6
    go_enter Try.func4, Try.ntmps4
    go_wp2_with fail
    refine (Hg.out _ HK.out.rp HK.out.rq).mono ?_
    generalize w.alloc (.cells #[.int .i64 (fst : Int), .int .i64 (nn : Int), .slice A m c, .slice B l d] 31) = wx at *
    rintro e w1 ⟨rfl, hb1⟩
    have K1 := Lib.hid (HK.out.next hb1)
    clear hb1 HK Hg
    obtain ⟨x0, x1, x2, x3⟩ := K1.out.cells
    have hlt := K1.out.lt
    have he : errB true = 0 := rfl
    go_wp2_with fail
    refine (Next_any fst nn f A m c ps B l d qs _ K1.out.rp K1.out.rq (by omega) (by omega)).mono ?_
    rintro e w2 ⟨rfl, hb2⟩
    rw [mv_two, hck, he]
    clear hck
    have K2 := Lib.hid (K1.out.next hb2)
    clear hb2 x0 x1 x2 x3 hlt K1
    have K3 := Lib.hid (K2.out.newMove (nextB fst nn ps qs f))
    obtain ⟨x0, x1, x2, x3⟩ := K2.out.cells
    have hlt := K2.out.lt
    cases hnx : nextB fst nn ps qs f with
    | none =>
      rw [hnx] at K3
      clear hnx
      go_wp2_with fail
      refine (lives_any _).mono ?_
      rintro e w4 ⟨rfl, hb4⟩
      go_wp2
      go_ret
      exact ⟨rfl, ((K2.out.alloc _).next hb4).bel⟩
    | some mv =>
      obtain ⟨a, t, lm⟩ := mv
      rw [hnx] at K3
      obtain ⟨r, p, hmv⟩ := nextB_spec Hck.out hnx
      have h1 := hmv.lo
      have h2 := hmv.hi
      have h3 := hmv.l1
      have h4 := hmv.len
      have h5 := hmv.ta
      have h7 := hmv.low
      have h8 := hmv.top
      have h9 := hmv.fr
      have b1 : (fst : Int) ≤ t := by omega
      obtain ⟨an, rfl⟩ : ∃ an : Nat, a = (an : Int) := ⟨a.toNat, by omega⟩
      obtain ⟨tn, rfl⟩ : ∃ tn : Nat, t = (tn : Int) := ⟨t.toNat, by omega⟩
      obtain ⟨ln, rfl⟩ : ∃ ln : Nat, lm = (ln : Int) := ⟨lm.toNat, by omega⟩
      have K4 : Hid (Kep w ⟨fst, nn, A, m, c, ps, B, l, d, qs⟩ [(w2.heap.size, some ((an : Int), (tn : Int), (ln : Int)))] (w2.alloc (.cells #[.int .i64 (an : Int), .int .i64 (tn : Int), .int .i64 (ln : Int)] 24))) := K3
      have HZ := Lib.hid (fun (j : Nat) (h1 : (tn : Int) ≤ (j : Int)) (h2 : (j : Int) < (an : Int)) => hmv.zero Hck.out h1 h2)
      have hU := hmv.mark Hck.out
      have Hck' := Lib.hid (moved_check Hck.out hmv)
      have Hsum := Lib.hid (moved_sum Hck.out hmv)
      have q1 : an + ln ≤ nn := by omega
      have q2 : tn + ln ≤ an := by omega
      have q3 : 1 ≤ ln := by omega
      have q4 : ln ≤ 8 := by omega
      have q5 : fst ≤ tn := by omega
      have e1 : decide ((ln : Int) < 1) = false := decide_eq_false (by omega)
      have e2 : decide ((8 : Int) < (ln : Int)) = false := decide_eq_false (by omega)
      have e2' : decide (8 < ln) = false := decide_eq_false (by omega)
      have e3 : decide (tn < fst) = false := decide_eq_false (by omega)
      have e4 : decide ((tn : Int) < f) = false := decide_eq_false (by omega)
      have e5 : decide ((an : Int) < (tn : Int) + (ln : Int)) = false := decide_eq_false (by omega)
      have e6 : decide ((nn : Int) < (an : Int) + (ln : Int)) = false := decide_eq_false (by omega)
      clear hnx hmv h1 h2 h3 h4 h5 h7 h8 h9 b1 K3 K2
      go_wp2_with fail
      generalize w2.alloc (.cells #[.int .i64 (an : Int), .int .i64 (tn : Int), .int .i64 (ln : Int)] 24) = w3 at *
      generalize w2.heap.size = G at *
      refine (Hmk.out nn _ K4.out.rp K4.out.rq Hck.out).mono ?_
      rintro e w5 ⟨g, rfl, hg, HI, hb5⟩
      have HI5 := Lib.hid HI
      have K5 := Lib.hid (K4.out.next hb5)
      clear HI hb5 x0 x1 x2 x3 hlt K4 Hmk
      obtain ⟨x0, x1, x2, x3⟩ := K5.out.cells
      have hlt := K5.out.lt
      obtain ⟨hG, m0, m1, m2⟩ := K5.out.mv (G, some ((an : Int), (tn : Int), (ln : Int))) (by simp)
      have hGl : G < w5.heap.size := World.block_lt_of_cell? w5 _ m0
      dsimp only at hG
      have m0' : w5.cell? ⟨G, 0, none⟩ = some (.int .i64 (an : Int)) := m0
      have m1' : w5.cell? ⟨G, 1, none⟩ = some (.int .i64 (tn : Int)) := m1
      have m2' : w5.cell? ⟨G, 2, none⟩ = some (.int .i64 (ln : Int)) := m2
      clear m0 m1 m2
      obtain ⟨u, hu0, hu⟩ := hU
      have Hu := Lib.hid hu
      clear hu
      generalize marksF ps qs = F at *
      go_wp2_with fail
      clear e1 e2 e2' e3 e4 e5 e6
      go_loopw [9] (fun i wr => ∃ (k : Nat), k ≤ an ∧ tn ≤ k ∧ i = .int .i64 k ∧ ∃ z, wr = w5.drewN z) (fun i _ => an - (intOf i).toNat)
      case atStart => exact ⟨tn, by omega, Nat.le_refl _, rfl, 0, rfl⟩
      case round =>
        obtain ⟨k, hk, htk, rfl, z, rfl⟩ := hrel
        by_cases hlk : k < an
        · obtain ⟨g0, g1⟩ := HI5.out.get (i := k) (by omega)
          rw [HZ.out k (by omega) (by omega)] at g0
          go_wp2_with fail
          go_roundw
          case rel => exact ⟨k + 1, by omega, by omega, by go_num, z, rfl⟩
          case measure => simp [intOf]; omega
        · clear hk htk
          go_wp2_with fail
          go_loopw [10] (fun i wr => ∃ (k : Nat), k ≤ an + ln ∧ an ≤ k ∧ i = .int .i64 k ∧ ∃ z, wr = w5.drewN z) (fun i _ => an + ln - (intOf i).toNat)
          case atStart => exact ⟨an, by omega, Nat.le_refl _, rfl, z, rfl⟩
          case round =>
            clear hlk z
            obtain ⟨k, hk, htk, rfl, z, rfl⟩ := hrel
            by_cases hlk : (k : Int) < (an : Int) + (ln : Int)
            · obtain ⟨g0, g1⟩ := HI5.out.get (i := k) (by omega)
              obtain ⟨g2, g3⟩ := HI5.out.get (i := an) (by omega)
              rw [Hu.out k (by omega) (by omega)] at g0
              rw [Hu.out an (by omega) (by omega)] at g2
              have e1 : decide (u ≤ 0) = false := decide_eq_false (by omega)
              have e2 := decide_eq_true hlk
              go_wp2_with fail
              go_quiet (fail)
              go_wp2_with fail
              go_roundw
              case rel => exact ⟨k + 1, by omega, by omega, by go_num, _, by go_simp; rfl⟩
              case measure => simp [intOf]; omega
            · have e2 := decide_eq_false hlk
              clear hk htk
              go_wp2_with fail
              refine (Moved_any an tn ln A m c ps _ (K5.out.drewN z).rp (by omega) ⟨by omega, by omega⟩ ⟨by omega, by omega⟩ ⟨by omega, by omega⟩).mono ?_
              rintro e w6 ⟨A6, m6, c6, rfl, ho6, hb6⟩
              have HR6 := Lib.hid ho6.runs
              have K6 := Lib.hid ((K5.out.drewN z).next hb6)
              clear ho6 hb6 x0 x1 x2 x3 hlt m0' m1' m2' hGl K5 HI5 e2
              generalize movedL (an : Int) (tn : Int) (ln : Int) ps = R at *
              obtain ⟨_, _, _, c4, _, _⟩ := check_parts Hck'.out
              have hm6 : m6 ≤ 600 := by have := rising_len c4 (by omega); have := HR6.out.1; omega
              have Hsm6 := Lib.hid (rising_small c4 c1 c3)
              clear c4
              obtain ⟨x0, x1, x2, x3⟩ := K6.out.cells
              have hlt := K6.out.lt
              go_wp2_with fail
              go_loopw [12, 14] (fun v i wr => ∃ (k : Nat) (s : Int), k ≤ m ∧ i = .int .i64 k ∧ v = .int .i64 s ∧ 0 ≤ s ∧ s ≤ 4096 * (k : Int) ∧ Hid (s = sumL (ps.take k)) ∧ ∃ z, wr = w6.drewN z) (fun _ i _ => m - (intOf i).toNat)
              case atStart => exact ⟨0, 0, Nat.zero_le _, rfl, rfl, by omega, by omega, by exact rfl, 0, rfl⟩
              case round =>
                clear hlk z
                obtain ⟨k, s, hk, rfl, rfl, hs0, hs1, Hs, z, rfl⟩ := hrel
                by_cases hlk : k < m
                · obtain ⟨y1, y2, b, o, hx, wf1, wf2, wf3, wf4, hAe, hbB, f0, f1⟩ := K6.out.rp.at_ hlk
                  dsimp only at hx hAe
                  have hsx := Hsm.out _ _ hx
                  dsimp only at hsx
                  obtain ⟨hsx1, hsx2, hsx3⟩ := hsx
                  have Hx := Lib.hid hx; clear hx
                  subst hAe
                  have hsb : s + y2 ≤ 4096 * ((k : Int) + 1) := by omega
                  go_wp2_with fail
                  go_roundw
                  case rel => exact ⟨k + 1, s + y2, by omega, by go_num, by go_num, by omega, by omega, by refine Lib.hid ?_; rw [sumL_step Hx.out, Hs.out], z, rfl⟩
                  case measure => simp [intOf]; omega
                · have hkm : k = m := by omega
                  have Hs' : Hid (s = sumL ps) := by
                    refine Lib.hid (Hs.out.trans ?_)
                    rw [List.take_of_length_le (by have := K6.out.r0.1; dsimp only at this; omega)]
                  clear hkm Hs
                  have hs2 : s ≤ 1228800 := by omega
                  clear hs1
                  go_wp2_with fail
                  go_loopw [13, 15] (fun v i wr => ∃ (k : Nat) (s : Int), k ≤ m6 ∧ i = .int .i64 k ∧ v = .int .i64 s ∧ 0 ≤ s ∧ s ≤ 4096 * (k : Int) ∧ Hid (s = sumL (R.take k)) ∧ ∃ z, wr = w6.drewN z) (fun _ i _ => m6 - (intOf i).toNat)
                  case atStart => exact ⟨0, 0, Nat.zero_le _, rfl, rfl, by omega, by omega, by exact rfl, z, rfl⟩
                  case round =>
                    clear hlk z hk hs0
                    obtain ⟨k, s2, hk, rfl, rfl, hs0, hs1, Hs, z, rfl⟩ := hrel
                    by_cases hlk : k < m6
                    · obtain ⟨y1, y2, b, o, hx, wf1, wf2, wf3, wf4, hAe, hbB, f0, f1⟩ := HR6.out.at_ hlk
                      have hsx := Hsm6.out _ _ hx
                      dsimp only at hsx
                      obtain ⟨hsx1, hsx2, hsx3⟩ := hsx
                      have Hx := Lib.hid hx; clear hx
                      subst hAe
                      have hsb : s2 + y2 ≤ 4096 * ((k : Int) + 1) := by omega
                      go_wp2_with fail
                      go_roundw
                      case rel => exact ⟨k + 1, s2 + y2, by omega, by go_num, by go_num, by omega, by omega, by refine Lib.hid ?_; rw [sumL_step Hx.out, Hs.out], z, rfl⟩
                      case measure => simp [intOf]; omega
                    · have hkm : k = m6 := by omega
                      have hs3 : s2 = s := by
                        rw [Hs.out, Hs'.out, List.take_of_length_le (by have := HR6.out.1; omega), Hsum.out]
                      clear hkm Hs
                      subst hs3
                      go_wp2_with fail
                      refine (check_any fst nn A6 m6 c6 R B l d qs _ (HR6.out.dn z) (K6.out.drewN z).rq (by omega) (by omega)).mono ?_
                      rw [Hck'.out, he]
                      rintro e w7 ⟨rfl, hb7⟩
                      go_wp2_with fail
                      refine (lives_any _).mono ?_
                      rintro e w8 ⟨rfl, hb8⟩
                      go_wp2
                      go_ret
                      exact ⟨rfl, (((K6.out.drewN z).next hb7).next hb8).bel⟩
end Go.Proofs.Ytkifpnhijdcjlaa
