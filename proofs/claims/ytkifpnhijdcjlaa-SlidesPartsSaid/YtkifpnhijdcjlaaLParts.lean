/- The law SlidesParts, walked. -/
import Derived.Test.YtkifpnhijdcjlaaQ4
namespace Go.Proofs.Ytkifpnhijdcjlaa
open Go.RowKit

theorem idx_of (f : Int) (m : Nat) (h : 0 < m) (hm : m ≤ 1000) : ∃ i : Nat, i < m ∧ wrap64 ((IntKind.u64.wrap f).tmod (m : Int)) = (i : Int) := by
  have h0 : 0 ≤ IntKind.u64.wrap f := by simp [IntKind.wrap, IntKind.signed, IntKind.bits]; omega
  generalize IntKind.u64.wrap f = x at *
  have h1 : 0 ≤ x.tmod (m : Int) := Int.tmod_nonneg _ h0
  have h2 : x.tmod (m : Int) < m := Int.tmod_lt_of_pos _ (by omega)
  generalize x.tmod (m : Int) = y at *
  refine ⟨y.toNat, by omega, ?_⟩
  unfold wrap64; omega

set_option maxRecDepth 100000 in
set_option maxHeartbeats 8000000 in
theorem lawParts_any (first n : Int) (A : Option Addr) (m c : Nat) (ps : RunL) (B : Option Addr) (l d : Nat) (qs : RunL) (f : Int) (w : World) (hr : Runs w w.heap.size A m ps) (hq : Runs w w.heap.size B l qs) (hm : m ≤ maxLen) (hl : l ≤ maxLen)
    (hf : I64 f) :
    Calls Try.prog 9 #[fieldV first n A m c B l d, .int .i64 f] w fun e w' => e = .returned (.bool true) ∧ Below w.heap.size w w' := by
  have HK : Hid (Kep w ⟨first, n, A, m, c, ps, B, l, d, qs⟩ [] (w.alloc (.cells #[.int .i64 first, .int .i64 n, .slice A m c, .slice B l d] 31))) := Kep.new (f := ⟨first, n, A, m, c, ps, B, l, d, qs⟩) hr hq
  have hg := may_any first n A m c ps B l d qs
  have Hg := Lib.hid (fun w h1 h2 => hg w h1 h2 hm hl)
  unfold fieldV at *
  unfold I64 at hf
  obtain ⟨hf1, hf2⟩ := hf
  clear hg
  cases hmay : mayB m l first n ps qs
  · rw [hmay] at Hg
    clear hr hq hmay
    go_enter Try.func9, Try.ntmps9
    go_wp2_with fail
    refine (Hg.out _ HK.out.rp HK.out.rq).mono ?_
    rintro e w1 ⟨rfl, hb1⟩
    go_wp2_with fail
    refine (lives_any _).mono ?_
    rintro e w2 ⟨rfl, hb2⟩
    go_wp2
    go_ret
    exact ⟨rfl, ((HK.out.next hb1).next hb2).bel⟩
  · obtain ⟨hm3, hl3, hn6, hck⟩ := mayB_parts hmay
    obtain ⟨c1, c2, c3, c4, c5, c6⟩ := check_parts hck
    obtain ⟨fst, rfl⟩ : ∃ fst : Nat, first = (fst : Int) := ⟨first.toNat, by omega⟩
    obtain ⟨nn, rfl⟩ : ∃ nn : Nat, n = (nn : Int) := ⟨n.toNat, by omega⟩
    have hck2 : checkB fst nn [] qs = true := by unfold checkB; rw [c5, decide_eq_true c1, decide_eq_true c2, decide_eq_true c3]; rfl
    have hrl := regions_len (a := (fst : Int)) (n := nn) (qs := qs)
    have Hrm := Lib.hid (regions_mem c5 c2)
    have Hck2 := Lib.hid hck2
    rw [hmay] at Hg
    have Hck := Lib.hid hck
    have Hpc := Lib.hid (fun (r : Int × Int) (hr : r ∈ regionsL fst nn qs) => And.intro (parts_check hck hr) (parts_next hck hr))
    clear hr hq hmay c4 c5 c6 hck2 hck
    go_enter Try.func9, Try.ntmps9
    go_wp2_with fail
    refine (Hg.out _ HK.out.rp HK.out.rq).mono ?_
    generalize w.alloc (.cells #[.int .i64 (fst : Int), .int .i64 (nn : Int), .slice A m c, .slice B l d] 31) = wx at *
    rintro e w1 ⟨rfl, hb1⟩
    have K1 := Lib.hid (HK.out.next hb1)
    clear hb1 HK Hg
    obtain ⟨x0, x1, x2, x3⟩ := K1.out.cells
    have hlt := K1.out.lt
    have he : errB true = 0 := rfl
    go_wp2_with fail
    refine (Regions_any fst nn B l d qs _ K1.out.rq (by omega)).mono ?_
    rintro e w2 ⟨A2, m2, d2, rfl, ho2, hb2⟩
    rw [Hck2.out] at ho2 ⊢
    rw [if_pos rfl] at ho2
    rw [he]
    have HR2 := Lib.hid ho2.runs
    have K2 := Lib.hid (K1.out.next hb2)
    clear ho2 hb2 x0 x1 x2 x3 hlt K1
    obtain ⟨x0, x1, x2, x3⟩ := K2.out.cells
    have hlt := K2.out.lt
    have hm2 : m2 ≤ 301 := by have := HR2.out.1; have := K2.out.rq.1; dsimp only at this; omega
    clear hrl
    generalize regionsL (fst : Int) nn qs = rs at *
    by_cases hm0 : m2 = 0
    · subst hm0
      go_wp2_with fail
      refine (lives_any _).mono ?_
      rintro e w4 ⟨rfl, hb4⟩
      go_wp2
      go_ret
      exact ⟨rfl, (K2.out.next hb4).bel⟩
    · have e1 : decide ((m2 : Int) = 0) = false := decide_eq_false (by omega)
      have e2 : ((m2 : Int) == 0) = false := by simp; omega
      have e3 : decide (m2 = 0) = false := decide_eq_false hm0
      have e4 : (m2 == 0) = false := by simpa using hm0
      obtain ⟨i, hi, hie⟩ := idx_of f m2 (by omega) (by omega)
      obtain ⟨r1, r2, b, o, hx, v1, v2, v3, v4, hAe, hbB, f0, f1⟩ := HR2.out.at_ hi
      subst hAe
      obtain ⟨j1, j2, j3⟩ := Hrm.out _ (List.mem_of_getElem? hx)
      obtain ⟨p1, p2⟩ := Hpc.out _ (List.mem_of_getElem? hx)
      dsimp only at j1 j2 j3 p1 p2
      have Hp1 := Lib.hid p1
      have Hp2 := Lib.hid p2
      clear hx p1 p2 Hpc
      go_wp2_with fail
      clear hie e1 e2 e3 e4 f0 f1 x0 x1 x2 x3 hlt
      have K3 := Lib.hid (K2.out.alloc (.cells #[.int .i64 r1, .int .i64 r2] 39))
      have hz := heap_alloc_new w2 (.cells #[.int .i64 r1, .int .i64 r2] 39)
      have z03 := cell_of_row _ _ 0 _ _ _ hz
      have z13 := cell_of_row _ _ 1 _ _ _ hz
      have hx3 : w2.heap.size < (w2.alloc (.cells #[.int .i64 r1, .int .i64 r2] 39)).heap.size := by simp
      clear hz K2 HR2
      generalize w2.alloc (.cells #[.int .i64 r1, .int .i64 r2] 39) = w3 at *
      have z03 : w3.cell? ⟨w2.heap.size, 0, none⟩ = some (.int .i64 r1) := z03
      have z13 : w3.cell? ⟨w2.heap.size, 1, none⟩ = some (.int .i64 r2) := z13
      go_loopw [8, 10] (fun v i wr => ∃ (k : Nat) (out : RunL) (A' : Option Addr) (c' : Nat), k ≤ m ∧ i = .int .i64 k ∧ v = .slice A' out.length c' ∧ out.length ≤ k ∧ Hid (Own wr w3.heap.size (.slice A' out.length c') out) ∧ Hid (out = fromL r1 (ps.take k)) ∧ Below w3.heap.size w3 wr) (fun _ i _ => m - (intOf i).toNat)
      case atStart => exact ⟨0, [], none, 0, Nat.zero_le _, rfl, rfl, by simp, Own.nil _ _, rfl, Below.refl _ _⟩
      case round =>
        obtain ⟨k, out, A', c', hk, rfl, rfl, hok, Ho, Hw, hb⟩ := hrel
        have K4 := Lib.hid (K3.out.next hb)
        obtain ⟨x0, x1, x2, x3⟩ := K4.out.cells
        have hlt := K4.out.lt
        have y0 := (hb.cell (p := ⟨w2.heap.size, 0, none⟩) hx3).trans z03
        have y1 := (hb.cell (p := ⟨w2.heap.size, 1, none⟩) hx3).trans z13
        have hxr : w2.heap.size < wr.heap.size := World.block_lt_of_cell? wr _ y0
        by_cases hlk : k < m
        · obtain ⟨y1', y2', b, o, hx, wf1, wf2, wf3, wf4, hAe, hbB, g0, g1⟩ := K4.out.rp.at_ hlk
          dsimp only at hx hAe
          have hst := fromL_step (x := r1) hx
          have Hx := Lib.hid hx; clear hx
          subst hAe
          by_cases hge : r1 ≤ y1'
          · rw [if_pos hge] at hst
            have Hst := Lib.hid hst
            clear hst
            have d1 := decide_eq_true hge
            go_wp2_with fail
            go_quiet (fail)
            obtain ⟨wd, hwd⟩ : ∃ wd, wd = wr.drewN nq := ⟨_, rfl⟩
            have hbd : Below w3.heap.size w3 wd := by rw [hwd]; exact below_drewN hb _
            have Hod : Hid (Own wd w3.heap.size (.slice A' out.length c') out) := by rw [hwd]; exact Ho.out
            have Kd := Lib.hid (K4.out.drewN nq)
            rw [← hwd] at Kd
            have p0 : wd.cell? ⟨b, o + k * 2, none⟩ = some (.int .i64 y1') := by rw [hwd]; exact g0
            have p1 : wd.cell? ⟨b, o + k * 2 + 1, none⟩ = some (.int .i64 y2') := by rw [hwd]; exact g1
            rw [← hwd]
            clear hwd hb Ho K4 g0 g1 x0 x1 x2 x3 y0 y1 hbB hxr hlt
            obtain ⟨x0, x1, x2, x3⟩ := Kd.out.cells
            have hsz := hbd.size
            have hlaid := Runs.lay (w := wd) (H := wd.heap.size) (a := y1') (b := y2') rfl (by omega) (by omega) (by omega) (by omega)
            have ho2 := Hod.out.alloc (.cells #[.int .i64 y1', .int .i64 y2'] 39)
            have hf0 : ∀ (g : Nat), (Value.slice A' out.length c').ownBlock = some g → w3.heap.size ≤ g ∧ g < wd.heap.size := Hod.out.1.lt
            have Hf0 := Lib.hid hf0
            clear hf0
            go_wp2_with (at_builtin; refine wpList_app_runs rfl _ _ rfl w3.heap.size (.slice A' out.length c') out (by rfl) ho2 (some ⟨wd.heap.size, 0, none⟩) 1 1 [(y1', y2')] (by rfl) hlaid (by omega) (by simp; omega) ?_; intro A3 c3 w9 k1 k2 k3)
            have hb3 : Below w3.heap.size w3 w9 := (hbd.alloc hsz _).grown k2 (by simp; omega) (fun g hg => (Hf0.out g hg).1)
            go_roundw
            case rel => exact ⟨k + 1, out ++ [(y1', y2')], A3, c3, by omega, by go_num, by simp, by simp; omega, by rw [List.length_append]; exact k1, by rw [Hst.out, ← Hw.out]; exact rfl, hb3⟩
            case measure => simp [intOf]; omega
          · rw [if_neg hge] at hst
            have Hst := Lib.hid hst
            clear hst
            have d1 := decide_eq_false hge
            go_wp2_with fail
            go_quiet (fail)
            go_wp2_with fail
            go_roundw
            case rel => exact ⟨k + 1, out, A', c', by omega, by go_num, rfl, by omega, Ho, Lib.hid (by rw [Hst.out, ← Hw.out, List.append_nil]), below_drewN hb _⟩
            case measure => simp [intOf]; omega
        · have hfin : Hid (out = fromL r1 ps) := by
            refine Lib.hid (Hw.out.trans ?_)
            rw [List.take_of_length_le (by have := K4.out.rp.1; dsimp only at this; omega)]
          have hokP : out.length ≤ 300 := by omega
          obtain ⟨oP, hoP⟩ : ∃ x, x = out := ⟨_, rfl⟩
          subst hoP
          obtain ⟨aP, haP⟩ : ∃ x, x = A' := ⟨_, rfl⟩
          subst haP
          obtain ⟨cP, hcP⟩ : ∃ x, x = c' := ⟨_, rfl⟩
          subst hcP
          have HfP := Lib.hid hfin.out
          have HP4 := Lib.hid Ho.out.runs
          clear hfin hok
          obtain ⟨w4, hw4⟩ : ∃ w4, w4 = wr := ⟨_, rfl⟩
          subst hw4
          have hx4 := hxr
          have z04 := y0
          have z14 := y1
          have Kw4 := K4
          go_wp2_with fail
          clear x0 x1 x2 x3 hlt y0 y1 hxr K4 Ho Hw
          go_loopw [9, 11] (fun v i wr => ∃ (k : Nat) (out : RunL) (A' : Option Addr) (c' : Nat), k ≤ l ∧ i = .int .i64 k ∧ v = .slice A' out.length c' ∧ out.length ≤ k ∧ Hid (Own wr w4.heap.size (.slice A' out.length c') out) ∧ Hid (out = fromL r1 (qs.take k)) ∧ Below w4.heap.size w4 wr) (fun _ i _ => l - (intOf i).toNat)
          case atStart => exact ⟨0, [], none, 0, Nat.zero_le _, rfl, rfl, by simp, Own.nil _ _, rfl, Below.refl _ _⟩
          case round =>
            obtain ⟨k, out, A', c', hk, rfl, rfl, hok, Ho, Hw, hb⟩ := hrel
            have K5 := Lib.hid (Kw4.out.next hb)
            obtain ⟨x0, x1, x2, x3⟩ := K5.out.cells
            have hlt := K5.out.lt
            have y0 := (hb.cell (p := ⟨w2.heap.size, 0, none⟩) hx4).trans z04
            have y1 := (hb.cell (p := ⟨w2.heap.size, 1, none⟩) hx4).trans z14
            have hxr : w2.heap.size < wr.heap.size := World.block_lt_of_cell? wr _ y0
            by_cases hlk : k < l
            · obtain ⟨y1', y2', b, o, hx, wf1, wf2, wf3, wf4, hAe, hbB, g0, g1⟩ := K5.out.rq.at_ hlk
              dsimp only at hx hAe
              have hst := fromL_step (x := r1) hx
              have Hx := Lib.hid hx; clear hx
              subst hAe
              by_cases hge : r1 ≤ y1'
              · rw [if_pos hge] at hst
                have Hst := Lib.hid hst
                clear hst
                have d1 := decide_eq_true hge
                go_wp2_with fail
                go_quiet (fail)
                obtain ⟨wd, hwd⟩ : ∃ wd, wd = wr.drewN nq := ⟨_, rfl⟩
                have hbd : Below w4.heap.size w4 wd := by rw [hwd]; exact below_drewN hb _
                have Hod : Hid (Own wd w4.heap.size (.slice A' out.length c') out) := by rw [hwd]; exact Ho.out
                have Kd := Lib.hid (K5.out.drewN nq)
                rw [← hwd] at Kd
                have p0 : wd.cell? ⟨b, o + k * 2, none⟩ = some (.int .i64 y1') := by rw [hwd]; exact g0
                have p1 : wd.cell? ⟨b, o + k * 2 + 1, none⟩ = some (.int .i64 y2') := by rw [hwd]; exact g1
                rw [← hwd]
                clear hwd hb Ho K5 g0 g1 x0 x1 x2 x3 y0 y1 hbB hxr hlt
                obtain ⟨x0, x1, x2, x3⟩ := Kd.out.cells
                have hsz := hbd.size
                have hlaid := Runs.lay (w := wd) (H := wd.heap.size) (a := y1') (b := y2') rfl (by omega) (by omega) (by omega) (by omega)
                have ho2 := Hod.out.alloc (.cells #[.int .i64 y1', .int .i64 y2'] 39)
                have hf0 : ∀ (g : Nat), (Value.slice A' out.length c').ownBlock = some g → w4.heap.size ≤ g ∧ g < wd.heap.size := Hod.out.1.lt
                have Hf0 := Lib.hid hf0
                clear hf0
                go_wp2_with (at_builtin; refine wpList_app_runs rfl _ _ rfl w4.heap.size (.slice A' out.length c') out (by rfl) ho2 (some ⟨wd.heap.size, 0, none⟩) 1 1 [(y1', y2')] (by rfl) hlaid (by omega) (by simp; omega) ?_; intro A3 c3 w9 k1 k2 k3)
                have hb3 : Below w4.heap.size w4 w9 := (hbd.alloc hsz _).grown k2 (by simp; omega) (fun g hg => (Hf0.out g hg).1)
                go_roundw
                case rel => exact ⟨k + 1, out ++ [(y1', y2')], A3, c3, by omega, by go_num, by simp, by simp; omega, by rw [List.length_append]; exact k1, by rw [Hst.out, ← Hw.out]; exact rfl, hb3⟩
                case measure => simp [intOf]; omega
              · rw [if_neg hge] at hst
                have Hst := Lib.hid hst
                clear hst
                have d1 := decide_eq_false hge
                go_wp2_with fail
                go_quiet (fail)
                go_wp2_with fail
                go_roundw
                case rel => exact ⟨k + 1, out, A', c', by omega, by go_num, rfl, by omega, Ho, Lib.hid (by rw [Hst.out, ← Hw.out, List.append_nil]), below_drewN hb _⟩
                case measure => simp [intOf]; omega
            · have hfin : Hid (out = fromL r1 qs) := by
                refine Lib.hid (Hw.out.trans ?_)
                rw [List.take_of_length_le (by have := K5.out.rq.1; dsimp only at this; omega)]
              have hokQ : out.length ≤ 300 := by omega
              have HQ5 := Lib.hid Ho.out.runs
              have HP5 := Lib.hid (HP4.out.nx hb)
              have HfQ := Lib.hid hfin.out
              have Hlt := Lib.hid hxr
              clear Ho Hw HP4 Kw4 hb hok hfin
              go_wp2_with fail
              refine (Next_any fst nn r1 A m c ps B l d qs _ K5.out.rp K5.out.rq (by omega) (by omega)).mono ?_
              rintro e w6 ⟨rfl, hb6⟩
              rw [mv_two, Hck.out, he]
              have hc6 := hb6.trans (((Below.refl w6.heap.size w6).alloc (Nat.le_refl _) (.cells #[.int .i64 ((nextB fst nn ps qs r1).getD (0, 0, 0)).1, .int .i64 ((nextB fst nn ps qs r1).getD (0, 0, 0)).2.1, .int .i64 ((nextB fst nn ps qs r1).getD (0, 0, 0)).2.2] 24)).mono hb6.size)
              have K7 := Lib.hid ((K5.out.next hb6).newMove (nextB fst nn ps qs r1))
              have HP7 := Lib.hid (HP5.out.nx hc6)
              have HQ7 := Lib.hid (HQ5.out.nx hc6)
              have K6 := Lib.hid (K5.out.next hb6)
              have v0' := (hb6.cell (p := ⟨w2.heap.size, 0, none⟩) Hlt.out).trans y0
              have vl := World.block_lt_of_cell? w6 _ v0'
              dsimp only at vl
              clear hc6 hb6 x0 x1 x2 x3 hlt y0 y1 hxr K5 HP5 HQ5 hx4 z04 z14
              obtain ⟨x0, x1, x2, x3⟩ := K6.out.cells
              have hlt := K6.out.lt
              go_wp2_with fail
              generalize w6.alloc (.cells #[.int .i64 ((nextB fst nn ps qs r1).getD (0, 0, 0)).1, .int .i64 ((nextB fst nn ps qs r1).getD (0, 0, 0)).2.1, .int .i64 ((nextB fst nn ps qs r1).getD (0, 0, 0)).2.2] 24) = w7 at *
              clear x0 x1 x2 x3 hlt v0' vl K6
              generalize w6.heap.size = G at *
              refine (Next_any r1 nn r1 aP oP.length cP oP A' out.length c' out _ HP7.out HQ7.out (by omega) (by omega)).mono ?_
              have g1 : checkB r1 nn oP out = true := by rw [HfP.out, HfQ.out]; exact Hp1.out
              have g2 : nextB r1 nn oP out r1 = nextB fst nn ps qs r1 := by rw [HfP.out, HfQ.out]; exact Hp2.out
              rw [g1, g2]
              clear g1 g2
              rintro e w8 ⟨rfl, hb8⟩
              rw [mv_two, he]
              have K8 := Lib.hid (K7.out.next hb8)
              obtain ⟨gG, m0, m1, m3⟩ := K8.out.mv (G, nextB fst nn ps qs r1) (by simp)
              have hGl : G < w8.heap.size := World.block_lt_of_cell? w8 _ m0
              dsimp only at m0 m1 m3 gG
              clear HP7 HQ7 hb8
              generalize (nextB fst nn ps qs r1).isSome = b1 at *
              go_wp2_with fail
              refine (lives_any _).mono ?_
              rintro e w9 ⟨rfl, hb9⟩
              go_wp2
              go_ret
              exact ⟨rfl, ((K8.out.alloc _).next hb9).bel⟩
end Go.Proofs.Ytkifpnhijdcjlaa
