/- The law SlidesFull, walked. -/
import Derived.Test.YtkifpnhijdcjlaaQ3
namespace Go.Proofs.Ytkifpnhijdcjlaa
open Go.RowKit

theorem stepB_cases {first n f : Int} {ps qs : RunL} (hck : checkB first n ps qs = true) :
    (∃ f' a t l r p, Mv first n ps qs f' a t l r p ∧ (f' = f ∨ f' = first ∧ nextB first n ps qs f = none) ∧ stepB first n ps qs f = (some (a, t, l), t + l, false)) ∨
    (nextB first n ps qs f = none ∧ nextB first n ps qs first = none ∧ stepB first n ps qs f = (none, first, true)) := by
  have hs := stepB_next (f := f) hck
  cases h1 : nextB first n ps qs f with
  | some m =>
    obtain ⟨a, t, l⟩ := m
    rw [h1] at hs
    obtain ⟨r, p, hm⟩ := nextB_spec hck h1
    exact .inl ⟨f, a, t, l, r, p, hm, .inl rfl, hs⟩
  | none =>
    rw [h1] at hs
    cases h2 : nextB first n ps qs first with
    | some m =>
      obtain ⟨a, t, l⟩ := m
      rw [h2] at hs
      obtain ⟨r, p, hm⟩ := nextB_spec hck h2
      exact .inl ⟨first, a, t, l, r, p, hm, .inr ⟨rfl, rfl⟩, hs⟩
    | none =>
      rw [h2] at hs
      exact .inr ⟨rfl, rfl, hs⟩
theorem Mv.same {first n f a t l : Int} {ps qs : RunL} {r p : Int × Int} (hck : checkB first n ps qs = true) (h : Mv first n ps qs f a t l r p) {s : Int × Int} (hs : s ∈ regionsL first n qs) (h1 : s.1 ≤ a) (h2 : a < s.1 + s.2) : s.1 ≤ t := by
  obtain ⟨c1, c2, c3, c4, c5, c6⟩ := check_parts hck
  have hlo := h.lo
  have hta := h.ta
  have hhi := h.hi
  have hl1 := h.l1
  have hlen := h.len
  rw [regions_same (regions_rising c5 c2) hs h.reg (b := a) h1 h2 (by omega) (by omega)]
  exact hlo

set_option maxRecDepth 100000 in
set_option maxHeartbeats 8000000 in
theorem lawFull_any (first n : Int) (A : Option Addr) (m c : Nat) (ps : RunL) (B : Option Addr) (l d : Nat) (qs : RunL) (f : Int) (w : World) (hr : Runs w w.heap.size A m ps) (hq : Runs w w.heap.size B l qs) (hm : m ≤ maxLen) (hl : l ≤ maxLen)
    (hf : I64 f) :
    Calls Try.prog 8 #[fieldV first n A m c B l d, .int .i64 f] w fun e w' => e = .returned (.bool true) ∧ Below w.heap.size w w' := by
  have HK : Hid (Kep w ⟨first, n, A, m, c, ps, B, l, d, qs⟩ [] (w.alloc (.cells #[.int .i64 first, .int .i64 n, .slice A m c, .slice B l d] 31))) := Kep.new (f := ⟨first, n, A, m, c, ps, B, l, d, qs⟩) hr hq
  have hg := may_any first n A m c ps B l d qs
  have hmk := fun (nn : Nat) => marks_any first nn A m c ps B l d qs
  have Hg := Lib.hid (fun w h1 h2 => hg w h1 h2 hm hl)
  unfold fieldV at *
  unfold I64 at hf
  obtain ⟨hf1, hf2⟩ := hf
  clear hg
  cases hmay : mayB m l first n ps qs
  · rw [hmay] at Hg
    clear hr hq hmay
    go_enter Try.func8, Try.ntmps8
    go_wp2_with fail
    refine (Hg.out _ HK.out.rp HK.out.rq).mono ?_
    rintro e w1 ⟨rfl, hb1⟩
    go_wp2_with fail
    refine (lives_any _).mono ?_
    rintro e w2 ⟨rfl, hb2⟩
    go_wp2
    go_ret
    exact ⟨rfl, ((HK.out.next hb1).next hb2).bel⟩
  · obtain ⟨hm3, hl3, hn6, hck⟩ := mayB_parts hmay
    obtain ⟨c1, c2, c3, c4, c5, c6⟩ := check_parts hck
    have Hmk := Lib.hid (fun nn w h1 h2 h3 => hmk nn w h1 h2 hm3 hl3 h3)
    clear hmk
    obtain ⟨fst, rfl⟩ : ∃ fst : Nat, first = (fst : Int) := ⟨first.toNat, by omega⟩
    obtain ⟨nn, rfl⟩ : ∃ nn : Nat, n = (nn : Int) := ⟨n.toNat, by omega⟩
    have hck2 : checkB fst nn [] qs = true := by unfold checkB; rw [c5, decide_eq_true c1, decide_eq_true c2, decide_eq_true c3]; rfl
    have hrl := regions_len (a := (fst : Int)) (n := nn) (qs := qs)
    have Hrm := Lib.hid (regions_mem c5 c2)
    have Hck2 := Lib.hid hck2
    rw [hmay] at Hg
    have Hck := Lib.hid hck
    clear hr hq hmay c4 c5 c6 hck2
    go_enter Try.func8, Try.ntmps8
    go_wp2_with fail
    refine (Hg.out _ HK.out.rp HK.out.rq).mono ?_
    generalize w.alloc (.cells #[.int .i64 (fst : Int), .int .i64 (nn : Int), .slice A m c, .slice B l d] 31) = wx at *
    rintro e w1 ⟨rfl, hb1⟩
    have K1 := Lib.hid (HK.out.next hb1)
    clear hb1 HK Hg
    obtain ⟨x0, x1, x2, x3⟩ := K1.out.cells
    have hlt := K1.out.lt
    have he : errB true = 0 := rfl
    go_wp2_with fail
    refine (Regions_any fst nn B l d qs _ K1.out.rq (by omega)).mono ?_
    rintro e w2 ⟨A2, m2, d2, rfl, ho2, hb2⟩
    rw [Hck2.out] at ho2 ⊢
    rw [if_pos rfl] at ho2
    rw [he]
    have HR2 := Lib.hid ho2.runs
    have K2 := Lib.hid (K1.out.next hb2)
    clear ho2 hb2 x0 x1 x2 x3 hlt K1
    obtain ⟨x0, x1, x2, x3⟩ := K2.out.cells
    have hlt := K2.out.lt
    have hm2 : m2 ≤ 301 := by have := HR2.out.1; have := K2.out.rq.1; dsimp only at this; omega
    clear hrl
    go_wp2_with fail
    refine (Hmk.out nn _ K2.out.rp K2.out.rq Hck.out).mono ?_
    rintro e w3 ⟨g, rfl, hg, HI, hb3⟩
    have HI3 := Lib.hid HI
    have K3 := Lib.hid (K2.out.next hb3)
    have HR3 := Lib.hid (HR2.out.nx hb3)
    have hgl := HI.lt
    clear HI hb3 x0 x1 x2 x3 hlt K2 HR2 Hmk
    obtain ⟨x0, x1, x2, x3⟩ := K3.out.cells
    have hlt := K3.out.lt
    obtain ⟨F, hF⟩ : ∃ F, F = marksF ps qs := ⟨_, rfl⟩
    rw [← hF] at HI3
    have HF := Lib.hid hF
    clear hF
    go_wp2_with fail
    go_loopw [8, 9, 10] (fun a u i wr => ∃ (k : Nat) (fr us : Int), fst ≤ k ∧ k ≤ nn ∧ i = .int .i64 k ∧ a = .int .i64 fr ∧ u = .int .i64 us ∧ 0 ≤ fr ∧ fr ≤ k ∧ 0 ≤ us ∧ us ≤ k ∧ Hid (fr = 0 → ∀ j, fst ≤ j → j < k → F j ≠ 0) ∧ Hid (us = 0 → ∀ j, fst ≤ j → j < k → F j ≤ 0) ∧ ∃ z, wr = w3.drewN z) (fun _ _ i _ => nn - (intOf i).toNat)
    case atStart => exact ⟨fst, 0, 0, Nat.le_refl _, by omega, rfl, rfl, rfl, by omega, by omega, by omega, by omega, fun _ j h1 h2 => by omega, fun _ j h1 h2 => by omega, 0, rfl⟩
    case round =>
      obtain ⟨k, fr, us, hfk, hkn, rfl, rfl, rfl, hfr0, hfr1, hus0, hus1, HFr, HUs, z, rfl⟩ := hrel
      by_cases hlk : k < nn
      · obtain ⟨g0, g1⟩ := HI3.out.get (i := k) (by omega)
        rcases Int.lt_trichotomy (F k) 0 with hz | hz | hz
        · have HFr' : Hid (fr = 0 → ∀ j, fst ≤ j → j < k + 1 → F j ≠ 0) := fun h j h1 h2 => by
            by_cases hjk : j = k
            · rw [hjk]; omega
            · exact HFr.out h j h1 (by omega)
          have HUs' : Hid (us = 0 → ∀ j, fst ≤ j → j < k + 1 → F j ≤ 0) := fun h j h1 h2 => by
            by_cases hjk : j = k
            · rw [hjk]; omega
            · exact HUs.out h j h1 (by omega)
          clear HFr HUs
          obtain ⟨u, hu⟩ : ∃ u, F k = u := ⟨_, rfl⟩
          rw [hu] at g0 hz
          clear hu
          have e1 : decide (u = 0) = false := decide_eq_false (by omega)
          have e2 : decide (0 < u) = false := decide_eq_false (by omega)
          have e3 : (u == 0) = false := by simp; omega
          go_wp2_with fail
          go_roundw
          case rel => exact ⟨k + 1, fr, us, by omega, by omega, by go_num, rfl, rfl, by omega, by omega, by omega, by omega, HFr', HUs', z, rfl⟩
          case measure => simp [intOf]; omega
        · have HFr' : Hid (fr + 1 = 0 → ∀ j, fst ≤ j → j < k + 1 → F j ≠ 0) := fun h j h1 h2 => by omega
          have HUs' : Hid (us = 0 → ∀ j, fst ≤ j → j < k + 1 → F j ≤ 0) := fun h j h1 h2 => by
            by_cases hjk : j = k
            · rw [hjk]; omega
            · exact HUs.out h j h1 (by omega)
          clear HFr HUs
          rw [hz] at g0
          clear hz
          go_wp2_with fail
          go_roundw
          case rel => exact ⟨k + 1, fr + 1, us, by omega, by omega, by go_num, rfl, rfl, by omega, by omega, by omega, by omega, HFr', HUs', z, rfl⟩
          case measure => simp [intOf]; omega
        · have HFr' : Hid (fr = 0 → ∀ j, fst ≤ j → j < k + 1 → F j ≠ 0) := fun h j h1 h2 => by
            by_cases hjk : j = k
            · rw [hjk]; omega
            · exact HFr.out h j h1 (by omega)
          have HUs' : Hid (us + 1 = 0 → ∀ j, fst ≤ j → j < k + 1 → F j ≤ 0) := fun h j h1 h2 => by omega
          clear HFr HUs
          obtain ⟨u, hu⟩ : ∃ u, F k = u := ⟨_, rfl⟩
          rw [hu] at g0 hz
          clear hu
          have e1 : decide (u = 0) = false := decide_eq_false (by omega)
          have e2 : decide (0 < u) = true := decide_eq_true hz
          have e3 : (u == 0) = false := by simp; omega
          go_wp2_with fail
          go_roundw
          case rel => exact ⟨k + 1, fr, us + 1, by omega, by omega, by go_num, rfl, rfl, by omega, by omega, by omega, by omega, HFr', HUs', z, rfl⟩
          case measure => simp [intOf]; omega
      · go_wp2_with fail
        refine (Step_any fst nn f A m c ps B l d qs _ (K3.out.drewN z).rp (K3.out.drewN z).rq (by omega) (by omega)).mono ?_
        rintro e w4 ⟨rfl, hb4⟩
        rw [Hck.out, he]
        have K4 := Lib.hid ((K3.out.drewN z).next hb4)
        have HI4 := Lib.hid ((HI3.out.drewN z).below hb4 hgl)
        have HR4 := Lib.hid ((HR3.out.dn z).nx hb4)
        clear hb4 x0 x1 x2 x3 hlt K3 HI3 HR3 hgl
        obtain ⟨x0, x1, x2, x3⟩ := K4.out.cells
        have hlt := K4.out.lt
        rcases stepB_cases (f := f) Hck.out with ⟨f', a, t, lm, r, p, hmv, _, hst⟩ | ⟨hn1, hn2, hst⟩
        · rw [hst]
          dsimp only
          clear hst
          have hmz : mvV (some (a, t, lm)) = .agg #[.int .i64 a, .int .i64 t, .int .i64 lm] := rfl
          rw [hmz]
          have h1 := hmv.lo
          have h2 := hmv.hi
          have h3 := hmv.l1
          have h4 := hmv.len
          have h5 := hmv.ta
          have h7 := hmv.low
          have h8 := hmv.top
          have hpa := hmv.pa
          have hFt : ∀ j : Nat, t ≤ (j : Int) → (j : Int) < a → F j = 0 := fun j k1 k2 => by rw [HF.out]; exact hmv.zero Hck.out k1 k2
          have hFa : ∃ u : Int, 0 < u ∧ ∀ j : Nat, a ≤ (j : Int) → (j : Int) < a + lm → F j = u := by rw [HF.out]; exact hmv.mark Hck.out
          have hfr : fr ≠ 0 := fun h => HFr.out h t.toNat (by omega) (by omega) (hFt t.toNat (by omega) (by omega))
          have hus : us ≠ 0 := fun h => by
            obtain ⟨u, hu0, hu⟩ := hFa
            have := HUs.out h a.toNat (by omega) (by omega)
            rw [hu a.toNat (by omega) (by omega)] at this; omega
          have HT := Lib.hid (fun (s : Int × Int) (hs : s ∈ regionsL fst nn qs) (k1 : s.1 ≤ a) (k2 : a < s.1 + s.2) => hmv.same Hck.out hs k1 k2)
          have HFt := Lib.hid hFt
          have e1 : decide (fr = 0) = false := decide_eq_false hfr
          have e2 : (fr == 0) = false := by simpa using hfr
          have e3 : decide (us = 0) = false := decide_eq_false hus
          have e4 : (us == 0) = false := by simpa using hus
          have Kx := Lib.hid (K4.out.newMove (some (a, t, lm)))
          have K5 : Hid (Kep w ⟨fst, nn, A, m, c, ps, B, l, d, qs⟩ [(w4.heap.size, some (a, t, lm))] (w4.alloc (.cells #[.int .i64 a, .int .i64 t, .int .i64 lm] 24))) := Kx
          have HI5 := Lib.hid (HI4.out.below ((Below.refl _ _).alloc (Nat.le_refl _) (.cells #[.int .i64 a, .int .i64 t, .int .i64 lm] 24)) HI4.out.lt)
          have HR5 := Lib.hid (HR4.out.nx ((Below.refl _ _).alloc (Nat.le_refl _) (.cells #[.int .i64 a, .int .i64 t, .int .i64 lm] 24)))
          have ha0 : 0 ≤ a := by omega
          have ha4 : a ≤ 4096 := by omega
          have Hta := Lib.hid h5
          clear hFt hFa hfr hus hmv h1 h2 h3 h4 h5 h7 h8 hpa Kx HFr HUs
          go_wp2_with fail
          clear e1 e2 e3 e4 x0 x1 x2 x3 hlt K4 HI4 HR4 hfr0 hfr1 hus0 hus1
          generalize w4.alloc (.cells #[.int .i64 a, .int .i64 t, .int .i64 lm] 24) = w5 at *
          generalize w4.heap.size = G at *
          obtain ⟨hG, m0, m1, m3⟩ := K5.out.mv (G, some (a, t, lm)) (by simp)
          have hGl : G < w5.heap.size := World.block_lt_of_cell? w5 _ m0
          dsimp only at hG
          have m0' : w5.cell? ⟨G, 0, none⟩ = some (.int .i64 a) := m0
          clear m0 m1 m3
          generalize hrs : regionsL (fst : Int) nn qs = rs at *
          clear hrs
          go_loopw [15] (fun i wr => ∃ (k : Nat), k ≤ m2 ∧ i = .int .i64 k ∧ ∃ z, wr = w5.drewN z) (fun i _ => m2 - (intOf i).toNat)
          case atStart => exact ⟨0, Nat.zero_le _, rfl, 0, rfl⟩
          case round =>
            clear hlk hfk hkn z
            obtain ⟨k, hk, rfl, z, rfl⟩ := hrel
            by_cases hlk : k < m2
            · obtain ⟨x1, x2, b, o, hx, v1, v2, v3, v4, hAe, hbB, f0, f1⟩ := HR5.out.at_ hlk
              subst hAe
              have hmem := List.mem_of_getElem? hx
              obtain ⟨j1, j2, j3⟩ := Hrm.out _ hmem
              have HTx := Lib.hid (HT.out _ hmem)
              dsimp only at j1 j2 j3
              clear hx hmem
              obtain ⟨s1, rfl⟩ : ∃ s1 : Nat, x1 = (s1 : Int) := ⟨x1.toNat, by omega⟩
              obtain ⟨l1, rfl⟩ : ∃ l1 : Nat, x2 = (l1 : Int) := ⟨x2.toNat, by omega⟩
              go_wp2_with fail
              go_loopw [16, 17] (fun v i wr => ∃ (q : Nat) (ro : Int), s1 ≤ q ∧ q ≤ s1 + l1 ∧ i = .int .i64 q ∧ v = .int .i64 ro ∧ 0 ≤ ro ∧ ro ≤ q ∧ Hid (ro = 0 → ∀ j, s1 ≤ j → j < q → F j ≠ 0) ∧ ∃ z, wr = w5.drewN z) (fun _ i _ => s1 + l1 - (intOf i).toNat)
              case atStart => exact ⟨s1, 0, Nat.le_refl _, by omega, rfl, rfl, by omega, by omega, fun _ j h1 h2 => by omega, z, rfl⟩
              case round =>
                clear z
                obtain ⟨q, ro, hq1, hq2, rfl, rfl, hr0, hr1, Hro, z, rfl⟩ := hrel
                by_cases hlq : (q : Int) < (s1 : Int) + (l1 : Int)
                · have d1 := decide_eq_true hlq
                  obtain ⟨g0, g1⟩ := HI5.out.get (i := q) (by omega)
                  by_cases hz : F q = 0
                  · have Hro' : Hid (ro + 1 = 0 → ∀ j, s1 ≤ j → j < q + 1 → F j ≠ 0) := fun h j h1 h2 => by omega
                    rw [hz] at g0
                    clear hz Hro
                    go_wp2_with fail
                    go_quiet (fail)
                    go_wp2_with fail
                    go_roundw
                    case rel => exact ⟨q + 1, ro + 1, by omega, by omega, by go_num, rfl, by omega, by omega, Hro', _, by go_simp; rfl⟩
                    case measure => simp [intOf]; omega
                  · have Hro' : Hid (ro = 0 → ∀ j, s1 ≤ j → j < q + 1 → F j ≠ 0) := fun h j h1 h2 => by
                      by_cases hjk : j = q
                      · rw [hjk]; exact hz
                      · exact Hro.out h j h1 (by omega)
                    obtain ⟨u, hu⟩ : ∃ u, F q = u := ⟨_, rfl⟩
                    rw [hu] at g0 hz
                    have e1 : decide (u = 0) = false := decide_eq_false hz
                    have e3 : (u == 0) = false := by simpa using hz
                    clear hu hz Hro
                    go_wp2_with fail
                    go_quiet (fail)
                    go_wp2_with fail
                    go_roundw
                    case rel => exact ⟨q + 1, ro, by omega, by omega, by go_num, rfl, by omega, by omega, Hro', _, by go_simp; rfl⟩
                    case measure => simp [intOf]; omega
                · have d1 := decide_eq_false hlq
                  have hqe : q = s1 + l1 := by omega
                  by_cases hro : ro = 0
                  · have hout : a < (s1 : Int) ∨ (s1 : Int) + (l1 : Int) ≤ a := by
                      apply Decidable.byContradiction; intro hc
                      have h1 : (s1 : Int) ≤ t := HTx.out (by omega) (by omega)
                      have h2 := Hta.out
                      exact Hro.out hro t.toNat (by omega) (by omega) (HFt.out t.toNat (by omega) (by omega))
                    subst hro
                    clear hqe Hro
                    by_cases hlo : (s1 : Int) ≤ a
                    · have e1 := decide_eq_true hlo
                      have e2 : decide (a < (s1 : Int) + (l1 : Int)) = false := decide_eq_false (by omega)
                      clear hout
                      go_wp2_with fail
                      go_quiet (fail)
                      go_wp2_with fail
                      go_quiet (fail)
                      go_wp2_with fail
                      go_roundw
                      case rel => exact ⟨k + 1, by omega, by go_num, _, by go_simp; rfl⟩
                      case measure => simp [intOf]; omega
                    · have e1 := decide_eq_false hlo
                      clear hout
                      go_wp2_with fail
                      go_quiet (fail)
                      go_wp2_with fail
                      go_quiet (fail)
                      go_wp2_with fail
                      go_roundw
                      case rel => exact ⟨k + 1, by omega, by go_num, _, by go_simp; rfl⟩
                      case measure => simp [intOf]; omega
                  · have e1 : decide (ro = 0) = false := decide_eq_false hro
                    have e2 : (ro == 0) = false := by simpa using hro
                    clear hqe Hro
                    go_wp2_with fail
                    go_quiet (fail)
                    go_wp2_with fail
                    go_quiet (fail)
                    go_wp2_with fail
                    go_roundw
                    case rel => exact ⟨k + 1, by omega, by go_num, _, by go_simp; rfl⟩
                    case measure => simp [intOf]; omega
            · go_wp2_with fail
              refine (lives_any _).mono ?_
              rintro e w8 ⟨rfl, hb8⟩
              go_wp2
              go_ret
              exact ⟨rfl, ((K5.out.drewN z).next hb8).bel⟩
        · rw [hst]
          dsimp only
          clear hst hn1 hn2
          have hmz : mvV none = .agg #[.int .i64 0, .int .i64 0, .int .i64 0] := rfl
          rw [hmz]
          clear HFr HUs
          by_cases hfr : fr = 0
          · subst hfr
            go_wp2_with fail
            refine (lives_any _).mono ?_
            rintro e w6 ⟨rfl, hb6⟩
            go_wp2
            go_ret
            exact ⟨rfl, ((K4.out.alloc _).next hb6).bel⟩
          · have e1 : decide (fr = 0) = false := decide_eq_false hfr
            have e2 : (fr == 0) = false := by simpa using hfr
            by_cases hus : us = 0
            · subst hus
              go_wp2_with fail
              refine (lives_any _).mono ?_
              rintro e w6 ⟨rfl, hb6⟩
              go_wp2
              go_ret
              exact ⟨rfl, ((K4.out.alloc _).next hb6).bel⟩
            · have e3 : decide (us = 0) = false := decide_eq_false hus
              have e4 : (us == 0) = false := by simpa using hus
              go_wp2_with fail
              refine (lives_any _).mono ?_
              rintro e w6 ⟨rfl, hb6⟩
              go_wp2
              go_ret
              exact ⟨rfl, ((K4.out.alloc _).next hb6).bel⟩
end Go.Proofs.Ytkifpnhijdcjlaa
