/- The law SlidesEnd, walked. -/
import Derived.Test.YtkifpnhijdcjlaaQ5
import Derived.Test.YtkifpnhijdcjlaaLFull
import Derived.Deep.RegionHeld3
namespace Go.Proofs.Ytkifpnhijdcjlaa
open Go.RowKit

theorem Ints.other {w : World} {g h n i : Nat} {f : Nat → Int} {v : Value} (hi : Ints w g n f) (hn : g ≠ h) : Ints (w.setCell ⟨h, i, none⟩ v) g n f := by
  obtain ⟨cur, hh, r⟩ := hi
  have hn' : ¬ h = g := fun e => hn e.symm
  exact ⟨cur, by simp [World.setCell, Array.getElem?_modify, hn', hh], r⟩
theorem Own.other {w : World} {base h i : Nat} {v x : Value} {xs : RunL} (ho : Own w base v xs) (hn : h < base) : Own (w.setCell ⟨h, i, none⟩ x) base v xs := by
  refine ⟨ho.1.kept (row := some h) ⟨rfl, rfl, rfl, by simp [World.setCell], fun k hk hne => ?_⟩ ?_, ho.2⟩
  · have hn' : ¬ h = k := fun e => hne (by rw [e])
    simp [World.setCell, Array.getElem?_modify, hn']
  · cases hv : v.ownBlock with
    | none => exact .inl rfl
    | some g => exact .inr fun e => by injection e with e; have := (ho.1.lt g hv).1; omega

/-- what lies in memory while the steps are made. -/
structure EndW (w0 : World) (fd : Fld) (ms : List (Nat × MoveO)) (gT gL B nn : Nat) (F T : Nat → Int) (A : Option Addr) (c : Nat) (pcs : RunL) (w : World) : Prop where
  kep : Kep w0 fd ms w
  tt : Ints w gT nn T
  ll : Ints w gL nn F
  ow : Own w B (.slice A pcs.length c) pcs
  ne : gL ≠ gT
  gt : gT < B
  gl : gL < B
  g0 : w0.heap.size < gT
  bs : B ≤ w.heap.size
  far : ∀ x ∈ ms, x.1 ≠ gT
section
variable {w0 w w' : World} {fd : Fld} {ms : List (Nat × MoveO)} {gT gL B nn : Nat} {F T : Nat → Int} {A : Option Addr} {c : Nat} {pcs : RunL}
theorem EndW.next (h : EndW w0 fd ms gT gL B nn F T A c pcs w) (hb : Below w.heap.size w w') : EndW w0 fd ms gT gL B nn F T A c pcs w' :=
  ⟨h.kep.next hb, h.tt.below hb h.tt.lt, h.ll.below hb h.ll.lt, h.ow.below hb (Nat.le_refl _), h.ne, h.gt, h.gl, h.g0, Nat.le_trans h.bs hb.size, h.far⟩
theorem EndW.drewN (h : EndW w0 fd ms gT gL B nn F T A c pcs w) (k : Nat) : EndW w0 fd ms gT gL B nn F T A c pcs (w.drewN k) := h.next (below_drewN (Below.refl _ _) _)
theorem EndW.drew (h : EndW w0 fd ms gT gL B nn F T A c pcs w) : EndW w0 fd ms gT gL B nn F T A c pcs w.drew := h.next (Below.refl _ _).drew
theorem EndW.set (h : EndW w0 fd ms gT gL B nn F T A c pcs w) {i : Nat} (hi : i < nn) (v : Int) : EndW w0 fd ms gT gL B nn F (fun j => if j = i then v else T j) A c pcs (w.setCell ⟨gT, i, none⟩ (.int .i64 v)) :=
  ⟨h.kep.set h.g0 h.far, h.tt.set hi v, h.ll.other h.ne, h.ow.other h.gt, h.ne, h.gt, h.gl, h.g0, by simpa [World.setCell] using h.bs, h.far⟩
theorem EndW.congr {T' : Nat → Int} (h : EndW w0 fd ms gT gL B nn F T A c pcs w) (he : ∀ j, j < nn → T j = T' j) : EndW w0 fd ms gT gL B nn F T' A c pcs w :=
  ⟨h.kep, h.tt.congr he, h.ll, h.ow, h.ne, h.gt, h.gl, h.g0, h.bs, h.far⟩
theorem EndW.newMove (h : EndW w0 fd ms gT gL B nn F T A c pcs w) (o : MoveO) : EndW w0 fd ((w.heap.size, o) :: ms) gT gL B nn F T A c pcs (w.alloc (.cells #[.int .i64 (o.getD (0, 0, 0)).1, .int .i64 (o.getD (0, 0, 0)).2.1, .int .i64 (o.getD (0, 0, 0)).2.2] 24)) := by
  have h1 := h.next ((Below.refl w.heap.size w).alloc (Nat.le_refl _) (.cells #[.int .i64 (o.getD (0, 0, 0)).1, .int .i64 (o.getD (0, 0, 0)).2.1, .int .i64 (o.getD (0, 0, 0)).2.2] 24))
  refine ⟨h.kep.newMove o, h1.tt, h1.ll, h1.ow, h.ne, h.gt, h.gl, h.g0, h1.bs, fun x hx => ?_⟩
  rcases List.mem_cons.1 hx with rfl | hx
  · have := h.tt.lt; dsimp only; omega
  · exact h.far x hx
theorem EndW.drop {x : Nat × MoveO} (h : EndW w0 fd (x :: ms) gT gL B nn F T A c pcs w) : EndW w0 fd ms gT gL B nn F T A c pcs w :=
  ⟨⟨h.kep.bel, h.kep.lt, h.kep.box, h.kep.r0, h.kep.q0, fun y hy => h.kep.mv y (List.mem_cons_of_mem _ hy)⟩, h.tt, h.ll, h.ow, h.ne, h.gt, h.gl, h.g0, h.bs, fun y hy => h.far y (List.mem_cons_of_mem _ hy)⟩
theorem EndW.moved {A' : Option Addr} {c' : Nat} {pcs' : RunL} (h : EndW w0 fd ms gT gL B nn F T A c pcs w) (hb : Below w.heap.size w w') (ho : Own w' w.heap.size (.slice A' pcs'.length c') pcs') : EndW w0 fd ms gT gL B nn F T A' c' pcs' w' := by
  have h1 := h.next hb
  exact ⟨h1.kep, h1.tt, h1.ll, ho.lower h.bs, h.ne, h.gt, h.gl, h.g0, h1.bs, h.far⟩
end
/-- what the steps have come to. -/
structure EndL (first : Int) (nn : Nat) (qs pcs : RunL) (T : Nat → Int) (i : Nat) (cu : Int) (dn : Bool) : Prop where
  ck : checkB first nn pcs qs = true
  tags : Tags nn pcs T
  fin : dn = true → nextB first nn pcs qs first = none
  run : dn = false → Run first nn qs pcs i cu
def ini (F : Nat → Int) (k : Nat) : Nat → Int := fun j => if j < k ∧ 0 < F j then (j : Int) + 1 else 0

set_option maxRecDepth 100000 in
set_option maxHeartbeats 16000000 in
theorem lawEnd_any (first n : Int) (A : Option Addr) (m c : Nat) (ps : RunL) (B : Option Addr) (l d : Nat) (qs : RunL) (f : Int) (w : World) (hr : Runs w w.heap.size A m ps) (hq : Runs w w.heap.size B l qs) (hm : m ≤ maxLen) (hl : l ≤ maxLen)
    (hf : I64 f) :
    Calls Try.prog 6 #[fieldV first n A m c B l d, .int .i64 f] w fun e w' => e = .returned (.bool true) ∧ Below w.heap.size w w' := by
  have HK : Hid (Kep w ⟨first, n, A, m, c, ps, B, l, d, qs⟩ [] (w.alloc (.cells #[.int .i64 first, .int .i64 n, .slice A m c, .slice B l d] 31))) := Kep.new (f := ⟨first, n, A, m, c, ps, B, l, d, qs⟩) hr hq
  have hg := may_any first n A m c ps B l d qs
  have hmk := fun (nn : Nat) => marks_any first nn A m c ps B l d qs
  have Hg := Lib.hid (fun w h1 h2 => hg w h1 h2 hm hl)
  unfold fieldV at *
  unfold I64 at hf
  obtain ⟨hf1, hf2⟩ := hf
  clear hg
  cases hmay : mayB m l first n ps qs
  · rw [hmay] at Hg
    clear hr hq hmay
    go_enter Try.func6, Try.ntmps6
    go_wp2_with fail
    refine (Hg.out _ HK.out.rp HK.out.rq).mono ?_
    rintro e w1 ⟨rfl, hb1⟩
    go_wp2_with fail
    refine (lives_any _).mono ?_
    rintro e w2 ⟨rfl, hb2⟩
    go_wp2
    go_ret
    exact ⟨rfl, ((HK.out.next hb1).next hb2).bel⟩
  · obtain ⟨hm3, hl3, hn6, hck⟩ := mayB_parts hmay
    obtain ⟨c1, c2, c3, c4, c5, c6⟩ := check_parts hck
    have Hmk := Lib.hid (fun nn w h1 h2 h3 => hmk nn w h1 h2 hm3 hl3 h3)
    clear hmk
    obtain ⟨fst, rfl⟩ : ∃ fst : Nat, first = (fst : Int) := ⟨first.toNat, by omega⟩
    obtain ⟨nn, rfl⟩ : ∃ nn : Nat, n = (nn : Int) := ⟨n.toNat, by omega⟩
    have hmkr := fun W => run_make_row' (P := Try.prog) 36 3 (.int .i64 0) 8 (by kernel_rfl) info3m rfl .i64 .i64 nn (by omega) (by omega) W
    rw [hmay] at Hg
    have Hck := Lib.hid hck
    clear hr hq hmay c4 c5 c6 hck
    go_enter Try.func6, Try.ntmps6
    go_wp2_with fail
    refine (Hg.out _ HK.out.rp HK.out.rq).mono ?_
    generalize w.alloc (.cells #[.int .i64 (fst : Int), .int .i64 (nn : Int), .slice A m c, .slice B l d] 31) = wx at *
    rintro e w1 ⟨rfl, hb1⟩
    have K1 := Lib.hid (HK.out.next hb1)
    clear hb1 HK Hg
    obtain ⟨x0, x1, x2, x3⟩ := K1.out.cells
    have hlt := K1.out.lt
    have he : errB true = 0 := rfl
    have hI0 : Hid (Ints (w1.alloc (.cells (madeCells #[.int .i64 0] nn) 3)) w1.heap.size nn (fun _ => 0)) := Ints.made w1 nn
    have K2 := Lib.hid (K1.out.alloc (.cells (madeCells #[.int .i64 0] nn) 3))
    go_wp2_with fail
    clear hmkr x0 x1 x2 x3 K1
    generalize w1.alloc (.cells (madeCells #[.int .i64 0] nn) 3) = w2 at *
    generalize w1.heap.size = gT at *
    refine (Hmk.out nn _ K2.out.rp K2.out.rq Hck.out).mono ?_
    rintro e w3 ⟨gL, rfl, hg, HI, hb3⟩
    have HL3 := Lib.hid HI
    have K3 := Lib.hid (K2.out.next hb3)
    have hTl := hI0.out.lt
    have HT3 := Lib.hid (hI0.out.below hb3 hTl)
    have hne : gL ≠ gT := by omega
    clear HI hb3 K2 Hmk hI0 hg hTl
    obtain ⟨F, hF⟩ : ∃ F, F = marksF ps qs := ⟨_, rfl⟩
    rw [← hF] at HL3
    have HF := Lib.hid hF
    clear hF
    go_wp2_with fail
    go_loopw [7] (fun i wr => ∃ k : Nat, k ≤ nn ∧ i = .int .i64 k ∧ Hid (Ints wr gT nn (ini F k)) ∧ Hid (Ints wr gL nn F) ∧ Hid (Kep w ⟨fst, nn, A, m, c, ps, B, l, d, qs⟩ [] wr)) (fun i _ => nn - (intOf i).toNat)
    case atStart => exact ⟨0, Nat.zero_le _, rfl, HT3.out.congr (fun j _ => by unfold ini; rw [if_neg (by omega)]), HL3, K3⟩
    case round =>
      clear HT3 HL3 K3
      obtain ⟨k, hk, rfl, HT, HL, K⟩ := hrel
      obtain ⟨x0, x1, x2, x3⟩ := K.out.cells
      have hlt := K.out.lt
      by_cases hlk : k < nn
      · obtain ⟨g0, g1⟩ := HL.out.get hlk
        obtain ⟨t0, t1⟩ := HT.out.get hlk
        by_cases hz : 0 < F k
        · have Hc : Hid (∀ j, j < nn → (if j = k then (k : Int) + 1 else ini F k j) = ini F (k + 1) j) := fun j hj => by
            unfold ini
            by_cases hjk : j = k
            · subst hjk; rw [if_pos rfl, if_pos ⟨by omega, hz⟩]
            · rw [if_neg hjk]
              by_cases hj2 : j < k ∧ 0 < F j
              · rw [if_pos hj2, if_pos ⟨by omega, hj2.2⟩]
              · rw [if_neg hj2, if_neg (fun h => hj2 ⟨by omega, h.2⟩)]
          have e1 : decide (0 < F k) = true := decide_eq_true hz
          obtain ⟨u, hu⟩ : ∃ u, F k = u := ⟨_, rfl⟩
          rw [hu] at g0 hz e1
          clear hu
          go_wp2_with fail
          go_roundw
          case rel => exact ⟨k + 1, by omega, by go_num, (HT.out.set hlk _).congr Hc.out, HL.out.other hne, K.out.set (by omega) (fun x hx => by cases hx)⟩
          case measure => simp [intOf]; omega
        · have Hc : Hid (∀ j, j < nn → ini F k j = ini F (k + 1) j) := fun j hj => by
            unfold ini
            by_cases hj2 : j < k ∧ 0 < F j
            · rw [if_pos hj2, if_pos ⟨by omega, hj2.2⟩]
            · rw [if_neg hj2, if_neg (fun h => by by_cases hjk : j = k; { subst hjk; exact hz h.2 }; { exact hj2 ⟨by omega, h.2⟩ })]
          have e1 : decide (0 < F k) = false := decide_eq_false hz
          obtain ⟨u, hu⟩ : ∃ u, F k = u := ⟨_, rfl⟩
          rw [hu] at g0 hz e1
          clear hu
          go_wp2_with fail
          go_roundw
          case rel => exact ⟨k + 1, by omega, by go_num, HT.out.congr Hc.out, HL, K⟩
          case measure => simp [intOf]; omega
      · have hkn : k = nn := by omega
        have HTg : Hid (Tags nn ps (ini F k)) := Tags.init Hck.out fun j hj => by
          unfold ini; rw [hkn, HF.out]
          by_cases h : 0 < marksF ps qs j
          · rw [if_pos ⟨hj, h⟩, if_pos h]
          · rw [if_neg (fun k => h k.2), if_neg h]
        obtain ⟨T0, hT0⟩ : ∃ T0, T0 = ini F k := ⟨_, rfl⟩
        rw [← hT0] at HTg HT
        clear hT0 hkn hk
        have hTl := HT.out.lt
        have hLl := HL.out.lt
        go_wp2_with fail
        refine (own_any A m c ps _ K.out.rp (by omega)).mono ?_
        rintro e w5 ⟨A5, c5, rfl, ho5, hb5⟩
        have hm5 : m = ps.length := K.out.r0.1
        have hE : Hid (EndW w ⟨fst, nn, A, m, c, ps, B, l, d, qs⟩ [] gT gL wr.heap.size nn F T0 A5 c5 ps w5) :=
          ⟨K.out.next hb5, HT.out.below hb5 hTl, HL.out.below hb5 hLl, by rw [← hm5]; exact ho5, hne, hTl, hLl, by omega, hb5.size, fun x hx => by cases hx⟩
        have hS : Hid (EndL fst nn qs ps T0 0 f false) := ⟨Hck.out, HTg.out, (fun h => by cases h), fun _ => .inl (.inl rfl)⟩
        have Hm5 := Lib.hid hm5
        generalize wr.heap.size = B5 at *
        clear ho5 hb5 hTl hLl HTg HT HL K x0 x1 x2 x3 hlt hm5 hlk
        go_wp2_with fail
        go_loopw [1, 8, 9, 10] (fun vc vp vd vi wr => ∃ (i : Nat) (cu : Int) (dn : Bool) (pcs : RunL) (A' : Option Addr) (c' : Nat) (T : Nat → Int), vc = .int .i64 cu ∧ vp = .slice A' pcs.length c' ∧ vd = .bool dn ∧ vi = .int .i64 (i : Int) ∧ i < 2 * nn + 2 ∧
          Hid (EndW w ⟨fst, nn, A, m, c, ps, B, l, d, qs⟩ [] gT gL B5 nn F T A' c' pcs wr) ∧ Hid (EndL fst nn qs pcs T i cu dn)) (fun _ _ _ vi _ => (2 * (nn : Int) + 2 - intOf vi).toNat)
        case atStart => exact ⟨0, f, false, ps, A5, c5, T0, rfl, by rw [← Hm5.out], rfl, rfl, by omega, hE, hS⟩
        case round =>
          clear hE hS Hm5
          obtain ⟨i, cu, dn, pcs, A', c', T, rfl, rfl, rfl, rfl, hi, HE, HS⟩ := hrel
          obtain ⟨x0, x1, x2, x3⟩ := HE.out.kep.cells
          have hlt := HE.out.kep.lt
          have d1 : decide ((i : Int) < 2 * (nn : Int) + 2) = true := decide_eq_true (by omega)
          cases dn with
          | true =>
            have Hn := Lib.hid (HS.out.fin rfl)
            have hpl : pcs.length ≤ 600 := by
              obtain ⟨_, _, _, c4, _, _⟩ := check_parts HS.out.ck
              have := rising_len c4 (by omega); omega
            go_wp2_with fail
            go_loopw [16, 17, 18] (fun vl vf vb wr' => ∃ (k : Nat) (la : Int) (fr : Bool), fst ≤ k ∧ k ≤ nn ∧ vb = .int .i64 k ∧ vl = .int .i64 la ∧ vf = .bool fr ∧ Hid (la = 0 ∨ ∃ j, j < k ∧ T j = la ∧ la ≠ 0) ∧ Hid (fr = true → ∃ j, fst ≤ j ∧ j < k ∧ T j = 0 ∧ ∀ b, j ≤ b → b < k → ¬ F b < 0) ∧ ∃ z, wr' = wr.drewN z) (fun _ _ vb _ => nn - (intOf vb).toNat)
            case atStart => exact ⟨fst, 0, false, Nat.le_refl _, by omega, rfl, rfl, rfl, .inl rfl, (fun h => by cases h), 0, rfl⟩
            case round =>
              obtain ⟨k, la, fr, hfk, hk, rfl, rfl, rfl, HLa, HFr, z, rfl⟩ := hrel
              by_cases hlk : k < nn
              · obtain ⟨g0, g1⟩ := HE.out.ll.get hlk
                obtain ⟨t0, t1⟩ := HE.out.tt.get hlk
                have HLa' : Hid (la = 0 ∨ ∃ j, j < k + 1 ∧ T j = la ∧ la ≠ 0) := by
                  rcases HLa.out with h | ⟨j, hj, h⟩
                  · exact .inl h
                  · exact .inr ⟨j, by omega, h⟩
                by_cases hz : F k < 0
                · have e1 : decide (F k < 0) = true := decide_eq_true hz
                  obtain ⟨u, hu⟩ : ∃ u, F k = u := ⟨_, rfl⟩
                  rw [hu] at g0 hz e1
                  clear hu
                  have HF1 : Hid (false = true → ∃ j, fst ≤ j ∧ j < k + 1 ∧ T j = 0 ∧ ∀ b, j ≤ b → b < k + 1 → ¬ F b < 0) := fun h => by cases h
                  go_wp2_with fail
                  go_roundw
                  case rel => exact ⟨k + 1, la, false, by omega, by omega, by go_num, rfl, rfl, HLa', HF1, z, rfl⟩
                  case measure => simp [intOf]; omega
                · have Hz := Lib.hid hz
                  have e1 : decide (F k < 0) = false := decide_eq_false hz
                  by_cases ht : T k = 0
                  · have HF1 : Hid (true = true → ∃ j, fst ≤ j ∧ j < k + 1 ∧ T j = 0 ∧ ∀ b, j ≤ b → b < k + 1 → ¬ F b < 0) := fun _ => ⟨k, hfk, by omega, ht, fun b h1 h2 => by rw [show b = k from by omega]; exact Hz.out⟩
                    obtain ⟨u, hu⟩ : ∃ u, F k = u := ⟨_, rfl⟩
                    rw [hu] at g0 hz e1
                    rw [ht] at t0
                    clear hu ht
                    go_wp2_with fail
                    go_roundw
                    case rel => exact ⟨k + 1, la, true, by omega, by omega, by go_num, rfl, rfl, HLa', HF1, z, rfl⟩
                    case measure => simp [intOf]; omega
                  · have hfr : fr = false := by
                      cases fr with
                      | false => rfl
                      | true =>
                        exfalso
                        obtain ⟨j, j1, j2, j3, j4⟩ := HFr.out rfl
                        have hu : U pcs (k : Int) := (HS.out.tags.used k hlk).1 ht
                        have hq : ∀ q ∈ qs, ∀ b : Int, (j : Int) ≤ b → b ≤ (k : Int) → ¬ (q.1 ≤ b ∧ b < q.1 + q.2) := fun q hq b b1 b2 hat => by
                          have hp := marksF_pin (ps := ps) (j := b.toNat) hq (by unfold At; omega)
                          rw [← HF.out] at hp
                          by_cases hbk : b.toNat = k
                          · rw [hbk] at hp; exact Hz.out (by omega)
                          · exact j4 b.toNat (by omega) (by omega) (by omega)
                        have := done_packed HS.out.ck Hn.out (j := (j : Int)) (k := (k : Int)) (by omega) (by omega) (by omega) hq hu
                        exact (HS.out.tags.used j (by omega)).2 this j3
                    subst hfr
                    have hla : la < T k := by
                      rcases HLa.out with h | ⟨j, j1, j2, j3⟩
                      · have := HS.out.tags.pos k hlk; omega
                      · rw [← j2]; exact HS.out.tags.up j k j1 hlk (by omega) ht
                    have HL1 : Hid (T k = 0 ∨ ∃ j, j < k + 1 ∧ T j = T k ∧ T k ≠ 0) := .inr ⟨k, by omega, rfl, ht⟩
                    have HF1 : Hid (false = true → ∃ j, fst ≤ j ∧ j < k + 1 ∧ T j = 0 ∧ ∀ b, j ≤ b → b < k + 1 → ¬ F b < 0) := fun h => by cases h
                    obtain ⟨u, hu⟩ : ∃ u, F k = u := ⟨_, rfl⟩
                    rw [hu] at g0 hz e1
                    obtain ⟨v, hv⟩ : ∃ v, T k = v := ⟨_, rfl⟩
                    rw [hv] at t0 ht hla HL1
                    clear hu hv HFr
                    have e2 : decide (v = 0) = false := decide_eq_false ht
                    have e3 : (v == 0) = false := by simpa using ht
                    have e4 : decide (v ≤ la) = false := decide_eq_false (by omega)
                    go_wp2_with fail
                    go_roundw
                    case rel => exact ⟨k + 1, v, false, by omega, by omega, by go_num, rfl, rfl, HL1, HF1, z, rfl⟩
                    case measure => simp [intOf]; omega
              · go_wp2_with fail
                refine (Done_any fst nn A' pcs.length c' pcs B l d qs _ (HE.out.drewN z).ow.runs (HE.out.drewN z).kep.rq (by omega) (by omega)).mono ?_
                rw [HS.out.ck, Hn.out, he]
                rintro e w8 ⟨rfl, hb8⟩
                go_wp2_with fail
                refine (lives_any _).mono ?_
                rintro e w9 ⟨rfl, hb9⟩
                go_wp2
                go_ret
                exact ⟨rfl, (((HE.out.drewN z).kep.next hb8).next hb9).bel⟩
          | false =>
            have hib : i ≤ 2 * nn := by have := HS.out.run rfl; rcases this with (h | h) | h <;> omega
            have hpl : pcs.length ≤ 600 := by
              obtain ⟨_, _, _, c4, _, _⟩ := check_parts HS.out.ck
              have := rising_len c4 (by omega); omega
            go_wp2_with fail
            refine (Step_any fst nn cu A' pcs.length c' pcs B l d qs _ HE.out.ow.runs HE.out.kep.rq (by omega) (by omega)).mono ?_
            rintro e w6 ⟨rfl, hb6⟩
            rw [HS.out.ck, he]
            have HE6 := Lib.hid (HE.out.next hb6)
            clear hb6 x0 x1 x2 x3 hlt HE
            rcases stepB_cases (f := cu) HS.out.ck with ⟨f', a, t, lm, r, p, hmv, hff, hst⟩ | ⟨hn1, hn2, hst⟩
            · rw [hst]
              dsimp only
              clear hst
              have hrun : Run fst nn qs (movedL a t lm pcs) (i + 1) (t + lm) := by
                rcases hff with rfl | ⟨rfl, hno⟩
                · exact run_one HS.out.ck hmv (HS.out.run rfl)
                · exact run_two HS.out.ck hno hmv (HS.out.run rfl)
              have h1 := hmv.lo
              have h2 := hmv.hi
              have h3 := hmv.l1
              have h4 := hmv.len
              have h5 := hmv.ta
              have h7 := hmv.low
              have h8 := hmv.top
              obtain ⟨an, rfl⟩ : ∃ an : Nat, a = (an : Int) := ⟨a.toNat, by omega⟩
              obtain ⟨tn, rfl⟩ : ∃ tn : Nat, t = (tn : Int) := ⟨t.toNat, by omega⟩
              obtain ⟨ln, rfl⟩ : ∃ ln : Nat, lm = (ln : Int) := ⟨lm.toNat, by omega⟩
              have hS' : Hid (EndL fst nn qs (movedL an tn ln pcs) (shiftT T an tn ln) (i + 1) ((tn : Int) + (ln : Int)) false) := ⟨moved_check HS.out.ck hmv, HS.out.tags.move HS.out.ck hmv, (fun h => by cases h), fun _ => hrun⟩
              have HZ : Hid (∀ j : Nat, tn ≤ j → j < an → T j = 0) := fun j k1 k2 => by
                apply Decidable.byContradiction; intro hne
                exact hmv.free j (by omega) (by omega) ((HS.out.tags.used j (by omega)).1 hne)
              have q1 : an + ln ≤ nn := by omega
              have q2 : tn + ln ≤ an := by omega
              have q4 : ln ≤ 8 := by omega
              have hmz : mvV (some ((an : Int), (tn : Int), (ln : Int))) = .agg #[.int .i64 (an : Int), .int .i64 (tn : Int), .int .i64 (ln : Int)] := rfl
              rw [hmz]
              have HE7 : Hid (EndW w ⟨fst, nn, A, m, c, ps, B, l, d, qs⟩ [(w6.heap.size, some ((an : Int), (tn : Int), (ln : Int)))] gT gL B5 nn F T A' c' pcs (w6.alloc (.cells #[.int .i64 (an : Int), .int .i64 (tn : Int), .int .i64 (ln : Int)] 24))) := HE6.out.newMove (some ((an : Int), (tn : Int), (ln : Int)))
              clear hrun hmv hff h1 h2 h3 h4 h5 h7 h8 HE6
              go_wp2_with fail
              generalize w6.alloc (.cells #[.int .i64 (an : Int), .int .i64 (tn : Int), .int .i64 (ln : Int)] 24) = w7 at *
              generalize w6.heap.size = G at *
              go_loopw [15] (fun v wr => ∃ k : Nat, k ≤ ln ∧ v = .int .i64 (k : Int) ∧ Hid (EndW w ⟨fst, nn, A, m, c, ps, B, l, d, qs⟩ [(G, some ((an : Int), (tn : Int), (ln : Int)))] gT gL B5 nn F (shiftT T an tn k) A' c' pcs wr)) (fun v _ => ln - (intOf v).toNat)
              case atStart => exact ⟨0, Nat.zero_le _, rfl, by rw [shift_zero]; exact HE7⟩
              case round =>
                clear HE7
                obtain ⟨k, hk, rfl, HE⟩ := hrel
                obtain ⟨x0, x1, x2, x3⟩ := HE.out.kep.cells
                have hlt := HE.out.kep.lt
                obtain ⟨hG, m0, m1, m2⟩ := HE.out.kep.mv (G, some ((an : Int), (tn : Int), (ln : Int))) (by simp)
                have hGl : G < wr.heap.size := World.block_lt_of_cell? wr _ m0
                have hGT := HE.out.far (G, some ((an : Int), (tn : Int), (ln : Int))) (by simp)
                dsimp only at hG hGT
                have m0' : wr.cell? ⟨G, 0, none⟩ = some (.int .i64 (an : Int)) := m0
                have m1' : wr.cell? ⟨G, 1, none⟩ = some (.int .i64 (tn : Int)) := m1
                have m2' : wr.cell? ⟨G, 2, none⟩ = some (.int .i64 (ln : Int)) := m2
                clear m0 m1 m2
                by_cases hlk : k < ln
                · obtain ⟨t0, t1⟩ := HE.out.tt.get (i := tn + k) (by omega)
                  obtain ⟨s0, s1⟩ := HE.out.tt.get (i := an + k) (by omega)
                  rw [shift_to q2 hlk, HZ.out (tn + k) (by omega) (by omega)] at t0
                  rw [shift_from q2 hlk] at s0
                  have e1 : decide ((tn : Int) + (k : Int) < 0) = false := decide_eq_false (by omega)
                  have e2 : decide ((nn : Int) ≤ (an : Int) + (k : Int)) = false := decide_eq_false (by omega)
                  have e3 : decide ((nn : Int) ≤ (tn : Int) + (k : Int)) = false := decide_eq_false (by omega)
                  have HE' := Lib.hid (((HE.out.drew.set (i := tn + k) (by omega) (T (an + k))).set (i := an + k) (by omega) 0).congr (T' := shiftT T an tn (k + 1)) (fun j _ => shift_step q2 hlk j))
                  obtain ⟨u, hu⟩ : ∃ u, T (an + k) = u := ⟨_, rfl⟩
                  rw [hu] at s0 HE'
                  clear hu
                  have gT0 := HE.out.g0
                  have gTl := HE.out.tt.lt
                  have hne1 : ¬ w.heap.size = gT := by omega
                  have hne2 : ¬ gT = w.heap.size := by omega
                  have hne3 : ¬ gT = G := fun h => hGT h.symm
                  have hne4 : ¬ tn + k = an + k := by omega
                  have hne5 : ¬ an + k = tn + k := by omega
                  go_wp2_with fail
                  go_region
                  all_goals
                    go_wp2_with fail
                    go_roundw
                    case rel => exact ⟨k + 1, by omega, by go_num, HE'⟩
                    case measure => simp [intOf]; omega
                · have hkl : k = ln := by omega
                  rw [hkl] at HE
                  clear hkl hk
                  go_wp2_with fail
                  refine (Moved_any an tn ln A' pcs.length c' pcs _ HE.out.ow.runs (by omega) ⟨by omega, by omega⟩ ⟨by omega, by omega⟩ ⟨by omega, by omega⟩).mono ?_
                  rintro e w8 ⟨A8, m8, c8, rfl, ho8, hb8⟩
                  have hm8 := ho8.runs.1
                  have HE8 : Hid (EndW w ⟨fst, nn, A, m, c, ps, B, l, d, qs⟩ [] gT gL B5 nn F (shiftT T an tn ln) A8 c8 (movedL an tn ln pcs) w8) := (HE.out.moved hb8 (by rw [← hm8]; exact ho8)).drop
                  have Hm8 := Lib.hid hm8
                  clear ho8 hb8 hm8 x0 x1 x2 x3 hlt m0' m1' m2' HE hGl hG hGT
                  go_wp2_with fail
                  go_roundw
                  case rel => exact ⟨i + 1, (tn : Int) + (ln : Int), false, movedL an tn ln pcs, A8, c8, shiftT T an tn ln, by go_num, by rw [← Hm8.out], rfl, by go_num, by omega, HE8, hS'⟩
                  case measure => simp [intOf]; omega
            · rw [hst]
              dsimp only
              clear hst
              have hS' : Hid (EndL fst nn qs pcs T (i + 1) (fst : Int) true) := ⟨HS.out.ck, HS.out.tags, fun _ => hn2, (fun h => by cases h)⟩
              have hmz : mvV none = .agg #[.int .i64 0, .int .i64 0, .int .i64 0] := rfl
              rw [hmz]
              have HE7 : Hid (EndW w ⟨fst, nn, A, m, c, ps, B, l, d, qs⟩ [(w6.heap.size, none)] gT gL B5 nn F T A' c' pcs (w6.alloc (.cells #[.int .i64 0, .int .i64 0, .int .i64 0] 24))) := HE6.out.newMove none
              clear hn1 hn2 HE6
              go_wp2_with fail
              generalize w6.alloc (.cells #[.int .i64 0, .int .i64 0, .int .i64 0] 24) = w7 at *
              generalize w6.heap.size = G at *
              go_loopw [15] (fun v wr => v = .int .i64 0 ∧ Hid (EndW w ⟨fst, nn, A, m, c, ps, B, l, d, qs⟩ [(G, none)] gT gL B5 nn F T A' c' pcs wr)) (fun _ _ => 0)
              case atStart => exact ⟨rfl, HE7⟩
              case round =>
                clear HE7
                obtain ⟨rfl, HE⟩ := hrel
                obtain ⟨x0, x1, x2, x3⟩ := HE.out.kep.cells
                have hlt := HE.out.kep.lt
                obtain ⟨hG, m0, m1, m2⟩ := HE.out.kep.mv (G, none) (by simp)
                have hGl : G < wr.heap.size := World.block_lt_of_cell? wr _ m0
                have m0' : wr.cell? ⟨G, 0, none⟩ = some (.int .i64 0) := m0
                have m1' : wr.cell? ⟨G, 1, none⟩ = some (.int .i64 0) := m1
                have m2' : wr.cell? ⟨G, 2, none⟩ = some (.int .i64 0) := m2
                clear m0 m1 m2
                go_wp2_with fail
                refine (Moved_any 0 0 0 A' pcs.length c' pcs _ HE.out.ow.runs (by omega) ⟨by omega, by omega⟩ ⟨by omega, by omega⟩ ⟨by omega, by omega⟩).mono ?_
                rw [moved_zero (check_parts HS.out.ck).2.2.2.1]
                rintro e w8 ⟨A8, m8, c8, rfl, ho8, hb8⟩
                have hm8 := ho8.runs.1
                have HE8 : Hid (EndW w ⟨fst, nn, A, m, c, ps, B, l, d, qs⟩ [] gT gL B5 nn F T A8 c8 pcs w8) := (HE.out.moved hb8 (by rw [← hm8]; exact ho8)).drop
                have Hm8 := Lib.hid hm8
                clear ho8 hb8 hm8 x0 x1 x2 x3 hlt m0' m1' m2' HE hGl hG
                go_wp2_with fail
                go_roundw
                case rel => exact ⟨i + 1, (fst : Int), true, pcs, A8, c8, T, rfl, by rw [← Hm8.out], rfl, by go_num, by omega, HE8, hS'⟩
                case measure => simp [intOf]; omega
end Go.Proofs.Ytkifpnhijdcjlaa
