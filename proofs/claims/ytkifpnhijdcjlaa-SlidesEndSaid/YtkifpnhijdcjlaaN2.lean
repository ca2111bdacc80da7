/- Walks: the reference's Next. -/
import Derived.Test.YtkifpnhijdcjlaaN1
namespace Go.Proofs.Ytkifpnhijdcjlaa
open Go.RowKit

def orGo (o : MoveO) (r : MoveO) : MoveO := match o with | some m => some m | none => r
theorem findL_block {first n f : Int} {ps qs : RunL} {k : Nat} {x1 x2 : Int} (hck : checkB first n ps qs = true) (h : (regionsL first n qs)[k]? = some (x1, x2)) :
    findL ps f ((regionsL first n qs).drop k) = orGo (firstL (max x1 f) (ofR x1 x2 ps)) (findL ps f ((regionsL first n qs).drop (k + 1))) := by
  have hr := List.mem_of_getElem? h
  have hreg := reg_of hck hr
  obtain ⟨c1, c2, c3, c4, c5, c6⟩ := check_parts hck
  rw [findL_step h]
  have hn : nextL ps x1 x2 f = firstL (max x1 f) (ofR x1 x2 ps) := nextIn_first c4
  by_cases hle : x1 + x2 ≤ f
  · rw [if_pos hle, hreg.none (t := max x1 f) (by dsimp only; omega)]; rfl
  · rw [if_neg hle, hn]; rfl

set_option maxRecDepth 100000 in
set_option maxHeartbeats 8000000 in
theorem refNext_main (first n : Nat) (f : Int) (A : Option Addr) (m c : Nat) (ps : RunL) (B : Option Addr) (l d : Nat) (qs : RunL) (w : World)
    (hr : Runs w w.heap.size A m ps) (hq : Runs w w.heap.size B l qs) (hm : m ≤ 1000) (hl : l ≤ 1000) (hck : checkB first n ps qs = true) (hf1 : -9223372036854775808 ≤ f) (hf2 : f ≤ 9223372036854775807) :
    Calls Try.prog 20 #[.int .i64 (first : Int), .int .i64 (n : Int), .slice A m c, .slice B l d, .int .i64 f] w (NextPost (nextB first n ps qs f) (checkB first n ps qs) w) := by
  have hbx : Below w.heap.size w (w.alloc (.cells #[.int .i64 0, .int .i64 0, .int .i64 0] 24)) := (Below.refl _ _).alloc (Nat.le_refl _) _
  have hres : Hid (Res3 (w.alloc (.cells #[.int .i64 0, .int .i64 0, .int .i64 0] 24)) w.heap.size) := Res3.new
  have hsx : w.heap.size < (w.alloc (.cells #[.int .i64 0, .int .i64 0, .int .i64 0] 24)).heap.size := by simp
  have hrx := (hr.below hbx (Nat.le_refl _)).more hbx.size
  have hqx := (hq.below hbx (Nat.le_refl _)).more hbx.size
  obtain ⟨c1, c2, c3, c4, c5, c6⟩ := check_parts hck
  have Hck := Lib.hid hck
  have hN : Hid (nextB first n ps qs f = findL ps f (regionsL first n qs)) := by show nextB first n ps qs f = _; unfold nextB; rw [hck]; simp
  have Hc4 := Lib.hid (rising_less c4 c1)
  have Hc5 := Lib.hid (rising_less c5 c1)
  have hn4 : n ≤ 4096 := by omega
  have hsm := Lib.hid (fun r (hr : r ∈ regionsL first n qs) => regions_mem c5 c2 r hr)
  have hck2 : checkB first n [] qs = true := by unfold checkB; rw [c5, decide_eq_true c1, decide_eq_true c2, decide_eq_true c3]; rfl
  have Hck2 := Lib.hid hck2
  have he : errB true = 0 := rfl
  have Hrl := Lib.hid (regions_len (a := (first : Int)) (n := n) (qs := qs))
  clear c4 c5 c6 hck2
  go_enter Try.func20, Try.ntmps20
  go_wp2_with fail
  refine (refCheck_any first n A m c ps B l d qs _ hrx hqx (by omega) (by omega)).mono ?_
  rw [hck, he]
  rintro e w1 ⟨rfl, hb1⟩
  have hb1' := hbx.trans (hb1.mono hbx.size)
  have hres1 := Lib.hid (hres.out.below hb1 hsx)
  have hsz1 := hb1'.size
  generalize w.alloc (.cells #[.int .i64 0, .int .i64 0, .int .i64 0] 24) = wx at *
  have hr1 := (hr.below hb1' (Nat.le_refl _)).more hsz1
  have hq1 := (hq.below hb1' (Nat.le_refl _)).more hsz1
  clear hrx hqx hck he
  go_wp2_with fail
  refine (Marks_any n A m c ps B l d qs _ hn4 hr1 hq1 (by omega) (by omega) Hc4.out Hc5.out).mono ?_
  rintro e w2 ⟨g, rfl, hg, HI, hb2⟩
  have HI2 : Hid (Ints w2 g n (marksF ps qs)) := HI
  have hgl := HI.lt
  have hb2' := hb1'.trans (hb2.mono hsz1)
  have hres2 := Lib.hid (hres1.out.below hb2 hres1.out.lt)
  have hq2 := (hq.below hb2' (Nat.le_refl _)).more hb2'.size
  clear HI hr1 hq1 hres1
  go_wp2_with fail
  refine (refRegions_any first n B l d qs _ hq2 hl).mono ?_
  rintro e w3 ⟨A3, m3, d3, rfl, ho3, hb3⟩
  rw [Hck2.out] at ho3 ⊢
  rw [if_pos rfl] at ho3
  have hrun3 := ho3.runs
  have hb3' := hb2'.trans (hb3.mono hb2'.size)
  have hres3 := hres2.out.below hb3 hres2.out.lt
  have HI3 := Lib.hid (HI2.out.below hb3 hgl)
  obtain ⟨⟨q0, q1, q2, z0, z1, z2⟩, y0, y1, y2⟩ := hres3
  have hsz3 := hb3'.size
  have hlt3 : w.heap.size < w3.heap.size := World.block_lt_of_cell? w3 _ z0
  have hm3 : m3 ≤ 2000 := by have := hrun3.1; have := Hrl.out; have := hq.1; omega
  have HL := Lib.hid (fun (k : Nat) (x1 x2 : Int) => findL_block (f := f) (k := k) (x1 := x1) (x2 := x2) Hck.out)
  have HR := Lib.hid (fun (r : Int × Int) (hr : r ∈ regionsL first n qs) => reg_of Hck.out hr)
  generalize marksF ps qs = F at *
  generalize hrs : regionsL first n qs = rs at *
  clear hrs ho3 hb3 hb2 hb1 hq2 HI2 hres2 hres hr hq
  go_wp2_with fail
  go_loopw [17] (fun i wr => ∃ (k : Nat), k ≤ m3 ∧ i = .int .i64 k ∧ Hid (nextB first n ps qs f = findL ps f (rs.drop k)) ∧ ∃ z, wr = w3.drewN z) (fun i _ => m3 - (intOf i).toNat)
  case atStart => exact ⟨0, Nat.zero_le _, rfl, hN, 0, rfl⟩
  case round =>
    obtain ⟨k, hk, rfl, Hg, z, rfl⟩ := hrel
    by_cases hlt : k < m3
    · obtain ⟨x1, x2, b, o, hx, v1, v2, v3, v4, rfl, hbB, e0, e1⟩ := hrun3.at_ hlt
      obtain ⟨g1, g2, g3⟩ := hsm.out _ (List.mem_of_getElem? hx)
      have HRG := Lib.hid (HR.out _ (List.mem_of_getElem? hx))
      have Hst := Lib.hid (Hg.out.trans (HL.out _ _ _ hx))
      dsimp only at g1 g2 g3
      have Hx := Lib.hid hx
      clear hx Hg
      obtain ⟨s1, rfl⟩ : ∃ s1 : Nat, x1 = (s1 : Int) := ⟨x1.toNat, by omega⟩
      obtain ⟨l1, rfl⟩ : ∃ l1 : Nat, x2 = (l1 : Int) := ⟨x2.toNat, by omega⟩
      generalize hG : ofR (s1 : Int) (l1 : Int) ps = G at *
      clear hG
      have hst4 : s1 + l1 ≤ 4096 := by omega
      have hstn : s1 + l1 ≤ n := by omega
      have HStN : Hid (firstL (max (s1 : Int) f) G = none → nextB first n ps qs f = findL ps f (rs.drop (k + 1))) := fun h => by rw [Hst.out, h]; rfl
      have HStS : Hid (∀ mv, firstL (max (s1 : Int) f) G = some mv → nextB first n ps qs f = some mv) := fun mv h => by rw [Hst.out, h]; rfl
      obtain ⟨S, hS⟩ : ∃ S : Int, S = (s1 : Int) + (l1 : Int) := ⟨_, rfl⟩
      have HRS : Hid (Reg F ps G (s1 : Int) S) := by rw [hS]; exact HRG.out
      have HS := Lib.hid hS.symm
      have hS0 : 0 ≤ S := by omega
      have hS4 : S ≤ 4096 := by omega
      have hSn : S ≤ n := by omega
      clear hS Hst HRG
      obtain ⟨M, hM, HM⟩ : ∃ M : Nat, (s1 : Int) ≤ M ∧ Hid (max (s1 : Int) f = M) := ⟨(max (s1 : Int) f).toNat, by omega, by show max (s1 : Int) f = _; omega⟩
      have HSN : Hid (firstL M G = none → nextB first n ps qs f = findL ps f (rs.drop (k + 1))) := by rw [← HM.out]; exact HStN
      have HSS : Hid (∀ mv, firstL M G = some mv → nextB first n ps qs f = some mv) := by rw [← HM.out]; exact HStS
      clear HStN HStS
      have hmx := Int.lt_or_le (s1 : Int) f
      rcases hmx with hmx | hmx
      all_goals
        go_wp2_with fail
        go_quiet (fail)
        go_wp2_with fail
        rw [HS.out]
        go_loopw [19] (fun v wr => ∃ t : Nat, v = .int .i64 (t : Int) ∧ M ≤ t ∧ Hid (firstL M G = firstL t G) ∧ ∃ z, wr = w3.drewN z) (fun v _ => (S - intOf v).toNat)
        case atStart => exact ⟨M, congrArg (Value.int .i64) (by have := HM.out; omega), Nat.le_refl _, rfl, _, rfl⟩
        case round =>
          clear z
          obtain ⟨t, rfl, ht1, Hf, z, rfl⟩ := hrel
          by_cases h1 : (t : Int) < S
          · have d1 := decide_eq_true h1
            obtain ⟨g0, g1⟩ := HI3.out.get (i := t) (by omega)
            by_cases hz : F t = 0
            · have Hz := Lib.hid hz
              rw [hz] at g0
              clear hz
              go_wp2_with fail
              go_loopw [20] (fun v wr => ∃ b : Nat, v = .int .i64 (b : Int) ∧ t ≤ b ∧ (b : Int) ≤ S ∧ Hid (∀ j : Nat, t ≤ j → j < b → F j = 0) ∧ ∃ z, wr = w3.drewN z) (fun v _ => (S - intOf v).toNat)
              case atStart => exact ⟨t, rfl, Nat.le_refl _, by omega, fun j hj1 hj2 => by omega, z, rfl⟩
              case round =>
                clear z
                obtain ⟨b, rfl, hb1, hb2, Hb, z, rfl⟩ := hrel
                by_cases h2 : (b : Int) < S
                · have d2 := decide_eq_true h2
                  obtain ⟨k0, k1⟩ := HI3.out.get (i := b) (by omega)
                  by_cases hy : F b = 0
                  · have Hy := Lib.hid hy
                    rw [hy] at k0
                    clear hy
                    go_wp2_with fail
                    go_roundw
                    case rel => exact ⟨b + 1, by go_num, by omega, by omega, fun j hj1 hj2 => (by by_cases hjb : j = b; { rw [hjb]; exact Hy.out }; { exact Hb.out j hj1 (by omega) }), z, rfl⟩
                    case measure => simp [intOf]; omega
                  · obtain ⟨L, hL1, htb, hL2, hfs, hsame⟩ := HRS.out.hit (t := t) (b := b) (by omega) hb1 h2 Hb.out Hz.out hy
                    have HV0 := Lib.hid (HSS.out _ (Hf.out.trans hfs))
                    have Hsame := Lib.hid hsame
                    obtain ⟨u, hu⟩ : ∃ u, F b = u := ⟨_, rfl⟩
                    have hy' := hy
                    rw [hu] at k0 hy'
                    have Hu := Lib.hid hu
                    have d3 := decide_eq_false hy'
                    have hlt2 : ((b : Int) < S) = True := eq_true h2
                    have hn1 : decide (S ≤ (t : Int)) = false := decide_eq_false (by omega)
                    have hn2 : decide (S ≤ (b : Int)) = false := decide_eq_false (by omega)
                    clear hfs hsame hu hy hlt2
                    go_wp2_with fail
                    go_loopw [21] (fun v wr => ∃ c : Nat, v = .int .i64 (c : Int) ∧ 1 ≤ c ∧ c ≤ 8 ∧ c ≤ L ∧ (c : Int) ≤ (b : Int) - t ∧ ∃ z, wr = w3.drewN z) (fun v _ => (8 - intOf v).toNat)
                    case atStart => exact ⟨1, rfl, by omega, by omega, by omega, by omega, z, rfl⟩
                    case round =>
                      clear z
                      obtain ⟨c, rfl, hc1, hc8, hcL, hcb, z, rfl⟩ := hrel
                      have hbc : ((b : Int) + (c : Int)) = ((b + c : Nat) : Int) := by omega
                      have Hbc := Lib.hid hbc
                      clear hbc
                      by_cases a1 : (c : Int) < 8
                      · have e1 := decide_eq_true a1
                        by_cases a2 : (c : Int) < (b : Int) - (t : Int)
                        · have e2 := decide_eq_true a2
                          by_cases a3 : (b : Int) + (c : Int) < S
                          · have e3 := decide_eq_true a3
                            obtain ⟨m0, m1⟩ := HI3.out.get (i := b + c) (by omega)
                            by_cases a4 : c < L
                            · have hFe : F (b + c) = u := by rw [(Hsame.out (b + c) (by omega) (by omega)).2 (by omega), Hu.out]
                              rw [hFe] at m0
                              clear hFe
                              go_wp2_with fail
                              go_quiet (fail)
                              go_wp2_with fail
                              go_roundw
                              case rel => exact ⟨c + 1, by go_num, by omega, by omega, by omega, by omega, _, by go_simp; rfl⟩
                              case measure => simp [intOf]; omega
                            · have hne : ¬ F (b + c) = u := by rw [← Hu.out]; intro h; have := (Hsame.out (b + c) (by omega) (by omega)).1 h; omega
                              obtain ⟨u2, hu2⟩ : ∃ u2, F (b + c) = u2 := ⟨_, rfl⟩
                              rw [hu2] at m0 hne
                              clear hu2
                              have e4 := decide_eq_false hne
                              have HV : Hid (nextB first n ps qs f = some ((b : Int), (t : Int), (c : Int))) := by show nextB first n ps qs f = _; rw [HV0.out]; congr 3; omega
                              go_wp2_with fail
                              go_quiet (fail)
                              go_wp2
                              refine bodyPost_ret (v := .tuple #[.agg #[.int .i64 (b : Int), .int .i64 (t : Int), .int .i64 (c : Int)], .bool true, .int .i64 0]) (by obtain ⟨p0, p1, p2⟩ := three' (w := w3.drewN (z + nq)) (v0 := .int .i64 (b : Int)) (v1 := .int .i64 (t : Int)) (v2 := .int .i64 (c : Int)) z0 z1 z2; simp [results, Try.results20, go_sem, p0, p1, p2]) rfl ⟨by rw [HV.out, Hck.out]; rfl, ?_⟩
                              exact (((below_drewN hb3' _).setCell (by simp) _).setCell (by simp) _).setCell (by simp) _
                          · have e3 := decide_eq_false a3
                            have HV : Hid (nextB first n ps qs f = some ((b : Int), (t : Int), (c : Int))) := by show nextB first n ps qs f = _; rw [HV0.out]; congr 3; omega
                            go_wp2_with fail
                            go_quiet (fail)
                            go_wp2
                            refine bodyPost_ret (v := .tuple #[.agg #[.int .i64 (b : Int), .int .i64 (t : Int), .int .i64 (c : Int)], .bool true, .int .i64 0]) (by obtain ⟨p0, p1, p2⟩ := three' (w := w3.drewN (z + nq)) (v0 := .int .i64 (b : Int)) (v1 := .int .i64 (t : Int)) (v2 := .int .i64 (c : Int)) z0 z1 z2; simp [results, Try.results20, go_sem, p0, p1, p2]) rfl ⟨by rw [HV.out, Hck.out]; rfl, ?_⟩
                            exact (((below_drewN hb3' _).setCell (by simp) _).setCell (by simp) _).setCell (by simp) _
                        · have e2 := decide_eq_false a2
                          have HV : Hid (nextB first n ps qs f = some ((b : Int), (t : Int), (c : Int))) := by show nextB first n ps qs f = _; rw [HV0.out]; congr 3; omega
                          go_wp2_with fail
                          go_quiet (fail)
                          go_wp2
                          refine bodyPost_ret (v := .tuple #[.agg #[.int .i64 (b : Int), .int .i64 (t : Int), .int .i64 (c : Int)], .bool true, .int .i64 0]) (by obtain ⟨p0, p1, p2⟩ := three' (w := w3.drewN (z + nq)) (v0 := .int .i64 (b : Int)) (v1 := .int .i64 (t : Int)) (v2 := .int .i64 (c : Int)) z0 z1 z2; simp [results, Try.results20, go_sem, p0, p1, p2]) rfl ⟨by rw [HV.out, Hck.out]; rfl, ?_⟩
                          exact (((below_drewN hb3' _).setCell (by simp) _).setCell (by simp) _).setCell (by simp) _
                      · have e1 := decide_eq_false a1
                        have HV : Hid (nextB first n ps qs f = some ((b : Int), (t : Int), (c : Int))) := by show nextB first n ps qs f = _; rw [HV0.out]; congr 3; omega
                        go_wp2_with fail
                        go_quiet (fail)
                        go_wp2
                        refine bodyPost_ret (v := .tuple #[.agg #[.int .i64 (b : Int), .int .i64 (t : Int), .int .i64 (c : Int)], .bool true, .int .i64 0]) (by obtain ⟨p0, p1, p2⟩ := three' (w := w3.drewN (z + nq)) (v0 := .int .i64 (b : Int)) (v1 := .int .i64 (t : Int)) (v2 := .int .i64 (c : Int)) z0 z1 z2; simp [results, Try.results20, go_sem, p0, p1, p2]) rfl ⟨by rw [HV.out, Hck.out]; rfl, ?_⟩
                        exact (((below_drewN hb3' _).setCell (by simp) _).setCell (by simp) _).setCell (by simp) _
                · have HF := Lib.hid (HSN.out (Hf.out.trans (HRS.out.bare (t := t) (by omega) fun j hj1 hj2 => Hb.out j hj1 (by omega))))
                  have d2 := decide_eq_false h2
                  have hn1 : decide (S ≤ (t : Int)) = false := decide_eq_false (by omega)
                  have hn2 : decide (S ≤ (b : Int)) = true := decide_eq_true (by omega)
                  go_wp2_with fail
                  go_roundw
                  case rel => exact ⟨k + 1, by omega, by go_num, HF, z, rfl⟩
                  case measure => simp [intOf]; omega
            · obtain ⟨u, hu⟩ : ∃ u, F t = u := ⟨_, rfl⟩
              have Hn := Lib.hid (Hf.out.trans (HRS.out.skip (t := t) (by omega) h1 hz))
              rw [hu] at g0 hz
              clear hu
              have d2 := decide_eq_false hz
              go_wp2_with fail
              go_roundw
              case rel => exact ⟨t + 1, by go_num, by omega, by rw [Int.natCast_add]; exact Hn, z, rfl⟩
              case measure => simp [intOf]; omega
          · have d1 := decide_eq_false h1
            have hn1 : decide (S ≤ (t : Int)) = true := decide_eq_true (by omega)
            have HF := Lib.hid (HSN.out (Hf.out.trans (HRS.out.none (t := (t : Int)) (by omega))))
            go_wp2_with fail
            go_loopw [20] (fun v wr => v = .int .i64 (t : Int) ∧ ∃ z, wr = w3.drewN z) (fun _ _ => 0)
            case atStart => exact ⟨rfl, z, rfl⟩
            case round =>
              clear z
              obtain ⟨rfl, z, rfl⟩ := hrel
              go_wp2_with fail
              go_roundw
              case rel => exact ⟨k + 1, by omega, by go_num, HF, z, rfl⟩
              case measure => simp [intOf]; omega
    · have hd : rs.drop k = [] := List.drop_eq_nil_of_le (by have := hrun3.1; omega)
      have Hst : Hid (nextB first n ps qs f = none) := Hg.out.trans (by rw [hd]; rfl)
      clear hd Hg
      go_wp2
      refine bodyPost_ret (v := .tuple #[.agg #[.int .i64 0, .int .i64 0, .int .i64 0], .bool false, .int .i64 0]) (by obtain ⟨p0, p1, p2⟩ := three' (w := w3.drewN z) (v0 := .int .i64 0) (v1 := .int .i64 0) (v2 := .int .i64 0) z0 z1 z2; simp [results, Try.results20, go_sem, p0, p1, p2]) rfl ⟨by rw [Hst.out, Hck.out]; rfl, ?_⟩
      exact (((below_drewN hb3' z).setCell (by simp) _).setCell (by simp) _).setCell (by simp) _

set_option maxRecDepth 100000 in
set_option maxHeartbeats 1000000 in
theorem refNext_any (first n f : Int) (A : Option Addr) (m c : Nat) (ps : RunL) (B : Option Addr) (l d : Nat) (qs : RunL) (w : World)
    (hr : Runs w w.heap.size A m ps) (hq : Runs w w.heap.size B l qs) (hm : m ≤ 1000) (hl : l ≤ 1000) (hf1 : -9223372036854775808 ≤ f) (hf2 : f ≤ 9223372036854775807) :
    Calls Try.prog 20 #[.int .i64 first, .int .i64 n, .slice A m c, .slice B l d, .int .i64 f] w (NextPost (nextB first n ps qs f) (checkB first n ps qs) w) := by
  cases hck : checkB first n ps qs with
  | true =>
    obtain ⟨c1, c2, c3, _, _, _⟩ := check_parts hck
    obtain ⟨fst, rfl⟩ : ∃ fst : Nat, first = (fst : Int) := ⟨first.toNat, by omega⟩
    obtain ⟨nn, rfl⟩ : ∃ nn : Nat, n = (nn : Int) := ⟨n.toNat, by omega⟩
    have h := refNext_main fst nn f A m c ps B l d qs w hr hq hm hl hck hf1 hf2
    rw [hck] at h
    exact h
  | false =>
    have hbx : Below w.heap.size w (w.alloc (.cells #[.int .i64 0, .int .i64 0, .int .i64 0] 24)) := (Below.refl _ _).alloc (Nat.le_refl _) _
    have hres : Hid (Res3 (w.alloc (.cells #[.int .i64 0, .int .i64 0, .int .i64 0] 24)) w.heap.size) := Res3.new
    have hsx : w.heap.size < (w.alloc (.cells #[.int .i64 0, .int .i64 0, .int .i64 0] 24)).heap.size := by simp
    have hrx := (hr.below hbx (Nat.le_refl _)).more hbx.size
    have hqx := (hq.below hbx (Nat.le_refl _)).more hbx.size
    have hN : Hid (nextB first n ps qs f = none) := by show nextB first n ps qs f = none; unfold nextB; rw [hck]; simp
    have he : errB false = 2 := rfl
    go_enter Try.func20, Try.ntmps20
    go_wp2_with fail
    refine (refCheck_any first n A m c ps B l d qs _ hrx hqx (by omega) (by omega)).mono ?_
    rw [hck, he]
    rintro e w1 ⟨rfl, hb1⟩
    have hb1' := hbx.trans (hb1.mono hbx.size)
    have hres1 := hres.out.below hb1 hsx
    have hsz1 := hb1'.size
    generalize w.alloc (.cells #[.int .i64 0, .int .i64 0, .int .i64 0] 24) = wx at *
    clear hck he
    obtain ⟨⟨q0, q1, q2, z0, z1, z2⟩, y0, y1, y2⟩ := hres1
    obtain ⟨p0, p1, p2⟩ := three' (v0 := .int .i64 0) (v1 := .int .i64 0) (v2 := .int .i64 0) z0 z1 z2
    go_wp2
    refine bodyPost_ret (v := .tuple #[.agg #[.int .i64 0, .int .i64 0, .int .i64 0], .bool false, .int .i64 2]) (by simp [results, Try.results20, go_sem, p0, p1, p2]) rfl ⟨by rw [hN.out]; rfl, ?_⟩
    exact ((hb1'.setCell (by simp) _).setCell (by simp) _).setCell (by simp) _
end Go.Proofs.Ytkifpnhijdcjlaa
