/- Walks: Step. -/
import Derived.Test.YtkifpnhijdcjlaaW10
import Derived.RegionTactic
namespace Go.Proofs.Ytkifpnhijdcjlaa
open Go.RowKit

def StepPost (s : MoveO × Int × Bool) (b : Bool) (w : World) (e : Ending) (w' : World) : Prop := e = .returned (.tuple #[mvV s.1, .int .i64 s.2.1, .bool s.2.2, .int .i64 (errB b)]) ∧ Below w.heap.size w w'
theorem index0 (a b : Int) (w : World) : (Instr.index 62 (.agg #[.int .i64 a, .int .i64 b]) (.int .i64 0)).run Try.prog w = .ok (.int .i64 a) w := by kernel_rfl
theorem index1 (a b : Int) (w : World) : (Instr.index 62 (.agg #[.int .i64 a, .int .i64 b]) (.int .i64 1)).run Try.prog w = .ok (.int .i64 b) w := by kernel_rfl

set_option maxHeartbeats 4000000 in
theorem Step_any (first n f : Int) (A : Option Addr) (m c : Nat) (ps : RunL) (B : Option Addr) (l d : Nat) (qs : RunL) (w : World)
    (hr : Runs w w.heap.size A m ps) (hq : Runs w w.heap.size B l qs) (hm : m ≤ 1000) (hl : l ≤ 1000) :
    Calls Try.prog 21 #[.int .i64 first, .int .i64 n, .slice A m c, .slice B l d, .int .i64 f] w (StepPost (stepB first n ps qs f) (checkB first n ps qs) w) := by
  have hbx : Below w.heap.size w (w.alloc (.cells #[.int .i64 0, .int .i64 0, .int .i64 0] 24)) := (Below.refl _ _).alloc (Nat.le_refl _) _
  have hres : Hid (Res3 (w.alloc (.cells #[.int .i64 0, .int .i64 0, .int .i64 0] 24)) w.heap.size) := Res3.new
  have hsx : w.heap.size < (w.alloc (.cells #[.int .i64 0, .int .i64 0, .int .i64 0] 24)).heap.size := by simp
  have hrx := (hr.below hbx (Nat.le_refl _)).more hbx.size
  have hqx := (hq.below hbx (Nat.le_refl _)).more hbx.size
  go_enter Try.func21, Try.ntmps21
  go_wp2_with fail
  refine (check_any first n A m c ps B l d qs _ hrx hqx (by omega) (by omega)).mono ?_
  rintro e w1 ⟨rfl, hb1⟩
  have hb1' := hbx.trans (hb1.mono hbx.size)
  have hres1 := hres.out.below hb1 hsx
  have hsz1 := hb1'.size
  generalize w.alloc (.cells #[.int .i64 0, .int .i64 0, .int .i64 0] 24) = wx at *
  cases hck : checkB first n ps qs with
  | false =>
    have hN : Hid (stepB first n ps qs f = (none, 0, false)) := by show stepB first n ps qs f = _; unfold stepB; rw [hck]; simp
    have he : errB false = 2 := rfl
    rw [he]
    have Hck := Lib.hid hck
    clear hck
    obtain ⟨⟨q0, q1, q2, z0, z1, z2⟩, y0, y1, y2⟩ := hres1
    obtain ⟨p0, p1, p2⟩ := three' (v0 := .int .i64 0) (v1 := .int .i64 0) (v2 := .int .i64 0) z0 z1 z2
    go_wp2
    refine bodyPost_ret (v := .tuple #[.agg #[.int .i64 0, .int .i64 0, .int .i64 0], .int .i64 0, .bool false, .int .i64 2]) (by simp [results, Try.results21, go_sem, p0, p1, p2]) rfl ⟨by rw [hN.out, Hck.out]; rfl, ?_⟩
    exact ((hb1'.setCell (by simp) _).setCell (by simp) _).setCell (by simp) _
  | true =>
    obtain ⟨c1, c2, c3, c4, c5, c6⟩ := check_parts hck
    have hN : Hid (stepB first n ps qs f = stepL ps f first (regionsL first n qs)) := by show stepB first n ps qs f = _; unfold stepB; rw [hck]; simp
    have he : errB true = 0 := rfl
    rw [he]
    have Hck := Lib.hid hck
    have hr1 := (hr.below hb1' (Nat.le_refl _)).more hsz1
    have hq1 := (hq.below hb1' (Nat.le_refl _)).more hsz1
    have hsm := regions_small c5 c1 c2 c3
    have hps := rising_small c4 c1 c3
    have hrl := regions_len (a := first) (n := n) (qs := qs)
    clear hck c6 c4 hrx hqx
    go_wp2_with fail
    refine (regions_any first n B l d qs _ c1 c2 c3 hq1 hl c5).mono ?_
    rintro e w2 ⟨A2, m2, d2, rfl, ho2, hb2⟩
    have hrun2 := ho2.runs
    have hb2' := hb1'.trans (hb2.mono hsz1)
    have hr2 := (hr.below hb2' (Nat.le_refl _)).more hb2'.size
    have hres2 := hres1.below hb2 hres1.lt
    have hsz2 := hb2'.size
    have hm2 : m2 ≤ 2000 := by have := hrun2.1; have := hq.1; omega
    have hlt2 := hres2.lt
    have Hres2 := Lib.hid hres2
    have Hps := Lib.hid hps
    have Hsm := Lib.hid hsm
    generalize regionsL first n qs = rs at *
    clear c5 ho2 hr1 hq1 hres1 hb2 hb1 hres2 hps hsm hrl
    go_wp2_with fail
    go_loopw [36] (fun i wr => ∃ (k : Nat), k ≤ 2 ∧ i = .int .i64 k ∧ Hid (0 < k → findL ps f rs = none) ∧ Hid (1 < k → findL ps first rs = none) ∧ Below w2.heap.size w2 wr) (fun i _ => 2 - (intOf i).toNat)
    case atStart => exact ⟨0, by omega, rfl, fun h => by omega, fun h => by omega, Below.refl _ _⟩
    case round =>
      obtain ⟨k, hk, rfl, Hf, Hg, hb⟩ := hrel
      have hbw := hb2'.trans (hb.mono hsz2)
      have hszw := hbw.size
      have hrr := hrun2.below hb (Nat.le_refl _)
      have hrp := (hr.below hbw (Nat.le_refl _)).more hszw
      have hresr := Hres2.out.below hb hlt2
      have hrr' := hrr.more hb.size
      have i0 := index0 f first
      have i1 := index1 f first
      by_cases hk0 : k = 0
      · subst hk0
        go_wp2_with fail
        refine (find_any f A2 m2 d2 rs A m c ps _ hrr' hm2 Hsm.out hrp hm Hps.out).mono ?_
        rintro e w3 ⟨rfl, hb3⟩
        have hb4 := hb.trans (hb3.mono hb.size)
        have hbw3 := hbw.trans (hb3.mono hszw)
        have hsz3 := hbw3.size
        have hres3 := hresr.below hb3 hresr.lt
        have hlt3 := hres3.lt
        obtain ⟨⟨q0, q1, q2, z0, z1, z2⟩, y0, y1, y2⟩ := hres3
        have hne3 : w.heap.size ≠ w3.heap.size := by omega
        clear hb3 hrr hrp hrr' hresr
        cases hF : findL ps f rs with
        | none =>
          have hmv : mvV none = .agg #[.int .i64 0, .int .i64 0, .int .i64 0] := rfl
          rw [hmv]
          have HF := Lib.hid hF
          clear hF
          go_wp2
          go_roundw
          case rel => exact ⟨1, by omega, by go_num, fun _ => HF.out, fun h => by omega, hb4.alloc (by have := hb4.size; omega) _⟩
          case measure => simp [intOf]
        | some mv =>
          obtain ⟨m1, mt, ml⟩ := mv
          have hok := findL_some Hps.out Hsm.out hF
          dsimp only at hok
          obtain ⟨o1, o2, o3, o4, o5, o6⟩ := hok
          have hmv : mvV (some (m1, mt, ml)) = .agg #[.int .i64 m1, .int .i64 mt, .int .i64 ml] := rfl
          rw [hmv]
          have HF : Hid (stepB first n ps qs f = (some (m1, mt, ml), mt + ml, false)) := hN.out.trans (stepL_one hF)
          clear hF
          go_wp2
          go_region
          all_goals
            go_wp2
            obtain ⟨p0, p1, p2⟩ := three (o := .cells #[.int .i64 m1, .int .i64 mt, .int .i64 ml] 24) (v0 := .int .i64 m1) (v1 := .int .i64 mt) (v2 := .int .i64 ml) z0 z1 z2
            refine bodyPost_ret (v := .tuple #[.agg #[.int .i64 m1, .int .i64 mt, .int .i64 ml], .int .i64 (mt + ml), .bool false, .int .i64 0]) (by simp [results, Try.results21, go_sem, p0, p1, p2]) rfl ⟨by rw [HF.out, Hck.out]; rfl, ?_⟩
            exact ((((hbw3.setCell (by simp) _).setCell (by simp) _).setCell (by simp) _).alloc (by simp [World.setCell]; omega) _).drew
      · by_cases hk1 : k = 1
        · subst hk1
          have hFf : Hid (findL ps f rs = none) := Hf.out (by omega)
          go_wp2_with fail
          refine (find_any first A2 m2 d2 rs A m c ps _ hrr' hm2 Hsm.out hrp hm Hps.out).mono ?_
          rintro e w3 ⟨rfl, hb3⟩
          have hb4 := hb.trans (hb3.mono hb.size)
          have hbw3 := hbw.trans (hb3.mono hszw)
          have hsz3 := hbw3.size
          have hres3 := hresr.below hb3 hresr.lt
          have hlt3 := hres3.lt
          obtain ⟨⟨q0, q1, q2, z0, z1, z2⟩, y0, y1, y2⟩ := hres3
          have hne3 : w.heap.size ≠ w3.heap.size := by omega
          clear hb3 hrr hrp hrr' hresr
          cases hF : findL ps first rs with
          | none =>
            have hmv : mvV none = .agg #[.int .i64 0, .int .i64 0, .int .i64 0] := rfl
            rw [hmv]
            have HF := Lib.hid hF
            clear hF
            go_wp2
            go_roundw
            case rel => exact ⟨2, by omega, by go_num, fun _ => hFf.out, fun _ => HF.out, hb4.alloc (by have := hb4.size; omega) _⟩
            case measure => simp [intOf]
          | some mv =>
            obtain ⟨m1, mt, ml⟩ := mv
            have hok := findL_some Hps.out Hsm.out hF
            dsimp only at hok
            obtain ⟨o1, o2, o3, o4, o5, o6⟩ := hok
            have hmv : mvV (some (m1, mt, ml)) = .agg #[.int .i64 m1, .int .i64 mt, .int .i64 ml] := rfl
            rw [hmv]
            have HF : Hid (stepB first n ps qs f = (some (m1, mt, ml), mt + ml, false)) := hN.out.trans (stepL_two hFf.out hF)
            clear hF
            go_wp2
            go_region
            all_goals
              go_wp2
              obtain ⟨p0, p1, p2⟩ := three (o := .cells #[.int .i64 m1, .int .i64 mt, .int .i64 ml] 24) (v0 := .int .i64 m1) (v1 := .int .i64 mt) (v2 := .int .i64 ml) z0 z1 z2
              refine bodyPost_ret (v := .tuple #[.agg #[.int .i64 m1, .int .i64 mt, .int .i64 ml], .int .i64 (mt + ml), .bool false, .int .i64 0]) (by simp [results, Try.results21, go_sem, p0, p1, p2]) rfl ⟨by rw [HF.out, Hck.out]; rfl, ?_⟩
              exact ((((hbw3.setCell (by simp) _).setCell (by simp) _).setCell (by simp) _).alloc (by simp [World.setCell]; omega) _).drew
        · obtain rfl : k = 2 := by omega
          have HF : Hid (stepB first n ps qs f = (none, first, true)) := hN.out.trans (stepL_none (Hf.out (by omega)) (Hg.out (by omega)))
          obtain ⟨⟨q0, q1, q2, z0, z1, z2⟩, y0, y1, y2⟩ := hresr
          obtain ⟨p0, p1, p2⟩ := three' (v0 := .int .i64 0) (v1 := .int .i64 0) (v2 := .int .i64 0) z0 z1 z2
          go_wp2
          refine bodyPost_ret (v := .tuple #[.agg #[.int .i64 0, .int .i64 0, .int .i64 0], .int .i64 first, .bool true, .int .i64 0]) (by simp [results, Try.results21, go_sem, p0, p1, p2]) rfl ⟨by rw [HF.out, Hck.out]; rfl, ?_⟩
          exact ((hbw.setCell (by simp) _).setCell (by simp) _).setCell (by simp) _
end Go.Proofs.Ytkifpnhijdcjlaa
