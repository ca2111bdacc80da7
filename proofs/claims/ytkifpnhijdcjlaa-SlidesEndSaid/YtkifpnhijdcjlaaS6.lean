/- The sort: the merge, whole. -/
import Derived.Test.YtkifpnhijdcjlaaS5
namespace Go.Proofs.Ytkifpnhijdcjlaa
open Go.RowKit
attribute [local go_sem] ext_cell ext_frozen

set_option maxRecDepth 100000 in
set_option maxHeartbeats 16000000 in
theorem merge_gt (N : Nat) (ih : MergeSaid N) (base g n cap : Nat) (P L R S : RunL) (a m b mid : Nat) (w : World) (hN : L.length + R.length ≤ N + 1) (ha : P.length = a) (hm : a + L.length = m) (hb : m + R.length = b)
    (h : Own w base (rowV g n cap) (P ++ (L ++ (R ++ S)))) (hn : n ≤ 1048576) (hL : Up L) (hR : Up R) (hL2 : 1 < L.length) (hR2 : 1 < R.length) (hmid : ((a : Int) + (b : Int)) / 2 = (mid : Int)) (hgt : mid < m) :
    Calls Try.prog 44 #[rowV g n cap, .int .i64 a, .int .i64 m, .int .i64 b, .func (.func 28) #[] #[]] w (SortPost base g n cap (P ++ (srt (L ++ R) ++ S)) w) := by
  have hlen := h.runs.1
  simp only [List.length_append] at hlen
  obtain ⟨xs, hxs⟩ : ∃ xs, xs = P ++ (L ++ (R ++ S)) := ⟨_, rfl⟩
  rw [← hxs] at h
  have Hih := Lib.hid ih
  have Hb := Lib.hid (And.intro hN (And.intro ha (And.intro hm hb)))
  have Hxs := Lib.hid hxs
  have HL := Lib.hid hL
  have HR := Lib.hid hR
  have ham : a + 1 < m := by omega
  have hmb : m + 1 < b := by omega
  have hbn : b ≤ n := by omega
  have hmd1 : mid + mid ≤ a + b := by omega
  have hmd2 : a + b ≤ mid + mid + 1 := by omega
  obtain ⟨d1, hd1⟩ : ∃ d1 : Nat, (m : Int) - (a : Int) = (d1 : Int) := ⟨m - a, by omega⟩
  have hd1' : 1 < d1 := by omega
  have hd2 : ((d1 : Int) == 1) = false := beq_eq_false_iff_ne.2 (by omega)
  have hd3 : (d1 == 1) = false := beq_eq_false_iff_ne.2 (by omega)
  obtain ⟨f1, hf1⟩ : ∃ f1 : Nat, (b : Int) - (m : Int) = (f1 : Int) := ⟨b - m, by omega⟩
  have hf1' : 1 < f1 := by omega
  have hf2 : ((f1 : Int) == 1) = false := beq_eq_false_iff_ne.2 (by omega)
  have hf3 : (f1 == 1) = false := beq_eq_false_iff_ne.2 (by omega)
  obtain ⟨nn, hnn⟩ : ∃ nn : Nat, (mid : Int) + (m : Int) = (nn : Int) := ⟨mid + m, by omega⟩
  have hnn1 : mid + m ≤ nn := by omega
  have hnn2 : nn ≤ mid + m := by omega
  obtain ⟨p, hp⟩ : ∃ p : Nat, (nn : Int) - 1 = (p : Int) := ⟨nn - 1, by omega⟩
  have hp1 : p + 1 ≤ nn := by omega
  have hp2 : nn ≤ p + 1 := by omega
  obtain ⟨lo, hlo⟩ : ∃ lo : Nat, (nn : Int) - (b : Int) = (lo : Int) := ⟨nn - b, by omega⟩
  have hlo1 : lo + b ≤ nn := by omega
  have hlo2 : nn ≤ lo + b := by omega
  clear ih hN ha hm hb hxs hL hR hL2 hR2 hlen
  go_enter Try.func44, Try.ntmps44
  go_wp2_with fail
  clear hd1 hd2 hd3 hd1' hf1 hf2 hf3 hf1' hmid hnn hp hlo
  go_loopw [20, 21] (fun u v wr => ∃ i j : Nat, lo ≤ i ∧ i ≤ j ∧ j ≤ mid ∧ u = .int .i64 i ∧ v = .int .i64 j ∧ Hid (SrchM xs p lo mid i j) ∧ Hid (Own wr base (rowV g n cap) xs) ∧ w.grownBy wr (some g)) (fun u v _ => (intOf v - intOf u).toNat)
  case atStart => exact ⟨lo, mid, by omega, by omega, by omega, rfl, rfl, ⟨fun k h1 h2 => by omega, fun k h1 h2 => by omega⟩, h, World.grownBy.refl _ _⟩
  case round =>
    obtain ⟨i, j, hmi, hij, hj, rfl, rfl, Hs, Ho, hg⟩ := hrel
    by_cases hlt : i < j
    · obtain ⟨h, hh⟩ : ∃ h : Nat, ((i : Int) + (j : Int)) / 2 = (h : Int) := ⟨(i + j) / 2, by omega⟩
      have h1 : i ≤ h := by omega
      have h2 : h < j := by omega
      obtain ⟨r, hr⟩ : ∃ r : Nat, (p : Int) - (h : Int) = (r : Int) := ⟨p - h, by omega⟩
      have Hr : Hid (p - h = r) := by show p - h = r; omega
      have hrn : r < n := by omega
      have hhn : h < n := by omega
      obtain ⟨c0, c1, _, _, j0, j1⟩ := Ho.out.get (i := h) hhn
      obtain ⟨d0, d1, _, _, k0, k1⟩ := Ho.out.get (i := r) hrn
      have hgl := (Ho.out.1.lt g rfl).2
      have hmonoL : Hid (∀ k k', a ≤ k → k ≤ k' → k' < m → (at0 xs k).1 ≤ (at0 xs k').1) := fun k k' q1 q2 q3 => by
        obtain ⟨b0, b1, b2, b3⟩ := Hb.out
        rw [Hxs.out, at0_append_right (j := k - a) (by omega), at0_append_left (by omega), at0_append_right (j := k' - a) (by omega), at0_append_left (by omega)]
        exact up_at0 HL.out (by omega) (by omega)
      have hmonoR : Hid (∀ k k', m ≤ k → k ≤ k' → k' < b → (at0 xs k).1 ≤ (at0 xs k').1) := fun k k' q1 q2 q3 => by
        obtain ⟨b0, b1, b2, b3⟩ := Hb.out
        rw [Hxs.out, at0_append_right (j := L.length + (k - m)) (by omega), at0_append_right (j := k - m) (by omega), at0_append_left (by omega), at0_append_right (j := L.length + (k' - m)) (by omega), at0_append_right (j := k' - m) (by omega), at0_append_left (by omega)]
        exact up_at0 HR.out (by omega) (by omega)
      unfold I64 at j0 j1 k0 k1
      obtain ⟨j01, j02⟩ := j0
      obtain ⟨j11, j12⟩ := j1
      obtain ⟨k01, k02⟩ := k0
      obtain ⟨k11, k12⟩ := k1
      by_cases hc : (at0 xs r).1 < (at0 xs h).1
      · have hcm := cmp_lt hc
        have hcb := decide_eq_true hcm
        have Hn : Hid (SrchM xs p lo mid i h) := ⟨Hs.out.1, fun k q1 q2 => by
          have x1 := hmonoL.out h k (by omega) q1 (by omega)
          have x2 := hmonoR.out (p - k) r (by omega) (by have := Hr.out; omega) (by omega)
          omega⟩
        clear hc
        go_wp2_with fail
        refine wp_region_grow_lit (by kernel_rfl) (by kernel_rfl) ?_
        repeat (go_big_quiet_step ((go_at_call 28; exact grow_of (cmpRuns_any _ _ _ _ _))))
        refine wpQuiet_nil ?_
        intro _ hw'
        obtain ⟨z, hw''⟩ := hw'
        subst hw''
        go_wp2
        go_roundw
        case rel => exact ⟨i, h, by omega, by omega, by omega, rfl, by go_num, Hn, Ho.out.below (ext_below wr z) (Nat.le_refl _), gext hg z⟩
        case measure => simp [intOf]; omega
      · have hcm := cmp_ge hc
        have hcb := decide_eq_false hcm
        have Hn : Hid (SrchM xs p lo mid (h + 1) j) := ⟨fun k q1 q2 => by
          have x1 := hmonoL.out k h (by omega) (by omega) (by omega)
          have x2 := hmonoR.out r (p - k) (by omega) (by have := Hr.out; omega) (by omega)
          omega, Hs.out.2⟩
        clear hc
        go_wp2_with fail
        refine wp_region_grow_lit (by kernel_rfl) (by kernel_rfl) ?_
        repeat (go_big_quiet_step ((go_at_call 28; exact grow_of (cmpRuns_any _ _ _ _ _))))
        refine wpQuiet_nil ?_
        intro _ hw'
        obtain ⟨z, hw''⟩ := hw'
        subst hw''
        go_wp2
        go_roundw
        case rel => exact ⟨h + 1, j, by omega, by omega, by omega, by go_num, rfl, Hn, Ho.out.below (ext_below wr z) (Nat.le_refl _), gext hg z⟩
        case measure => simp [intOf]; omega
    · obtain rfl : i = j := by omega
      obtain ⟨e, he⟩ : ∃ e : Nat, (nn : Int) - (i : Int) = (e : Int) := ⟨nn - i, by omega⟩
      have he1 : e + i ≤ nn := by omega
      have he2 : nn ≤ e + i := by omega
      have Hpart : Hid (∃ L1 L2 R1 R2, L = L1 ++ L2 ∧ R = R1 ++ R2 ∧ a + L1.length = i ∧ m + R1.length = e ∧ srt (L ++ R) = srt (L1 ++ R1) ++ srt (L2 ++ R2)) := by
        obtain ⟨b0, b1, b2, b3⟩ := Hb.out
        have hS := Hs.out
        rw [show p = mid + m - 1 from by omega] at hS
        exact parted (lo := lo) (hi := mid) (s := i) (mid := mid) Hxs.out b1 b2 b3 HL.out HR.out (by omega) (by omega) (by omega) (by omega) (by omega) (by omega) (by omega) (by omega) (by omega) hS (by omega) (by omega) (by omega)
      obtain ⟨L1, L2, R1, R2, eL, eR, hL1, hR1, hsrt⟩ := Hpart.out
      have Hsrt := Lib.hid hsrt
      have Hlen : Hid (P.length = a ∧ a + L1.length = i ∧ i + L2.length = m ∧ m + R1.length = e ∧ e + R2.length = b ∧ L1.length + L2.length + (R1.length + R2.length) ≤ N + 1) := by
        obtain ⟨b0, b1, b2, b3⟩ := Hb.out
        rw [eL, eR] at b0
        rw [eL, List.length_append] at b2
        rw [eR, List.length_append] at b3
        simp only [List.length_append] at b0
        exact ⟨b1, hL1, by omega, hR1, by omega, by omega⟩
      have HU : Hid (Up L1 ∧ Up L2 ∧ Up R1 ∧ Up R2) := by
        have q1 := HL.out
        have q2 := HR.out
        rw [eL] at q1
        rw [eR] at q2
        exact ⟨(up_append.1 q1).1, (up_append.1 q1).2.1, (up_append.1 q2).1, (up_append.1 q2).2.1⟩
      have Ho1 : Hid (Own wr base (rowV g n cap) ((P ++ L1) ++ (L2 ++ (R1 ++ (R2 ++ S))))) := by
        have := Ho.out
        rw [Hxs.out, eL, eR] at this
        apply Lib.hid
        simpa using this
      have Hfin : Hid (P ++ (srt (L ++ R) ++ S) = (P ++ srt (L1 ++ R1)) ++ (srt (L2 ++ R2) ++ S)) := by
        show P ++ (srt (L ++ R) ++ S) = _
        rw [Hsrt.out]; simp
      clear hsrt eL eR hL1 hR1 Hpart Hs
      have hei : i ≤ m := by omega
      have hai : a ≤ i := by omega
      have hme : m ≤ e := by omega
      have heb : e ≤ b := by omega
      have hbnd1 : i ≤ mid := by omega
      have hbnd2 : mid ≤ e := by omega
      have q1 : i < mid ↔ m < e := by omega
      have q2 : mid < e ↔ i < m := by omega
      clear q1 q2
      by_cases z1 : a < i
      · by_cases z2 : i < m
        · by_cases z3 : m < e
          · by_cases z4 : e < b
            · have t1 : decide (a < i) = true := decide_eq_true (by omega)
              have t1i : decide ((a : Int) < (i : Int)) = true := decide_eq_true (by omega)
              have t2 : decide (i < m) = true := decide_eq_true (by omega)
              have t2i : decide ((i : Int) < (m : Int)) = true := decide_eq_true (by omega)
              have t3 : decide (m < e) = true := decide_eq_true (by omega)
              have t3i : decide ((m : Int) < (e : Int)) = true := decide_eq_true (by omega)
              have t4 : decide (e < b) = true := decide_eq_true (by omega)
              have t4i : decide ((e : Int) < (b : Int)) = true := decide_eq_true (by omega)
              have t5 : decide (i < mid) = true := decide_eq_true (by omega)
              have t5i : decide ((i : Int) < (mid : Int)) = true := decide_eq_true (by omega)
              have t6 : decide (mid < e) = true := decide_eq_true (by omega)
              have t6i : decide ((mid : Int) < (e : Int)) = true := decide_eq_true (by omega)
              go_wp2_with fail
              refine (rotate_at base g n cap _ (P ++ L1) L2 R1 (R2 ++ S) i m e (by have := Hlen.out.1; have := Hlen.out.2.1; rw [List.length_append]; omega) Hlen.out.2.2.1 Hlen.out.2.2.2.1 _ Ho1.out hn (by have := Hlen.out.2.2.1; omega) (by have := Hlen.out.2.2.2.1; omega)).mono ?_
              rintro _ w1 ⟨rfl, ho2, hg2⟩
              have Ho2 : Hid (Own w1 base (rowV g n cap) (P ++ (L1 ++ (R1 ++ (L2 ++ (R2 ++ S)))))) := by apply Lib.hid; simpa using ho2
              have hg3 := gtrans hg hg2
              clear ho2 hg2
              go_wp2_with fail
              refine (Hih.out base g n cap P L1 R1 (L2 ++ (R2 ++ S)) a i mid _ (by have := Hlen.out.2.2.2.2.2; have := Hlen.out.2.2.1; have := Hlen.out.2.2.2.2.1; omega) Hlen.out.1 Hlen.out.2.1 (by have := Hlen.out.2.2.2.1; omega) Ho2.out hn HU.out.1 HU.out.2.2.1 (by have := Hlen.out.2.1; omega) (by have := Hlen.out.2.2.2.1; omega)).mono ?_
              rintro _ w2 ⟨rfl, ho4, hg4⟩
              have Ho3 : Hid (Own w2 base (rowV g n cap) ((P ++ srt (L1 ++ R1)) ++ (L2 ++ (R2 ++ S)))) := by have := ho4; apply Lib.hid; simpa using this
              have hg5 := gtrans hg3 hg4
              clear ho4 hg4
              go_wp2_with fail
              refine (Hih.out base g n cap (P ++ srt (L1 ++ R1)) L2 R2 S mid e b _ (by have := Hlen.out.2.2.2.2.2; have := Hlen.out.2.1; have := Hlen.out.2.2.2.1; omega) (by have := Hlen.out.1; have := Hlen.out.2.1; have := Hlen.out.2.2.2.1; rw [List.length_append, srt_len, List.length_append]; omega) (by have := Hlen.out.2.2.1; omega) Hlen.out.2.2.2.2.1 Ho3.out hn HU.out.2.1 HU.out.2.2.2 (by have := Hlen.out.2.2.1; omega) (by have := Hlen.out.2.2.2.2.1; omega)).mono ?_
              rintro _ w3 ⟨rfl, ho6, hg6⟩
              have Ho4 : Hid (Own w3 base (rowV g n cap) ((P ++ srt (L1 ++ R1)) ++ (srt (L2 ++ R2) ++ S))) := ho6
              have hg7 := gtrans hg5 hg6
              clear ho6 hg6
              go_wp2
              go_end0
              exact ⟨rfl, by rw [Hfin.out]; exact Ho4.out, hg7⟩
            · have t1 : decide (a < i) = true := decide_eq_true (by omega)
              have t1i : decide ((a : Int) < (i : Int)) = true := decide_eq_true (by omega)
              have t2 : decide (i < m) = true := decide_eq_true (by omega)
              have t2i : decide ((i : Int) < (m : Int)) = true := decide_eq_true (by omega)
              have t3 : decide (m < e) = true := decide_eq_true (by omega)
              have t3i : decide ((m : Int) < (e : Int)) = true := decide_eq_true (by omega)
              have t4 : decide (e < b) = false := decide_eq_false (by omega)
              have t4i : decide ((e : Int) < (b : Int)) = false := decide_eq_false (by omega)
              have t5 : decide (i < mid) = true := decide_eq_true (by omega)
              have t5i : decide ((i : Int) < (mid : Int)) = true := decide_eq_true (by omega)
              have t6 : decide (mid < e) = true := decide_eq_true (by omega)
              have t6i : decide ((mid : Int) < (e : Int)) = true := decide_eq_true (by omega)
              have zR2 : R2 = [] := List.eq_nil_of_length_eq_zero (by have := Hlen.out.2.2.2.2.1; omega)
              subst zR2
              go_wp2_with fail
              refine (rotate_at base g n cap _ (P ++ L1) L2 R1 (([] : RunL) ++ S) i m e (by have := Hlen.out.1; have := Hlen.out.2.1; rw [List.length_append]; omega) Hlen.out.2.2.1 Hlen.out.2.2.2.1 _ Ho1.out hn (by have := Hlen.out.2.2.1; omega) (by have := Hlen.out.2.2.2.1; omega)).mono ?_
              rintro _ w1 ⟨rfl, ho2, hg2⟩
              have Ho2 : Hid (Own w1 base (rowV g n cap) (P ++ (L1 ++ (R1 ++ (L2 ++ (([] : RunL) ++ S)))))) := by apply Lib.hid; simpa using ho2
              have hg3 := gtrans hg hg2
              clear ho2 hg2
              go_wp2_with fail
              refine (Hih.out base g n cap P L1 R1 (L2 ++ (([] : RunL) ++ S)) a i mid _ (by have := Hlen.out.2.2.2.2.2; have := Hlen.out.2.2.1; have := Hlen.out.2.2.2.2.1; omega) Hlen.out.1 Hlen.out.2.1 (by have := Hlen.out.2.2.2.1; omega) Ho2.out hn HU.out.1 HU.out.2.2.1 (by have := Hlen.out.2.1; omega) (by have := Hlen.out.2.2.2.1; omega)).mono ?_
              rintro _ w2 ⟨rfl, ho4, hg4⟩
              have Ho3 : Hid (Own w2 base (rowV g n cap) ((P ++ srt (L1 ++ R1)) ++ (L2 ++ (([] : RunL) ++ S)))) := by have := ho4; apply Lib.hid; simpa using this
              have hg5 := gtrans hg3 hg4
              clear ho4 hg4
              go_wp2_with fail
              have Ho4 : Hid (Own w2 base (rowV g n cap) ((P ++ srt (L1 ++ R1)) ++ (srt (L2 ++ ([] : RunL)) ++ S))) := by have := Ho3.out; rw [show srt (L2 ++ ([] : RunL)) = L2 ++ ([] : RunL) from srt_id (by simpa using HU.out.2.1)]; apply Lib.hid; simpa using this
              have hg7 := hg5
              go_wp2
              go_end0
              exact ⟨rfl, by rw [Hfin.out]; exact Ho4.out, hg7⟩
          · by_cases z4 : e < b
            · have t1 : decide (a < i) = true := decide_eq_true (by omega)
              have t1i : decide ((a : Int) < (i : Int)) = true := decide_eq_true (by omega)
              have t2 : decide (i < m) = true := decide_eq_true (by omega)
              have t2i : decide ((i : Int) < (m : Int)) = true := decide_eq_true (by omega)
              have t3 : decide (m < e) = false := decide_eq_false (by omega)
              have t3i : decide ((m : Int) < (e : Int)) = false := decide_eq_false (by omega)
              have t4 : decide (e < b) = true := decide_eq_true (by omega)
              have t4i : decide ((e : Int) < (b : Int)) = true := decide_eq_true (by omega)
              have t5 : decide (i < mid) = false := decide_eq_false (by omega)
              have t5i : decide ((i : Int) < (mid : Int)) = false := decide_eq_false (by omega)
              have t6 : decide (mid < e) = true := decide_eq_true (by omega)
              have t6i : decide ((mid : Int) < (e : Int)) = true := decide_eq_true (by omega)
              have zR1 : R1 = [] := List.eq_nil_of_length_eq_zero (by have := Hlen.out.2.2.2.1; omega)
              subst zR1
              go_wp2_with fail
              have Ho2 : Hid (Own wr base (rowV g n cap) (P ++ (L1 ++ (([] : RunL) ++ (L2 ++ (R2 ++ S)))))) := by have := Ho1.out; apply Lib.hid; simpa using this
              have hg3 := hg
              have Ho3 : Hid (Own wr base (rowV g n cap) ((P ++ srt (L1 ++ ([] : RunL))) ++ (L2 ++ (R2 ++ S)))) := by have := Ho2.out; rw [show srt (L1 ++ ([] : RunL)) = L1 ++ ([] : RunL) from srt_id (by simpa using HU.out.1)]; apply Lib.hid; simpa using this
              have hg5 := hg3
              refine (Hih.out base g n cap (P ++ srt (L1 ++ ([] : RunL))) L2 R2 S mid e b _ (by have := Hlen.out.2.2.2.2.2; have := Hlen.out.2.1; have := Hlen.out.2.2.2.1; omega) (by have := Hlen.out.1; have := Hlen.out.2.1; have := Hlen.out.2.2.2.1; rw [List.length_append, srt_len, List.length_append]; omega) (by have := Hlen.out.2.2.1; omega) Hlen.out.2.2.2.2.1 Ho3.out hn HU.out.2.1 HU.out.2.2.2 (by have := Hlen.out.2.2.1; omega) (by have := Hlen.out.2.2.2.2.1; omega)).mono ?_
              rintro _ w3 ⟨rfl, ho6, hg6⟩
              have Ho4 : Hid (Own w3 base (rowV g n cap) ((P ++ srt (L1 ++ ([] : RunL))) ++ (srt (L2 ++ R2) ++ S))) := ho6
              have hg7 := gtrans hg5 hg6
              clear ho6 hg6
              go_wp2
              go_end0
              exact ⟨rfl, by rw [Hfin.out]; exact Ho4.out, hg7⟩
            · exfalso
              omega
        · by_cases z3 : m < e
          · by_cases z4 : e < b
            · have t1 : decide (a < i) = true := decide_eq_true (by omega)
              have t1i : decide ((a : Int) < (i : Int)) = true := decide_eq_true (by omega)
              have t2 : decide (i < m) = false := decide_eq_false (by omega)
              have t2i : decide ((i : Int) < (m : Int)) = false := decide_eq_false (by omega)
              have t3 : decide (m < e) = true := decide_eq_true (by omega)
              have t3i : decide ((m : Int) < (e : Int)) = true := decide_eq_true (by omega)
              have t4 : decide (e < b) = true := decide_eq_true (by omega)
              have t4i : decide ((e : Int) < (b : Int)) = true := decide_eq_true (by omega)
              have t5 : decide (i < mid) = true := decide_eq_true (by omega)
              have t5i : decide ((i : Int) < (mid : Int)) = true := decide_eq_true (by omega)
              have t6 : decide (mid < e) = false := decide_eq_false (by omega)
              have t6i : decide ((mid : Int) < (e : Int)) = false := decide_eq_false (by omega)
              have zL2 : L2 = [] := List.eq_nil_of_length_eq_zero (by have := Hlen.out.2.2.1; omega)
              subst zL2
              go_wp2_with fail
              have Ho2 : Hid (Own wr base (rowV g n cap) (P ++ (L1 ++ (R1 ++ (([] : RunL) ++ (R2 ++ S)))))) := by have := Ho1.out; apply Lib.hid; simpa using this
              have hg3 := hg
              refine (Hih.out base g n cap P L1 R1 (([] : RunL) ++ (R2 ++ S)) a i mid _ (by have := Hlen.out.2.2.2.2.2; have := Hlen.out.2.2.1; have := Hlen.out.2.2.2.2.1; omega) Hlen.out.1 Hlen.out.2.1 (by have := Hlen.out.2.2.2.1; omega) Ho2.out hn HU.out.1 HU.out.2.2.1 (by have := Hlen.out.2.1; omega) (by have := Hlen.out.2.2.2.1; omega)).mono ?_
              rintro _ w2 ⟨rfl, ho4, hg4⟩
              have Ho3 : Hid (Own w2 base (rowV g n cap) ((P ++ srt (L1 ++ R1)) ++ (([] : RunL) ++ (R2 ++ S)))) := by have := ho4; apply Lib.hid; simpa using this
              have hg5 := gtrans hg3 hg4
              clear ho4 hg4
              go_wp2_with fail
              have Ho4 : Hid (Own w2 base (rowV g n cap) ((P ++ srt (L1 ++ R1)) ++ (srt (([] : RunL) ++ R2) ++ S))) := by have := Ho3.out; rw [show srt (([] : RunL) ++ R2) = ([] : RunL) ++ R2 from srt_id (by simpa using HU.out.2.2.2)]; apply Lib.hid; simpa using this
              have hg7 := hg5
              go_wp2
              go_end0
              exact ⟨rfl, by rw [Hfin.out]; exact Ho4.out, hg7⟩
            · have t1 : decide (a < i) = true := decide_eq_true (by omega)
              have t1i : decide ((a : Int) < (i : Int)) = true := decide_eq_true (by omega)
              have t2 : decide (i < m) = false := decide_eq_false (by omega)
              have t2i : decide ((i : Int) < (m : Int)) = false := decide_eq_false (by omega)
              have t3 : decide (m < e) = true := decide_eq_true (by omega)
              have t3i : decide ((m : Int) < (e : Int)) = true := decide_eq_true (by omega)
              have t4 : decide (e < b) = false := decide_eq_false (by omega)
              have t4i : decide ((e : Int) < (b : Int)) = false := decide_eq_false (by omega)
              have t5 : decide (i < mid) = true := decide_eq_true (by omega)
              have t5i : decide ((i : Int) < (mid : Int)) = true := decide_eq_true (by omega)
              have t6 : decide (mid < e) = false := decide_eq_false (by omega)
              have t6i : decide ((mid : Int) < (e : Int)) = false := decide_eq_false (by omega)
              have zL2 : L2 = [] := List.eq_nil_of_length_eq_zero (by have := Hlen.out.2.2.1; omega)
              subst zL2
              have zR2 : R2 = [] := List.eq_nil_of_length_eq_zero (by have := Hlen.out.2.2.2.2.1; omega)
              subst zR2
              go_wp2_with fail
              have Ho2 : Hid (Own wr base (rowV g n cap) (P ++ (L1 ++ (R1 ++ (([] : RunL) ++ (([] : RunL) ++ S)))))) := by have := Ho1.out; apply Lib.hid; simpa using this
              have hg3 := hg
              refine (Hih.out base g n cap P L1 R1 (([] : RunL) ++ (([] : RunL) ++ S)) a i mid _ (by have := Hlen.out.2.2.2.2.2; have := Hlen.out.2.2.1; have := Hlen.out.2.2.2.2.1; omega) Hlen.out.1 Hlen.out.2.1 (by have := Hlen.out.2.2.2.1; omega) Ho2.out hn HU.out.1 HU.out.2.2.1 (by have := Hlen.out.2.1; omega) (by have := Hlen.out.2.2.2.1; omega)).mono ?_
              rintro _ w2 ⟨rfl, ho4, hg4⟩
              have Ho3 : Hid (Own w2 base (rowV g n cap) ((P ++ srt (L1 ++ R1)) ++ (([] : RunL) ++ (([] : RunL) ++ S)))) := by have := ho4; apply Lib.hid; simpa using this
              have hg5 := gtrans hg3 hg4
              clear ho4 hg4
              go_wp2_with fail
              have Ho4 : Hid (Own w2 base (rowV g n cap) ((P ++ srt (L1 ++ R1)) ++ (srt (([] : RunL) ++ ([] : RunL)) ++ S))) := by have := Ho3.out; rw [show srt (([] : RunL) ++ ([] : RunL)) = ([] : RunL) ++ ([] : RunL) from srt_id (by simpa using HU.out.2.2.2)]; apply Lib.hid; simpa using this
              have hg7 := hg5
              go_wp2
              go_end0
              exact ⟨rfl, by rw [Hfin.out]; exact Ho4.out, hg7⟩
          · by_cases z4 : e < b
            · have t1 : decide (a < i) = true := decide_eq_true (by omega)
              have t1i : decide ((a : Int) < (i : Int)) = true := decide_eq_true (by omega)
              have t2 : decide (i < m) = false := decide_eq_false (by omega)
              have t2i : decide ((i : Int) < (m : Int)) = false := decide_eq_false (by omega)
              have t3 : decide (m < e) = false := decide_eq_false (by omega)
              have t3i : decide ((m : Int) < (e : Int)) = false := decide_eq_false (by omega)
              have t4 : decide (e < b) = true := decide_eq_true (by omega)
              have t4i : decide ((e : Int) < (b : Int)) = true := decide_eq_true (by omega)
              have t5 : decide (i < mid) = false := decide_eq_false (by omega)
              have t5i : decide ((i : Int) < (mid : Int)) = false := decide_eq_false (by omega)
              have t6 : decide (mid < e) = false := decide_eq_false (by omega)
              have t6i : decide ((mid : Int) < (e : Int)) = false := decide_eq_false (by omega)
              have zL2 : L2 = [] := List.eq_nil_of_length_eq_zero (by have := Hlen.out.2.2.1; omega)
              subst zL2
              have zR1 : R1 = [] := List.eq_nil_of_length_eq_zero (by have := Hlen.out.2.2.2.1; omega)
              subst zR1
              go_wp2_with fail
              have Ho2 : Hid (Own wr base (rowV g n cap) (P ++ (L1 ++ (([] : RunL) ++ (([] : RunL) ++ (R2 ++ S)))))) := by have := Ho1.out; apply Lib.hid; simpa using this
              have hg3 := hg
              have Ho3 : Hid (Own wr base (rowV g n cap) ((P ++ srt (L1 ++ ([] : RunL))) ++ (([] : RunL) ++ (R2 ++ S)))) := by have := Ho2.out; rw [show srt (L1 ++ ([] : RunL)) = L1 ++ ([] : RunL) from srt_id (by simpa using HU.out.1)]; apply Lib.hid; simpa using this
              have hg5 := hg3
              have Ho4 : Hid (Own wr base (rowV g n cap) ((P ++ srt (L1 ++ ([] : RunL))) ++ (srt (([] : RunL) ++ R2) ++ S))) := by have := Ho3.out; rw [show srt (([] : RunL) ++ R2) = ([] : RunL) ++ R2 from srt_id (by simpa using HU.out.2.2.2)]; apply Lib.hid; simpa using this
              have hg7 := hg5
              go_wp2
              go_end0
              exact ⟨rfl, by rw [Hfin.out]; exact Ho4.out, hg7⟩
            · exfalso
              omega
      · by_cases z2 : i < m
        · by_cases z3 : m < e
          · by_cases z4 : e < b
            · have t1 : decide (a < i) = false := decide_eq_false (by omega)
              have t1i : decide ((a : Int) < (i : Int)) = false := decide_eq_false (by omega)
              have t2 : decide (i < m) = true := decide_eq_true (by omega)
              have t2i : decide ((i : Int) < (m : Int)) = true := decide_eq_true (by omega)
              have t3 : decide (m < e) = true := decide_eq_true (by omega)
              have t3i : decide ((m : Int) < (e : Int)) = true := decide_eq_true (by omega)
              have t4 : decide (e < b) = true := decide_eq_true (by omega)
              have t4i : decide ((e : Int) < (b : Int)) = true := decide_eq_true (by omega)
              have t5 : decide (i < mid) = true := decide_eq_true (by omega)
              have t5i : decide ((i : Int) < (mid : Int)) = true := decide_eq_true (by omega)
              have t6 : decide (mid < e) = true := decide_eq_true (by omega)
              have t6i : decide ((mid : Int) < (e : Int)) = true := decide_eq_true (by omega)
              have zL1 : L1 = [] := List.eq_nil_of_length_eq_zero (by have := Hlen.out.2.1; omega)
              subst zL1
              go_wp2_with fail
              refine (rotate_at base g n cap _ (P ++ ([] : RunL)) L2 R1 (R2 ++ S) i m e (by have := Hlen.out.1; have := Hlen.out.2.1; rw [List.length_append]; omega) Hlen.out.2.2.1 Hlen.out.2.2.2.1 _ Ho1.out hn (by have := Hlen.out.2.2.1; omega) (by have := Hlen.out.2.2.2.1; omega)).mono ?_
              rintro _ w1 ⟨rfl, ho2, hg2⟩
              have Ho2 : Hid (Own w1 base (rowV g n cap) (P ++ (([] : RunL) ++ (R1 ++ (L2 ++ (R2 ++ S)))))) := by apply Lib.hid; simpa using ho2
              have hg3 := gtrans hg hg2
              clear ho2 hg2
              go_wp2_with fail
              have Ho3 : Hid (Own w1 base (rowV g n cap) ((P ++ srt (([] : RunL) ++ R1)) ++ (L2 ++ (R2 ++ S)))) := by have := Ho2.out; rw [show srt (([] : RunL) ++ R1) = ([] : RunL) ++ R1 from srt_id (by simpa using HU.out.2.2.1)]; apply Lib.hid; simpa using this
              have hg5 := hg3
              refine (Hih.out base g n cap (P ++ srt (([] : RunL) ++ R1)) L2 R2 S mid e b _ (by have := Hlen.out.2.2.2.2.2; have := Hlen.out.2.1; have := Hlen.out.2.2.2.1; omega) (by have := Hlen.out.1; have := Hlen.out.2.1; have := Hlen.out.2.2.2.1; rw [List.length_append, srt_len, List.length_append]; omega) (by have := Hlen.out.2.2.1; omega) Hlen.out.2.2.2.2.1 Ho3.out hn HU.out.2.1 HU.out.2.2.2 (by have := Hlen.out.2.2.1; omega) (by have := Hlen.out.2.2.2.2.1; omega)).mono ?_
              rintro _ w3 ⟨rfl, ho6, hg6⟩
              have Ho4 : Hid (Own w3 base (rowV g n cap) ((P ++ srt (([] : RunL) ++ R1)) ++ (srt (L2 ++ R2) ++ S))) := ho6
              have hg7 := gtrans hg5 hg6
              clear ho6 hg6
              go_wp2
              go_end0
              exact ⟨rfl, by rw [Hfin.out]; exact Ho4.out, hg7⟩
            · have t1 : decide (a < i) = false := decide_eq_false (by omega)
              have t1i : decide ((a : Int) < (i : Int)) = false := decide_eq_false (by omega)
              have t2 : decide (i < m) = true := decide_eq_true (by omega)
              have t2i : decide ((i : Int) < (m : Int)) = true := decide_eq_true (by omega)
              have t3 : decide (m < e) = true := decide_eq_true (by omega)
              have t3i : decide ((m : Int) < (e : Int)) = true := decide_eq_true (by omega)
              have t4 : decide (e < b) = false := decide_eq_false (by omega)
              have t4i : decide ((e : Int) < (b : Int)) = false := decide_eq_false (by omega)
              have t5 : decide (i < mid) = true := decide_eq_true (by omega)
              have t5i : decide ((i : Int) < (mid : Int)) = true := decide_eq_true (by omega)
              have t6 : decide (mid < e) = true := decide_eq_true (by omega)
              have t6i : decide ((mid : Int) < (e : Int)) = true := decide_eq_true (by omega)
              have zL1 : L1 = [] := List.eq_nil_of_length_eq_zero (by have := Hlen.out.2.1; omega)
              subst zL1
              have zR2 : R2 = [] := List.eq_nil_of_length_eq_zero (by have := Hlen.out.2.2.2.2.1; omega)
              subst zR2
              go_wp2_with fail
              refine (rotate_at base g n cap _ (P ++ ([] : RunL)) L2 R1 (([] : RunL) ++ S) i m e (by have := Hlen.out.1; have := Hlen.out.2.1; rw [List.length_append]; omega) Hlen.out.2.2.1 Hlen.out.2.2.2.1 _ Ho1.out hn (by have := Hlen.out.2.2.1; omega) (by have := Hlen.out.2.2.2.1; omega)).mono ?_
              rintro _ w1 ⟨rfl, ho2, hg2⟩
              have Ho2 : Hid (Own w1 base (rowV g n cap) (P ++ (([] : RunL) ++ (R1 ++ (L2 ++ (([] : RunL) ++ S)))))) := by apply Lib.hid; simpa using ho2
              have hg3 := gtrans hg hg2
              clear ho2 hg2
              go_wp2_with fail
              have Ho3 : Hid (Own w1 base (rowV g n cap) ((P ++ srt (([] : RunL) ++ R1)) ++ (L2 ++ (([] : RunL) ++ S)))) := by have := Ho2.out; rw [show srt (([] : RunL) ++ R1) = ([] : RunL) ++ R1 from srt_id (by simpa using HU.out.2.2.1)]; apply Lib.hid; simpa using this
              have hg5 := hg3
              have Ho4 : Hid (Own w1 base (rowV g n cap) ((P ++ srt (([] : RunL) ++ R1)) ++ (srt (L2 ++ ([] : RunL)) ++ S))) := by have := Ho3.out; rw [show srt (L2 ++ ([] : RunL)) = L2 ++ ([] : RunL) from srt_id (by simpa using HU.out.2.1)]; apply Lib.hid; simpa using this
              have hg7 := hg5
              go_wp2
              go_end0
              exact ⟨rfl, by rw [Hfin.out]; exact Ho4.out, hg7⟩
          · by_cases z4 : e < b
            · have t1 : decide (a < i) = false := decide_eq_false (by omega)
              have t1i : decide ((a : Int) < (i : Int)) = false := decide_eq_false (by omega)
              have t2 : decide (i < m) = true := decide_eq_true (by omega)
              have t2i : decide ((i : Int) < (m : Int)) = true := decide_eq_true (by omega)
              have t3 : decide (m < e) = false := decide_eq_false (by omega)
              have t3i : decide ((m : Int) < (e : Int)) = false := decide_eq_false (by omega)
              have t4 : decide (e < b) = true := decide_eq_true (by omega)
              have t4i : decide ((e : Int) < (b : Int)) = true := decide_eq_true (by omega)
              have t5 : decide (i < mid) = false := decide_eq_false (by omega)
              have t5i : decide ((i : Int) < (mid : Int)) = false := decide_eq_false (by omega)
              have t6 : decide (mid < e) = true := decide_eq_true (by omega)
              have t6i : decide ((mid : Int) < (e : Int)) = true := decide_eq_true (by omega)
              have zL1 : L1 = [] := List.eq_nil_of_length_eq_zero (by have := Hlen.out.2.1; omega)
              subst zL1
              have zR1 : R1 = [] := List.eq_nil_of_length_eq_zero (by have := Hlen.out.2.2.2.1; omega)
              subst zR1
              go_wp2_with fail
              have Ho2 : Hid (Own wr base (rowV g n cap) (P ++ ([] ++ (([] : RunL) ++ (L2 ++ (R2 ++ S)))))) := by have := Ho1.out; apply Lib.hid; simpa using this
              have hg3 := hg
              have Ho3 : Hid (Own wr base (rowV g n cap) ((P ++ srt (([] : RunL) ++ ([] : RunL))) ++ (L2 ++ (R2 ++ S)))) := by have := Ho2.out; rw [show srt (([] : RunL) ++ ([] : RunL)) = ([] : RunL) ++ ([] : RunL) from srt_id (by simpa using HU.out.2.2.1)]; apply Lib.hid; simpa using this
              have hg5 := hg3
              refine (Hih.out base g n cap (P ++ srt (([] : RunL) ++ ([] : RunL))) L2 R2 S mid e b _ (by have := Hlen.out.2.2.2.2.2; have := Hlen.out.2.1; have := Hlen.out.2.2.2.1; omega) (by have := Hlen.out.1; have := Hlen.out.2.1; have := Hlen.out.2.2.2.1; rw [List.length_append, srt_len, List.length_append]; omega) (by have := Hlen.out.2.2.1; omega) Hlen.out.2.2.2.2.1 Ho3.out hn HU.out.2.1 HU.out.2.2.2 (by have := Hlen.out.2.2.1; omega) (by have := Hlen.out.2.2.2.2.1; omega)).mono ?_
              rintro _ w3 ⟨rfl, ho6, hg6⟩
              have Ho4 : Hid (Own w3 base (rowV g n cap) ((P ++ srt (([] : RunL) ++ ([] : RunL))) ++ (srt (L2 ++ R2) ++ S))) := ho6
              have hg7 := gtrans hg5 hg6
              clear ho6 hg6
              go_wp2
              go_end0
              exact ⟨rfl, by rw [Hfin.out]; exact Ho4.out, hg7⟩
            · exfalso
              omega
        · by_cases z3 : m < e
          · by_cases z4 : e < b
            · exfalso
              omega
            · exfalso
              omega
          · by_cases z4 : e < b
            · exfalso
              omega
            · exfalso
              omega
end Go.Proofs.Ytkifpnhijdcjlaa
