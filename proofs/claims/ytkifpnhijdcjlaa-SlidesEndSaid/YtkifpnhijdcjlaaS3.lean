/- The sort: the merge where one side is one run. -/
import Derived.Test.YtkifpnhijdcjlaaM4
import Derived.Test.YtkifpnhijdcjlaaS2
namespace Go.Proofs.Ytkifpnhijdcjlaa
open Go.RowKit
attribute [local go_sem] ext_cell ext_frozen

/-- the search's state, by places. -/
def SrchL (xs : RunL) (x : Int) (lo hi i j : Nat) : Prop := (∀ k, lo ≤ k → k < i → (at0 xs k).1 < x) ∧ (∀ k, j ≤ k → k < hi → x ≤ (at0 xs k).1)
/-- moving one run up. -/
def UpSt (P R1 S cur : RunL) (x : Int × Int) (k : Nat) : Prop := ∃ D E, R1 = D ++ E ∧ k = P.length + D.length ∧ cur = P ++ (D ++ x :: (E ++ S))
theorem UpSt.step {P R1 S cur : RunL} {x : Int × Int} {k : Nat} (h : UpSt P R1 S cur x k) (hk : k < P.length + R1.length) : UpSt P R1 S (swp cur k (k + 1)) x (k + 1) := by
  obtain ⟨D, E, e, hd, rfl⟩ := h
  cases E with
  | nil => rw [e] at hk; simp at hk; omega
  | cons y E =>
    refine ⟨D ++ [y], E, by rw [e]; simp, by simp; omega, ?_⟩
    have e1 : P ++ (D ++ x :: (y :: E ++ S)) = (P ++ D) ++ x :: ([] ++ y :: (E ++ S)) := by simp
    rw [e1, swp_mid (P ++ D) x [] y (E ++ S) (by simp; omega) (by simp; omega)]
    simp
theorem UpSt.done {P R1 S cur : RunL} {x : Int × Int} {k : Nat} (h : UpSt P R1 S cur x k) (hk : P.length + R1.length ≤ k) : cur = P ++ (R1 ++ x :: S) := by
  obtain ⟨D, E, e, hd, rfl⟩ := h
  have : E = [] := List.eq_nil_of_length_eq_zero (by rw [e] at hk; simp at hk; omega)
  subst this
  rw [e]; simp

set_option maxRecDepth 100000 in
set_option maxHeartbeats 8000000 in
theorem merge_left (base g n cap : Nat) (P R S : RunL) (x : Int × Int) (w : World) (h : Own w base (rowV g n cap) (P ++ (x :: (R ++ S)))) (hn : n ≤ 1048576) (hR : Up R) (hR0 : 0 < R.length) :
    Calls Try.prog 44 #[rowV g n cap, .int .i64 P.length, .int .i64 (P.length + 1 : Nat), .int .i64 (P.length + 1 + R.length : Nat), .func (.func 28) #[] #[]] w (SortPost base g n cap (P ++ (srt (x :: R) ++ S)) w) := by
  have hlen := h.runs.1
  simp only [List.length_append, List.length_cons] at hlen
  obtain ⟨a, ha⟩ : ∃ a, a = P.length := ⟨_, rfl⟩
  obtain ⟨b, hb⟩ : ∃ b, b = P.length + 1 + R.length := ⟨_, rfl⟩
  obtain ⟨m, hm⟩ : ∃ m, m = P.length + 1 := ⟨_, rfl⟩
  rw [← hb, ← hm, ← ha]
  obtain ⟨xs, hxs⟩ : ∃ xs, xs = P ++ (x :: (R ++ S)) := ⟨_, rfl⟩
  rw [← hxs] at h
  have hx : at0 xs a = x := by rw [hxs]; exact at0_mid P x _ ha
  have hRk : ∀ k, m ≤ k → k < b → at0 xs k = at0 R (k - m) := fun k h1 h2 => by
    rw [hxs, at0_append_right (j := k - P.length) (by omega), show x :: (R ++ S) = [x] ++ (R ++ S) from rfl, at0_append_right (j := k - m) (by simp; omega), at0_append_left (by omega)]
  have Hx := Lib.hid hx
  have HRk := Lib.hid hRk
  have Hxs := Lib.hid hxs
  have Hlen : Hid (P.length = a ∧ P.length + 1 = m ∧ P.length + 1 + R.length = b) := ⟨ha.symm, hm.symm, hb.symm⟩
  have ham : m ≤ a + 1 := by omega
  have ham2 : a + 1 ≤ m := by omega
  have hmb : m < b := by omega
  have hbn : b ≤ n := by omega
  have hone1 : (m : Int) - (a : Int) = 1 := by omega
  clear ha hb hm hx hRk hxs hlen
  go_enter Try.func44, Try.ntmps44
  go_wp2_with fail
  clear hone1
  go_loopw [10, 11] (fun p q wr => ∃ i j : Nat, m ≤ i ∧ i ≤ j ∧ j ≤ b ∧ p = .int .i64 i ∧ q = .int .i64 j ∧ Hid (SrchL xs x.1 m b i j) ∧ Hid (Own wr base (rowV g n cap) xs) ∧ w.grownBy wr (some g)) (fun p q _ => (intOf q - intOf p).toNat)
  case atStart => exact ⟨m, b, by omega, by omega, by omega, rfl, rfl, ⟨fun k h1 h2 => by omega, fun k h1 h2 => by omega⟩, h, World.grownBy.refl _ _⟩
  case round =>
    obtain ⟨i, j, hmi, hij, hj, rfl, rfl, Hs, Ho, hg⟩ := hrel
    by_cases hlt : i < j
    · obtain ⟨h, hh⟩ : ∃ h : Nat, ((i : Int) + (j : Int)) / 2 = (h : Int) := ⟨(i + j) / 2, by omega⟩
      have h1 : i ≤ h := by omega
      have h2 : h < j := by omega
      have hhn : h < n := by omega
      have han : a < n := by omega
      obtain ⟨c0, c1, _, _, j0, j1⟩ := Ho.out.get (i := h) hhn
      obtain ⟨d0, d1, _, _, k0, k1⟩ := Ho.out.get (i := a) han
      rw [Hx.out] at d0 d1 k0 k1
      have hgl := (Ho.out.1.lt g rfl).2
      have hmono : Hid (∀ k k', m ≤ k → k ≤ k' → k' < b → (at0 xs k).1 ≤ (at0 xs k').1) := fun k k' q1 q2 q3 => by
        have hL := Hlen.out
        rw [HRk.out k q1 (by omega), HRk.out k' (by omega) q3]
        exact up_at0 hR (by omega) (by omega)
      unfold I64 at j0 j1 k0 k1
      obtain ⟨j01, j02⟩ := j0
      obtain ⟨j11, j12⟩ := j1
      obtain ⟨k01, k02⟩ := k0
      obtain ⟨k11, k12⟩ := k1
      by_cases hc : (at0 xs h).1 < x.1
      · have hcm := cmp_lt hc
        have Hn : Hid (SrchL xs x.1 m b (h + 1) j) := ⟨fun k q1 q2 => by
          have := hmono.out k h q1 (by omega) (by omega); omega, Hs.out.2⟩
        clear hc
        go_wp2_with fail
        refine wp_region_grow_lit (by kernel_rfl) (by kernel_rfl) ?_
        repeat (go_big_quiet_step ((go_at_call 28; exact grow_of (cmpRuns_any _ _ _ _ _))))
        refine wpQuiet_nil ?_
        intro _ hw'
        obtain ⟨z, hw''⟩ := hw'
        subst hw''
        go_wp2
        go_roundw
        case rel => exact ⟨h + 1, j, by omega, by omega, by omega, by go_num, rfl, Hn, Ho.out.below (ext_below wr z) (Nat.le_refl _), gext hg z⟩
        case measure => simp [intOf]; omega
      · have hcm := cmp_ge hc
        have Hn : Hid (SrchL xs x.1 m b i h) := ⟨Hs.out.1, fun k q1 q2 => by
          have := hmono.out h k (by omega) q1 q2; omega⟩
        clear hc
        go_wp2_with fail
        refine wp_region_grow_lit (by kernel_rfl) (by kernel_rfl) ?_
        repeat (go_big_quiet_step ((go_at_call 28; exact grow_of (cmpRuns_any _ _ _ _ _))))
        refine wpQuiet_nil ?_
        intro _ hw'
        obtain ⟨z, hw''⟩ := hw'
        subst hw''
        go_wp2
        go_roundw
        case rel => exact ⟨i, h, by omega, by omega, by omega, rfl, by go_num, Hn, Ho.out.below (ext_below wr z) (Nat.le_refl _), gext hg z⟩
        case measure => simp [intOf]; omega
    · obtain rfl : i = j := by omega
      have Hcut : Hid (∃ R1 R2 : RunL, R = R1 ++ R2 ∧ R1.length + m = i ∧ P ++ (srt (x :: R) ++ S) = P ++ (R1 ++ x :: (R2 ++ S))) := by
        have hL := Hlen.out
        refine ⟨R.take (i - m), R.drop (i - m), (List.take_append_drop _ _).symm, by rw [List.length_take]; omega, ?_⟩
        have e1 : R.take (i - m) ++ R.drop (i - m) = R := List.take_append_drop _ _
        have := srt_one_left (x := x) (R1 := R.take (i - m)) (R2 := R.drop (i - m)) (by rw [e1]; exact hR) (fun y hy => ?_) (fun y hy => ?_)
        · rw [e1] at this; rw [this]; simp
        · obtain ⟨k, hk, rfl⟩ := mem_at0 hy
          rw [List.length_take] at hk
          have := Hs.out.1 (m + k) (by omega) (by omega)
          rw [HRk.out _ (by omega) (by omega), Nat.add_sub_cancel_left] at this
          have e : at0 (R.take (i - m)) k = at0 R k := by
            conv => rhs; rw [← e1]
            rw [at0_append_left (by rw [List.length_take]; omega)]
          rw [e]; exact this
        · obtain ⟨k, hk, rfl⟩ := mem_at0 hy
          rw [List.length_drop] at hk
          have := Hs.out.2 (i + k) (by omega) (by omega)
          rw [HRk.out _ (by omega) (by omega)] at this
          have e : at0 (R.drop (i - m)) k = at0 R (i + k - m) := by
            conv => rhs; rw [← e1]
            rw [at0_append_right (j := k) (by rw [List.length_take]; omega)]
          rw [e]; exact this
      obtain ⟨i1, hi1⟩ : ∃ i1 : Nat, (i : Int) - 1 = (i1 : Int) := ⟨i - 1, by omega⟩
      have hi2 : i1 + 1 ≤ i := by omega
      have hi3 : i ≤ i1 + 1 := by omega
      clear Hs
      obtain ⟨wo, rfl⟩ : ∃ wo : World, wo = wr := ⟨_, rfl⟩
      go_wp2_with fail
      obtain ⟨R1, R2, hRe, hR1, hRs⟩ := Hcut.out
      have HRs := Lib.hid hRs
      have Hbnd : Hid (i1 = P.length + R1.length) := by have hL := Hlen.out; show i1 = P.length + R1.length; omega
      have Hst0 : Hid (UpSt P R1 (R2 ++ S) xs x a) := ⟨[], R1, by simp, by have hL := Hlen.out; simp; omega, by rw [Hxs.out, hRe]; simp⟩
      have hi1n : i1 < n := by omega
      have hai : a ≤ i1 := by omega
      clear Hcut hRe hR1 hRs
      go_loopw [13] (fun t wr => ∃ (k : Nat) (cur : RunL), k ≤ i1 ∧ t = .int .i64 k ∧ Hid (UpSt P R1 (R2 ++ S) cur x k) ∧ Hid (Own wr base (rowV g n cap) cur) ∧ w.grownBy wr (some g)) (fun t _ => i1 - (intOf t).toNat)
      case atStart => exact ⟨a, xs, hai, rfl, Hst0, Ho, hg⟩
      case round =>
        obtain ⟨k, cur, hk, rfl, Hu, Hc, hg2⟩ := hrel
        by_cases hki : k < i1
        · have Hn : Hid (UpSt P R1 (R2 ++ S) (swp cur k (k + 1)) x (k + 1)) := Hu.out.step (by have := Hbnd.out; omega)
          obtain ⟨q, hq⟩ : ∃ q : Nat, (k : Int) + 1 = (q : Int) := ⟨k + 1, by omega⟩
          have Hq : Hid (k + 1 = q) := by show k + 1 = q; omega
          have hqk : k < q := by omega
          have hqi : q ≤ i1 := by omega
          rw [Hq.out] at Hn
          obtain ⟨c0, c1, y0, y1, j0, j1⟩ := Hc.out.get (i := k) (by omega)
          obtain ⟨d0, d1, z0, z1, k0, k1⟩ := Hc.out.get (i := q) (by omega)
          have hgl := (Hc.out.1.lt g rfl).2
          have hkn : q < n := by omega
          have hkn2 : k < n := by omega
          have e1 : ¬ q * 2 = k * 2 := by omega
          have e2 : ¬ q * 2 = k * 2 + 1 := by omega
          have e3 : ¬ q * 2 + 1 = k * 2 := by omega
          have e5 : ¬ k * 2 = q * 2 := by omega
          have e6 : ¬ k * 2 + 1 = q * 2 := by omega
          have e7 : ¬ k * 2 = q * 2 + 1 := by omega
          have e8 : ¬ q = k := by omega
          have e9 : ¬ k = q := by omega
          go_wp2_with fail
          go_region
          go_wp2
          go_roundw
          case rel => exact ⟨q, swp cur k q, by omega, rfl, Hn, Hc.out.swap (by omega) (by omega), gdrew (gset (gset (gset (gset hg2 _ _) _ _) _ _) _ _)⟩
          case measure => simp [intOf]; omega
        · have hfin := Hu.out.done (by have := Hbnd.out; omega)
          have Hf : Hid (cur = P ++ (srt (x :: R) ++ S)) := by show cur = _; rw [hfin, HRs.out]
          clear hfin
          go_wp2
          refine bodyPost_ret (results_none rfl _ _ _) rfl ⟨rfl, ?_, hg2⟩
          rw [← Hf.out]; exact Hc.out
end Go.Proofs.Ytkifpnhijdcjlaa
