/- The sort: the merge where the right side is one run. -/
import Derived.Test.YtkifpnhijdcjlaaM4
import Derived.Test.YtkifpnhijdcjlaaS2
namespace Go.Proofs.Ytkifpnhijdcjlaa
open Go.RowKit
attribute [local go_sem] ext_cell ext_frozen

/-- the search's state, by places. -/
def SrchR (xs : RunL) (y : Int) (lo hi i j : Nat) : Prop := (∀ k, lo ≤ k → k < i → (at0 xs k).1 ≤ y) ∧ (∀ k, j ≤ k → k < hi → y < (at0 xs k).1)
/-- moving one run down. -/
def DownSt (P L2 S cur : RunL) (y : Int × Int) (k : Nat) : Prop := ∃ D E, L2 = D ++ E ∧ k = P.length + D.length ∧ cur = P ++ (D ++ y :: (E ++ S))
theorem DownSt.step {P L2 S cur : RunL} {y : Int × Int} {k : Nat} (h : DownSt P L2 S cur y (k + 1)) (hk : P.length ≤ k) : DownSt P L2 S (swp cur (k + 1) k) y k := by
  obtain ⟨D, E, e, hd, rfl⟩ := h
  rcases List.eq_nil_or_concat D with rfl | ⟨D, d, rfl⟩
  · simp at hd; omega
  · rw [List.concat_eq_append] at *
    simp at hd
    refine ⟨D, d :: E, by rw [e]; simp, by omega, ?_⟩
    have e1 : P ++ (D ++ [d] ++ y :: (E ++ S)) = (P ++ D) ++ d :: ([] ++ y :: (E ++ S)) := by simp
    rw [swp_comm _ _ _ (by omega), e1, swp_mid (P ++ D) d [] y (E ++ S) (by simp; omega) (by simp; omega)]
    simp
theorem DownSt.done {P L2 S cur : RunL} {y : Int × Int} {k : Nat} (h : DownSt P L2 S cur y k) (hk : k ≤ P.length) : cur = P ++ (y :: (L2 ++ S)) := by
  obtain ⟨D, E, e, hd, rfl⟩ := h
  have : D = [] := List.eq_nil_of_length_eq_zero (by omega)
  subst this
  rw [e]; simp

set_option maxRecDepth 100000 in
set_option maxHeartbeats 8000000 in
theorem merge_right (base g n cap : Nat) (P L S : RunL) (y : Int × Int) (w : World) (h : Own w base (rowV g n cap) (P ++ (L ++ y :: S))) (hn : n ≤ 1048576) (hL : Up L) (hL0 : 1 < L.length) :
    Calls Try.prog 44 #[rowV g n cap, .int .i64 P.length, .int .i64 (P.length + L.length : Nat), .int .i64 (P.length + L.length + 1 : Nat), .func (.func 28) #[] #[]] w (SortPost base g n cap (P ++ (srt (L ++ [y]) ++ S)) w) := by
  have hlen := h.runs.1
  simp only [List.length_append, List.length_cons] at hlen
  obtain ⟨a, ha⟩ : ∃ a, a = P.length := ⟨_, rfl⟩
  obtain ⟨m, hm⟩ : ∃ m, m = P.length + L.length := ⟨_, rfl⟩
  obtain ⟨b, hb⟩ : ∃ b, b = P.length + L.length + 1 := ⟨_, rfl⟩
  rw [← hb, ← hm, ← ha]
  obtain ⟨xs, hxs⟩ : ∃ xs, xs = P ++ (L ++ y :: S) := ⟨_, rfl⟩
  rw [← hxs] at h
  have hy : at0 xs m = y := by rw [hxs, ← List.append_assoc]; exact at0_mid (P ++ L) y _ (by simp; omega)
  have hLk : ∀ k, a ≤ k → k < m → at0 xs k = at0 L (k - a) := fun k h1 h2 => by
    rw [hxs, at0_append_right (j := k - a) (by omega), at0_append_left (by omega)]
  have Hy := Lib.hid hy
  have HLk := Lib.hid hLk
  have Hxs := Lib.hid hxs
  have Hlen : Hid (P.length = a ∧ P.length + L.length = m ∧ P.length + L.length + 1 = b) := ⟨ha.symm, hm.symm, hb.symm⟩
  have ham : a + 1 < m := by omega
  have hmb : m < b := by omega
  have hbn : b ≤ n := by omega
  obtain ⟨d1, hd1⟩ : ∃ d1 : Nat, (m : Int) - (a : Int) = (d1 : Int) := ⟨m - a, by omega⟩
  have hd1' : 1 < d1 := by omega
  have hd2 : ((d1 : Int) == 1) = false := beq_eq_false_iff_ne.2 (by omega)
  have hd3 : (d1 == 1) = false := beq_eq_false_iff_ne.2 (by omega)
  have hone1 : (b : Int) - (m : Int) = 1 := by omega
  clear ha hb hm hy hLk hxs hlen
  go_enter Try.func44, Try.ntmps44
  go_wp2_with fail
  clear hone1 hd1 hd2 hd3 hd1'
  go_loopw [14, 15] (fun p q wr => ∃ i j : Nat, a ≤ i ∧ i ≤ j ∧ j ≤ m ∧ p = .int .i64 i ∧ q = .int .i64 j ∧ Hid (SrchR xs y.1 a m i j) ∧ Hid (Own wr base (rowV g n cap) xs) ∧ w.grownBy wr (some g)) (fun p q _ => (intOf q - intOf p).toNat)
  case atStart => exact ⟨a, m, by omega, by omega, by omega, rfl, rfl, ⟨fun k h1 h2 => by omega, fun k h1 h2 => by omega⟩, h, World.grownBy.refl _ _⟩
  case round =>
    obtain ⟨i, j, hmi, hij, hj, rfl, rfl, Hs, Ho, hg⟩ := hrel
    by_cases hlt : i < j
    · obtain ⟨h, hh⟩ : ∃ h : Nat, ((i : Int) + (j : Int)) / 2 = (h : Int) := ⟨(i + j) / 2, by omega⟩
      have h1 : i ≤ h := by omega
      have h2 : h < j := by omega
      have hhn : h < n := by omega
      have hmn : m < n := by omega
      obtain ⟨c0, c1, _, _, j0, j1⟩ := Ho.out.get (i := h) hhn
      obtain ⟨d0, d1, _, _, k0, k1⟩ := Ho.out.get (i := m) hmn
      rw [Hy.out] at d0 d1 k0 k1
      have hgl := (Ho.out.1.lt g rfl).2
      have hmono : Hid (∀ k k', a ≤ k → k ≤ k' → k' < m → (at0 xs k).1 ≤ (at0 xs k').1) := fun k k' q1 q2 q3 => by
        have hL := Hlen.out
        rw [HLk.out k q1 (by omega), HLk.out k' (by omega) q3]
        exact up_at0 (by assumption) (by omega) (by omega)
      unfold I64 at j0 j1 k0 k1
      obtain ⟨j01, j02⟩ := j0
      obtain ⟨j11, j12⟩ := j1
      obtain ⟨k01, k02⟩ := k0
      obtain ⟨k11, k12⟩ := k1
      by_cases hc : y.1 < (at0 xs h).1
      · have hcm := cmp_lt hc
        have hcb := decide_eq_true hcm
        have Hn : Hid (SrchR xs y.1 a m i h) := ⟨Hs.out.1, fun k q1 q2 => by
          have := hmono.out h k (by omega) q1 q2; omega⟩
        clear hc
        go_wp2_with fail
        refine wp_region_grow_lit (by kernel_rfl) (by kernel_rfl) ?_
        repeat (go_big_quiet_step ((go_at_call 28; exact grow_of (cmpRuns_any _ _ _ _ _))))
        refine wpQuiet_nil ?_
        intro _ hw'
        obtain ⟨z, hw''⟩ := hw'
        subst hw''
        go_wp2
        go_roundw
        case rel => exact ⟨i, h, by omega, by omega, by omega, rfl, by go_num, Hn, Ho.out.below (ext_below wr z) (Nat.le_refl _), gext hg z⟩
        case measure => simp [intOf]; omega
      · have hcm := cmp_ge hc
        have hcb := decide_eq_false hcm
        have Hn : Hid (SrchR xs y.1 a m (h + 1) j) := ⟨fun k q1 q2 => by
          have := hmono.out k h q1 (by omega) (by omega); omega, Hs.out.2⟩
        clear hc
        go_wp2_with fail
        refine wp_region_grow_lit (by kernel_rfl) (by kernel_rfl) ?_
        repeat (go_big_quiet_step ((go_at_call 28; exact grow_of (cmpRuns_any _ _ _ _ _))))
        refine wpQuiet_nil ?_
        intro _ hw'
        obtain ⟨z, hw''⟩ := hw'
        subst hw''
        go_wp2
        go_roundw
        case rel => exact ⟨h + 1, j, by omega, by omega, by omega, by go_num, rfl, Hn, Ho.out.below (ext_below wr z) (Nat.le_refl _), gext hg z⟩
        case measure => simp [intOf]; omega
    · obtain rfl : i = j := by omega
      have Hcut : Hid (∃ L1 L2 : RunL, L = L1 ++ L2 ∧ a + L1.length = i ∧ P ++ (srt (L ++ [y]) ++ S) = (P ++ L1) ++ (y :: (L2 ++ S))) := by
        have hLn := Hlen.out
        refine ⟨L.take (i - a), L.drop (i - a), (List.take_append_drop _ _).symm, by rw [List.length_take]; omega, ?_⟩
        have e1 : L.take (i - a) ++ L.drop (i - a) = L := List.take_append_drop _ _
        have := srt_one_right (y := y) (L1 := L.take (i - a)) (L2 := L.drop (i - a)) (by rw [e1]; assumption) (fun x hx => ?_) (fun x hx => ?_)
        · rw [e1] at this; rw [this]; simp
        · obtain ⟨k, hk, rfl⟩ := mem_at0 hx
          rw [List.length_take] at hk
          have := Hs.out.1 (a + k) (by omega) (by omega)
          rw [HLk.out _ (by omega) (by omega), Nat.add_sub_cancel_left] at this
          have e : at0 (L.take (i - a)) k = at0 L k := by
            conv => rhs; rw [← e1]
            rw [at0_append_left (by rw [List.length_take]; omega)]
          rw [e]; exact this
        · obtain ⟨k, hk, rfl⟩ := mem_at0 hx
          rw [List.length_drop] at hk
          have := Hs.out.2 (i + k) (by omega) (by omega)
          rw [HLk.out _ (by omega) (by omega)] at this
          have e : at0 (L.drop (i - a)) k = at0 L (i + k - a) := by
            conv => rhs; rw [← e1]
            rw [at0_append_right (j := k) (by rw [List.length_take]; omega)]
          rw [e]; exact this
      clear Hs
      obtain ⟨wo, rfl⟩ : ∃ wo : World, wo = wr := ⟨_, rfl⟩
      go_wp2_with fail
      obtain ⟨L1, L2, hLe, hL1, hLs⟩ := Hcut.out
      have HLs := Lib.hid hLs
      have Hbnd : Hid (i = (P ++ L1).length) := by have hLn := Hlen.out; show i = (P ++ L1).length; rw [List.length_append]; omega
      have Hst0 : Hid (DownSt (P ++ L1) L2 S xs y m) := ⟨L2, [], by simp, by have hLn := Hlen.out; rw [hLe, List.length_append] at hLn; rw [List.length_append]; omega, by rw [Hxs.out, hLe]; simp⟩
      clear Hcut hLe hL1 hLs
      go_loopw [17] (fun t wr => ∃ (k : Nat) (cur : RunL), i ≤ k ∧ k ≤ m ∧ t = .int .i64 k ∧ Hid (DownSt (P ++ L1) L2 S cur y k) ∧ Hid (Own wr base (rowV g n cap) cur) ∧ w.grownBy wr (some g)) (fun t _ => (intOf t).toNat)
      case atStart => exact ⟨m, xs, hj, Nat.le_refl _, rfl, Hst0, Ho, hg⟩
      case round =>
        obtain ⟨k, cur, hik, hk, rfl, Hu, Hc, hg2⟩ := hrel
        by_cases hki : i < k
        · obtain ⟨q, hq⟩ : ∃ q : Nat, (k : Int) - 1 = (q : Int) := ⟨k - 1, by omega⟩
          have Hq : Hid (k = q + 1) := by show k = q + 1; omega
          have hqk : q < k := by omega
          have hqi : i ≤ q := by omega
          have Hn : Hid (DownSt (P ++ L1) L2 S (swp cur k q) y q) := by
            have h1 := Hu.out
            rw [Hq.out] at h1 ⊢
            exact h1.step (by have := Hbnd.out; omega)
          obtain ⟨c0, c1, y0, y1, j0, j1⟩ := Hc.out.get (i := k) (by omega)
          obtain ⟨d0, d1, z0, z1, k0, k1⟩ := Hc.out.get (i := q) (by omega)
          have hgl := (Hc.out.1.lt g rfl).2
          have hkn : q < n := by omega
          have hkn2 : k < n := by omega
          have e1 : ¬ q * 2 = k * 2 := by omega
          have e2 : ¬ q * 2 = k * 2 + 1 := by omega
          have e3 : ¬ q * 2 + 1 = k * 2 := by omega
          have e5 : ¬ k * 2 = q * 2 := by omega
          have e6 : ¬ k * 2 + 1 = q * 2 := by omega
          have e7 : ¬ k * 2 = q * 2 + 1 := by omega
          have e8 : ¬ q = k := by omega
          have e9 : ¬ k = q := by omega
          go_wp2_with fail
          go_region
          go_wp2
          go_roundw
          case rel => exact ⟨q, swp cur k q, by omega, by omega, rfl, Hn, Hc.out.swap (by omega) (by omega), gdrew (gset (gset (gset (gset hg2 _ _) _ _) _ _) _ _)⟩
          case measure => simp [intOf]; omega
        · have hfin := Hu.out.done (by have := Hbnd.out; omega)
          have Hf : Hid (cur = P ++ (srt (L ++ [y]) ++ S)) := by show cur = _; rw [hfin, HLs.out]
          clear hfin
          go_wp2
          refine bodyPost_ret (results_none rfl _ _ _) rfl ⟨rfl, ?_, hg2⟩
          rw [← Hf.out]; exact Hc.out
end Go.Proofs.Ytkifpnhijdcjlaa
