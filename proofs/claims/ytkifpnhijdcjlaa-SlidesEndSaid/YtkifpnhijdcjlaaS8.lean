/- The sort: SortStableFunc at runs. -/
import Derived.Test.YtkifpnhijdcjlaaS6
import Derived.Test.YtkifpnhijdcjlaaS7
import Derived.Test.YtkifpnhijdcjlaaM5
namespace Go.Proofs.Ytkifpnhijdcjlaa
open Go.RowKit

theorem merge_all : ∀ N, MergeSaid N := by
  intro N
  induction N with
  | zero => intro base g n cap P L R S a m b w hN _ _ _ _ _ _ _ hL0 _; omega
  | succ N ih =>
    intro base g n cap P L R S a m b w hN ha hm hb h hn hL hR hL0 hR0
    by_cases h1 : L.length = 1
    · obtain ⟨x, rfl⟩ := List.length_eq_one_iff.1 h1
      subst ha hm hb
      exact merge_left base g n cap P R S x w h hn hR hR0
    · by_cases h2 : R.length = 1
      · obtain ⟨y, rfl⟩ := List.length_eq_one_iff.1 h2
        subst ha hm hb
        exact merge_right base g n cap P L S y w (by simpa using h) hn hL (by omega)
      · obtain ⟨mid, hmid⟩ : ∃ mid : Nat, ((a : Int) + (b : Int)) / 2 = (mid : Int) := ⟨(a + b) / 2, by omega⟩
        rcases Nat.lt_or_ge mid m with hlt | hge
        · exact merge_gt N ih base g n cap P L R S a m b mid w hN ha hm hb h hn hL hR (by omega) (by omega) hmid hlt
        · exact merge_le N ih base g n cap P L R S a m b mid w hN ha hm hb h hn hL hR (by omega) (by omega) hmid hge

/-- the row so far: so many blocks done, the rest as it was. -/
def BlkSt (s t : Nat) (xs cur : RunL) : Prop := ∃ D E, cur = D ++ E ∧ D.length = t * s ∧ Bup s D ∧ (∀ k, same k cur = same k xs) ∧ cur.length = xs.length
def MrgSt (s t : Nat) (xs cur : RunL) : Prop := ∃ D E, cur = D ++ E ∧ D.length = t * (2 * s) ∧ Bup (2 * s) D ∧ Bup s E ∧ (∀ k, same k cur = same k xs) ∧ cur.length = xs.length
def DoneSt (s : Nat) (xs cur : RunL) : Prop := Bup s cur ∧ (∀ k, same k cur = same k xs) ∧ cur.length = xs.length

theorem same_mid {D X Y xs : RunL} (h : ∀ k, same k (D ++ (X ++ Y)) = same k xs) : ∀ k, same k (D ++ (srt X ++ Y)) = same k xs := fun k => by
  rw [← h k]; simp only [same_append, srt_same]
theorem BlkSt.step {s t : Nat} {xs cur : RunL} (h : BlkSt s t xs cur) (_hs : 0 < s) (hb : t * s + s ≤ xs.length) : insSort (t * s) (t * s + s) cur = insSort (t * s) (t * s + s) cur ∧ BlkSt s (t + 1) xs (insSort (t * s) (t * s + s) cur) := by
  refine ⟨rfl, ?_⟩
  obtain ⟨D, E, rfl, hD, hB, hS, hl⟩ := h
  rw [List.length_append] at hl
  have e : E = E.take s ++ E.drop s := (List.take_append_drop s E).symm
  have hx : (E.take s).length = s := by rw [List.length_take]; omega
  generalize E.take s = X at *
  generalize E.drop s = Y at *
  subst e
  rw [insSort_srt D X Y _ _ hD.symm (by omega)]
  refine ⟨D ++ srt X, Y, by simp, by rw [List.length_append, srt_len, hD, hx, Nat.add_mul, Nat.one_mul], bup_snoc hB hD (srt_up X) (by rw [srt_len]; omega), same_mid hS, ?_⟩
  simp only [List.length_append, srt_len] at hl ⊢; omega
theorem BlkSt.last {s t : Nat} {xs cur : RunL} (h : BlkSt s t xs cur) (hb : xs.length < t * s + s) : DoneSt s xs (insSort (t * s) xs.length cur) := by
  obtain ⟨D, E, rfl, hD, hB, hS, hl⟩ := h
  rw [List.length_append] at hl
  have h1 := insSort_srt D E [] (t * s) xs.length hD.symm (by omega)
  simp only [List.append_nil] at h1
  rw [h1]
  refine ⟨bup_snoc hB hD (srt_up E) (by rw [srt_len]; omega), fun k => ?_, ?_⟩
  · have := hS k; simp only [same_append, srt_same] at this ⊢; exact this
  · simp only [List.length_append, srt_len]; omega

theorem MrgSt.step {s t : Nat} {xs cur : RunL} (h : MrgSt s t xs cur) (hb : t * (2 * s) + 2 * s ≤ xs.length) :
    ∃ D L R S, cur = D ++ (L ++ (R ++ S)) ∧ D.length = t * (2 * s) ∧ L.length = s ∧ R.length = s ∧ Up L ∧ Up R ∧ MrgSt s (t + 1) xs (D ++ (srt (L ++ R) ++ S)) := by
  obtain ⟨D, E, rfl, hD, hB, hE, hS, hl⟩ := h
  rw [List.length_append] at hl
  have u1 := hE 0
  have u2 := hE 1
  have u3 := bup_drop (k := 2) hE
  rw [Nat.zero_mul, List.drop_zero] at u1
  rw [Nat.one_mul] at u2
  have e : E = E.take s ++ ((E.drop s).take s ++ E.drop (2 * s)) := by
    rw [show E.drop (2 * s) = (E.drop s).drop s from by rw [List.drop_drop, Nat.two_mul], List.take_append_drop, List.take_append_drop]
  have hx : (E.take s).length = s := by rw [List.length_take]; omega
  have hy : ((E.drop s).take s).length = s := by rw [List.length_take, List.length_drop]; omega
  generalize E.take s = L at *
  generalize (E.drop s).take s = R at *
  generalize E.drop (2 * s) = S at *
  subst e
  refine ⟨D, L, R, S, rfl, hD, hx, hy, u1, u2, D ++ srt (L ++ R), S, by simp, ?_, bup_snoc hB hD (srt_up _) (by rw [srt_len, List.length_append]; omega), u3, fun k => ?_, ?_⟩
  · rw [List.length_append, srt_len, List.length_append, hD, hx, hy, Nat.add_mul]; omega
  · have := hS k; simp only [same_append, srt_same, List.append_assoc] at this ⊢; exact this
  · simp only [List.length_append, srt_len] at hl ⊢; omega
theorem MrgSt.tail {s t : Nat} {xs cur : RunL} (h : MrgSt s t xs cur) (hb : xs.length < t * (2 * s) + 2 * s) (hm : t * (2 * s) + s < xs.length) :
    ∃ D L R, cur = D ++ (L ++ (R ++ [])) ∧ D.length = t * (2 * s) ∧ L.length = s ∧ D.length + s + R.length = xs.length ∧ Up L ∧ Up R ∧ DoneSt (2 * s) xs (D ++ (srt (L ++ R) ++ [])) := by
  obtain ⟨D, E, rfl, hD, hB, hE, hS, hl⟩ := h
  rw [List.length_append] at hl
  have u1 := hE 0
  have u2 := hE 1
  rw [Nat.zero_mul, List.drop_zero] at u1
  rw [Nat.one_mul, List.take_of_length_le (by rw [List.length_drop]; omega)] at u2
  have e : E = E.take s ++ E.drop s := (List.take_append_drop s E).symm
  have hx : (E.take s).length = s := by rw [List.length_take]; omega
  generalize E.take s = L at *
  generalize E.drop s = R at *
  subst e
  rw [List.length_append] at hl
  refine ⟨D, L, R, by simp, hD, hx, by omega, u1, u2, ?_, fun k => ?_, ?_⟩
  · rw [List.append_nil]; exact bup_snoc hB hD (srt_up _) (by rw [srt_len, List.length_append]; omega)
  · have := hS k; simp only [same_append, srt_same] at this ⊢; simpa [same] using this
  · simp only [List.length_append, srt_len, List.append_nil]; omega
theorem MrgSt.none {s t : Nat} {xs cur : RunL} (h : MrgSt s t xs cur) (hm : xs.length ≤ t * (2 * s) + s) : DoneSt (2 * s) xs cur := by
  obtain ⟨D, E, rfl, hD, hB, hE, hS, hl⟩ := h
  have hl' := hl
  rw [List.length_append] at hl'
  exact ⟨bup_snoc hB hD (bup_all hE (by omega)) (by omega), hS, hl⟩

set_option maxRecDepth 100000 in
set_option maxHeartbeats 8000000 in
theorem stable_any (base g n cap : Nat) (xs : RunL) (w : World) (h : Own w base (rowV g n cap) xs) (hn : n ≤ 524288) :
    Calls Try.prog 39 #[rowV g n cap, .int .i64 n, .func (.func 28) #[] #[]] w (SortPost base g n cap (srt xs) w) := by
  have hlen := h.runs.1
  have Hlen := Lib.hid hlen
  clear hlen
  go_enter Try.func39, Try.ntmps39
  go_wp2_with fail
  go_loopw [7, 8] (fun p q wr => ∃ (t a b : Nat) (cur : RunL), p = .int .i64 a ∧ q = .int .i64 b ∧ Hid (a = t * 20 ∧ b = t * 20 + 20) ∧ a + 20 ≤ b ∧ b ≤ a + 20 ∧ a ≤ n ∧ Hid (BlkSt 20 t xs cur) ∧ Hid (Own wr base (rowV g n cap) cur) ∧ w.grownBy wr (some g)) (fun p _ _ => n + 1 - (intOf p).toNat)
  case atStart => exact ⟨0, 0, 20, xs, rfl, rfl, ⟨rfl, rfl⟩, by omega, by omega, by omega, ⟨[], xs, rfl, rfl, bup_nil _, fun _ => rfl, rfl⟩, h, World.grownBy.refl _ _⟩
  case round =>
    obtain ⟨t, a, b, cur, rfl, rfl, Hab, hb1, hb2, han, Hst, Ho, hg⟩ := hrel
    by_cases hlt : b ≤ n
    · have Hn : Hid (BlkSt 20 (t + 1) xs (insSort a b cur)) := by
        have h1 := (Hst.out.step (by omega) (by have := Hlen.out; have := Hab.out; omega)).2
        rw [Hab.out.1, Hab.out.2]; exact h1
      go_wp2_with (go_at_call 43; refine (insertion_any base g n cap a b cur _ Ho.out (by omega) (by omega) hlt).mono ?_; rintro e w2 ⟨rfl, ho2, hg2⟩)
      go_roundw
      case rel => exact ⟨t + 1, b, b + 20, _, rfl, by go_num, ⟨by have := Hab.out; omega, by have := Hab.out; omega⟩, by omega, by omega, hlt, Hn, ho2, gtrans hg hg2⟩
      case measure => simp [intOf]; omega
    · have Hn : Hid (DoneSt 20 xs (insSort a n cur)) := by
        have h1 := Hst.out.last (by have := Hlen.out; have := Hab.out; omega)
        rw [← Hlen.out, ← Hab.out.1] at h1; exact h1
      obtain ⟨wo, rfl⟩ : ∃ wo : World, wo = wr := ⟨_, rfl⟩
      go_wp2_with (go_at_call 43; refine (insertion_any base g n cap a n cur _ Ho.out (by omega) han (Nat.le_refl _)).mono ?_; rintro e w2 ⟨rfl, ho2, hg2⟩)
      have hg3 := gtrans hg hg2
      have Ho2 := Lib.hid ho2
      clear ho2 hg2 Ho Hst
      generalize insSort a n cur = cur2 at *
      go_loopw [6, 7, 8, 9] (fun u p q r wr => ∃ (s : Nat) (cur : RunL), u = .int .i64 s ∧ 20 ≤ s ∧ s ≤ 2 * 524288 ∧ Hid (DoneSt s xs cur) ∧ Hid (Own wr base (rowV g n cap) cur) ∧ w.grownBy wr (some g)) (fun u _ _ _ _ => 4 * 524288 - (intOf u).toNat)
      case atStart => exact ⟨20, cur2, rfl, by omega, by omega, Hn, Ho2, hg3⟩
      case round =>
        obtain ⟨s, cur3, rfl, hs1, hs2, Hd, Ho3, hg4⟩ := hrel
        by_cases hsn : s < n
        · obtain ⟨s2, hs3⟩ : ∃ s2 : Nat, 2 * (s : Int) = (s2 : Int) := ⟨2 * s, by omega⟩
          have Hs2 : Hid (s2 = 2 * s) := by show s2 = 2 * s; omega
          have Hs3 := Lib.hid hs3
          have hs4 : s + s ≤ s2 := by omega
          have hs5 : s2 ≤ s + s := by omega
          have Hm0 : Hid (MrgSt s 0 xs cur3) := ⟨[], cur3, rfl, by simp, bup_nil _, Hd.out.1, Hd.out.2.1, Hd.out.2.2⟩
          obtain ⟨wp, rfl⟩ : ∃ wp : World, wp = wr := ⟨_, rfl⟩
          go_wp2_with fail
          clear hs3
          go_loopw [7, 8] (fun p q wr => ∃ (t a b : Nat) (cur : RunL), p = .int .i64 a ∧ q = .int .i64 b ∧ Hid (a = t * (2 * s) ∧ b = t * (2 * s) + 2 * s) ∧ a + s2 ≤ b ∧ b ≤ a + s2 ∧ a ≤ n ∧ Hid (MrgSt s t xs cur) ∧ Hid (Own wr base (rowV g n cap) cur) ∧ w.grownBy wr (some g)) (fun p _ _ => n + 1 - (intOf p).toNat)
          case atStart => exact ⟨0, 0, s2, cur3, rfl, rfl, ⟨by simp, by have := Hs2.out; omega⟩, by omega, by omega, by omega, Hm0, Ho3, hg4⟩
          case round =>
            obtain ⟨t, a, b, cur, rfl, rfl, Hab, hb1, hb2, han, Hst, Ho, hg⟩ := hrel
            obtain ⟨m, hm⟩ : ∃ m : Nat, (a : Int) + (s : Int) = (m : Int) := ⟨a + s, by omega⟩
            have Hm : Hid (a + s = m) := by show a + s = m; omega
            have hm1 : a + s ≤ m := by omega
            have hm2 : m ≤ a + s := by omega
            by_cases hlt : b ≤ n
            · obtain ⟨D, L, R, S, e1, e2, e3, e4, e5, e6, e7⟩ := Hst.out.step (by have := Hlen.out; have := Hab.out; omega)
              have Hall := Lib.hid (And.intro e2 (And.intro e3 e4))
              have E5 := Lib.hid e5
              have E6 := Lib.hid e6
              have E7 := Lib.hid e7
              have Ho' : Hid (Own wr base (rowV g n cap) (D ++ (L ++ (R ++ S)))) := by have := Ho.out; rw [e1] at this; exact this
              have hdbl : 2 * (s : Int) = (s2 : Int) := Hs3.out
              clear e1 e2 e3 e4 e5 e6 e7
              go_wp2_with (go_at_call 44; refine (merge_all _ base g n cap D L R S a m b _ (Nat.le_refl _) (by have := Hall.out; have := Hab.out; omega) (by have := Hall.out; have := Hm.out; omega) (by have := Hall.out; have := Hm.out; have := Hs2.out; omega) Ho'.out (by omega) E5.out E6.out (by have := Hall.out; omega) (by have := Hall.out; omega)).mono ?_; rintro e w2 ⟨rfl, ho2, hg2⟩)
              go_roundw
              case rel => exact ⟨t + 1, b, b + s2, _, rfl, by go_num, ⟨by have h1 := Hab.out; rw [Nat.add_mul]; omega, by have h1 := Hab.out; have := Hs2.out; rw [Nat.add_mul]; omega⟩, by omega, by omega, hlt, E7, ho2, gtrans hg hg2⟩
              case measure => simp [intOf]; omega
            · by_cases hmn : m < n
              · obtain ⟨D, L, R, e1, e2, e3, e4, e5, e6, e7⟩ := Hst.out.tail (by have := Hlen.out; have := Hab.out; have := Hs2.out; omega) (by have := Hlen.out; have := Hab.out; have := Hm.out; omega)
                have Hall := Lib.hid (And.intro e2 (And.intro e3 e4))
                have E5 := Lib.hid e5
                have E6 := Lib.hid e6
                have E7 := Lib.hid e7
                have Ho' : Hid (Own wr base (rowV g n cap) (D ++ (L ++ (R ++ [])))) := by have := Ho.out; rw [e1] at this; exact this
                have hdbl : (s : Int) * 2 = (s2 : Int) := by have := Hs3.out; omega
                clear e1 e2 e3 e4 e5 e6 e7
                go_wp2_with (go_at_call 44; refine (merge_all _ base g n cap D L R [] a m n _ (Nat.le_refl _) (by have := Hall.out; have := Hab.out; omega) (by have := Hall.out; have := Hm.out; omega) (by have := Hall.out; have := Hm.out; have := Hlen.out; have := Hab.out; omega) Ho'.out (by omega) E5.out E6.out (by have := Hall.out; omega) (by have := Hall.out; have := Hlen.out; have := Hab.out; have := Hm.out; omega)).mono ?_; rintro e w2 ⟨rfl, ho2, hg2⟩)
                go_roundw
                case rel => exact ⟨s2, _, rfl, by omega, by omega, by rw [Hs2.out]; exact E7, ho2, gtrans hg hg2⟩
                case measure => simp [intOf]; omega
              · have E7 := Lib.hid (Hst.out.none (by have := Hlen.out; have := Hab.out; have := Hm.out; omega))
                have hdbl : (s : Int) * 2 = (s2 : Int) := by have := Hs3.out; omega
                go_wp2
                go_roundw
                case rel => exact ⟨s2, cur, rfl, by omega, by omega, by rw [Hs2.out]; exact E7, Ho, hg⟩
                case measure => simp [intOf]; omega
        · have hfin : Hid (cur3 = srt xs) := by
            obtain ⟨d1, d2, d3⟩ := Hd.out
            exact (srt_eq (bup_all d1 (by have := Hlen.out; omega)) d2).symm
          go_wp2
          go_end0
          exact ⟨rfl, by rw [← hfin.out]; exact Ho3.out, hg4⟩
end Go.Proofs.Ytkifpnhijdcjlaa
