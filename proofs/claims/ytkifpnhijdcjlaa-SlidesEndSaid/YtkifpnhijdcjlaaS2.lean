/- The sort: rotations. -/
import Derived.Test.YtkifpnhijdcjlaaM3
namespace Go.Proofs.Ytkifpnhijdcjlaa
open Go.RowKit

theorem at0_mid (A : RunL) (x : Int × Int) (B : RunL) {i : Nat} (hi : i = A.length) : at0 (A ++ x :: B) i = x := by
  subst hi; unfold at0; rw [List.getD_eq_getElem?_getD, List.getElem?_append_right (Nat.le_refl _)]; simp
theorem set_mid (A : RunL) (x y : Int × Int) (B : RunL) {i : Nat} (hi : i = A.length) : (A ++ x :: B).set i y = A ++ y :: B := by
  subst hi; rw [List.set_append_right _ _ (Nat.le_refl _)]; simp
theorem swp_mid (A : RunL) (x : Int × Int) (C : RunL) (y : Int × Int) (D : RunL) {i j : Nat} (hi : i = A.length) (hj : j = A.length + 1 + C.length) :
    swp (A ++ x :: (C ++ y :: D)) i j = A ++ y :: (C ++ x :: D) := by
  unfold swp
  have h1 : at0 (A ++ x :: (C ++ y :: D)) i = x := at0_mid A x _ hi
  have e : ∀ z, A ++ z :: (C ++ y :: D) = (A ++ z :: C) ++ y :: D := fun z => by simp
  have hl : ∀ z, j = (A ++ z :: C).length := fun z => by simp; omega
  have h2 : at0 (A ++ x :: (C ++ y :: D)) j = y := by rw [e]; exact at0_mid _ y D (hl x)
  rw [h1, h2, set_mid A x y _ hi, e, set_mid _ y x D (hl y)]
  simp
theorem swp_comm (xs : RunL) (i j : Nat) (h : i ≠ j) : swp xs i j = swp xs j i := by
  unfold swp; rw [List.set_comm _ _ h]
def swr (xs : RunL) (a b : Nat) : Nat → RunL
  | 0 => xs
  | n + 1 => swr (swp xs a b) (a + 1) (b + 1) n
theorem swr_mid : ∀ (X Y A M B : RunL) (a b : Nat), X.length = Y.length → a = A.length → b = A.length + X.length + M.length →
    swr (A ++ (X ++ (M ++ (Y ++ B)))) a b X.length = A ++ (Y ++ (M ++ (X ++ B))) := by
  intro X
  induction X with
  | nil => intro Y A M B a b h _ _; have : Y = [] := List.eq_nil_of_length_eq_zero h.symm; subst this; simp [swr]
  | cons x X ih =>
    intro Y A M B a b h ha hb
    cases Y with
    | nil => simp at h
    | cons y Y =>
      simp only [List.length_cons] at h hb
      have e1 : A ++ (x :: X ++ (M ++ (y :: Y ++ B))) = A ++ x :: ((X ++ M) ++ y :: (Y ++ B)) := by simp
      rw [List.length_cons, swr, e1, swp_mid A x (X ++ M) y (Y ++ B) ha (by simp; omega)]
      have e2 : A ++ y :: ((X ++ M) ++ x :: (Y ++ B)) = (A ++ [y]) ++ (X ++ ((M ++ [x]) ++ (Y ++ B))) := by simp
      rw [e2, ih Y (A ++ [y]) (M ++ [x]) B (a + 1) (b + 1) (by omega) (by simp; omega) (by simp; omega)]
      simp
theorem swr_len (n : Nat) : ∀ (xs : RunL) (a b : Nat), (swr xs a b n).length = xs.length := by
  induction n with
  | zero => intro xs a b; rfl
  | succ n ih => intro xs a b; rw [swr, ih, swp_len]

set_option maxHeartbeats 4000000 in
theorem swapRange_any (base g n cap a b c : Nat) (f : Value) (xs : RunL) (w : World) (h : Own w base (rowV g n cap) xs) (hn : n ≤ 1048576) (hab : a + c ≤ b) (hb : b + c ≤ n) :
    Calls Try.prog 47 #[rowV g n cap, .int .i64 a, .int .i64 b, .int .i64 c, f] w (SortPost base g n cap (swr xs a b c) w) := by
  go_enter Try.func47, Try.ntmps47
  go_wp2_with fail
  go_loopw [10] (fun i wr => ∃ (k : Nat) (cur : RunL), k ≤ c ∧ i = .int .i64 k ∧ Hid (Own wr base (rowV g n cap) cur) ∧ Hid (swr cur (a + k) (b + k) (c - k) = swr xs a b c) ∧ w.grownBy wr (some g)) (fun i _ => c - (intOf i).toNat)
  case atStart => exact ⟨0, xs, by omega, rfl, h, by exact rfl, World.grownBy.refl _ _⟩
  case round =>
    obtain ⟨k, cur, hk, rfl, Ho, Hs, hg⟩ := hrel
    by_cases hlt : k < c
    · have Hstep : Hid (swr (swp cur (a + k) (b + k)) (a + (k + 1)) (b + (k + 1)) (c - (k + 1)) = swr xs a b c) := by
        show swr (swp cur (a + k) (b + k)) (a + (k + 1)) (b + (k + 1)) (c - (k + 1)) = swr xs a b c
        rw [← Hs.out, show c - k = (c - (k + 1)) + 1 from by omega]; rfl
      obtain ⟨p, hp⟩ : ∃ p : Nat, (a : Int) + (k : Int) = (p : Int) := ⟨a + k, by omega⟩
      obtain ⟨q, hq⟩ : ∃ q : Nat, (b : Int) + (k : Int) = (q : Int) := ⟨b + k, by omega⟩
      have Hp : Hid (a + k = p) := by show a + k = p; omega
      have Hq : Hid (b + k = q) := by show b + k = q; omega
      have hpq : p < q := by omega
      have hqn : q < n := by omega
      have hpn : p < n := by omega
      rw [Hp.out, Hq.out] at Hstep
      obtain ⟨c0, c1, y0, y1, j0, j1⟩ := Ho.out.get (i := p) hpn
      obtain ⟨d0, d1, z0, z1, k0, k1⟩ := Ho.out.get (i := q) hqn
      have hgl := (Ho.out.1.lt g rfl).2
      have e1 : ¬ p * 2 = q * 2 := by omega
      have e2 : ¬ p * 2 = q * 2 + 1 := by omega
      have e3 : ¬ p * 2 + 1 = q * 2 := by omega
      have e4 : ¬ p * 2 + 1 = q * 2 + 1 := by omega
      have e5 : ¬ q * 2 = p * 2 := by omega
      have e6 : ¬ q * 2 + 1 = p * 2 := by omega
      have e7 : ¬ q * 2 = p * 2 + 1 := by omega
      have e8 : ¬ q = p := by omega
      have e9 : ¬ p = q := by omega
      go_wp2_with fail
      go_region
      go_wp2
      go_roundw
      case rel => exact ⟨k + 1, swp cur p q, by omega, by go_num, Ho.out.swap hpn hqn, Hstep, gdrew (gset (gset (gset (gset hg _ _) _ _) _ _) _ _)⟩
      case measure => simp [intOf]; omega
    · have hb0 : Hid (cur = swr xs a b c) := by
        show cur = swr xs a b c
        rw [← Hs.out, show c - k = 0 from by omega]; rfl
      go_wp2
      go_end0
      exact ⟨rfl, by rw [← hb0.out]; exact Ho.out, hg⟩

theorem gtrans {a b c : World} {g : Nat} (h : a.grownBy b (some g)) (k : b.grownBy c (some g)) : a.grownBy c (some g) :=
  ⟨k.os.trans h.os, k.tape.trans h.tape, k.output.trans h.output, Nat.le_trans h.size k.size, fun i hi hne => (k.block i (Nat.lt_of_lt_of_le hi h.size) hne).trans (h.block i hi hne)⟩

set_option maxHeartbeats 4000000 in
theorem rotate_any (base g n cap : Nat) (f : Value) (A U V B : RunL) (m : Nat) (w : World) (h : Own w base (rowV g n cap) (A ++ (U ++ (V ++ B)))) (hn : n ≤ 1048576)
    (hm : m = A.length + U.length) (hU : 0 < U.length) (hV : 0 < V.length) :
    Calls Try.prog 46 #[rowV g n cap, .int .i64 A.length, .int .i64 m, .int .i64 (m + V.length : Nat), f] w (SortPost base g n cap (A ++ (V ++ (U ++ B))) w) := by
  have hlen := h.runs.1
  simp only [List.length_append] at hlen
  obtain ⟨a, ha⟩ : ∃ a, a = A.length := ⟨_, rfl⟩
  obtain ⟨b, hb⟩ : ∃ b, b = m + V.length := ⟨_, rfl⟩
  rw [← ha, ← hb]
  have hi0 : (m : Int) - (a : Int) = ((U.length : Nat) : Int) := by omega
  have hj0 : (b : Int) - (m : Int) = ((V.length : Nat) : Int) := by omega
  generalize hT : A ++ (V ++ (U ++ B)) = T
  have HT := Lib.hid hT
  have hbn : b ≤ n := by omega
  have hmn : m ≤ n := by omega
  have ha' : a ≤ m := by omega
  clear hT
  obtain ⟨u, hu⟩ : ∃ u, u = U.length := ⟨_, rfl⟩
  obtain ⟨v, hv⟩ : ∃ v, v = V.length := ⟨_, rfl⟩
  rw [← hu] at hi0
  rw [← hv] at hj0
  have Hst : Hid (∃ (A' U' V' B' : RunL), Own w base (rowV g n cap) (A' ++ (U' ++ (V' ++ B'))) ∧ A' ++ (V' ++ (U' ++ B')) = T ∧ A'.length + u = m ∧ U'.length = u ∧ V'.length = v ∧ 0 < u ∧ 0 < v) :=
    ⟨A, U, V, B, h, HT.out, by omega, hu.symm, hv.symm, by omega, by omega⟩
  have hum : u ≤ m := by omega
  have hvn : v + m ≤ n := by omega
  have hu0 : 0 < u := by omega
  have hv0 : 0 < v := by omega
  clear ha hb hu hv hlen h HT hU hV hm
  go_enter Try.func46, Try.ntmps46
  go_wp2_with fail
  go_loopw [10, 11] (fun i j wr => ∃ (p q : Nat), i = .int .i64 p ∧ j = .int .i64 q ∧ p ≤ m ∧ q + m ≤ n ∧ 0 < p ∧ 0 < q ∧ Hid (∃ (A' U' V' B' : RunL), Own wr base (rowV g n cap) (A' ++ (U' ++ (V' ++ B'))) ∧ A' ++ (V' ++ (U' ++ B')) = T ∧ A'.length + p = m ∧ U'.length = p ∧ V'.length = q ∧ 0 < p ∧ 0 < q) ∧ w.grownBy wr (some g)) (fun i j _ => (intOf i).toNat + (intOf j).toNat)
  case atStart => exact ⟨u, v, rfl, rfl, hum, hvn, hu0, hv0, Hst, World.grownBy.refl _ _⟩
  case round =>
    obtain ⟨p, q, rfl, rfl, hpm, hqn, hp0, hq0, Hs, hg⟩ := hrel
    clear Hst hi0 hj0
    obtain ⟨r, hr⟩ : ∃ r : Nat, (m : Int) - (p : Int) = (r : Int) := ⟨m - p, by omega⟩
    have Hr : Hid (r + p = m) := by show r + p = m; omega
    have hrm : r + p ≤ m := by omega
    have hrm2 : m ≤ r + p := by omega
    by_cases hpq : q < p
    · have hne1 : ((p : Int) != (q : Int)) = true := by rw [bne_iff_ne]; omega
      have hne2 : (p != q) = true := by rw [bne_iff_ne]; omega
      have hne3 : ¬ p = q := by omega
      obtain ⟨A', U', V', B', ho, hT, hA, hU, hV, _, _⟩ := Hs.out
      have e1 : U' = U'.take q ++ U'.drop q := (List.take_append_drop q U').symm
      have hl1 : (U'.take q).length = q := by rw [List.length_take]; omega
      have hl2 : (U'.drop q).length = p - q := by rw [List.length_drop]; omega
      generalize U'.take q = U1 at *
      generalize U'.drop q = U2 at *
      subst e1
      have hsw := swr_mid U1 V' A' U2 B' r m (by omega) (by omega) (by omega)
      rw [hl1] at hsw
      have ho' : Own wr base (rowV g n cap) (A' ++ (U1 ++ (U2 ++ (V' ++ B')))) := by simpa using ho
      have Ho := Lib.hid ho'
      have Hnext : ∀ w2, Own w2 base (rowV g n cap) (A' ++ (V' ++ (U2 ++ (U1 ++ B')))) → Hid (∃ (A' U' V' B' : RunL), Own w2 base (rowV g n cap) (A' ++ (U' ++ (V' ++ B'))) ∧ A' ++ (V' ++ (U' ++ B')) = T ∧ A'.length + (p - q) = m ∧ U'.length = p - q ∧ V'.length = q ∧ 0 < p - q ∧ 0 < q) := fun w2 hw =>
        ⟨A' ++ V', U2, U1, B', by simpa using hw, by rw [← hT]; simp, by rw [List.length_append]; omega, hl2, hl1, by omega, hq0⟩
      have HN := Lib.hid Hnext
      have Hsw := Lib.hid hsw
      clear ho' ho hT hA hU hV hl1 hl2 Hnext hsw Hs
      go_wp2_with (go_at_call 47; refine (swapRange_any base g n cap r m q f _ _ Ho.out hn (by omega) (by omega)).mono ?_; rintro e w2 ⟨rfl, ho2, hg2⟩)
      rw [Hsw.out] at ho2
      go_roundw
      case rel => exact ⟨p - q, q, by rw [Int.ofNat_sub (by omega)], rfl, by omega, by omega, by omega, by omega, HN.out _ ho2, gtrans hg hg2⟩
      case measure => simp [intOf]; omega
    · by_cases hqp : p < q
      · have hne1 : ((p : Int) != (q : Int)) = true := by rw [bne_iff_ne]; omega
        have hne2 : (p != q) = true := by rw [bne_iff_ne]; omega
        have hne3 : ¬ p = q := by omega
        obtain ⟨A', U', V', B', ho, hT, hA, hU, hV, _, _⟩ := Hs.out
        have e1 : V' = V'.take (q - p) ++ V'.drop (q - p) := (List.take_append_drop (q - p) V').symm
        have hl1 : (V'.take (q - p)).length = q - p := by rw [List.length_take]; omega
        have hl2 : (V'.drop (q - p)).length = p := by rw [List.length_drop]; omega
        generalize V'.take (q - p) = V1 at *
        generalize V'.drop (q - p) = V2 at *
        subst e1
        obtain ⟨s, hs⟩ : ∃ s : Nat, (m : Int) + (q : Int) - (p : Int) = (s : Int) := ⟨m + q - p, by omega⟩
        have hs1 : s + p ≤ m + q := by omega
        have hs2 : m + q ≤ s + p := by omega
        have hsw := swr_mid U' V2 A' V1 B' r s (by omega) (by omega) (by omega)
        rw [hU] at hsw
        have ho' : Own wr base (rowV g n cap) (A' ++ (U' ++ (V1 ++ (V2 ++ B')))) := by simpa using ho
        have Ho := Lib.hid ho'
        have Hnext : ∀ w2, Own w2 base (rowV g n cap) (A' ++ (V2 ++ (V1 ++ (U' ++ B')))) → Hid (∃ (A' U' V' B' : RunL), Own w2 base (rowV g n cap) (A' ++ (U' ++ (V' ++ B'))) ∧ A' ++ (V' ++ (U' ++ B')) = T ∧ A'.length + p = m ∧ U'.length = p ∧ V'.length = q - p ∧ 0 < p ∧ 0 < q - p) := fun w2 hw =>
          ⟨A', V2, V1, U' ++ B', hw, by rw [← hT]; simp, hA, hl2, hl1, hp0, by omega⟩
        have HN := Lib.hid Hnext
        have Hsw := Lib.hid hsw
        clear ho' ho hT hA hU hV hl1 hl2 Hnext hsw Hs
        go_wp2_with (go_at_call 47; refine (swapRange_any base g n cap r s p f _ _ Ho.out hn (by omega) (by omega)).mono ?_; rintro e w2 ⟨rfl, ho2, hg2⟩)
        rw [Hsw.out] at ho2
        go_roundw
        case rel => exact ⟨p, q - p, rfl, by rw [Int.ofNat_sub (by omega)], by omega, by omega, by omega, by omega, HN.out _ ho2, gtrans hg hg2⟩
        case measure => simp [intOf]; omega
      · obtain rfl : p = q := by omega
        have hne1 : ((p : Int) != (p : Int)) = false := by simp
        obtain ⟨A', U', V', B', ho, hT, hA, hU, hV, _, _⟩ := Hs.out
        have hsw := swr_mid U' V' A' [] B' r m (by omega) (by omega) (by simp; omega)
        rw [hU] at hsw
        simp only [List.nil_append] at hsw
        have Ho := Lib.hid ho
        have Hsw := Lib.hid (hsw.trans hT)
        clear ho hT hA hU hV hsw Hs
        go_wp2_with (go_at_call 47; refine (swapRange_any base g n cap r m p f _ _ Ho.out hn (by omega) (by omega)).mono ?_; rintro e w2 ⟨rfl, ho2, hg2⟩)
        rw [Hsw.out] at ho2
        go_end0
        exact ⟨rfl, ho2, gtrans hg hg2⟩
end Go.Proofs.Ytkifpnhijdcjlaa
