/- The sort: the merge, and the sort. -/
import Derived.Test.YtkifpnhijdcjlaaS3
import Derived.Test.YtkifpnhijdcjlaaS4
namespace Go.Proofs.Ytkifpnhijdcjlaa
open Go.RowKit
attribute [local go_sem] ext_cell ext_frozen

theorem rotate_at (base g n cap : Nat) (f : Value) (A U V B : RunL) (a m b : Nat) (ha : A.length = a) (hm : a + U.length = m) (hb : m + V.length = b) (w : World) (h : Own w base (rowV g n cap) (A ++ (U ++ (V ++ B)))) (hn : n ≤ 1048576)
    (hU : 0 < U.length) (hV : 0 < V.length) :
    Calls Try.prog 46 #[rowV g n cap, .int .i64 a, .int .i64 m, .int .i64 b, f] w (SortPost base g n cap (A ++ (V ++ (U ++ B))) w) := by
  subst ha hb
  exact rotate_any base g n cap f A U V B m w h hn (by omega) hU hV

def MergeSaid (N : Nat) : Prop := ∀ (base g n cap : Nat) (P L R S : RunL) (a m b : Nat) (w : World), L.length + R.length ≤ N → P.length = a → a + L.length = m → m + R.length = b → Own w base (rowV g n cap) (P ++ (L ++ (R ++ S))) → n ≤ 1048576 → Up L → Up R → 0 < L.length → 0 < R.length →
  Calls Try.prog 44 #[rowV g n cap, .int .i64 a, .int .i64 m, .int .i64 b, .func (.func 28) #[] #[]] w (SortPost base g n cap (P ++ (srt (L ++ R) ++ S)) w)

/-- the search's state. -/
def SrchM (xs : RunL) (p lo hi i j : Nat) : Prop := (∀ k, lo ≤ k → k < i → (at0 xs k).1 ≤ (at0 xs (p - k)).1) ∧ (∀ k, j ≤ k → k < hi → (at0 xs (p - k)).1 < (at0 xs k).1)

/-- what the search has parted. -/
theorem parted {xs P L R S : RunL} {a m b mid s e lo hi : Nat} (hxs : xs = P ++ (L ++ (R ++ S))) (ha : P.length = a) (hm : a + L.length = m) (hb : m + R.length = b) (hL : Up L) (hR : Up R)
    (hlo : a ≤ lo) (hhi : hi ≤ m) (hls : lo ≤ s) (hsh : s ≤ hi) (hse : s + e = mid + m) (hem : m ≤ e) (heb : e ≤ b) (hl : lo = a ∨ lo + b = mid + m) (hh : hi = m ∨ hi = mid) (hS : SrchM xs (mid + m - 1) lo hi s s) (_hmid : mid + mid ≤ a + b) (ham : a < m) (hmb : m < b) :
    ∃ L1 L2 R1 R2, L = L1 ++ L2 ∧ R = R1 ++ R2 ∧ a + L1.length = s ∧ m + R1.length = e ∧ srt (L ++ R) = srt (L1 ++ R1) ++ srt (L2 ++ R2) := by
  have eL : L.take (s - a) ++ L.drop (s - a) = L := List.take_append_drop _ _
  have eR : R.take (e - m) ++ R.drop (e - m) = R := List.take_append_drop _ _
  have atL : ∀ k, k < L.length → at0 xs (a + k) = at0 L k := fun k hk => by
    rw [hxs, at0_append_right (j := k) (by omega), at0_append_left hk]
  have atR : ∀ k, k < R.length → at0 xs (m + k) = at0 R k := fun k hk => by
    rw [hxs, at0_append_right (j := L.length + k) (by omega), at0_append_right (j := k) (by omega), at0_append_left hk]
  refine ⟨L.take (s - a), L.drop (s - a), R.take (e - m), R.drop (e - m), eL.symm, eR.symm, by rw [List.length_take]; omega, by rw [List.length_take]; omega, ?_⟩
  have hsp := srt_split (L1 := L.take (s - a)) (L2 := L.drop (s - a)) (R1 := R.take (e - m)) (R2 := R.drop (e - m)) (by rw [eL]; exact hL) (by rw [eR]; exact hR) (fun x hx y hy => ?_) (fun y hy x hx => ?_)
  · rw [eL, eR] at hsp; exact hsp
  · obtain ⟨i, hi', rfl⟩ := mem_at0 hx
    obtain ⟨j, hj', rfl⟩ := mem_at0 hy
    rw [List.length_take] at hi'
    rw [List.length_drop] at hj'
    have e1 : at0 (L.take (s - a)) i = at0 L i := by
      conv => rhs; rw [← eL]
      rw [at0_append_left (by rw [List.length_take]; omega)]
    have e2 : at0 (R.drop (e - m)) j = at0 R (e - m + j) := by
      conv => rhs; rw [← eR]
      rw [at0_append_right (j := j) (by rw [List.length_take]; omega)]
    rw [e1, e2]
    have h1 := up_at0 hL (i := i) (j := s - 1 - a) (by omega) (by omega)
    have h2 := up_at0 hR (i := e - m) (j := e - m + j) (by omega) (by omega)
    have h3 := hS.1 (s - 1) (by omega) (by omega)
    rw [show mid + m - 1 - (s - 1) = m + (e - m) from by omega, atR _ (by omega), show s - 1 = a + (s - 1 - a) from by omega, atL _ (by omega)] at h3
    omega
  · obtain ⟨i, hi', rfl⟩ := mem_at0 hx
    obtain ⟨j, hj', rfl⟩ := mem_at0 hy
    rw [List.length_drop] at hi'
    rw [List.length_take] at hj'
    have e1 : at0 (L.drop (s - a)) i = at0 L (s - a + i) := by
      conv => rhs; rw [← eL]
      rw [at0_append_right (j := i) (by rw [List.length_take]; omega)]
    have e2 : at0 (R.take (e - m)) j = at0 R j := by
      conv => rhs; rw [← eR]
      rw [at0_append_left (by rw [List.length_take]; omega)]
    rw [e1, e2]
    have h1 := up_at0 hL (i := s - a) (j := s - a + i) (by omega) (by omega)
    have h2 := up_at0 hR (i := j) (j := e - 1 - m) (by omega) (by omega)
    have h3 := hS.2 s (Nat.le_refl _) (by omega)
    rw [show mid + m - 1 - s = m + (e - 1 - m) from by omega, atR _ (by omega), show s = a + (s - a) from by omega, atL _ (by omega)] at h3
    omega
end Go.Proofs.Ytkifpnhijdcjlaa
