/- Walks. -/
import Derived.Test.YtkifpnhijdcjlaaBase
namespace Go.Proofs.Ytkifpnhijdcjlaa
open Go.RowKit

set_option maxHeartbeats 400000 in
theorem end_any (a b : Int) (w : World) (h1 : -9223372036854775808 ≤ a + b) (h2 : a + b ≤ 9223372036854775807) :
    Calls Try.prog 36 #[.agg #[.int .i64 a, .int .i64 b]] w fun e w' => e = .returned (.int .i64 (a + b)) ∧ Below w.heap.size w w' := by
  go_enter Try.func36, Try.ntmps36
  go_wp2
  go_ret
  exact ⟨rfl, (Below.refl _ _).alloc (Nat.le_refl _) _⟩

def rising (at_ n : Int) : RunL → Bool
  | [] => true
  | r :: l => if r.1 < at_ ∨ r.2 < 1 ∨ r.2 > n - r.1 then false else rising (r.1 + r.2) n l

theorem rising_step {a n : Int} {xs : RunL} {k : Nat} {x : Int × Int} (h : xs[k]? = some x) : rising a n (xs.drop k) = if x.1 < a ∨ x.2 < 1 ∨ x.2 > n - x.1 then false else rising (x.1 + x.2) n (xs.drop (k + 1)) := by
  obtain ⟨hk, rfl⟩ := List.getElem?_eq_some_iff.1 h
  rw [List.drop_eq_getElem_cons hk, rising]

set_option maxHeartbeats 400000 in
theorem rising_any (first n : Int) (A : Option Addr) (m c : Nat) (xs : RunL) (w : World) (h0 : 0 ≤ first) (hn : n ≤ 4096) (hn0 : first ≤ n) (hr : Runs w w.heap.size A m xs) (hm : m ≤ maxLen) :
    Calls Try.prog 33 #[.int .i64 first, .int .i64 n, .slice A m c] w fun e w' => e = .returned (.bool (rising first n xs)) ∧ Below w.heap.size w w' := by
  unfold maxLen at hm
  go_enter Try.func33, Try.ntmps33
  go_wp2
  go_loopw [7, 13] (fun t i wr => ∃ (k : Nat) (a : Int), k ≤ m ∧ i = .int .i64 k ∧ t = .int .i64 a ∧ 0 ≤ a ∧ a ≤ n ∧ Hid (rising first n xs = rising a n (xs.drop k)) ∧ Below w.heap.size w wr) (fun _ i _ => m - (intOf i).toNat)
  case atStart => exact ⟨0, first, Nat.zero_le _, rfl, rfl, h0, hn0, rfl, Below.refl _ _⟩
  case round =>
    obtain ⟨k, a, hk, rfl, rfl, ha0, han, H, hb⟩ := hrel
    by_cases hlt : k < m
    · obtain ⟨x1, x2, b, o, hx, w1, w2, w3, w4, rfl, hbB, c0, c1⟩ := (hr.below hb (Nat.le_refl _)).at_ hlt
      have hstep := rising_step (a := a) (n := n) hx
      have hsz := hb.size
      dsimp only at hstep
      by_cases h1 : x1 < a
      · rw [if_pos (Or.inl h1)] at hstep
        have Hs := Lib.hid hstep; have Hx := Lib.hid hx; clear hstep hx
        go_wp2
        go_ret
        exact ⟨by rw [H.out, Hs.out]; rfl, hb.alloc (by omega) _⟩
      · by_cases h2 : x2 < 1
        · rw [if_pos (Or.inr (Or.inl h2))] at hstep
          have Hs := Lib.hid hstep; have Hx := Lib.hid hx; clear hstep hx
          go_wp2
          go_ret
          exact ⟨by rw [H.out, Hs.out]; rfl, hb.alloc (by omega) _⟩
        · by_cases h3 : n - x1 < x2
          · rw [if_pos (Or.inr (Or.inr h3))] at hstep
            have Hs := Lib.hid hstep; have Hx := Lib.hid hx; clear hstep hx
            go_wp2
            go_ret
            exact ⟨by rw [H.out, Hs.out]; rfl, hb.alloc (by omega) _⟩
          · rw [if_neg (by omega)] at hstep
            have Hs := Lib.hid hstep; have Hx := Lib.hid hx; clear hstep hx
            go_wp2_with (go_at_call 36; refine (end_any _ _ _ (by omega) (by omega)).mono ?_; rintro e w' ⟨rfl, hb2⟩)
            go_roundw
            case rel =>
              refine ⟨k + 1, x1 + x2, by omega, by go_num, by go_num, by omega, by omega, ?_, ?_⟩
              · rw [H.out, Hs.out]; exact rfl
              · exact (hb.alloc (by omega) _).trans (hb2.mono (by simp; omega))
            case measure => simp [intOf]; omega
    · have hk' : k = m := by omega
      have hd : xs.drop k = [] := by rw [hk', hr.1]; simp
      have Hd : Hid (rising a n (xs.drop k) = true) := by rw [hd]; exact rfl
      clear hd hk'
      go_wp2
      go_ret
      exact ⟨by rw [H.out, Hd.out]; rfl, hb⟩
end Go.Proofs.Ytkifpnhijdcjlaa
