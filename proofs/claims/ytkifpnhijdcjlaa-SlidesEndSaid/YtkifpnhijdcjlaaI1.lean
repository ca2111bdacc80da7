/- A row of ints of the call's own; the reference's Row. -/
import Derived.Test.YtkifpnhijdcjlaaW1
import Derived.Test.YtkifpnhijdcjlaaM1
import Derived.BigQuiet
import Derived.Deep.QuietTactic
namespace Go.Proofs.Ytkifpnhijdcjlaa
open Go.RowKit

/-- Block g is n ints, f telling which. -/
def Ints (w : World) (g n : Nat) (f : Nat → Int) : Prop := ∃ cur : Array Value, w.heap[g]? = some (.cells cur 3 (0, 0)) ∧ cur.size = n ∧ ∀ i, i < n → cur[i]? = some (.int .i64 (f i))
theorem Ints.get {w : World} {g n : Nat} {f : Nat → Int} (h : Ints w g n f) {i : Nat} (hi : i < n) : w.cell? ⟨g, i, none⟩ = some (.int .i64 (f i)) ∧ w.frozen? ⟨g, i, none⟩ = false := by
  obtain ⟨cur, hh, hs, hc⟩ := h
  refine ⟨by rw [cell_of_row w g i _ _ _ hh]; exact hc i hi, ?_⟩
  unfold World.frozen?
  rw [hh]; simp
theorem Ints.lt {w : World} {g n : Nat} {f : Nat → Int} (h : Ints w g n f) : g < w.heap.size := by
  obtain ⟨cur, hh, _⟩ := h
  exact (Array.getElem?_eq_some_iff.1 hh).1
theorem Ints.below {w w' : World} {g n B : Nat} {f : Nat → Int} (h : Ints w g n f) (hb : Below B w w') (hg : g < B) : Ints w' g n f := by
  obtain ⟨cur, hh, r⟩ := h
  exact ⟨cur, (hb.block g hg).trans hh, r⟩
theorem Ints.set {w : World} {g n : Nat} {f : Nat → Int} (h : Ints w g n f) {i : Nat} (hi : i < n) (v : Int) : Ints (w.setCell ⟨g, i, none⟩ (.int .i64 v)) g n (fun j => if j = i then v else f j) := by
  obtain ⟨cur, hh, hs, hc⟩ := h
  refine ⟨cur.setIfInBounds i (.int .i64 v), ?_, by simp [hs], fun j hj => ?_⟩
  · simp [World.setCell, Array.getElem?_modify, hh]
  · rw [Array.getElem?_setIfInBounds]
    by_cases hij : i = j
    · subst hij; simp [hs, hi]
    · rw [if_neg hij]; show cur[j]? = some (.int .i64 (if j = i then v else f j)); rw [if_neg (by omega)]; exact hc j hj
theorem Ints.congr {w : World} {g n : Nat} {f f' : Nat → Int} (h : Ints w g n f) (he : ∀ i, i < n → f i = f' i) : Ints w g n f' := by
  obtain ⟨cur, hh, hs, hc⟩ := h
  exact ⟨cur, hh, hs, fun i hi => by rw [← he i hi]; exact hc i hi⟩
theorem Ints.drewN {w : World} {g n : Nat} {f : Nat → Int} (h : Ints w g n f) (k : Nat) : Ints (w.drewN k) g n f := h

set_option maxHeartbeats 2000000 in
theorem Row_any (first n : Int) (A : Option Addr) (m c : Nat) (xs : RunL) (w : World) (h0 : 0 ≤ first) (hn : n ≤ 4096) (hn0 : first ≤ n) (hr : Runs w w.heap.size A m xs) (hm : m ≤ maxLen) :
    Calls Try.prog 38 #[.int .i64 first, .int .i64 n, .slice A m c] w fun e w' => e = .returned (.bool (rising first n xs)) ∧ ∃ q, w' = w.drewN q := by
  unfold maxLen at hm
  go_enter Try.func38, Try.ntmps38
  go_wp2_with fail
  go_loopw [7, 8] (fun t i wr => ∃ (k : Nat) (a : Int), k ≤ m ∧ i = .int .i64 k ∧ t = .int .i64 a ∧ 0 ≤ a ∧ a ≤ n ∧ Hid (rising first n xs = rising a n (xs.drop k)) ∧ ∃ q, wr = w.drewN q) (fun _ i _ => m - (intOf i).toNat)
  case atStart => exact ⟨0, first, Nat.zero_le _, rfl, rfl, h0, hn0, rfl, 0, rfl⟩
  case round =>
    obtain ⟨k, a, hk, rfl, rfl, ha0, han, H, q, rfl⟩ := hrel
    by_cases hlt : k < m
    · obtain ⟨x1, x2, b, o, hx, w1, w2, w3, w4, rfl, hbB, c0, c1⟩ := hr.at_ hlt
      have hstep := rising_step (a := a) (n := n) hx
      dsimp only at hstep
      have Hx := Lib.hid hx; clear hx
      by_cases h1 : x1 < a
      · rw [if_pos (Or.inl h1)] at hstep
        have Hs := Lib.hid (H.out.trans hstep); clear hstep H
        go_wp2_with fail
        go_quiet (fail)
        go_wp2
        go_ret
        exact ⟨by rw [Hs.out]; rfl, q + nq, by go_simp⟩
      · have d1 := decide_eq_false h1
        by_cases h2 : x2 < 1
        · rw [if_pos (Or.inr (Or.inl h2))] at hstep
          have Hs := Lib.hid (H.out.trans hstep); clear hstep H
          go_wp2_with fail
          go_quiet (fail)
          go_wp2
          go_ret
          exact ⟨by rw [Hs.out]; rfl, q + nq, by go_simp⟩
        · have d2 := decide_eq_false h2
          by_cases h3 : n ≤ x1
          · rw [if_pos (Or.inr (Or.inr (by omega)))] at hstep
            have Hs := Lib.hid (H.out.trans hstep); clear hstep H
            go_wp2_with fail
            go_quiet (fail)
            go_wp2
            go_ret
            exact ⟨by rw [Hs.out]; rfl, q + nq, by go_simp⟩
          · have d3 := decide_eq_false h3
            by_cases h4 : n - x1 < x2
            · rw [if_pos (Or.inr (Or.inr h4))] at hstep
              have Hs := Lib.hid (H.out.trans hstep); clear hstep H
              go_wp2_with fail
              go_quiet (fail)
              go_wp2
              go_ret
              exact ⟨by rw [Hs.out]; rfl, q + nq, by go_simp⟩
            · have d4 := decide_eq_false h4
              rw [if_neg (by omega)] at hstep
              have Hs := Lib.hid (H.out.trans hstep); clear hstep H
              go_wp2_with fail
              go_quiet (fail)
              go_wp2
              go_quiet (fail)
              go_wp2
              go_roundw
              case rel => exact ⟨k + 1, x1 + x2, by omega, by go_num, by go_num, by omega, by omega, Hs, _, by go_simp; rfl⟩
              case measure => simp [intOf]; omega
    · have hd : xs.drop k = [] := by rw [show k = m from by omega, hr.1]; simp
      have Hd : Hid (rising first n xs = true) := by rw [H.out, hd]; exact rfl
      clear hd
      go_wp2
      go_ret
      exact ⟨by rw [Hd.out]; rfl, q, rfl⟩
end Go.Proofs.Ytkifpnhijdcjlaa
