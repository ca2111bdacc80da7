/- Walks: Check, whole; Regions. -/
import Derived.Test.YtkifpnhijdcjlaaW4
namespace Go.Proofs.Ytkifpnhijdcjlaa
open Go.RowKit

set_option maxHeartbeats 1000000 in
theorem check_any (first n : Int) (A : Option Addr) (m c : Nat) (ps : RunL) (B : Option Addr) (l d : Nat) (qs : RunL) (w : World)
    (hr : Runs w w.heap.size A m ps) (hq : Runs w w.heap.size B l qs) (hm : m ≤ 1048576) (hl : l ≤ 1048576) :
    Calls Try.prog 18 #[.int .i64 first, .int .i64 n, .slice A m c, .slice B l d] w fun e w' => e = .returned (.int .i64 (errB (checkB first n ps qs))) ∧ Below w.heap.size w w' := by
  by_cases h0 : first < 0
  · have hf : Hid (checkB first n ps qs = false) := by
      show checkB first n ps qs = false
      unfold checkB; rw [decide_eq_false (show ¬ 0 ≤ first from by omega)]; simp
    go_enter Try.func18, Try.ntmps18
    go_wp2
    go_ret
    exact ⟨by rw [hf.out]; rfl, Below.refl _ _⟩
  by_cases h1 : n < first
  · have hf : Hid (checkB first n ps qs = false) := by
      show checkB first n ps qs = false
      unfold checkB; rw [decide_eq_false (show ¬ first ≤ n from by omega)]; simp
    go_enter Try.func18, Try.ntmps18
    go_wp2
    go_ret
    exact ⟨by rw [hf.out]; rfl, Below.refl _ _⟩
  by_cases h2 : 4096 < n
  · have hf : Hid (checkB first n ps qs = false) := by
      show checkB first n ps qs = false
      unfold checkB; rw [decide_eq_false (show ¬ n ≤ 4096 from by omega)]; simp
    go_enter Try.func18, Try.ntmps18
    go_wp2
    go_ret
    exact ⟨by rw [hf.out]; rfl, Below.refl _ _⟩
  cases hp : rising first n ps
  · have hf : Hid (checkB first n ps qs = false) := by
      show checkB first n ps qs = false
      unfold checkB; rw [hp]; simp
    go_enter Try.func18, Try.ntmps18
    go_wp2_with fail
    refine (rising_any first n A m c ps _ (by omega) (by omega) (by omega) hr (by unfold maxLen; omega)).mono ?_
    rw [hp]
    rintro e w1 ⟨rfl, hb1⟩
    go_wp2
    go_ret
    exact ⟨by rw [hf.out]; rfl, hb1⟩
  cases hp2 : rising first n qs
  · have hf : Hid (checkB first n ps qs = false) := by
      show checkB first n ps qs = false
      unfold checkB; rw [hp2]; simp
    go_enter Try.func18, Try.ntmps18
    go_wp2_with fail
    refine (rising_any first n A m c ps _ (by omega) (by omega) (by omega) hr (by unfold maxLen; omega)).mono ?_
    rw [hp]
    rintro e w1 ⟨rfl, hb1⟩
    have hq' := (hq.below hb1 (Nat.le_refl _)).more hb1.size
    go_wp2_with fail
    refine (rising_any first n B l d qs _ (by omega) (by omega) (by omega) hq' (by unfold maxLen; omega)).mono ?_
    rw [hp2]
    rintro e w2 ⟨rfl, hb2⟩
    have hb := hb1.trans (hb2.mono hb1.size)
    clear hb1 hb2
    go_wp2
    go_ret
    exact ⟨by rw [hf.out]; rfl, hb⟩
  · have hf : checkB first n ps qs = ps.all (clears qs) := by
      unfold checkB; rw [hp, hp2, decide_eq_true (show 0 ≤ first from by omega), decide_eq_true (show first ≤ n from by omega), decide_eq_true (show n ≤ 4096 from by omega)]; simp
    rw [hf]
    exact check_main first n A m c ps B l d qs w (by omega) (by omega) (by omega) hr hq hm hl hp hp2

/-- the stretches between pins. -/
def regionsL (at_ n : Int) : RunL → RunL
  | [] => if n > at_ then [(at_, n - at_)] else []
  | p :: l => (if p.1 > at_ then [(at_, p.1 - at_)] else []) ++ regionsL (p.1 + p.2) n l
end Go.Proofs.Ytkifpnhijdcjlaa
