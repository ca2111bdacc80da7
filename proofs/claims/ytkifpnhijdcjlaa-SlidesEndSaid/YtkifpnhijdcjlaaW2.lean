/- Walks: comparisons, the binary search, Clone. -/
import Derived.Test.YtkifpnhijdcjlaaW1
namespace Go.Proofs.Ytkifpnhijdcjlaa
open Go.RowKit

set_option maxHeartbeats 400000 in
theorem nan_any (a : Int) (w : World) :
    Calls Try.prog 40 #[.int .i64 a] w fun e w' => e = .returned (.bool false) ∧ w = w' := by
  go_enter Try.func40, Try.ntmps40
  go_wp2
  go_ret
  exact ⟨by simp, rfl⟩

def cmpI (a b : Int) : Int := if a < b then -1 else if b < a then 1 else 0
set_option maxHeartbeats 400000 in
theorem compare_any (a b : Int) (w : World) :
    Calls Try.prog 29 #[.int .i64 a, .int .i64 b] w fun e w' => e = .returned (.int .i64 (cmpI a b)) ∧ w = w' := by
  have hc : cmpI a b = if a < b then -1 else if b < a then 1 else 0 := rfl
  by_cases h1 : a < b
  · rw [if_pos h1] at hc
    have Hc := Lib.hid hc; clear hc
    go_enter Try.func29, Try.ntmps29
    go_wp2_with (go_at_call 40; refine (nan_any _ _).mono ?_; rintro e w' ⟨rfl, rfl⟩)
    all_goals go_ret
    all_goals exact ⟨by rw [Hc.out]; rfl, rfl⟩
  · by_cases h2 : b < a
    · rw [if_neg h1, if_pos h2] at hc
      have Hc := Lib.hid hc; clear hc
      go_enter Try.func29, Try.ntmps29
      go_wp2_with (go_at_call 40; refine (nan_any _ _).mono ?_; rintro e w' ⟨rfl, rfl⟩)
      all_goals go_ret
      all_goals exact ⟨by rw [Hc.out]; rfl, rfl⟩
    · rw [if_neg h1, if_neg h2] at hc
      have Hc := Lib.hid hc; clear hc
      go_enter Try.func29, Try.ntmps29
      go_wp2_with (go_at_call 40; refine (nan_any _ _).mono ?_; rintro e w' ⟨rfl, rfl⟩)
      all_goals go_ret
      all_goals exact ⟨by rw [Hc.out]; rfl, rfl⟩

set_option maxHeartbeats 400000 in
theorem cmpStart_any (a1 a2 b : Int) (w : World) :
    Calls Try.prog 35 #[.agg #[.int .i64 a1, .int .i64 a2], .int .i64 b] w fun e w' => e = .returned (.int .i64 (cmpI a1 b)) ∧ Below w.heap.size w w' := by
  go_enter Try.func35, Try.ntmps35
  go_wp2_with (go_at_call 29; refine (compare_any _ _ _).mono ?_; rintro e w' ⟨rfl, rfl⟩)
  go_ret
  exact ⟨rfl, (Below.refl _ _).alloc (Nat.le_refl _) _⟩
set_option maxHeartbeats 400000 in
theorem cmpRuns_any (a1 a2 b1 b2 : Int) (w : World) :
    Calls Try.prog 28 #[.agg #[.int .i64 a1, .int .i64 a2], .agg #[.int .i64 b1, .int .i64 b2]] w fun e w' => e = .returned (.int .i64 (cmpI a1 b1)) ∧ Below w.heap.size w w' := by
  go_enter Try.func28, Try.ntmps28
  go_wp2_with (go_at_call 29; refine (compare_any _ _ _).mono ?_; rintro e w' ⟨rfl, rfl⟩)
  go_ret
  exact ⟨rfl, ((Below.refl _ _).alloc (Nat.le_refl _) _).alloc (by simp) _⟩

set_option maxHeartbeats 400000 in
theorem own_any (A : Option Addr) (m c : Nat) (xs : RunL) (w : World) (hr : Runs w w.heap.size A m xs) (hm : m ≤ 1048576) :
    Calls Try.prog 11 #[.slice A m c] w fun e w' => ∃ A' c', e = .returned (.slice A' m c') ∧ Own w' w.heap.size (.slice A' m c') xs ∧ Below w.heap.size w w' := by
  go_enter Try.func11, Try.ntmps11
  go_wp2_with (at_builtin; refine wpList_app_runs rfl _ _ rfl w.heap.size (.slice none 0 0) [] (by rfl) (Own.nil _ _) A m c xs (by rfl) hr (by simpa using hm) (Nat.le_refl _) ?_; intro A' c' w' h1 h2 h3)
  simp only [List.length_nil, Nat.zero_add, List.nil_append] at h1 h3
  go_wp2
  go_ret
  exact ⟨A', c', by simp, h1, (Below.refl _ _).grown h2 (Nat.le_refl _) (by simp [Value.ownBlock])⟩

set_option maxHeartbeats 400000 in
theorem clone_some (a : Addr) (m c : Nat) (xs : RunL) (w : World) (hr : Runs w w.heap.size (some a) m xs) (hm : m ≤ 1048000) :
    Calls Try.prog 42 #[.slice (some a) m c] w fun e w' => ∃ A' c', e = .returned (.slice A' m c') ∧ Own w' w.heap.size (.slice A' m c') xs ∧ Below w.heap.size w w' := by
  have hn := fun w => Lib.run_eql_slice_nil (P := Try.prog) w 22 39 (some a) m c 0 0 Try.underlying22
  go_enter Try.func42, Try.ntmps42
  have hown : Own (w.alloc (.cells #[] 39)) w.heap.size (.slice (some ⟨w.heap.size, 0, none⟩) 0 0) [] := ⟨World.ownsRow_made w #[] 0 (Nat.le_refl _) (by simp [maxLen]) rfl, Wf.nil⟩
  have hr2 : Runs (w.alloc (.cells #[] 39)) (w.alloc (.cells #[] 39)).heap.size (some a) m xs := (hr.below ((Below.refl w.heap.size w).alloc (Nat.le_refl _) _) (Nat.le_refl _)).more (by simp)
  go_wp2_with (at_builtin; refine wpList_app_runs rfl _ _ rfl w.heap.size (.slice (some ⟨w.heap.size, 0, none⟩) 0 0) [] (by rfl) hown (some a) m c xs (by rfl) hr2 (by simp; omega) (by simp) ?_; intro A' c' w' h1 h2 h3)
  simp only [List.length_nil, Nat.zero_add, List.nil_append] at h1 h3
  go_wp2
  go_ret
  exact ⟨A', c', by simp, h1, ((Below.refl _ _).alloc (Nat.le_refl _) _).grown h2 (by simp) (by simp [Value.ownBlock])⟩
set_option maxHeartbeats 400000 in
theorem clone_none (w : World) :
    Calls Try.prog 42 #[.slice none 0 0] w fun e w' => e = .returned (.slice none 0 0) ∧ w = w' := by
  have hn := fun w => Lib.run_eql_slice_nil (P := Try.prog) w 22 39 none 0 0 0 0 Try.underlying22
  go_enter Try.func42, Try.ntmps42
  go_wp2_with fail
  go_ret
  exact ⟨rfl, rfl⟩
end Go.Proofs.Ytkifpnhijdcjlaa
