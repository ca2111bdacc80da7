/- The sort: SortStableFunc at whatever row. -/
import Derived.Test.YtkifpnhijdcjlaaS8
namespace Go.Proofs.Ytkifpnhijdcjlaa
open Go.RowKit

set_option maxHeartbeats 1000000 in
theorem insertion_none (f : Value) (w : World) : Calls Try.prog 43 #[.slice none 0 0, .int .i64 0, .int .i64 0, f] w fun e w' => e = .returned (.tuple #[]) ∧ w = w' := by
  go_enter Try.func43, Try.ntmps43
  go_wp2_with fail
  refine wp_loop_rounds 1 ?_
  rw [rounds_succ]
  go_wp2
  go_end0
  exact ⟨rfl, rfl⟩
set_option maxRecDepth 100000 in
set_option maxHeartbeats 1000000 in
theorem stable_none (f : Value) (w : World) : Calls Try.prog 39 #[.slice none 0 0, .int .i64 0, f] w fun e w' => e = .returned (.tuple #[]) ∧ w = w' := by
  go_enter Try.func39, Try.ntmps39
  go_wp2_with fail
  refine wp_loop_rounds 1 ?_
  rw [rounds_succ]
  go_wp2_with (go_at_call 43; refine (insertion_none _ _).mono ?_; rintro e w2 ⟨rfl, rfl⟩)
  refine wp_loop_rounds 1 ?_
  rw [rounds_succ]
  go_wp2
  go_end0
  exact ⟨rfl, rfl⟩

/-- what the sort leaves. -/
def SortedPost (base : Nat) (v : Value) (ys : RunL) (w : World) (e : Ending) (w' : World) : Prop := e = .returned (.tuple #[]) ∧ Own w' base v ys ∧ w.grownBy w' v.ownBlock
set_option maxHeartbeats 1000000 in
theorem sort_any (base n c : Nat) (A : Option Addr) (xs : RunL) (w : World) (h : Own w base (.slice A n c) xs) (hn : n ≤ 524288) :
    Calls Try.prog 27 #[.slice A n c, .func (.func 28) #[] #[]] w (SortedPost base (.slice A n c) (srt xs) w) := by
  rcases h.1.2 with ⟨e, h0⟩ | ⟨g, cap, cur, e, _⟩
  · injection e with e1 e2 e3
    subst e1 e2 e3
    have hx : xs = [] := List.eq_nil_of_length_eq_zero h0
    subst hx
    go_enter Try.func27, Try.ntmps27
    go_wp2_with (go_at_call 39; refine (stable_none _ _).mono ?_; rintro e w2 ⟨rfl, rfl⟩)
    go_end0
    exact ⟨rfl, h, World.grownBy.refl _ _⟩
  · injection e with e1 e2 e3
    subst e1
    clear e2 e3
    go_enter Try.func27, Try.ntmps27
    go_wp2_with (go_at_call 39; refine (stable_any base g n c xs _ h hn).mono ?_; rintro e w2 ⟨rfl, ho, hg⟩)
    go_end0
    exact ⟨rfl, ho, hg⟩
end Go.Proofs.Ytkifpnhijdcjlaa
