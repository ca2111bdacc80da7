/- Walks: great. -/
import Derived.Test.YtkifpnhijdcjlaaI5
namespace Go.Proofs.Ytkifpnhijdcjlaa
open Go.RowKit

def fieldV (first n : Int) (A : Option Addr) (m c : Nat) (B : Option Addr) (l d : Nat) : Value := .agg #[.int .i64 first, .int .i64 n, .slice A m c, .slice B l d]
theorem great_any (first n : Int) (A : Option Addr) (m c : Nat) (B : Option Addr) (l d : Nat) (w : World) (hm : m ≤ maxLen) (hl : l ≤ maxLen) :
    Calls Try.prog 19 #[fieldV first n A m c B l d] w fun e w' => e = .returned (.bool (decide (300 < m) || decide (300 < l))) ∧ Below w.heap.size w w' := by
  unfold maxLen at hm hl
  have hb0 : Below w.heap.size w (w.alloc (.cells #[.int .i64 first, .int .i64 n, .slice A m c, .slice B l d] 31)) := (Below.refl _ _).alloc (Nat.le_refl _) _
  unfold fieldV
  by_cases h1 : 300 < m
  · rw [show (decide (300 < m) || decide (300 < l)) = true from by rw [decide_eq_true h1]; rfl]
    go_enter Try.func19, Try.ntmps19
    go_wp2
    go_ret
    exact ⟨rfl, hb0⟩
  · by_cases h2 : 300 < l
    · rw [show (decide (300 < m) || decide (300 < l)) = true from by rw [decide_eq_true h2]; simp]
      have d0 : decide ((300 : Int) < (m : Int)) = false := decide_eq_false (by omega)
      have d1 : decide (300 < m) = false := decide_eq_false h1
      have d2 : decide ((300 : Int) < (l : Int)) = true := decide_eq_true (by omega)
      have d3 : decide (300 < l) = true := decide_eq_true h2
      go_enter Try.func19, Try.ntmps19
      go_wp2
      go_ret
      exact ⟨rfl, hb0⟩
    · rw [show (decide (300 < m) || decide (300 < l)) = false from by rw [decide_eq_false h1, decide_eq_false h2]; rfl]
      have d0 : decide ((300 : Int) < (m : Int)) = false := decide_eq_false (by omega)
      have d1 : decide (300 < m) = false := decide_eq_false h1
      have d2 : decide ((300 : Int) < (l : Int)) = false := decide_eq_false (by omega)
      have d3 : decide (300 < l) = false := decide_eq_false h2
      go_enter Try.func19, Try.ntmps19
      go_wp2
      go_ret
      exact ⟨rfl, hb0⟩
end Go.Proofs.Ytkifpnhijdcjlaa
