/- Plain facts: the marks around a move; sums. -/
import Derived.Test.YtkifpnhijdcjlaaQ2
import Derived.Test.YtkifpnhijdcjlaaV1
namespace Go.Proofs.Ytkifpnhijdcjlaa
open Go.RowKit

theorem Mv.zero {first n f a t l : Int} {ps qs : RunL} {r p : Int × Int} (hck : checkB first n ps qs = true) (h : Mv first n ps qs f a t l r p) {j : Nat} (h1 : t ≤ (j : Int)) (h2 : (j : Int) < a) : marksF ps qs j = 0 := by
  obtain ⟨c1, c2, c3, c4, c5, c6⟩ := check_parts hck
  have hlo := h.lo
  have hhi := h.hi
  have hl1 := h.l1
  have hlen := h.len
  refine marksF_free (fun q hq hat => h.free j h1 h2 ⟨q, hq, hat.1, hat.2⟩) fun q hq hat => ?_
  have := regions_apart c5 r h.reg q hq
  unfold At at hat; omega
theorem Mv.mark {first n f a t l : Int} {ps qs : RunL} {r p : Int × Int} (hck : checkB first n ps qs = true) (h : Mv first n ps qs f a t l r p) : ∃ u : Int, 0 < u ∧ ∀ j : Nat, a ≤ (j : Int) → (j : Int) < a + l → marksF ps qs j = u := by
  obtain ⟨c1, c2, c3, c4, c5, c6⟩ := check_parts hck
  obtain ⟨i, hi⟩ := List.getElem?_of_mem h.pm
  have hlen := h.len
  have hpa := h.pa
  refine ⟨(i : Int) + 1, by omega, fun j h1 h2 => marksF_piece c4 c6 hi ?_⟩
  unfold At; omega
theorem sumL_step {xs : RunL} {k : Nat} {x1 x2 : Int} (h : xs[k]? = some (x1, x2)) : sumL (xs.take (k + 1)) = sumL (xs.take k) + x2 := by
  obtain ⟨hk, e⟩ := List.getElem?_eq_some_iff.1 h
  rw [List.take_succ_eq_append_getElem hk, sumL_append, e]; simp [sumL]
theorem sumL_bound {xs : RunL} (h : Small xs) (k : Nat) : 0 ≤ sumL (xs.take k) ∧ sumL (xs.take k) ≤ 4096 * (k : Int) := by
  induction k with
  | zero => simp [sumL]
  | succ k ih =>
    rcases Nat.lt_or_ge k xs.length with hk | hk
    · have hx : xs[k]? = some xs[k] := List.getElem?_eq_getElem hk
      have := h k _ hx
      have hs := sumL_step (x1 := xs[k].1) (x2 := xs[k].2) hx
      omega
    · rw [List.take_of_length_le (by omega)]
      rw [List.take_of_length_le hk] at ih
      omega
theorem mayB_parts {m l : Nat} {first n : Int} {ps qs : RunL} (h : mayB m l first n ps qs = true) : m ≤ 300 ∧ l ≤ 300 ∧ n ≤ 600 ∧ checkB first n ps qs = true := by
  unfold mayB at h
  simp only [Bool.and_eq_true, Bool.not_eq_true', Bool.or_eq_false_iff, decide_eq_true_eq, decide_eq_false_iff_not] at h
  exact ⟨by omega, by omega, h.1.2, h.2⟩
end Go.Proofs.Ytkifpnhijdcjlaa
