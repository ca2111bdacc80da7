/- Plain facts on rows of runs that rise. -/
import Derived.Test.YtkifpnhijdcjlaaW3
namespace Go.Proofs.Ytkifpnhijdcjlaa
open Go.RowKit

theorem rising_cons {a n : Int} {r : Int × Int} {l : RunL} (h : rising a n (r :: l) = true) : a ≤ r.1 ∧ 1 ≤ r.2 ∧ r.1 + r.2 ≤ n ∧ rising (r.1 + r.2) n l = true := by
  rw [rising] at h
  split at h
  · cases h
  · exact ⟨by omega, by omega, by omega, h⟩
theorem rising_get {a n : Int} {l : RunL} {k : Nat} {x : Int × Int} (h : rising a n l = true) (hx : l[k]? = some x) : a ≤ x.1 ∧ 1 ≤ x.2 ∧ x.1 + x.2 ≤ n := by
  induction l generalizing a k with
  | nil => simp at hx
  | cons r l ih =>
    obtain ⟨h1, h2, h3, h4⟩ := rising_cons h
    cases k with
    | zero => simp at hx; subst hx; exact ⟨h1, h2, h3⟩
    | succ k =>
      have := ih h4 (by simpa using hx)
      exact ⟨by omega, this.2⟩
theorem rising_lt {a n : Int} {l : RunL} {i j : Nat} {x y : Int × Int} (h : rising a n l = true) (hij : i < j) (hx : l[i]? = some x) (hy : l[j]? = some y) : x.1 + x.2 ≤ y.1 := by
  induction l generalizing a i j with
  | nil => simp at hx
  | cons r l ih =>
    obtain ⟨h1, h2, h3, h4⟩ := rising_cons h
    cases j with
    | zero => omega
    | succ j =>
      have hy' : l[j]? = some y := by simpa using hy
      cases i with
      | zero => simp at hx; subst hx; exact (rising_get h4 hy').1
      | succ i => exact ih (i := i) (j := j) h4 (by omega) (by simpa using hx) hy'
theorem rising_mono {a n : Int} {l : RunL} (h : rising a n l = true) : Mono l := by
  intro i j x y hx hy hij
  rcases Nat.lt_or_eq_of_le hij with hlt | rfl
  · have := rising_lt h hlt hx hy
    have := rising_get h hx
    omega
  · rw [hx] at hy; injection hy with hy; subst hy; exact Int.le_refl _

def apart (p q : Int × Int) : Bool := decide (p.1 + p.2 ≤ q.1) || decide (q.1 + q.2 ≤ p.1)
def clears (qs : RunL) (p : Int × Int) : Bool := qs.all (apart p)
def checkB (first n : Int) (ps qs : RunL) : Bool := decide (0 ≤ first) && decide (first ≤ n) && decide (n ≤ 4096) && rising first n ps && rising first n qs && ps.all (clears qs)
def errB (b : Bool) : Int := if b then 0 else 2

theorem apart_iff {p q : Int × Int} : apart p q = true ↔ p.1 + p.2 ≤ q.1 ∨ q.1 + q.2 ≤ p.1 := by simp [apart]
theorem clears_iff {qs : RunL} {p : Int × Int} : clears qs p = true ↔ ∀ (k : Nat) (q : Int × Int), qs[k]? = some q → p.1 + p.2 ≤ q.1 ∨ q.1 + q.2 ≤ p.1 := by
  unfold clears
  rw [List.all_eq_true]
  constructor
  · intro h k q hq; exact apart_iff.1 (h q (List.mem_of_getElem? hq))
  · intro h q hq; obtain ⟨k, hk, rfl⟩ := List.getElem_of_mem hq; exact apart_iff.2 (h k _ (List.getElem?_eq_getElem hk))

/-- what lies ahead overlaps. -/
theorem clears_ahead {qs : RunL} {p q : Int × Int} {i : Nat} (hc : Cuts qs p.1 i) (hi : 0 < i) (hp : 1 ≤ p.2) (hq : qs[i - 1]? = some q) (ho : p.1 < q.1 + q.2) : clears qs p = false := by
  rw [Bool.eq_false_iff]; intro h
  have := clears_iff.1 h _ _ hq
  have := hc.2.1 _ _ hq (by omega)
  omega
theorem clears_behind {qs : RunL} {p q : Int × Int} {i : Nat} (hc : Cuts qs p.1 i) {a n : Int} (hr : rising a n qs = true) (hq : qs[i]? = some q) (ho : q.1 < p.1 + p.2) : clears qs p = false := by
  rw [Bool.eq_false_iff]; intro h
  have := clears_iff.1 h _ _ hq
  have := hc.2.2 _ _ hq (by omega)
  have := rising_get hr hq
  omega
theorem clears_of {qs : RunL} {p : Int × Int} {i : Nat} (hc : Cuts qs p.1 i) {a n : Int} (hr : rising a n qs = true)
    (h1 : ∀ q, 0 < i → qs[i - 1]? = some q → q.1 + q.2 ≤ p.1) (h2 : ∀ q, qs[i]? = some q → p.1 + p.2 ≤ q.1) : clears qs p = true := by
  refine clears_iff.2 fun k q hq => ?_
  have hk := (List.getElem?_eq_some_iff.1 hq).1
  rcases Nat.lt_or_ge k i with hlt | hge
  · right
    have hle := hc.1
    have hi1 : qs[i - 1]? = some (qs[i - 1]'(by omega)) := List.getElem?_eq_getElem _
    have := h1 _ (by omega) hi1
    rcases Nat.lt_or_eq_of_le (show k ≤ i - 1 from by omega) with h | h
    · have := rising_lt hr h hq hi1
      have := rising_get hr hi1
      omega
    · subst h; rw [hq] at hi1; injection hi1 with hi1; rw [← hi1] at this; exact this
  · left
    have hi1 : qs[i]? = some (qs[i]'(by omega)) := List.getElem?_eq_getElem _
    have := h2 _ hi1
    have := rising_mono hr _ _ _ _ hi1 hq hge
    omega
/-- a start that is met lies in a run. -/
theorem clears_hit {qs : RunL} {p : Int × Int} {i : Nat} {a n : Int} (hr : rising a n qs = true) (hp : 1 ≤ p.2) (hh : hit qs p.1 i = true) : ∃ q, qs[i]? = some q ∧ q.1 = p.1 ∧ clears qs p = false := by
  unfold hit at hh
  cases hq : qs[i]? with
  | none => rw [hq] at hh; cases hh
  | some q =>
    rw [hq] at hh
    have he : q.1 = p.1 := by simpa using hh
    refine ⟨q, rfl, he, ?_⟩
    rw [Bool.eq_false_iff]; intro h
    have := clears_iff.1 h _ _ hq
    have := rising_get hr hq
    omega
theorem all_step {f : Int × Int → Bool} {l : RunL} {k : Nat} {x : Int × Int} (hx : l[k]? = some x) (h : (l.take k).all f = true) : (l.take (k + 1)).all f = f x := by
  obtain ⟨hk, rfl⟩ := List.getElem?_eq_some_iff.1 hx
  rw [List.take_succ_eq_append_getElem hk, List.all_append, h]; simp
theorem all_false {f : Int × Int → Bool} {l : RunL} {k : Nat} {x : Int × Int} (hx : l[k]? = some x) (h : f x = false) : l.all f = false := by
  rw [Bool.eq_false_iff]; intro ha
  have := List.all_eq_true.1 ha x (List.mem_of_getElem? hx)
  rw [h] at this; cases this
end Go.Proofs.Ytkifpnhijdcjlaa
