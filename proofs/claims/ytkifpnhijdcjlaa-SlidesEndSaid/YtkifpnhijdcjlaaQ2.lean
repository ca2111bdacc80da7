/- Plain facts: what moving does to the pieces. -/
import Derived.Test.YtkifpnhijdcjlaaQ1
namespace Go.Proofs.Ytkifpnhijdcjlaa
open Go.RowKit

def lastEnd (a : Int) : RunL → Int
  | [] => a
  | r :: l => lastEnd (r.1 + r.2) l
theorem rising_app {a n : Int} {P Q : RunL} : rising a n (P ++ Q) = true ↔ rising a n P = true ∧ rising (lastEnd a P) n Q = true := by
  induction P generalizing a with
  | nil => simp [rising, lastEnd]
  | cons r l ih =>
    rw [List.cons_append, rising, rising, lastEnd]
    by_cases h : r.1 < a ∨ r.2 < 1 ∨ r.2 > n - r.1
    · rw [if_pos h, if_pos h]; simp
    · rw [if_neg h, if_neg h]; exact ih
theorem lastEnd_le {a t : Int} {P : RunL} (ha : a ≤ t) (h : ∀ q ∈ P, q.1 + q.2 ≤ t) : lastEnd a P ≤ t := by
  induction P generalizing a with
  | nil => exact ha
  | cons r l ih => exact ih (h r List.mem_cons_self) (fun q hq => h q (List.mem_cons_of_mem _ hq))
theorem rising_ahead {a n : Int} {P Q : RunL} {p : Int × Int} (h : rising a n (P ++ p :: Q) = true) : ∀ q ∈ P, q.1 + q.2 ≤ p.1 := by
  induction P generalizing a with
  | nil => intro q hq; cases hq
  | cons r l ih =>
    obtain ⟨h1, h2, h3, h4⟩ := rising_cons h
    intro q hq
    rcases List.mem_cons.1 hq with rfl | hq
    · obtain ⟨k, hk⟩ := List.getElem?_of_mem (show p ∈ l ++ p :: Q by simp)
      exact (rising_get h4 hk).1
    · exact ih h4 q hq
theorem rising_sorted {a n : Int} {l : RunL} (h : rising a n l = true) : Up l := by
  induction l generalizing a with
  | nil => exact List.Pairwise.nil
  | cons r l ih =>
    obtain ⟨h1, h2, h3, h4⟩ := rising_cons h
    refine up_cons.2 ⟨fun y hy => ?_, ih h4⟩
    obtain ⟨k, hk⟩ := List.getElem?_of_mem hy
    have := rising_get h4 hk
    omega
theorem movedPre_same {f t l : Int} {P : RunL} (h : ∀ q ∈ P, q.1 ≠ f) : movedPre f t l P = P := by
  induction P with
  | nil => rfl
  | cons r P ih =>
    have := ih fun q hq => h q (List.mem_cons_of_mem _ hq)
    unfold movedPre at this ⊢
    rw [List.flatMap_cons, this]
    unfold onePiece
    rw [if_pos (Or.inl (h r List.mem_cons_self))]; rfl
/-- a move of nothing. -/
theorem moved_zero {a n : Int} {ps : RunL} (h : rising a n ps = true) (f t : Int) : movedL f t 0 ps = ps := by
  unfold movedL
  have : movedPre f t 0 ps = ps := by
    clear h
    induction ps with
    | nil => rfl
    | cons r P ih =>
      unfold movedPre at ih ⊢
      rw [List.flatMap_cons, ih]
      unfold onePiece
      rw [if_pos (Or.inr (Or.inl (by omega)))]; rfl
  rw [this]
  exact srt_id (rising_sorted h)

def rest (a l : Int) (p : Int × Int) : RunL := if l < p.2 then [(a + l, p.2 - l)] else []
theorem moved_form {first n f a t l : Int} {ps qs : RunL} {r p : Int × Int} (hck : checkB first n ps qs = true) (h : Mv first n ps qs f a t l r p) :
    ∃ P1 P2, ps = P1 ++ p :: P2 ∧ movedL a t l ps = P1 ++ ((t, l) :: (rest a l p ++ P2)) ∧ rising first n (P1 ++ ((t, l) :: (rest a l p ++ P2))) = true ∧ (∀ q ∈ P1, q.1 + q.2 ≤ t) ∧ (∀ q ∈ P2, p.1 + p.2 ≤ q.1) := by
  obtain ⟨c1, c2, c3, c4, c5, c6⟩ := check_parts hck
  obtain ⟨P1, P2, hps⟩ := List.append_of_mem h.pm
  have hpa := h.pa
  have hl1 := h.l1
  have hlen := h.len
  have hta := h.ta
  have hhi := h.hi
  have htop := h.top
  have hlow := h.low
  have hlo := h.lo
  have c4' := c4
  rw [hps] at c4'
  have hah := rising_ahead c4'
  obtain ⟨k1, k2⟩ := rising_app.1 c4'
  obtain ⟨k3, k4, k5, k6⟩ := rising_cons k2
  have hP1 : ∀ q ∈ P1, q.1 + q.2 ≤ t := fun q hq => by
    have := hah q hq
    obtain ⟨i, hi⟩ := List.getElem?_of_mem hq
    have := rising_get k1 hi
    apply Decidable.byContradiction; intro hc
    exact h.free (q.1 + q.2 - 1) (by omega) (by omega) ⟨q, by rw [hps]; simp [hq], by omega, by omega⟩
  have hP2 : ∀ q ∈ P2, p.1 + p.2 ≤ q.1 := fun q hq => by
    obtain ⟨i, hi⟩ := List.getElem?_of_mem hq
    exact (rising_get k6 hi).1
  have hP1n : ∀ q ∈ P1, q.1 ≠ a := fun q hq => by
    have := hP1 q hq
    obtain ⟨i, hi⟩ := List.getElem?_of_mem hq
    have := rising_get k1 hi
    omega
  have hP2n : ∀ q ∈ P2, q.1 ≠ a := fun q hq => by have := hP2 q hq; omega
  have hw : wrap64 (a + l) = a + l := by unfold wrap64; omega
  have hone : onePiece a t l p = (t, l) :: rest a l p := by
    unfold onePiece rest
    rw [if_neg (by omega), hpa, hw]
  have hpre : movedPre a t l ps = P1 ++ ((t, l) :: (rest a l p ++ P2)) := by
    have e1 := movedPre_same (t := t) (l := l) hP1n
    have e2 := movedPre_same (t := t) (l := l) hP2n
    unfold movedPre at e1 e2 ⊢
    rw [hps, List.flatMap_append, List.flatMap_cons, e1, e2, hone]; simp
  have hrest : rising (t + l) n (rest a l p ++ P2) = true := by
    unfold rest
    by_cases hlp : l < p.2
    · rw [if_pos hlp, List.cons_append, List.nil_append, rising, if_neg (by dsimp only; omega)]
      dsimp only
      rw [show a + l + (p.2 - l) = p.1 + p.2 from by omega]; exact k6
    · rw [if_neg hlp, List.nil_append]; exact rising_less k6 (by omega)
  have hris : rising first n (P1 ++ ((t, l) :: (rest a l p ++ P2))) = true := by
    refine rising_app.2 ⟨k1, ?_⟩
    have := lastEnd_le (a := first) (t := t) (by omega) hP1
    rw [rising, if_neg (by dsimp only; omega)]
    exact hrest
  refine ⟨P1, P2, hps, ?_, hris, hP1, hP2⟩
  unfold movedL
  rw [hpre]
  exact srt_id (rising_sorted hris)
theorem mem_rest {a l : Int} {p q : Int × Int} (h : q ∈ rest a l p) : l < p.2 ∧ q = (a + l, p.2 - l) := by
  unfold rest at h
  by_cases hc : l < p.2
  · rw [if_pos hc] at h; exact ⟨hc, by simpa using h⟩
  · rw [if_neg hc] at h; cases h
/-- behind the move all may be. -/
theorem moved_check {first n f a t l : Int} {ps qs : RunL} {r p : Int × Int} (hck : checkB first n ps qs = true) (h : Mv first n ps qs f a t l r p) : checkB first n (movedL a t l ps) qs = true := by
  obtain ⟨P1, P2, hps, hm, hris, _, _⟩ := moved_form hck h
  obtain ⟨c1, c2, c3, c4, c5, c6⟩ := check_parts hck
  have hpa := h.pa
  have hl1 := h.l1
  have hlen := h.len
  have hta := h.ta
  have hhi := h.hi
  have hlo := h.lo
  have hpin := regions_apart c5 r h.reg
  rw [hm]
  unfold checkB
  rw [hris, c5, decide_eq_true c1, decide_eq_true c2, decide_eq_true c3]
  simp only [Bool.and_self, Bool.true_and]
  refine List.all_eq_true.2 fun x hx => List.all_eq_true.2 fun q hq => apart_iff.2 ?_
  have hqr := hpin q hq
  have hold : ∀ y ∈ ps, y.1 + y.2 ≤ q.1 ∨ q.1 + q.2 ≤ y.1 := fun y hy => all_apart c6 hy hq
  rcases List.mem_append.1 hx with hx | hx
  · exact hold x (by rw [hps]; simp [hx])
  · rcases List.mem_cons.1 hx with rfl | hx
    · dsimp only; omega
    · rcases List.mem_append.1 hx with hx | hx
      · obtain ⟨h1, rfl⟩ := mem_rest hx
        dsimp only; omega
      · exact hold x (by rw [hps]; simp [hx])
def sumL : RunL → Int
  | [] => 0
  | p :: l => p.2 + sumL l
theorem sumL_append {P Q : RunL} : sumL (P ++ Q) = sumL P + sumL Q := by
  induction P with
  | nil => simp [sumL]
  | cons p l ih => simp only [List.cons_append, sumL, ih]; omega
theorem moved_sum {first n f a t l : Int} {ps qs : RunL} {r p : Int × Int} (hck : checkB first n ps qs = true) (h : Mv first n ps qs f a t l r p) : sumL (movedL a t l ps) = sumL ps := by
  obtain ⟨P1, P2, hps, hm, _, _, _⟩ := moved_form hck h
  have hlen := h.len
  rw [hm, hps]
  simp only [sumL_append, sumL]
  unfold rest
  by_cases hc : l < p.2
  · rw [if_pos hc]; simp only [sumL]; omega
  · rw [if_neg hc]; simp only [sumL]; omega
theorem moved_U {first n f a t l : Int} {ps qs : RunL} {r p : Int × Int} (hck : checkB first n ps qs = true) (h : Mv first n ps qs f a t l r p) (b : Int) :
    U (movedL a t l ps) b ↔ (U ps b ∧ ¬ (a ≤ b ∧ b < a + l)) ∨ (t ≤ b ∧ b < t + l) := by
  obtain ⟨P1, P2, hps, hm, _, h1, h2⟩ := moved_form hck h
  have hlen := h.len
  have hpa := h.pa
  have hta := h.ta
  have u1 : U P1 b → b < t := by rintro ⟨q, hq, k1, k2⟩; have := h1 q hq; omega
  have u2 : U P2 b → p.1 + p.2 ≤ b := by rintro ⟨q, hq, k1, k2⟩; have := h2 q hq; omega
  have ur : U (rest a l p) b ↔ a + l ≤ b ∧ b < a + p.2 := by
    constructor
    · rintro ⟨q, hq, k1, k2⟩
      obtain ⟨k3, rfl⟩ := mem_rest hq
      dsimp only at k1 k2; omega
    · intro hb
      refine ⟨(a + l, p.2 - l), ?_, by dsimp only; omega, by dsimp only; omega⟩
      unfold rest; rw [if_pos (by omega)]; simp
  rw [hm, hps, U_append, U_append, U_cons, U_cons, U_append, ur]
  dsimp only
  constructor
  · rintro (h | h | h | h)
    · exact .inl ⟨.inl h, by have := u1 h; omega⟩
    · exact .inr (by omega)
    · exact .inl ⟨.inr (.inl (by omega)), by omega⟩
    · exact .inl ⟨.inr (.inr h), by have := u2 h; omega⟩
  · rintro (⟨h | h | h, hn⟩ | h)
    · exact .inl h
    · exact .inr (.inr (.inl (by omega)))
    · exact .inr (.inr (.inr h))
    · exact .inr (.inl (by omega))
end Go.Proofs.Ytkifpnhijdcjlaa
