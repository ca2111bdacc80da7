/- Plain facts: a region, and those behind it, alone. -/
import Derived.Test.YtkifpnhijdcjlaaQ3
namespace Go.Proofs.Ytkifpnhijdcjlaa
open Go.RowKit

def fromL (x : Int) (xs : RunL) : RunL := xs.filter (fun p => decide (x ≤ p.1))
theorem fromL_step {x x1 x2 : Int} {ps : RunL} {k : Nat} (h : ps[k]? = some (x1, x2)) : fromL x (ps.take (k + 1)) = fromL x (ps.take k) ++ if x ≤ x1 then [(x1, x2)] else [] := by
  obtain ⟨hk, e⟩ := List.getElem?_eq_some_iff.1 h
  unfold fromL
  rw [List.take_succ_eq_append_getElem hk, List.filter_append, e]
  congr 1
  by_cases hb : x ≤ x1 <;> simp [hb]
theorem fromL_all {a n x : Int} {l : RunL} (h : rising a n l = true) (hx : x ≤ a) : fromL x l = l := by
  unfold fromL
  refine List.filter_eq_self.2 fun p hp => ?_
  obtain ⟨k, hk⟩ := List.getElem?_of_mem hp
  have := rising_get h hk
  exact decide_eq_true (by omega)
theorem rising_from {a n x : Int} {l : RunL} (h : rising a n l = true) : rising x n (fromL x l) = true := by
  induction l generalizing a with
  | nil => rfl
  | cons p l ih =>
    obtain ⟨h1, h2, h3, h4⟩ := rising_cons h
    by_cases hx : x ≤ p.1
    · have : fromL x (p :: l) = p :: l := by
        have h5 := fromL_all (x := x) h4 (by omega)
        unfold fromL at h5 ⊢
        rw [List.filter_cons, if_pos (decide_eq_true hx), h5]
      rw [this, rising, if_neg (by omega)]; exact h4
    · have : fromL x (p :: l) = fromL x l := by
        unfold fromL
        rw [List.filter_cons, if_neg (by rw [decide_eq_false hx]; simp)]
      rw [this]; exact ih h4
theorem parts_regions {a n : Int} {qs : RunL} {i : Nat} {r : Int × Int} (h : rising a n qs = true) (han : a ≤ n) (hr : (regionsL a n qs)[i]? = some r) : regionsL r.1 n (fromL r.1 qs) = (regionsL a n qs).drop i := by
  induction qs generalizing a i with
  | nil =>
    unfold regionsL at hr
    by_cases hc : n > a
    · rw [if_pos hc] at hr
      have hi : i = 0 := by have := (List.getElem?_eq_some_iff.1 hr).1; simp at this; exact this
      subst hi
      simp at hr; subst hr; rfl
    · rw [if_neg hc] at hr; simp at hr
  | cons q l ih =>
    obtain ⟨h1, h2, h3, h4⟩ := rising_cons h
    have hdrop : ∀ j, (regionsL (q.1 + q.2) n l)[j]? = some r → regionsL r.1 n (fromL r.1 (q :: l)) = (regionsL (q.1 + q.2) n l).drop j := fun j hj => by
      have hm := regions_mem h4 h3 r (List.mem_of_getElem? hj)
      have : fromL r.1 (q :: l) = fromL r.1 l := by
        unfold fromL
        rw [List.filter_cons, if_neg (by rw [decide_eq_false (by omega)]; simp)]
      rw [this]; exact ih h4 h3 hj
    by_cases hc : q.1 > a
    · have hreg : regionsL a n (q :: l) = (a, q.1 - a) :: regionsL (q.1 + q.2) n l := by unfold regionsL; rw [if_pos hc]; cases l <;> rfl
      cases i with
      | zero =>
        rw [hreg] at hr
        simp at hr; subst hr
        rw [List.drop_zero, fromL_all h (Int.le_refl _)]
      | succ i =>
        rw [hreg] at hr ⊢
        exact hdrop i (by simpa using hr)
    · have hreg : regionsL a n (q :: l) = regionsL (q.1 + q.2) n l := by
        conv => lhs; unfold regionsL
        rw [if_neg hc]; cases l <;> rfl
      rw [hreg] at hr ⊢
      exact hdrop i hr
theorem mem_fromL {x : Int} {ps : RunL} {p : Int × Int} (h : p ∈ fromL x ps) : p ∈ ps := (List.mem_filter.1 h).1
theorem mem_fromL_iff {x : Int} {ps : RunL} {p : Int × Int} : p ∈ fromL x ps ↔ p ∈ ps ∧ x ≤ p.1 := by unfold fromL; simp [List.mem_filter]
theorem parts_check {first n : Int} {ps qs : RunL} {r : Int × Int} (hck : checkB first n ps qs = true) (hr : r ∈ regionsL first n qs) : checkB r.1 n (fromL r.1 ps) (fromL r.1 qs) = true := by
  obtain ⟨c1, c2, c3, c4, c5, c6⟩ := check_parts hck
  have hm := regions_mem c5 c2 r hr
  unfold checkB
  rw [rising_from c4, rising_from c5, decide_eq_true (show 0 ≤ r.1 by omega), decide_eq_true (show r.1 ≤ n by omega), decide_eq_true c3]
  simp only [Bool.and_self, Bool.true_and]
  exact List.all_eq_true.2 fun p hp => List.all_eq_true.2 fun q hq => apart_iff.2 (all_apart c6 (mem_fromL hp) (mem_fromL hq))
theorem findL_skip {ps : RunL} {f : Int} {rs : RunL} {i : Nat} (h : ∀ s ∈ rs.take i, s.1 + s.2 ≤ f) : findL ps f rs = findL ps f (rs.drop i) := by
  induction rs generalizing i with
  | nil => simp
  | cons r l ih =>
    cases i with
    | zero => rfl
    | succ i =>
      rw [findL, if_pos (h r (by simp)), List.drop_succ_cons]
      exact ih fun s hs => h s (by simp [hs])
theorem findL_from {ps : RunL} {f x : Int} {rs : RunL} (h : ∀ s ∈ rs, x ≤ s.1) : findL (fromL x ps) f rs = findL ps f rs := by
  induction rs with
  | nil => rfl
  | cons r l ih =>
    have hw : ∀ t, withinL r.1 r.2 t (fromL x ps) = withinL r.1 r.2 t ps := fun t => by
      unfold withinL fromL
      rw [List.filter_filter]
      refine List.filter_congr fun p _ => ?_
      have := h r List.mem_cons_self
      by_cases hb : inB r.1 r.2 t p = true
      · have : r.1 ≤ p.1 := by unfold inB at hb; simp only [Bool.and_eq_true, decide_eq_true_eq] at hb; exact hb.1.1
        rw [hb, decide_eq_true (by omega)]; rfl
      · rw [Bool.not_eq_true] at hb
        rw [hb]; rfl
    have hn : nextL (fromL x ps) r.1 r.2 f = nextL ps r.1 r.2 f := by unfold nextL; rw [hw]
    rw [findL, findL, hn, ih fun s hs => h s (List.mem_cons_of_mem _ hs)]
theorem parts_next {first n : Int} {ps qs : RunL} {r : Int × Int} (hck : checkB first n ps qs = true) (hr : r ∈ regionsL first n qs) : nextB r.1 n (fromL r.1 ps) (fromL r.1 qs) r.1 = nextB first n ps qs r.1 := by
  obtain ⟨c1, c2, c3, c4, c5, c6⟩ := check_parts hck
  obtain ⟨i, hi⟩ := List.getElem?_of_mem hr
  have hris := regions_rising c5 c2
  have e1 : findL ps r.1 (regionsL first n qs) = findL ps r.1 ((regionsL first n qs).drop i) := by
    refine findL_skip fun s hs => ?_
    obtain ⟨j, hj⟩ := List.getElem?_of_mem hs
    have hji : j < i := by have := (List.getElem?_eq_some_iff.1 hj).1; simp at this; omega
    rw [List.getElem?_take] at hj
    rw [if_pos hji] at hj
    exact rising_lt hris hji hj hi
  have e2 : findL (fromL r.1 ps) r.1 ((regionsL first n qs).drop i) = findL ps r.1 ((regionsL first n qs).drop i) := by
    refine findL_from fun s hs => ?_
    obtain ⟨j, hj⟩ := List.getElem?_of_mem hs
    rw [List.getElem?_drop] at hj
    exact rising_mono hris _ _ _ _ hi hj (by omega)
  unfold nextB
  rw [if_pos (parts_check hck hr), if_pos hck, parts_regions c5 c2 hi, e2, e1]
end Go.Proofs.Ytkifpnhijdcjlaa
