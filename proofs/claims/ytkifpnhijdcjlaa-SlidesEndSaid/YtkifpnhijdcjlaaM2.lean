/- Plain facts on regions. -/
import Derived.Test.YtkifpnhijdcjlaaW9
namespace Go.Proofs.Ytkifpnhijdcjlaa
open Go.RowKit

theorem regions_mem {a n : Int} {qs : RunL} (h : rising a n qs = true) (han : a ≤ n) : ∀ r ∈ regionsL a n qs, a ≤ r.1 ∧ 1 ≤ r.2 ∧ r.1 + r.2 ≤ n := by
  induction qs generalizing a with
  | nil =>
    intro r hr
    unfold regionsL at hr
    split at hr
    · simp at hr; subst hr; dsimp only; omega
    · cases hr
  | cons p l ih =>
    obtain ⟨h1, h2, h3, h4⟩ := rising_cons h
    intro r hr
    unfold regionsL at hr
    rcases List.mem_append.1 hr with hr | hr
    · split at hr
      · simp at hr; subst hr; dsimp only; omega
      · cases hr
    · have := ih h4 h3 r hr; omega
theorem regions_len {a n : Int} {qs : RunL} : (regionsL a n qs).length ≤ qs.length + 1 := by
  induction qs generalizing a with
  | nil => unfold regionsL; split <;> simp
  | cons p l ih => unfold regionsL; have := ih (a := p.1 + p.2); rw [List.length_append]; split <;> simp <;> omega
theorem regions_small {a n : Int} {qs : RunL} (h : rising a n qs = true) (ha : 0 ≤ a) (han : a ≤ n) (hn : n ≤ 4096) : Small (regionsL a n qs) := fun k x hx => by
  have := regions_mem h han x (List.mem_of_getElem? hx); omega
theorem check_parts {first n : Int} {ps qs : RunL} (h : checkB first n ps qs = true) : 0 ≤ first ∧ first ≤ n ∧ n ≤ 4096 ∧ rising first n ps = true ∧ rising first n qs = true ∧ ps.all (clears qs) = true := by
  unfold checkB at h
  simp only [Bool.and_eq_true, decide_eq_true_eq] at h
  obtain ⟨⟨⟨⟨⟨h1, h2⟩, h3⟩, h4⟩, h5⟩, h6⟩ := h
  exact ⟨h1, h2, h3, h4, h5, h6⟩

def nextB (first n : Int) (ps qs : RunL) (f : Int) : MoveO := if checkB first n ps qs = true then findL ps f (regionsL first n qs) else none
/-- a step: the move, the cursor, done. -/
def stepL (ps : RunL) (f first : Int) (rs : RunL) : MoveO × Int × Bool :=
  match findL ps f rs with
  | some m => (some m, m.2.1 + m.2.2, false)
  | none => match findL ps first rs with
    | some m => (some m, m.2.1 + m.2.2, false)
    | none => (none, first, true)
def stepB (first n : Int) (ps qs : RunL) (f : Int) : MoveO × Int × Bool := if checkB first n ps qs = true then stepL ps f first (regionsL first n qs) else (none, 0, false)
theorem stepL_one {ps : RunL} {f first : Int} {rs : RunL} {m : Int × Int × Int} (h : findL ps f rs = some m) : stepL ps f first rs = (some m, m.2.1 + m.2.2, false) := by unfold stepL; rw [h]
theorem stepL_two {ps : RunL} {f first : Int} {rs : RunL} {m : Int × Int × Int} (h : findL ps f rs = none) (h2 : findL ps first rs = some m) : stepL ps f first rs = (some m, m.2.1 + m.2.2, false) := by unfold stepL; rw [h, h2]
theorem stepL_none {ps : RunL} {f first : Int} {rs : RunL} (h : findL ps f rs = none) (h2 : findL ps first rs = none) : stepL ps f first rs = (none, first, true) := by unfold stepL; rw [h, h2]
theorem nextIn_some {a : Int} {l : RunL} {m : Int × Int × Int} (hs : Small l) (ha : 0 ≤ a) (h : nextIn a l = some m) : 0 ≤ m.2.1 ∧ m.2.1 < m.1 ∧ 1 ≤ m.2.2 ∧ m.2.2 ≤ 8 ∧ m.1 + m.2.2 ≤ 4096 ∧ m.2.1 + m.2.2 ≤ m.1 := by
  induction l generalizing a with
  | nil => cases h
  | cons p l ih =>
    have hp := hs 0 p rfl
    unfold nextIn at h
    split at h
    · injection h with h; subst h; dsimp only; omega
    · exact ih (fun k x hx => hs (k + 1) x (by simpa using hx)) (by omega) h
theorem findL_some {ps : RunL} {f : Int} {rs : RunL} {m : Int × Int × Int} (hs : Small ps) (hr : Small rs) (h : findL ps f rs = some m) : 0 ≤ m.2.1 ∧ m.2.1 < m.1 ∧ 1 ≤ m.2.2 ∧ m.2.2 ≤ 8 ∧ m.1 + m.2.2 ≤ 4096 ∧ m.2.1 + m.2.2 ≤ m.1 := by
  induction rs with
  | nil => cases h
  | cons r l ih =>
    have hr0 := hr 0 r rfl
    have hr' : Small l := fun k x hx => hr (k + 1) x (by simpa using hx)
    unfold findL at h
    split at h
    · exact ih hr' h
    · split at h
      · rename_i m' hm
        injection h with h; subst h
        exact nextIn_some (within_small hs) (by omega) hm
      · exact ih hr' h
end Go.Proofs.Ytkifpnhijdcjlaa
