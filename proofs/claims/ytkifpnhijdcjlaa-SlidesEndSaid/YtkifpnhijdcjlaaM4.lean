/- Plain facts for the merge. -/
import Derived.Test.YtkifpnhijdcjlaaM3
namespace Go.Proofs.Ytkifpnhijdcjlaa

theorem at0_get {xs : RunL} {i : Nat} (h : i < xs.length) : xs[i]? = some (at0 xs i) := by
  unfold at0; rw [List.getD_eq_getElem?_getD, List.getElem?_eq_getElem h]; rfl
theorem at0_append_left {A B : RunL} {i : Nat} (h : i < A.length) : at0 (A ++ B) i = at0 A i := by
  unfold at0; rw [List.getD_eq_getElem?_getD, List.getD_eq_getElem?_getD, List.getElem?_append_left h]
theorem at0_append_right {A B : RunL} {i j : Nat} (h : i = A.length + j) : at0 (A ++ B) i = at0 B j := by
  subst h; unfold at0; rw [List.getD_eq_getElem?_getD, List.getD_eq_getElem?_getD, List.getElem?_append_right (by omega), Nat.add_sub_cancel_left]
theorem mem_at0 {xs : RunL} {x : Int × Int} (h : x ∈ xs) : ∃ i, i < xs.length ∧ at0 xs i = x := by
  obtain ⟨i, hi, e⟩ := List.getElem_of_mem h
  refine ⟨i, hi, ?_⟩
  have := at0_get hi
  rw [List.getElem?_eq_getElem hi, e] at this
  injection this with this; exact this.symm
theorem up_at0 {xs : RunL} (h : Up xs) {i j : Nat} (hij : i ≤ j) (hj : j < xs.length) : (at0 xs i).1 ≤ (at0 xs j).1 := up_sub h hij (at0_get (by omega)) (at0_get hj)

/-- one run ahead of a sorted row. -/
theorem srt_one_left {x : Int × Int} {R1 R2 : RunL} (hR : Up (R1 ++ R2)) (h1 : ∀ y ∈ R1, y.1 < x.1) (h2 : ∀ y ∈ R2, x.1 ≤ y.1) : srt (x :: (R1 ++ R2)) = R1 ++ x :: R2 := by
  have := srt_split (L1 := []) (L2 := [x]) (R1 := R1) (R2 := R2) (by simp [Up]) hR (fun _ h => by cases h) (fun y hy z hz => by simp at hz; subst hz; exact h1 y hy)
  obtain ⟨r1, r2, _⟩ := up_append.1 hR
  simp only [List.nil_append] at this
  have e2 : srt ([x] ++ R2) = x :: R2 := srt_id (up_cons.2 ⟨h2, r2⟩)
  rw [srt_id r1, e2] at this
  exact this
theorem srt_one_right {y : Int × Int} {L1 L2 : RunL} (hL : Up (L1 ++ L2)) (h1 : ∀ x ∈ L1, x.1 ≤ y.1) (h2 : ∀ x ∈ L2, y.1 < x.1) : srt ((L1 ++ L2) ++ [y]) = L1 ++ y :: L2 := by
  have := srt_split (L1 := L1) (L2 := L2) (R1 := [y]) (R2 := []) hL (by simp [Up]) (fun _ _ _ h => by cases h) (fun z hz x hx => by simp at hz; subst hz; exact h2 x hx)
  obtain ⟨l1, l2, _⟩ := up_append.1 hL
  simp only [List.append_nil] at this
  have e1 : srt (L1 ++ [y]) = L1 ++ [y] := srt_id (up_append.2 ⟨l1, by simp [Up], fun x hx z hz => by simp at hz; subst hz; exact h1 x hx⟩)
  rw [srt_id l2, e1] at this
  rw [this]; simp
end Go.Proofs.Ytkifpnhijdcjlaa
