/- The stable sort by start, plain. -/
import Derived.Test.YtkifpnhijdcjlaaS1
namespace Go.Proofs.Ytkifpnhijdcjlaa

def Up (xs : RunL) : Prop := xs.Pairwise (fun x y => x.1 ≤ y.1)
def same (k : Int) (xs : RunL) : RunL := xs.filter (fun x => x.1 == k)
theorem same_append (k : Int) (xs ys : RunL) : same k (xs ++ ys) = same k xs ++ same k ys := List.filter_append ..
theorem same_cons (k : Int) (x : Int × Int) (xs : RunL) : same k (x :: xs) = if x.1 == k then x :: same k xs else same k xs := List.filter_cons ..
theorem same_none {k : Int} {xs : RunL} (h : ∀ x ∈ xs, x.1 ≠ k) : same k xs = [] := by
  unfold same; rw [List.filter_eq_nil_iff]; intro x hx; simpa using h x hx
theorem mem_same {k : Int} {xs : RunL} {x : Int × Int} : x ∈ same k xs ↔ x ∈ xs ∧ x.1 = k := by unfold same; rw [List.mem_filter]; simp

theorem up_cons {x : Int × Int} {xs : RunL} : Up (x :: xs) ↔ (∀ y ∈ xs, x.1 ≤ y.1) ∧ Up xs := List.pairwise_cons
theorem up_append {xs ys : RunL} : Up (xs ++ ys) ↔ Up xs ∧ Up ys ∧ ∀ x ∈ xs, ∀ y ∈ ys, x.1 ≤ y.1 := List.pairwise_append

/-- sorted, and of each key what there was, in its order: there is one such row. -/
theorem up_unique : ∀ {xs ys : RunL}, Up xs → Up ys → (∀ k, same k xs = same k ys) → xs = ys := by
  intro xs
  induction xs with
  | nil =>
    intro ys _ _ h
    cases ys with
    | nil => rfl
    | cons y ys => have := h y.1; rw [same_cons] at this; simp [same] at this
  | cons x xs ih =>
    intro ys hx hy h
    cases ys with
    | nil => have := h x.1; rw [same_cons] at this; simp [same] at this
    | cons y ys =>
      obtain ⟨hx1, hx2⟩ := up_cons.1 hx
      obtain ⟨hy1, hy2⟩ := up_cons.1 hy
      have hk : x.1 = y.1 := by
        have h1 : x ∈ same x.1 (y :: ys) := by rw [← h]; exact mem_same.2 ⟨List.mem_cons_self, rfl⟩
        have h2 : y ∈ same y.1 (x :: xs) := by rw [h]; exact mem_same.2 ⟨List.mem_cons_self, rfl⟩
        have a1 : y.1 ≤ x.1 := by
          rcases List.mem_cons.1 (mem_same.1 h1).1 with e | e
          · rw [e]; exact Int.le_refl _
          · exact hy1 _ e
        have a2 : x.1 ≤ y.1 := by
          rcases List.mem_cons.1 (mem_same.1 h2).1 with e | e
          · rw [e]; exact Int.le_refl _
          · exact hx1 _ e
        omega
      have he : x = y := by
        have := h x.1
        rw [same_cons, same_cons, if_pos (by simp), if_pos (by simp [hk])] at this
        injection this
      subst he
      rw [ih hx2 hy2 (fun k => ?_)]
      have := h k
      rw [same_cons, same_cons] at this
      split at this
      · injection this
      · exact this

/-- a run is laid in behind those that begin there. -/
def ins (r : Int × Int) : RunL → RunL
  | [] => [r]
  | x :: l => if x.1 ≤ r.1 then x :: ins r l else r :: x :: l
def srt (xs : RunL) : RunL := xs.foldl (fun l r => ins r l) []
theorem ins_mem {r x : Int × Int} {l : RunL} : x ∈ ins r l ↔ x = r ∨ x ∈ l := by
  induction l with
  | nil => simp [ins]
  | cons y l ih =>
    unfold ins
    split
    · rw [List.mem_cons, ih, List.mem_cons]; constructor
      · rintro (h | h | h) <;> simp [h]
      · rintro (h | h | h) <;> simp [h]
    · simp
theorem ins_up {r : Int × Int} {l : RunL} (h : Up l) : Up (ins r l) := by
  induction l with
  | nil => simp [ins, Up]
  | cons y l ih =>
    obtain ⟨h1, h2⟩ := up_cons.1 h
    unfold ins
    split
    · refine up_cons.2 ⟨fun z hz => ?_, ih h2⟩
      rcases ins_mem.1 hz with rfl | hz
      · assumption
      · exact h1 z hz
    · refine up_cons.2 ⟨fun z hz => ?_, h⟩
      rcases List.mem_cons.1 hz with rfl | hz
      · omega
      · have := h1 z hz; omega
theorem ins_same {k : Int} {r : Int × Int} {l : RunL} (h : Up l) : same k (ins r l) = same k (l ++ [r]) := by
  induction l with
  | nil => rfl
  | cons y l ih =>
    obtain ⟨h1, h2⟩ := up_cons.1 h
    unfold ins
    split
    · rw [List.cons_append, same_cons, same_cons, ih h2]
    · rename_i hlt
      rw [same_append]
      by_cases hk : r.1 = k
      · have e1 : same k (y :: l) = [] := same_none (fun x hx => by
          rcases List.mem_cons.1 hx with rfl | hx
          · omega
          · have := h1 x hx; omega)
        rw [same_cons, e1, same_cons, same_none (xs := []) (fun _ h => by cases h)]; simp
      · rw [same_cons, if_neg (by simpa using hk), same_cons (xs := []), if_neg (by simpa using hk), same_none (xs := []) (fun _ h => by cases h), List.append_nil]
theorem srt_fold {xs l : RunL} (h : Up l) : Up (xs.foldl (fun l r => ins r l) l) ∧ ∀ k, same k (xs.foldl (fun l r => ins r l) l) = same k (l ++ xs) := by
  induction xs generalizing l with
  | nil => exact ⟨h, fun k => by simp⟩
  | cons x xs ih =>
    obtain ⟨h1, h2⟩ := ih (ins_up (r := x) h)
    refine ⟨h1, fun k => ?_⟩
    rw [List.foldl_cons, h2, same_append, ins_same h, same_append, same_append, ← List.singleton_append (l := xs), same_append, List.append_assoc]
theorem srt_up (xs : RunL) : Up (srt xs) := (srt_fold (l := []) List.Pairwise.nil).1
theorem srt_same (k : Int) (xs : RunL) : same k (srt xs) = same k xs := (srt_fold (l := []) List.Pairwise.nil).2 k
theorem srt_eq {xs ys : RunL} (h : Up ys) (hs : ∀ k, same k ys = same k xs) : srt xs = ys := up_unique (srt_up xs) h (fun k => by rw [srt_same, hs])
theorem srt_id {xs : RunL} (h : Up xs) : srt xs = xs := srt_eq h (fun _ => rfl)
theorem mem_srt {x : Int × Int} {xs : RunL} : x ∈ srt xs ↔ x ∈ xs := by
  have h1 : x ∈ srt xs ↔ x ∈ same x.1 (srt xs) := by rw [mem_same]; simp
  rw [h1, srt_same, mem_same]; simp
theorem srt_len (xs : RunL) : (srt xs).length = xs.length := by
  have key : ∀ (xs l : RunL), (xs.foldl (fun l r => ins r l) l).length = l.length + xs.length := by
    intro xs
    induction xs with
    | nil => intro l; simp
    | cons x xs ih =>
      intro l
      rw [List.foldl_cons, ih]
      have hi : ∀ (l : RunL), (ins x l).length = l.length + 1 := by
        intro l
        induction l with
        | nil => rfl
        | cons y l ih2 => unfold ins; split <;> simp [ih2]
      rw [hi, List.length_cons]; omega
  have := key xs []
  simpa [srt] using this
/-- the sort of two rows, each sorted, that are parted so that what lies ahead belongs ahead. -/
theorem srt_split {L1 L2 R1 R2 : RunL} (hL : Up (L1 ++ L2)) (hR : Up (R1 ++ R2)) (h1 : ∀ x ∈ L1, ∀ y ∈ R2, x.1 ≤ y.1) (h2 : ∀ y ∈ R1, ∀ x ∈ L2, y.1 < x.1) :
    srt ((L1 ++ L2) ++ (R1 ++ R2)) = srt (L1 ++ R1) ++ srt (L2 ++ R2) := by
  obtain ⟨l1, l2, l3⟩ := up_append.1 hL
  obtain ⟨r1, r2, r3⟩ := up_append.1 hR
  apply srt_eq
  · refine up_append.2 ⟨srt_up _, srt_up _, fun x hx y hy => ?_⟩
    rw [mem_srt, List.mem_append] at hx hy
    rcases hx with hx | hx <;> rcases hy with hy | hy
    · exact l3 x hx y hy
    · exact h1 x hx y hy
    · exact Int.le_of_lt (h2 x hx y hy)
    · exact r3 x hx y hy
  · intro k
    simp only [same_append, srt_same]
    have hc : same k L2 = [] ∨ same k R1 = [] := by
      by_cases ha : same k L2 = []
      · exact .inl ha
      · right
        obtain ⟨x, hx⟩ := List.exists_mem_of_ne_nil _ ha
        obtain ⟨hx1, hx2⟩ := mem_same.1 hx
        exact same_none (fun y hy e => by have := h2 y hy x hx1; omega)
    rcases hc with hc | hc <;> simp [hc]
theorem up_sub {xs : RunL} (h : Up xs) {i j : Nat} {x y : Int × Int} (hij : i ≤ j) (hx : xs[i]? = some x) (hy : xs[j]? = some y) : x.1 ≤ y.1 := by
  rcases Nat.lt_or_eq_of_le hij with hlt | rfl
  · obtain ⟨hi, rfl⟩ := List.getElem?_eq_some_iff.1 hx
    obtain ⟨hj, rfl⟩ := List.getElem?_eq_some_iff.1 hy
    exact List.pairwise_iff_getElem.1 h i j hi hj hlt
  · rw [hx] at hy; injection hy with hy; subst hy; exact Int.le_refl _
end Go.Proofs.Ytkifpnhijdcjlaa
