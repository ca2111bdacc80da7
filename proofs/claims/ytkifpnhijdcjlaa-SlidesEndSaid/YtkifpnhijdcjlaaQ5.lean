/- Plain facts: steps come to an end; what has been moved. -/
import Derived.Test.YtkifpnhijdcjlaaQ3
namespace Go.Proofs.Ytkifpnhijdcjlaa
open Go.RowKit

/-- blocks j to k, no pin among them, lie in one region. -/
theorem regions_cover {a n : Int} {qs : RunL} (h : rising a n qs = true) {j k : Int} (h1 : a ≤ j) (h2 : j ≤ k) (h3 : k < n) (hp : ∀ q ∈ qs, ∀ b, j ≤ b → b ≤ k → ¬ (q.1 ≤ b ∧ b < q.1 + q.2)) :
    ∃ s ∈ regionsL a n qs, s.1 ≤ j ∧ k < s.1 + s.2 := by
  induction qs generalizing a with
  | nil =>
    refine ⟨(a, n - a), ?_, h1, by dsimp only; omega⟩
    unfold regionsL; rw [if_pos (by omega)]; simp
  | cons q l ih =>
    obtain ⟨k1, k2, k3, k4⟩ := rising_cons h
    unfold regionsL
    rcases Int.lt_or_le k q.1 with hk | hk
    · refine ⟨(a, q.1 - a), ?_, h1, by dsimp only; omega⟩
      rw [if_pos (by omega)]; simp
    · rcases Int.lt_or_le j (q.1 + q.2) with hj | hj
      · exact absurd ⟨by omega, by omega⟩ (hp q List.mem_cons_self (max j q.1) (by omega) (by omega))
      · obtain ⟨s, hs, h⟩ := ih k4 hj (fun q' hq' => hp q' (List.mem_cons_of_mem _ hq'))
        exact ⟨s, List.mem_append_right _ hs, h⟩

/-- the tags after c blocks of a move. -/
def shiftT (T : Nat → Int) (a t c : Nat) : Nat → Int := fun j => if t ≤ j ∧ j < t + c then T (j - t + a) else if a ≤ j ∧ j < a + c then 0 else T j
theorem shift_zero (T : Nat → Int) (a t : Nat) : shiftT T a t 0 = T := by
  funext j; unfold shiftT; rw [if_neg (by omega), if_neg (by omega)]
theorem shift_to {T : Nat → Int} {a t c l : Nat} (h : t + l ≤ a) (hc : c < l) : shiftT T a t c (t + c) = T (t + c) := by
  unfold shiftT; rw [if_neg (by omega), if_neg (by omega)]
theorem shift_from {T : Nat → Int} {a t c l : Nat} (h : t + l ≤ a) (hc : c < l) : shiftT T a t c (a + c) = T (a + c) := by
  unfold shiftT; rw [if_neg (by omega), if_neg (by omega)]
theorem shift_step {T : Nat → Int} {a t c l : Nat} (h : t + l ≤ a) (hc : c < l) (j : Nat) : (if j = a + c then 0 else (if j = t + c then T (a + c) else shiftT T a t c j)) = shiftT T a t (c + 1) j := by
  unfold shiftT
  by_cases h1 : j = a + c
  · rw [if_pos h1, if_neg (by omega), if_pos (by omega)]
  · rw [if_neg h1]
    by_cases h2 : j = t + c
    · rw [if_pos h2, if_pos (by omega)]; congr 1; omega
    · rw [if_neg h2]
      by_cases h3 : t ≤ j ∧ j < t + c
      · rw [if_pos h3, if_pos (by omega)]
      · have n3 : ¬ (t ≤ j ∧ j < t + (c + 1)) := by omega
        rw [if_neg h3, if_neg n3]
        by_cases h4 : a ≤ j ∧ j < a + c
        · rw [if_pos h4, if_pos (by omega)]
        · rw [if_neg h4, if_neg (by omega)]

/-- each used block has its tag, in their order. -/
structure Tags (n : Nat) (ps : RunL) (T : Nat → Int) : Prop where
  used : ∀ j : Nat, j < n → (T j ≠ 0 ↔ U ps j)
  up : ∀ i j : Nat, i < j → j < n → T i ≠ 0 → T j ≠ 0 → T i < T j
  pos : ∀ j : Nat, j < n → 0 ≤ T j
theorem Tags.init {first : Int} {n : Nat} {ps qs : RunL} (hck : checkB first n ps qs = true) {T : Nat → Int} (hT : ∀ j, j < n → T j = if 0 < marksF ps qs j then (j : Int) + 1 else 0) : Tags n ps T := by
  obtain ⟨c1, c2, c3, c4, c5, c6⟩ := check_parts hck
  have key : ∀ j : Nat, 0 < marksF ps qs j ↔ U ps j := fun j => by
    rcases marksF_cases c4 c6 j with ⟨⟨q, hq, hat⟩, h0⟩ | ⟨i, p, hi, hat, h0⟩ | ⟨h1, h2, h0⟩
    · rw [h0]
      constructor
      · intro h; omega
      · rintro ⟨p, hp, k1, k2⟩
        have := all_apart c6 hp hq
        unfold At at hat; omega
    · rw [h0]
      exact ⟨fun _ => ⟨p, List.mem_of_getElem? hi, hat.1, hat.2⟩, fun _ => by omega⟩
    · rw [h0]
      exact ⟨fun h => by omega, fun ⟨p, hp, k1, k2⟩ => absurd ⟨k1, k2⟩ (h1 p hp)⟩
  refine ⟨fun j hj => ?_, fun i j hij hj hi hj' => ?_, fun j hj => ?_⟩
  · rw [hT j hj, ← key j]
    by_cases h : 0 < marksF ps qs j
    · rw [if_pos h]; exact ⟨fun _ => h, fun _ => by omega⟩
    · rw [if_neg h]; exact ⟨fun k => absurd rfl k, fun k => absurd k h⟩
  · rw [hT i (by omega)] at hi ⊢
    rw [hT j hj] at hj' ⊢
    split at hi
    · split at hj'
      · rename_i h1 h2; rw [if_pos h1, if_pos h2]; omega
      · exact absurd rfl hj'
    · exact absurd rfl hi
  · rw [hT j hj]; split <;> omega
theorem Tags.move {first f : Int} {n a t l : Nat} {ps qs : RunL} {r p : Int × Int} {T : Nat → Int} (hck : checkB first n ps qs = true) (h : Mv first n ps qs f a t l r p) (hT : Tags n ps T) : Tags n (movedL a t l ps) (shiftT T a t l) := by
  have h1 := h.len
  have h2 := h.hi
  have h3 := h.top
  have h4 := h.ta
  have h5 := h.l1
  have h6 := h.pa
  have hUa : ∀ b : Int, (a : Int) ≤ b → b < a + l → U ps b := fun b k1 k2 => ⟨p, h.pm, by omega, by omega⟩
  have key : ∀ j : Nat, j < n → (shiftT T a t l j ≠ 0 ↔ U (movedL a t l ps) j) := fun j hj => by
    rw [moved_U hck h]
    unfold shiftT
    by_cases c1 : t ≤ j ∧ j < t + l
    · rw [if_pos c1]
      refine ⟨fun _ => .inr (by omega), fun _ => (hT.used (j - t + a) (by omega)).2 (hUa _ (by omega) (by omega))⟩
    · rw [if_neg c1]
      by_cases c2 : a ≤ j ∧ j < a + l
      · rw [if_pos c2]
        exact ⟨fun k => absurd rfl k, fun k => by rcases k with ⟨_, k⟩ | k <;> omega⟩
      · rw [if_neg c2, hT.used j hj]
        exact ⟨fun k => .inl ⟨k, by omega⟩, fun k => by rcases k with ⟨k, _⟩ | k; { exact k }; { omega }⟩
  -- the source of each block
  have src : ∀ j : Nat, j < n → shiftT T a t l j ≠ 0 → ∃ s : Nat, s < n ∧ shiftT T a t l j = T s ∧ T s ≠ 0 ∧ (t ≤ j ∧ j < t + l ∧ s = j - t + a ∨ s = j ∧ (j < t ∨ a + l ≤ j)) := fun j hj hne => by
    have hu := (key j hj).1 hne
    rw [moved_U hck h] at hu
    by_cases c1 : t ≤ j ∧ j < t + l
    · have e : shiftT T a t l j = T (j - t + a) := by unfold shiftT; rw [if_pos c1]
      exact ⟨j - t + a, by omega, e, by rw [← e]; exact hne, .inl ⟨c1.1, c1.2, rfl⟩⟩
    · have c2 : ¬ (a ≤ j ∧ j < a + l) := fun c => by rcases hu with ⟨_, k⟩ | k <;> omega
      have e : shiftT T a t l j = T j := by unfold shiftT; rw [if_neg c1, if_neg c2]
      refine ⟨j, hj, e, by rw [← e]; exact hne, .inr ⟨rfl, ?_⟩⟩
      apply Decidable.byContradiction; intro hc
      rcases hu with ⟨k, _⟩ | k
      · exact h.free j (by omega) (by omega) k
      · omega
  refine ⟨key, fun i j hij hj hi hj' => ?_, fun j hj => ?_⟩
  · obtain ⟨s1, k1, e1, n1, o1⟩ := src i (by omega) hi
    obtain ⟨s2, k2, e2, n2, o2⟩ := src j hj hj'
    rw [e1, e2]
    exact hT.up s1 s2 (by omega) k2 n1 n2
  · unfold shiftT
    split
    · exact hT.pos _ (by omega)
    · split
      · omega
      · exact hT.pos j hj

/-- ahead of a place nothing used lies behind a hole. -/
def Packed (first n : Int) (qs ps : RunL) (c : Int) : Prop := ∀ s ∈ regionsL first n qs, ∀ b b' : Int, s.1 ≤ b → b < c → b < b' → b' < s.1 + s.2 → U ps b' → U ps b
theorem packed_move {first n f a t l : Int} {ps qs : RunL} {r p : Int × Int} (hck : checkB first n ps qs = true) (h : Mv first n ps qs f a t l r p) (hp : Packed first n qs ps f) : Packed first n qs (movedL a t l ps) (t + l) := by
  obtain ⟨c1, c2, c3, c4, c5, c6⟩ := check_parts hck
  have h1 := h.len
  have h2 := h.hi
  have h3 := h.top
  have h4 := h.ta
  have h5 := h.l1
  have h6 := h.pa
  have h7 := h.lo
  have h8 := h.fr
  have hris := regions_rising c5 c2
  have hUa : U ps a := ⟨p, h.pm, by omega, by omega⟩
  intro s hs b b' k1 k2 k3 k4 hu
  have hsm := regions_mem c5 c2 s hs
  rw [moved_U hck h] at hu ⊢
  -- block b of ps is used, or it is filled
  by_cases hb : t ≤ b
  · exact .inr (by omega)
  · refine .inl ⟨?_, by omega⟩
    rcases Int.lt_trichotomy s.1 r.1 with hsr | hsr | hsr
    · -- a region ahead
      have hend : s.1 + s.2 ≤ r.1 := by
        apply Decidable.byContradiction; intro hc
        have := regions_same hris hs h.reg (b := r.1) (by omega) (by omega) (by omega) (by omega)
        rw [this] at hsr; omega
      have hu' : U ps b' := by rcases hu with ⟨k, _⟩ | k; { exact k }; { omega }
      rcases Int.lt_or_le b f with hbf | hbf
      · exact hp s hs b b' k1 hbf k3 k4 hu'
      · exact h.ahead s hs hsr b b' k1 hbf k3 k4 hu'
    · rcases Int.lt_or_le b f with hbf | hbf
      · have hsr' : s = r := regions_same hris hs h.reg (b := r.1) (by omega) (by omega) (by omega) (by omega)
        rw [hsr'] at k1
        exact hp r h.reg b a k1 hbf (by omega) (by omega) hUa
      · exact h.full b (by omega) hbf (by omega)
    · -- a region behind
      have hend : r.1 + r.2 ≤ s.1 := by
        apply Decidable.byContradiction; intro hc
        have := regions_same hris hs h.reg (b := s.1) (by omega) (by omega) (by omega) (by omega)
        rw [this] at hsr; omega
      omega
theorem packed_first {first n : Int} {ps qs : RunL} (hck : checkB first n ps qs = true) : Packed first n qs ps first := by
  obtain ⟨c1, c2, c3, c4, c5, c6⟩ := check_parts hck
  intro s hs b b' k1 k2
  have := regions_mem c5 c2 s hs
  omega
/-- how far the steps have come. -/
def Run (first n : Int) (qs ps : RunL) (i : Nat) (c : Int) : Prop := (i = 0 ∨ (i : Int) ≤ c ∧ c ≤ n) ∨ Packed first n qs ps c ∧ (i : Int) ≤ n + c ∧ c ≤ n
theorem run_bound {first n : Int} {qs ps : RunL} {i : Nat} {c : Int} (h0 : 0 ≤ n) (h : Run first n qs ps i c) : (i : Int) < 2 * n + 2 := by
  rcases h with (h | h) | h <;> omega
theorem run_one {first n f a t l : Int} {ps qs : RunL} {r p : Int × Int} {i : Nat} (hck : checkB first n ps qs = true) (h : Mv first n ps qs f a t l r p) (hr : Run first n qs ps i f) : Run first n qs (movedL a t l ps) (i + 1) (t + l) := by
  obtain ⟨c1, c2, c3, c4, c5, c6⟩ := check_parts hck
  have h1 := h.len
  have h2 := h.hi
  have h3 := h.top
  have h4 := h.ta
  have h5 := h.l1
  have h7 := h.lo
  have h8 := h.fr
  have h9 := h.low
  rcases hr with hr | ⟨hp, k1, k2⟩
  · exact .inl (.inr (by omega))
  · exact .inr ⟨packed_move hck h hp, by omega, by omega⟩
theorem run_two {first n f a t l : Int} {ps qs : RunL} {r p : Int × Int} {i : Nat} (hck : checkB first n ps qs = true) (hn : nextB first n ps qs f = none) (h : Mv first n ps qs first a t l r p) (hr : Run first n qs ps i f) : Run first n qs (movedL a t l ps) (i + 1) (t + l) := by
  obtain ⟨c1, c2, c3, c4, c5, c6⟩ := check_parts hck
  have h1 := h.len
  have h2 := h.hi
  have h3 := h.top
  have h4 := h.ta
  have h5 := h.l1
  have h6 := h.pa
  have h7 := h.lo
  have h9 := h.low
  rcases hr with hr | ⟨hp, k1, k2⟩
  · exact .inr ⟨packed_move hck h (packed_first hck), by omega, by omega⟩
  · exfalso
    have hUa : U ps a := ⟨p, h.pm, by omega, by omega⟩
    refine h.free t (Int.le_refl _) h4 ?_
    rcases Int.lt_or_le t f with htf | htf
    · exact hp r h.reg t a h7 htf h4 (by omega) hUa
    · exact nextB_no hck hn r h.reg t a h7 htf h4 (by omega) hUa
/-- when all is done: behind a hole of a region nothing is used. -/
theorem done_packed {first n : Int} {ps qs : RunL} (hck : checkB first n ps qs = true) (hn : nextB first n ps qs first = none) {j k : Int} (h1 : first ≤ j) (h2 : j < k) (h3 : k < n) (hp : ∀ q ∈ qs, ∀ b, j ≤ b → b ≤ k → ¬ (q.1 ≤ b ∧ b < q.1 + q.2)) (hu : U ps k) : U ps j := by
  obtain ⟨c1, c2, c3, c4, c5, c6⟩ := check_parts hck
  obtain ⟨s, hs, k1, k2⟩ := regions_cover c5 h1 (by omega) h3 hp
  exact nextB_no hck hn s hs j k k1 h1 h2 k2 hu
end Go.Proofs.Ytkifpnhijdcjlaa
