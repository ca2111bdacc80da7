/- Plain facts: the reference's Regions, block by block. -/
import Derived.Test.YtkifpnhijdcjlaaI3
namespace Go.Proofs.Ytkifpnhijdcjlaa
open Go.RowKit

def bump (out : RunL) : RunL := match out.getLast? with
  | some x => out.dropLast ++ [(x.1, x.2 + 1)]
  | none => out
def gstep (F : Nat → Int) (fst b : Nat) (out : RunL) : RunL :=
  if F b = -1 then out else if fst < b ∧ F (b - 1) = 0 then bump out else out ++ [((b : Int), 1)]
def gat (F : Nat → Int) (fst : Nat) : Nat → Nat → RunL → RunL
  | _, 0, out => out
  | b, k + 1, out => gat F fst (b + 1) k (gstep F fst b out)

theorem bump_snoc (out : RunL) (x : Int × Int) : bump (out ++ [x]) = out ++ [(x.1, x.2 + 1)] := by
  unfold bump; simp
theorem gat_add {F : Nat → Int} {fst b k1 k2 : Nat} {out : RunL} : gat F fst b (k1 + k2) out = gat F fst (b + k1) k2 (gat F fst b k1 out) := by
  induction k1 generalizing b out with
  | zero => simp [gat]
  | succ k ih => rw [show k + 1 + k2 = (k + k2) + 1 from by omega, gat, ih, gat, show b + 1 + k = b + (k + 1) from by omega]
theorem gat_pin {F : Nat → Int} {fst b k : Nat} {out : RunL} (h : ∀ j, b ≤ j → j < b + k → F j = -1) : gat F fst b k out = out := by
  induction k generalizing b with
  | zero => rfl
  | succ k ih =>
    rw [gat, gstep, if_pos (h b (Nat.le_refl _) (by omega))]
    exact ih fun j h1 h2 => h j (by omega) (by omega)
theorem gat_run {F : Nat → Int} {fst b k : Nat} {out : RunL} {x : Int × Int} (hb : fst < b) (h0 : F (b - 1) = 0) (h : ∀ j, b ≤ j → j < b + k → F j = 0) : gat F fst b k (out ++ [x]) = out ++ [(x.1, x.2 + (k : Int))] := by
  induction k generalizing b x with
  | zero => simp [gat]
  | succ k ih =>
    have hz := h b (Nat.le_refl _) (by omega)
    rw [gat, gstep, if_neg (by rw [hz]; decide), if_pos ⟨hb, h0⟩, bump_snoc, ih (by omega) (by simpa using hz) (fun j h1 h2 => h j (by omega) (by omega))]
    simp; omega
theorem gat_free {F : Nat → Int} {fst b k : Nat} {out : RunL} (hfb : fst ≤ b) (hb : fst = b ∨ F (b - 1) = -1) (hk : 0 < k) (h : ∀ j, b ≤ j → j < b + k → F j = 0) : gat F fst b k out = out ++ [((b : Int), (k : Int))] := by
  obtain ⟨k, rfl⟩ : ∃ k', k = k' + 1 := ⟨k - 1, by omega⟩
  have hz := h b (Nat.le_refl _) (by omega)
  rw [gat, gstep, if_neg (by rw [hz]; decide), if_neg (by rintro ⟨h1, h2⟩; rcases hb with rfl | hb; { omega }; { rw [hb] at h2; cases h2 }), gat_run (by omega) (by simpa using hz) (fun j h1 h2 => h j (by omega) (by omega))]
  simp; omega
/-- what the blocks say, run by run. -/
theorem gat_regions {F : Nat → Int} {fst : Nat} {n : Nat} {l : RunL} {a : Nat} {out : RunL} (hfa : fst ≤ a) (hb : fst = a ∨ F (a - 1) = -1) (han : a ≤ n) (hr : rising a n l = true)
    (h1 : ∀ q ∈ l, ∀ j : Nat, At q j → F j = -1) (h0 : ∀ j : Nat, a ≤ j → (∀ q ∈ l, ¬ At q j) → F j = 0) : gat F fst a (n - a) out = out ++ regionsL a n l := by
  induction l generalizing a out with
  | nil =>
    rw [regionsL]
    by_cases h : (n : Int) > a
    · rw [if_pos h, gat_free hfa hb (by omega) (fun j hj _ => h0 j hj (by simp))]
      congr 3; omega
    · rw [if_neg h, show n - a = 0 from by omega, gat]; simp
  | cons p t ih =>
    obtain ⟨r1, r2, r3, r4⟩ := rising_cons hr
    obtain ⟨p1, p2⟩ := p
    dsimp only at r1 r2 r3 r4
    obtain ⟨s, rfl⟩ : ∃ s : Nat, p1 = (s : Int) := ⟨p1.toNat, by omega⟩
    obtain ⟨e, rfl⟩ : ∃ e : Nat, p2 = (e : Int) := ⟨p2.toNat, by omega⟩
    have hfree : ∀ j : Nat, a ≤ j → j < s → F j = 0 := fun j hj hs => h0 j hj fun q hq hat => by
      obtain ⟨i, hi⟩ := List.getElem?_of_mem hq
      have := rising_get hr hi
      rcases Nat.eq_zero_or_pos i with rfl | hpos
      · simp at hi; subst hi; unfold At at hat; dsimp only at hat; omega
      · have := rising_lt (i := 0) (x := ((s : Int), (e : Int))) hr hpos rfl hi
        unfold At at hat; dsimp only at hat this; omega
    have hpin : ∀ j : Nat, s ≤ j → j < s + e → F j = -1 := fun j h2 h3 => h1 _ List.mem_cons_self j (by unfold At; dsimp only; omega)
    rw [regionsL]
    dsimp only
    have hgo : ∀ o : RunL, gat F fst s (n - s) o = o ++ regionsL ((s : Int) + e) n t := fun o => by
      rw [show n - s = e + (n - (s + e)) from by omega, gat_add, gat_pin hpin]
      have := ih (a := s + e) (out := o) (by omega) (Or.inr (hpin _ (by omega) (by omega))) (by omega) (by rw [Int.natCast_add]; exact r4) (fun q hq => h1 q (List.mem_cons_of_mem _ hq))
        (fun j hj hq => h0 j (by omega) fun q hq' => by
          rcases List.mem_cons.1 hq' with rfl | hq'
          · unfold At; dsimp only; omega
          · exact hq q hq')
      rw [this, Int.natCast_add]
    by_cases h : (s : Int) > a
    · rw [if_pos h, show n - a = (s - a) + (n - s) from by omega, gat_add, gat_free hfa hb (by omega) (fun j hj hs => hfree j hj (by omega)), show a + (s - a) = s from by omega, hgo]
      rw [List.append_assoc]; congr 4; omega
    · have has : a = s := by omega
      subst has
      rw [if_neg h, hgo]; simp
end Go.Proofs.Ytkifpnhijdcjlaa
