/- Plain facts for the stable sort's blocks. -/
import Derived.Test.YtkifpnhijdcjlaaM4
import Derived.Test.YtkifpnhijdcjlaaS2
namespace Go.Proofs.Ytkifpnhijdcjlaa

theorem ins_all {x : Int × Int} {W : RunL} (h : ∀ y ∈ W, y.1 ≤ x.1) : ins x W = W ++ [x] := by
  induction W with
  | nil => rfl
  | cons y W ih => rw [ins, if_pos (h y List.mem_cons_self), ih (fun z hz => h z (List.mem_cons_of_mem _ hz))]; rfl
theorem ins_snoc {x u : Int × Int} {W : RunL} (h : x.1 < u.1) : ins x (W ++ [u]) = ins x W ++ [u] := by
  induction W with
  | nil => simp [ins]; omega
  | cons y W ih =>
    rw [List.cons_append, ins, ins]
    split
    · rw [ih]; rfl
    · rfl
theorem bub_ins : ∀ (k : Nat) (D X Z : RunL) (x : Int × Int) (i : Nat), X.length = k → Up X → i = D.length + k → bub D.length i (D ++ (X ++ x :: Z)) = D ++ (ins x X ++ Z) := by
  intro k
  induction k with
  | zero =>
    intro D X Z x i hX _ hi
    have : X = [] := List.eq_nil_of_length_eq_zero hX
    subst this
    subst hi
    cases hD : D.length with
    | zero => simp [bub, ins]
    | succ d => rw [Nat.add_zero, bub, if_neg (by omega)]; simp [ins]
  | succ k ih =>
    intro D X Z x i hX hU hi
    rcases List.eq_nil_or_concat X with rfl | ⟨W, u, rfl⟩
    · simp at hX
    · rw [List.concat_eq_append] at *
      simp at hX
      obtain ⟨u1, _, u3⟩ := up_append.1 hU
      have e0 : D ++ (W ++ [u] ++ x :: Z) = (D ++ W) ++ u :: ([] ++ x :: Z) := by simp
      have hj : D.length + k = (D ++ W).length := by simp; omega
      have h1 : at0 (D ++ (W ++ [u] ++ x :: Z)) (D.length + k) = u := by rw [e0]; exact at0_mid _ _ _ hj
      have h2 : at0 (D ++ (W ++ [u] ++ x :: Z)) (D.length + k + 1) = x := by
        have e1 : D ++ (W ++ [u] ++ x :: Z) = (D ++ W ++ [u]) ++ x :: Z := by simp
        rw [e1]; exact at0_mid _ _ _ (by simp; omega)
      rw [hi, ← Nat.add_assoc, bub, h1, h2]
      by_cases hx : x.1 < u.1
      · rw [if_pos ⟨by omega, hx⟩, swp_comm _ _ _ (by omega), e0, swp_mid (D ++ W) u [] x Z hj (by simp; omega)]
        have e2 : D ++ W ++ x :: ([] ++ u :: Z) = D ++ (W ++ x :: (u :: Z)) := by simp
        rw [e2, ih D W (u :: Z) x (D.length + k) hX u1 rfl, ins_snoc hx]
        simp
      · rw [if_neg (fun h => hx h.2), ins_all (x := x) (W := W ++ [u]) (fun y hy => ?_)]
        · simp
        · rcases List.mem_append.1 hy with hy | hy
          · have := u3 y hy u (by simp); omega
          · simp at hy; subst hy; omega
theorem insFrom_srt : ∀ (X2 D X1 Y : RunL) (i : Nat), Up X1 → i = D.length + X1.length → insFrom D.length i X2.length (D ++ (X1 ++ (X2 ++ Y))) = D ++ (X2.foldl (fun l r => ins r l) X1 ++ Y) := by
  intro X2
  induction X2 with
  | nil => intro D X1 Y i _ _; rfl
  | cons x X2 ih =>
    intro D X1 Y i hU hi
    have hl : (ins x X1).length = X1.length + 1 := by
      clear ih hU hi
      induction X1 with
      | nil => rfl
      | cons y l ih2 => unfold ins; split <;> simp [ih2]
    rw [List.length_cons, insFrom, List.cons_append, bub_ins X1.length D X1 (X2 ++ Y) x i rfl hU hi, ih D (ins x X1) Y (i + 1) (ins_up hU) (by omega)]
    rfl
theorem insSort_srt (D X Y : RunL) (a b : Nat) (ha : a = D.length) (hb : b = a + X.length) : insSort a b (D ++ (X ++ Y)) = D ++ (srt X ++ Y) := by
  subst ha
  unfold insSort
  cases X with
  | nil => subst hb; rw [show D.length + ([] : RunL).length - (D.length + 1) = 0 from by simp]; rfl
  | cons x X =>
    have h1 := insFrom_srt X D [x] Y (D.length + 1) (by simp [Up]) rfl
    rw [show b - (D.length + 1) = X.length from by rw [hb, List.length_cons]; omega]
    simpa [srt, ins] using h1

/-- each block of so many is sorted. -/
def Bup (s : Nat) (xs : RunL) : Prop := ∀ q, Up ((xs.drop (q * s)).take s)
theorem up_take {xs : RunL} (h : Up xs) (k : Nat) : Up (xs.take k) := h.sublist (List.take_sublist k xs)
theorem bup_one {s : Nat} {xs : RunL} (h : Bup s xs) : Up (xs.take s) := by have := h 0; simpa using this
theorem bup_all {s : Nat} {xs : RunL} (h : Bup s xs) (hl : xs.length ≤ s) : Up xs := by
  have := bup_one h; rwa [List.take_of_length_le hl] at this
theorem bup_nil (s : Nat) : Bup s [] := fun q => by simp [Up]
theorem bup_append {s t : Nat} {D E : RunL} (hD : Bup s D) (hl : D.length = t * s) (hE : Bup s E) : Bup s (D ++ E) := by
  intro q
  rcases Nat.lt_or_ge q t with hlt | hge
  · have h1 : (q + 1) * s ≤ t * s := Nat.mul_le_mul_right s hlt
    rw [Nat.add_mul, Nat.one_mul] at h1
    rw [List.drop_append_of_le_length (by omega), List.take_append_of_le_length (by rw [List.length_drop]; omega)]
    exact hD q
  · have h1 : t * s ≤ q * s := Nat.mul_le_mul_right s hge
    rw [List.drop_append, List.drop_eq_nil_of_le (by omega), List.nil_append, hl]
    have : q * s - t * s = (q - t) * s := by rw [Nat.sub_mul]
    rw [this]
    exact hE (q - t)
theorem bup_up {s : Nat} {E : RunL} (h : Up E) (hl : E.length ≤ s) : Bup s E := by
  intro q
  cases q with
  | zero => simpa using up_take h s
  | succ q =>
    rw [List.drop_eq_nil_of_le (by rw [Nat.add_mul]; omega)]
    simp [Up]
theorem bup_drop {s k : Nat} {E : RunL} (h : Bup s E) : Bup s (E.drop (k * s)) := by
  intro q
  rw [List.drop_drop, ← Nat.add_mul]
  exact h (k + q)
/-- one more block. -/
theorem bup_snoc {s t : Nat} {D X : RunL} (hD : Bup s D) (hl : D.length = t * s) (hX : Up X) (hs : X.length ≤ s) : Bup s (D ++ X) := bup_append hD hl (bup_up hX hs)
end Go.Proofs.Ytkifpnhijdcjlaa
