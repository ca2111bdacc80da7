/- A drawn region whose last operations stand in order, in hand walks; the first line of a text. -/
import Derived.Test.YtkjdlganghbgaaaGreatDoorEe
import Derived.Sort.QuietIn
import Derived.Lib.Bytealg
namespace Go.Ex

/-- the first operations stand in any order, the others one by one. -/
noncomputable def splitB (n : Nat) (l l1 : List Oper) : Bool := statT l.toArray n (masksOf l 0 .lf) [] && (statT l1.toArray n (masksOf l1 0 .lf) [] && (sufB (masksOf l 0 .lf) l.length l1.length && (l1.all (fun o => o.guard.isNone) && Region.lexB .any l1.toArray)))
theorem wpIn_region_split {F : Fence} {m : Nat} {P : Program} {id : Nat} {l1 l2 : List Oper} (n : Nat) {Q : Exit → Act → World → Prop} {a : Act} {w : World} {l : List Oper} (he : l1 ++ l2 = l) (hro : F.round = none) (hm : P.follows .mixedOrders = true) (hst : splitB n l l1 = true)
    (h : wpQuietIn F m P l1.toArray (fun w' => ∃ n, w' = w.drewN n) (fun a' => ∀ w', (∃ n, w' = w.drewN n) → wpListIn F m P l.toArray Q l2 a' w') l1 a) : (Code.region id l.toArray true).wpIn F m P Q a w := by
  subst he
  unfold splitB at hst
  rw [Bool.and_eq_true, Bool.and_eq_true, Bool.and_eq_true, Bool.and_eq_true] at hst
  obtain ⟨h1, h2, h3, h4, h5⟩ := hst
  have S := stat_ok h1
  have S1 := stat_ok h2
  have hsuf : ∀ i o, (l1 ++ l2).toArray[i]? = some o → l1.length ≤ i → ∀ j, j < i → (((masksOf (l1 ++ l2) 0 .lf).get i).getD 0).testBit j = true := fun i o ho hpi j hj => by
    have hio := (Array.getElem?_eq_some_iff.1 ho).1
    unfold sufB at h3
    have h2 := List.all_eq_true.1 h3 i (List.mem_range.2 (by simpa using hio))
    rw [Bool.or_eq_true] at h2
    rcases h2 with h2 | h2
    · have := Nat.lt_of_lt_of_le (by simpa [Nat.blt_eq] using h2) hpi
      omega
    · exact List.all_eq_true.1 h2 j (List.mem_range.2 hj)
  refine wpIn_region_any hm ?_
  have hq : wpAnyIn F m P .any l1.toArray (fun x a w => match x with | .normal => wpListIn F m P (l1 ++ l2).toArray Q l2 a w | x => Q x a w) l1.length (Array.replicate l1.length false) a { w with drawn := w.drawn + 1 } := by
    simp only [Region.lexB, Bool.and_eq_true] at h5
    refine wpAnyIn_of_quiet (C := fun w' => ∃ n, w' = w.drewN n) (Q := fun a' => ∀ w', (∃ n, w' = w.drewN n) → wpListIn F m P (l1 ++ l2).toArray Q l2 a' w') hro (fun _ w' hw' h => h w' hw') _ _ _ _ ⟨1, rfl⟩ ?_
    have := wpAnyQIn_lex (F := F) (n := m) (C := fun w' => ∃ n, w' = w.drewN n) (md := .any) h5.1 l1 0 (Array.replicate l1.length false) a (by simp) (by simpa using h5.2) h
    exact this
  have := any_split (G := F) (m := m) (P := P) (ops := (l1 ++ l2).toArray) (Q := Q) (M := masksOf (l1 ++ l2) 0 .lf) (p := l1.length) (pre := l1.toArray) (by simp) (by simp) (fun i hi => by
    simp [List.getElem?_append_left hi]) (fun i o ho => by
    have hmem : o ∈ l1 := List.mem_of_getElem? (i := i) (by simpa using ho)
    simpa using List.all_eq_true.1 h4 o hmem) S.mask S1.mask hsuf (Q' := fun x a w => match x with | .normal => wpListIn F m P (l1 ++ l2).toArray Q l2 a w | x => Q x a w) (fun x a w hx hq => by cases x <;> first | exact absurd rfl hx | exact hq) (fun a w hq => by simpa using hq)
    l1.length (Array.replicate l1.length false) (Array.replicate (l1 ++ l2).toArray.size false) a { w with drawn := w.drawn + 1 } (by simp) (fun i o ho hl => by
      have hio : i < l1.length := by simpa using (Array.getElem?_eq_some_iff.1 ho).1
      rw [Array.getD_eq_getD_getElem?, Array.getElem?_replicate, if_pos hio] at hl
      cases hl) (by simp) (fun i hi => by
      rw [Array.getD_eq_getD_getElem?, Array.getElem?_replicate, if_pos hi, Array.getD_eq_getD_getElem?, Array.getElem?_replicate]
      split <;> rfl) hq
  have e : l1.length + ((l1 ++ l2).toArray.size - l1.length) = (l1 ++ l2).toArray.size := by simp
  rwa [e] at this
theorem cutL_none : ∀ l : List UInt8, Lib.indexByte l 10 = -1 → cutL l = (l, [])
  | [], _ => rfl
  | c :: r, h => by
    unfold Lib.indexByte at h
    split at h
    · cases h
    rename_i hc
    have hne : c ≠ 10 := fun e => hc (by simp [e])
    split at h
    · rename_i h2
      have ih := cutL_none r (by simpa using h2)
      unfold cutL
      rw [if_neg hne, ih]
    · have := Lib.indexByte_ge r 10
      omega
theorem cutL_some : ∀ (l : List UInt8) (i : Nat), Lib.indexByte l 10 = (i : Int) → i < l.length ∧ cutL l = (l.take (i + 1), l.drop (i + 1))
  | [], i, h => by
    unfold Lib.indexByte at h
    omega
  | c :: r, i, h => by
    unfold Lib.indexByte at h
    split at h
    · rename_i hc
      have hce : c = 10 := by simpa using hc
      have hi : i = 0 := by omega
      subst hi
      unfold cutL
      rw [if_pos hce]
      simp [hce]
    rename_i hc
    have hne : c ≠ 10 := fun e => hc (by simp [e])
    split at h
    · omega
    rename_i h2
    obtain ⟨j, rfl⟩ : ∃ j, i = j + 1 := ⟨i - 1, by
      have := Lib.indexByte_ge r 10
      have : Lib.indexByte r 10 ≠ -1 := by simpa using h2
      omega⟩
    obtain ⟨h3, h4⟩ := cutL_some r j (by omega)
    unfold cutL
    rw [if_neg hne, h4]
    exact ⟨by simpa using h3, by simp⟩
end Go.Ex
