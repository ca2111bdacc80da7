/- A drawn region whose last operations stand in order, in hand walks; the first line of a text. -/
import Derived.Test.YtkjdlganghbgaaaGreatDoorEe
import Derived.Sort.QuietIn
import Derived.Lib.Bytealg
import Derived.Test.YtkjdlganghbgaaaGreatDoorProg
import Derived.WalkKit
import Derived.WalkSpells
import Derived.WalkLawsBesides
import Derived.IntWalk
import Derived.Lib.Hide
import Derived.Shelf.SlIterI.Collect
namespace Go.Ex

/-- the first operations stand in any order, the others one by one. -/
noncomputable def splitB (n : Nat) (l l1 : List Oper) : Bool := statT l.toArray n (masksOf l 0 .lf) [] && (statT l1.toArray n (masksOf l1 0 .lf) [] && (sufB (masksOf l 0 .lf) l.length l1.length && (l1.all (fun o => o.guard.isNone) && Region.lexB .any l1.toArray)))
theorem wpIn_region_split {F : Fence} {m : Nat} {P : Program} {id : Nat} {l1 l2 : List Oper} (n : Nat) {Q : Exit → Act → World → Prop} {a : Act} {w : World} {l : List Oper} (he : l1 ++ l2 = l) (hro : F.round = none) (hm : P.follows .mixedOrders = true) (hst : splitB n l l1 = true)
    (h : wpQuietIn F m P l1.toArray (fun w' => ∃ n, w' = w.drewN n) (fun a' => ∀ w', (∃ n, w' = w.drewN n) → wpListIn F m P l.toArray Q l2 a' w') l1 a) : (Code.region id l.toArray true).wpIn F m P Q a w := by
  subst he
  unfold splitB at hst
  rw [Bool.and_eq_true, Bool.and_eq_true, Bool.and_eq_true, Bool.and_eq_true] at hst
  obtain ⟨h1, h2, h3, h4, h5⟩ := hst
  have S := stat_ok h1
  have S1 := stat_ok h2
  have hsuf : ∀ i o, (l1 ++ l2).toArray[i]? = some o → l1.length ≤ i → ∀ j, j < i → (((masksOf (l1 ++ l2) 0 .lf).get i).getD 0).testBit j = true := fun i o ho hpi j hj => by
    have hio := (Array.getElem?_eq_some_iff.1 ho).1
    unfold sufB at h3
    have h2 := List.all_eq_true.1 h3 i (List.mem_range.2 (by simpa using hio))
    rw [Bool.or_eq_true] at h2
    rcases h2 with h2 | h2
    · have := Nat.lt_of_lt_of_le (by simpa [Nat.blt_eq] using h2) hpi
      omega
    · exact List.all_eq_true.1 h2 j (List.mem_range.2 hj)
  refine wpIn_region_any hm ?_
  have hq : wpAnyIn F m P .any l1.toArray (fun x a w => match x with | .normal => wpListIn F m P (l1 ++ l2).toArray Q l2 a w | x => Q x a w) l1.length (Array.replicate l1.length false) a { w with drawn := w.drawn + 1 } := by
    simp only [Region.lexB, Bool.and_eq_true] at h5
    refine wpAnyIn_of_quiet (C := fun w' => ∃ n, w' = w.drewN n) (Q := fun a' => ∀ w', (∃ n, w' = w.drewN n) → wpListIn F m P (l1 ++ l2).toArray Q l2 a' w') hro (fun _ w' hw' h => h w' hw') _ _ _ _ ⟨1, rfl⟩ ?_
    have := wpAnyQIn_lex (F := F) (n := m) (C := fun w' => ∃ n, w' = w.drewN n) (md := .any) h5.1 l1 0 (Array.replicate l1.length false) a (by simp) (by simpa using h5.2) h
    exact this
  have := any_split (G := F) (m := m) (P := P) (ops := (l1 ++ l2).toArray) (Q := Q) (M := masksOf (l1 ++ l2) 0 .lf) (p := l1.length) (pre := l1.toArray) (by simp) (by simp) (fun i hi => by
    simp [List.getElem?_append_left hi]) (fun i o ho => by
    have hmem : o ∈ l1 := List.mem_of_getElem? (i := i) (by simpa using ho)
    simpa using List.all_eq_true.1 h4 o hmem) S.mask S1.mask hsuf (Q' := fun x a w => match x with | .normal => wpListIn F m P (l1 ++ l2).toArray Q l2 a w | x => Q x a w) (fun x a w hx hq => by cases x <;> first | exact absurd rfl hx | exact hq) (fun a w hq => by simpa using hq)
    l1.length (Array.replicate l1.length false) (Array.replicate (l1 ++ l2).toArray.size false) a { w with drawn := w.drawn + 1 } (by simp) (fun i o ho hl => by
      have hio : i < l1.length := by simpa using (Array.getElem?_eq_some_iff.1 ho).1
      rw [Array.getD_eq_getD_getElem?, Array.getElem?_replicate, if_pos hio] at hl
      cases hl) (by simp) (fun i hi => by
      rw [Array.getD_eq_getD_getElem?, Array.getElem?_replicate, if_pos hi, Array.getD_eq_getD_getElem?, Array.getElem?_replicate]
      split <;> rfl) hq
  have e : l1.length + ((l1 ++ l2).toArray.size - l1.length) = (l1 ++ l2).toArray.size := by simp
  rwa [e] at this
theorem cutL_none : ∀ l : List UInt8, Lib.indexByte l 10 = -1 → cutL l = (l, [])
  | [], _ => rfl
  | c :: r, h => by
    unfold Lib.indexByte at h
    split at h
    · cases h
    rename_i hc
    have hne : c ≠ 10 := fun e => hc (by simp [e])
    split at h
    · rename_i h2
      have ih := cutL_none r (by simpa using h2)
      unfold cutL
      rw [if_neg hne, ih]
    · have := Lib.indexByte_ge r 10
      omega
theorem cutL_some : ∀ (l : List UInt8) (i : Nat), Lib.indexByte l 10 = (i : Int) → i < l.length ∧ cutL l = (l.take (i + 1), l.drop (i + 1))
  | [], i, h => by
    unfold Lib.indexByte at h
    omega
  | c :: r, i, h => by
    unfold Lib.indexByte at h
    split at h
    · rename_i hc
      have hce : c = 10 := by simpa using hc
      have hi : i = 0 := by omega
      subst hi
      unfold cutL
      rw [if_pos hce]
      simp [hce]
    rename_i hc
    have hne : c ≠ 10 := fun e => hc (by simp [e])
    split at h
    · omega
    rename_i h2
    obtain ⟨j, rfl⟩ : ∃ j, i = j + 1 := ⟨i - 1, by
      have := Lib.indexByte_ge r 10
      have : Lib.indexByte r 10 ≠ -1 := by simpa using h2
      omega⟩
    obtain ⟨h3, h4⟩ := cutL_some r j (by omega)
    unfold cutL
    rw [if_neg hne, h4]
    exact ⟨by simpa using h3, by simp⟩
end Go.Ex
namespace Go.Proofs.YtkjdlganghbgaaaGreatDoor
open Go.Ex Go.RowKit

set_option maxRecDepth 100000 in
set_option maxHeartbeats 1000000 in
theorem place2 (s : ByteArray) (c : Int) (w : World) : Calls Tryz.prog 85 #[.string s, .int .u8 c] w fun e w' => e = .returned (.int .i64 (Lib.indexByte s.data.toList c.toNat.toUInt8)) ∧ w' = w := by
  go_enter Tryz.func85, Tryz.ntmps85
  go_wp2
  rw [run_callFunc_extern Tryz.func161 (by kernel_rfl) (by kernel_rfl) (by kernel_rfl) (e := Extern.BytealgIndexByte.indexByte) (by kernel_rfl), Lib.run_indexByteString]
  simp only [Result.andThen]
  rw [Oper.upon_value]
  go_wp2
  go_ret
  exact ⟨rfl, rfl⟩
set_option maxRecDepth 100000 in
set_option maxHeartbeats 1000000 in
theorem place1 (s : ByteArray) (c : Int) (w : World) : Calls Tryz.prog 51 #[.string s, .int .u8 c] w fun e w' => e = .returned (.int .i64 (Lib.indexByte s.data.toList c.toNat.toUInt8)) ∧ w' = w := by
  go_enter Tryz.func51, Tryz.ntmps51
  go_wp2_with (fail)
  refine (place2 _ _ _).mono ?_
  rintro e w' ⟨rfl, hw⟩
  rw [hw]
  go_wp2
  go_ret
  exact ⟨rfl, rfl⟩

set_option maxRecDepth 100000 in
set_option maxHeartbeats 8000000 in
theorem lines_is : LinesIs Tryz.prog 50 := by
  intro w l sa s hs hsf hlen J hJ0 hJB hJ
  refine callsIn_of_wp Tryz.func50 rfl trivial ?_
  have hQ : ∀ (e : Exit) a w', (e = .normal ∨ e = .ret) → J [] w' → a.defers = [] → bodyPost Tryz.prog Tryz.f50 (fun en w' => en = .returned (.tuple #[]) ∧ J [] w') e a w' := fun e a w' he hR hd => by
    have hr : (results Tryz.f50 a.tmps).run Tryz.prog w' = .ok (.tuple #[]) w' := by simp [results, Tryz.f50]
    rcases he with rfl | rfl <;> exact ⟨hd, .tuple #[], hr, rfl, hR⟩
  generalize bodyPost Tryz.prog Tryz.f50 (fun en w' => en = .returned (.tuple #[]) ∧ J [] w') = Q at hQ ⊢
  simp only [Tryz.ntmps50, List.size_toArray, List.length_cons, List.length_nil, Nat.reduceAdd, Nat.reduceSub, Array.replicate_succ, Array.replicate_zero, List.push_toArray, List.append_toArray, List.nil_append, List.cons_append]
  gi_wp2
  gi_loopw [3] (fun _ wr => ∃ t : List UInt8, t.length ≤ s.length ∧ wr.cell? sa = some (.string ⟨t.toArray⟩) ∧ wr.frozen? sa = false ∧ J t wr) (fun _ wr => match wr.cell? sa with | some (.string b) => b.size | _ => 0)
  case atStart => exact ⟨s, Nat.le_refl _, hs, hsf, hJ0⟩
  case round =>
    obtain ⟨t, htl, hc, hf, hJt⟩ := hrel
    have hb : (ByteArray.mk t.toArray).data.toList = t := rfl
    have hbs : (ByteArray.mk t.toArray).size = t.length := rfl
    generalize hbt : ByteArray.mk t.toArray = b at hc hb hbs
    by_cases ht : t = []
    · have h0 : b.size = 0 := by rw [hbs, ht]; rfl
      gi_wp2
      exact hQ _ _ _ (.inl rfl) (by rw [← ht]; exact hJt) rfl
    · have h0 : 0 < b.size := by rw [hbs]; exact List.length_pos_iff.2 ht
      gi_wp2
      refine ⟨trivial, rfl, (callsIn_wide.2 (place1 _ _ _)).mono ?_⟩
      rintro e w' ⟨rfl, hw⟩
      rw [hw, hb]
      have hcut1 := cutL_none t
      have hcut2 := cutL_some t
      have h10 : ((10 : Int).toNat.toUInt8) = 10 := rfl
      rw [h10]
      have hge := Lib.indexByte_ge t 10
      generalize Lib.indexByte t 10 = x at hcut1 hcut2 hge ⊢
      by_cases hx : x = -1
      · subst hx
        have hcut := hcut1 rfl
        obtain ⟨fn, tmps, asg, bd, hy, hR⟩ := hJ t wr _ ht hJt (by rw [hc, hbt]) hf (Below.refl _ _)
        rw [hcut] at hy hR
        rw [hbt] at hy
        gi_wp2
        refine ⟨rfl, hR.mono ?_⟩
        rintro en W3 ⟨rfl, hs3, hsf3, hJ3⟩
        gi_wp2
        exact ⟨⟨[], Nat.zero_le _, hs3, hsf3, hJ3⟩, by rw [hs3, hc]; exact h0⟩
      · obtain ⟨i, rfl⟩ : ∃ i : Nat, x = (i : Int) := ⟨x.toNat, by omega⟩
        obtain ⟨hi, hcut⟩ := hcut2 i rfl
        have e1 : ByteArray.mk (t.take (i + 1)).toArray = b.extract 0 (i + 1) := by
          rw [← hbt]; apply ByteArray.ext; simp [ByteArray.data_extract]
        have e2 : ByteArray.mk (t.drop (i + 1)).toArray = b.extract (i + 1) t.length := by
          rw [← hbt]; apply ByteArray.ext; simp only [ByteArray.data_extract, List.extract_toArray, List.extract_eq_drop_take', List.take_length]
        gi_wp2
        refine wpIn_region_split 25 (l1 := [_, _, _, _, _, _, _, _, _]) (l2 := [_]) rfl rfl (by kernel_rfl) (by kernel_rfl) ?_
        repeat (gi_big_quiet_step (skip))
        refine wpQuietIn_nil ?_
        intro _ hw'
        obtain ⟨nq, hw''⟩ := hw'
        subst hw''
        obtain ⟨fn, tmps, asg, bd, hy, hR⟩ := hJ t wr ((wr.drewN nq).setCell sa (.string (b.extract (i + 1) t.length))) ht hJt (by rw [hc, hbt]) hf (by rw [hcut, e2]; exact ⟨rfl, rfl, rfl, Nat.le_refl _, fun _ _ => rfl⟩)
        rw [hcut] at hy hR
        simp only [e1, e2] at hy hR
        gi_wp2
        refine ⟨rfl, hR.mono ?_⟩
        rintro en W3 ⟨rfl, hs3, hsf3, hJ3⟩
        gi_wp2
        exact ⟨⟨t.drop (i + 1), by rw [List.length_drop]; omega, by rw [hs3, e2], hsf3, hJ3⟩, by
          rw [hs3, hc]
          show (b.extract (i + 1) t.length).size < b.size
          rw [← e2, hbs]
          show (t.drop (i + 1)).length < t.length
          rw [List.length_drop]
          omega⟩
end Go.Proofs.YtkjdlganghbgaaaGreatDoor
