/- strings.Lines hands out a text line by line: its closure, walked by hand. -/
import Derived.Test.YtkjdlganghbgaaaGreatDoorProg
import Derived.Test.YtkjdlganghbgaaaGreatDoorLn
import Derived.WalkKit
import Derived.WalkSpells
import Derived.WalkLawsBesides
import Derived.IntWalk
import Derived.Lib.Hide
import Derived.Shelf.SlIterI.Collect
import Derived.Sort.QuietIn
namespace Go.Proofs.YtkjdlganghbgaaaGreatDoor
open Go.Ex Go.RowKit

set_option maxRecDepth 100000 in
set_option maxHeartbeats 1000000 in
theorem place2 (s : ByteArray) (c : Int) (w : World) : Calls Tryz.prog 85 #[.string s, .int .u8 c] w fun e w' => e = .returned (.int .i64 (Lib.indexByte s.data.toList c.toNat.toUInt8)) ∧ w' = w := by
  go_enter Tryz.func85, Tryz.ntmps85
  go_wp2
  rw [run_callFunc_extern Tryz.func161 (by kernel_rfl) (by kernel_rfl) (by kernel_rfl) (e := Extern.BytealgIndexByte.indexByte) (by kernel_rfl), Lib.run_indexByteString]
  simp only [Result.andThen]
  rw [Oper.upon_value]
  go_wp2
  go_ret
  exact ⟨rfl, rfl⟩
set_option maxRecDepth 100000 in
set_option maxHeartbeats 1000000 in
theorem place1 (s : ByteArray) (c : Int) (w : World) : Calls Tryz.prog 51 #[.string s, .int .u8 c] w fun e w' => e = .returned (.int .i64 (Lib.indexByte s.data.toList c.toNat.toUInt8)) ∧ w' = w := by
  go_enter Tryz.func51, Tryz.ntmps51
  go_wp2_with (fail)
  refine (place2 _ _ _).mono ?_
  rintro e w' ⟨rfl, hw⟩
  rw [hw]
  go_wp2
  go_ret
  exact ⟨rfl, rfl⟩

set_option maxRecDepth 100000 in
set_option maxHeartbeats 8000000 in
theorem lines_is : LinesIs Tryz.prog 50 := by
  intro w l sa s hs hsf hlen J hJ0 hJB hJ
  refine callsIn_of_wp Tryz.func50 rfl trivial ?_
  have hQ : ∀ (e : Exit) a w', (e = .normal ∨ e = .ret) → J [] w' → a.defers = [] → bodyPost Tryz.prog Tryz.f50 (fun en w' => en = .returned (.tuple #[]) ∧ J [] w') e a w' := fun e a w' he hR hd => by
    have hr : (results Tryz.f50 a.tmps).run Tryz.prog w' = .ok (.tuple #[]) w' := by simp [results, Tryz.f50]
    rcases he with rfl | rfl <;> exact ⟨hd, .tuple #[], hr, rfl, hR⟩
  generalize bodyPost Tryz.prog Tryz.f50 (fun en w' => en = .returned (.tuple #[]) ∧ J [] w') = Q at hQ ⊢
  simp only [Tryz.ntmps50, List.size_toArray, List.length_cons, List.length_nil, Nat.reduceAdd, Nat.reduceSub, Array.replicate_succ, Array.replicate_zero, List.push_toArray, List.append_toArray, List.nil_append, List.cons_append]
  gi_wp2
  gi_loopw [3] (fun _ wr => ∃ t : List UInt8, t.length ≤ s.length ∧ wr.cell? sa = some (.string ⟨t.toArray⟩) ∧ wr.frozen? sa = false ∧ J t wr) (fun _ wr => match wr.cell? sa with | some (.string b) => b.size | _ => 0)
  case atStart => exact ⟨s, Nat.le_refl _, hs, hsf, hJ0⟩
  case round =>
    obtain ⟨t, htl, hc, hf, hJt⟩ := hrel
    have hb : (ByteArray.mk t.toArray).data.toList = t := rfl
    have hbs : (ByteArray.mk t.toArray).size = t.length := rfl
    generalize hbt : ByteArray.mk t.toArray = b at hc hb hbs
    by_cases ht : t = []
    · have h0 : b.size = 0 := by rw [hbs, ht]; rfl
      gi_wp2
      exact hQ _ _ _ (.inl rfl) (by rw [← ht]; exact hJt) rfl
    · have h0 : 0 < b.size := by rw [hbs]; exact List.length_pos_iff.2 ht
      gi_wp2
      refine ⟨trivial, rfl, (callsIn_wide.2 (place1 _ _ _)).mono ?_⟩
      rintro e w' ⟨rfl, hw⟩
      rw [hw, hb]
      have hcut1 := cutL_none t
      have hcut2 := cutL_some t
      have h10 : ((10 : Int).toNat.toUInt8) = 10 := rfl
      rw [h10]
      have hge := Lib.indexByte_ge t 10
      generalize Lib.indexByte t 10 = x at hcut1 hcut2 hge ⊢
      by_cases hx : x = -1
      · subst hx
        have hcut := hcut1 rfl
        obtain ⟨fn, tmps, asg, bd, hy, hR⟩ := hJ t wr _ ht hJt (by rw [hc, hbt]) hf (Below.refl _ _)
        rw [hcut] at hy hR
        rw [hbt] at hy
        gi_wp2
        refine ⟨rfl, hR.mono ?_⟩
        rintro en W3 ⟨rfl, hs3, hsf3, hJ3⟩
        gi_wp2
        exact ⟨⟨[], Nat.zero_le _, hs3, hsf3, hJ3⟩, by rw [hs3, hc]; exact h0⟩
      · obtain ⟨i, rfl⟩ : ∃ i : Nat, x = (i : Int) := ⟨x.toNat, by omega⟩
        obtain ⟨hi, hcut⟩ := hcut2 i rfl
        have e1 : ByteArray.mk (t.take (i + 1)).toArray = b.extract 0 (i + 1) := by
          rw [← hbt]; apply ByteArray.ext; simp [ByteArray.data_extract]
        have e2 : ByteArray.mk (t.drop (i + 1)).toArray = b.extract (i + 1) t.length := by
          rw [← hbt]; apply ByteArray.ext; simp only [ByteArray.data_extract, List.extract_toArray, List.extract_eq_drop_take', List.take_length]
        gi_wp2
        refine wpIn_region_split 25 (l1 := [_, _, _, _, _, _, _, _, _]) (l2 := [_]) rfl rfl (by kernel_rfl) (by kernel_rfl) ?_
        repeat (gi_big_quiet_step (skip))
        refine wpQuietIn_nil ?_
        intro _ hw'
        obtain ⟨nq, hw''⟩ := hw'
        subst hw''
        obtain ⟨fn, tmps, asg, bd, hy, hR⟩ := hJ t wr ((wr.drewN nq).setCell sa (.string (b.extract (i + 1) t.length))) ht hJt (by rw [hc, hbt]) hf (by rw [hcut, e2]; exact ⟨rfl, rfl, rfl, Nat.le_refl _, fun _ _ => rfl⟩)
        rw [hcut] at hy hR
        simp only [e1, e2] at hy hR
        gi_wp2
        refine ⟨rfl, hR.mono ?_⟩
        rintro en W3 ⟨rfl, hs3, hsf3, hJ3⟩
        gi_wp2
        exact ⟨⟨t.drop (i + 1), by rw [List.length_drop]; omega, by rw [hs3, e2], hsf3, hJ3⟩, by
          rw [hs3, hc]
          show (b.extract (i + 1) t.length).size < b.size
          rw [← e2, hbs]
          show (t.drop (i + 1)).length < t.length
          rw [List.length_drop]
          omega⟩
end Go.Proofs.YtkjdlganghbgaaaGreatDoor
