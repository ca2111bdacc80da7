/- DeskNone at any input. -/
import Derived.Test.YtkjdlganghbgaaaGreatDoorFE0
namespace Go.Proofs.YtkjdlganghbgaaaGreatDoor
open Go.Ex Go.Proofs
set_option maxRecDepth 100000
theorem deskN_run (m : Nat) (h : m < 256) : lawD (.tok 4003) m = true := by
  have key : ∀ (l : List Nat), (l.all fun m => lawD (.tok 4003) m) = true → m ∈ l → lawD (.tok 4003) m = true := fun l hl hm => List.all_eq_true.1 hl m hm
  by_cases h0 : m < 128
  · exact key _ deskN0_run (by simp only [List.mem_cons, List.not_mem_nil, or_false]; omega)
  by_cases h1 : m < 256
  · exact key _ deskN1_run (by simp only [List.mem_cons, List.not_mem_nil, or_false]; omega)
  omega
/-- the law, at any input. -/
theorem desk_any (s : ByteArray) (m : Nat) (hm : m < 256) (w : World) (hw : PinsIn w) : Calls Tryz.prog 3 #[.string s, .int .u8 m] w fun e w' => e = .returned (.bool true) ∧ RowKit.Below w.heap.size w w' := by
  have key : ∀ k : Nat, (∀ ρ : Env, ρ.tok 0 = .string s → (V.tok k).val ρ = .string s) → lawD (.tok k) m = true →
      Calls Tryz.prog 3 #[.string s, .int .u8 m] w fun e w' => e = .returned (.bool true) ∧ RowKit.Below w.heap.size w w' := fun k e1 hr => by
    obtain ⟨ρ, h0⟩ : ∃ ρ : Env, ρ.tok 0 = .string s := ⟨⟨fun _ => .string s, T5.new⟩, rfl⟩
    have hv : (aD (.tok k) m).vals ρ = [.string s, .int .u8 m] := by
      show [(V.tok k).val ρ, Value.int .u8 (Int.ofNat m)] = _
      rw [e1 ρ h0]; rfl
    refine lawAt_ok (ρ := ρ) mixed Tryz.T_ok Tryz.F_ok (fun _ => ntOf_ok natD_ok) (nonext Tryz.func3 (by kernel_rfl) (by kernel_rfl)) hr ?_ w hw
    rw [hv]
    exact rvs_flat fun v hv => by
      simp only [List.mem_cons, List.not_mem_nil, or_false] at hv
      rcases hv with rfl | rfl <;> rfl
  by_cases hl : s.size ≤ 500
  · refine key 4003 (fun ρ h0 => ?_) (deskN_run m hm)
    show tokV 4003 (ρ.tok 0) = _
    rw [h0]
    show Value.string (if s.size ≤ 500 then s else ⟨#[]⟩) = _
    rw [if_pos hl]
  · refine key 4013 (fun ρ h0 => ?_) (deskL_run m hm)
    show tokV 4013 (ρ.tok 0) = _
    rw [h0]
    show Value.string (if 501 ≤ s.size then s else ⟨Array.replicate 501 0⟩) = _
    rw [if_pos (by omega)]
end Go.Proofs.YtkjdlganghbgaaaGreatDoor
