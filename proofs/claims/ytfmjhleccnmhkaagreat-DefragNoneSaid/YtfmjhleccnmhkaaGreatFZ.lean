/- The end of the run of the defragmenter's none: lives, and the law in every case. -/
import Derived.Test.YtfmjhleccnmhkaaGreatFY
namespace Go.Proofs.YtfmjhleccnmhkaaGreat
open Go.Ex Go.Proofs
set_option maxRecDepth 1000000

theorem pins_any (w : World) : PinsIn w := fun x hx => by cases hx
theorem livesL_run : lawAt Tryz.T Tryz.F (ntOf natLiv) 20000 200 21 .nil (q 1) = true := by kernel_rfl
theorem livesL : Holds Tryz.prog 21 := fun w hp =>
  lawAt_ok (ρ := ⟨fun _ => .int .i64 0, T5.new⟩) mixed Tryz.T_ok Tryz.F_ok (fun _ => ntOf_ok natLiv_ok) (nonext Tryz.func21 (by kernel_rfl) (by kernel_rfl)) livesL_run ⟨rfl, fun i a b ha => (by cases ha)⟩ w hp
noncomputable def natD : List (FuncId × CF) := (21, trueC) :: natLaw
theorem natD_ok {ρ : Env} : ∀ x ∈ natD, CfOK Tryz.prog ρ x.1 x.2 := cons_ok (true_ok (nonext Tryz.func21 (by kernel_rfl) (by kernel_rfl)) livesL) natLaw_ok
theorem law0_run : lawAt Tryz.T Tryz.F (ntOf natD) 20000 200 4 (.cons (.tok 55) .nil) (q 0) = true := by kernel_rfl
theorem law1_run : lawAt Tryz.T Tryz.F (ntOf natD) 20000 200 4 (.cons (.tok 119) .nil) (q 0) = true := by kernel_rfl
theorem law2_run : lawAt Tryz.T Tryz.F (ntOf natD) 20000 200 4 (.cons (.tok 183) .nil) (q 0) = true := by kernel_rfl
theorem law3_run : lawAt Tryz.T Tryz.F (ntOf natD) 20000 200 4 (.cons (.tok 247) .nil) (q 0) = true := by kernel_rfl
/-- the law, at any bits. -/
theorem defrag_any (a : Int) (ha : 0 ≤ a ∧ a ≤ 65535) (w : World) : Calls Tryz.prog 4 #[.int .u16 a] w fun e w' => e = .returned (.bool true) ∧ RowKit.Below w.heap.size w w' := by
  obtain ⟨n, rfl⟩ := Int.eq_ofNat_of_zero_le ha.1
  have hn : n ≤ 65535 := by omega
  obtain ⟨ρ, h0⟩ : ∃ ρ : Env, ρ.tok 0 = .int .i64 (.ofNat (n / 4)) := ⟨⟨fun _ => .int .i64 (.ofNat (n / 4)), T5.new⟩, rfl⟩
  have key : ∀ j b : Nat, lawAt Tryz.T Tryz.F (ntOf natD) 20000 200 4 (.cons (.tok j) .nil) (q 0) = true → Nat.beq (j % 8) 7 = true → j / 8 % 8 = 6 → j / 64 % 8 = b → j / 524288 = 0 → b < 4 → n % 4 = b →
      Calls Tryz.prog 4 #[.int .u16 (n : Int)] w fun e w' => e = .returned (.bool true) ∧ RowKit.Below w.heap.size w w' := fun j b hr k1 k2 k3 k4 k5 k6 => by
    have hv : (V.tok j).val ρ = .int .u16 (n : Int) := by
      rw [V.val_tok, tokX_bits k1 k2, k3, k4, h0]
      show Value.int .u16 (Int.ofNat ((4 * (n / 4 % 16384) + b % 4) / 2 ^ (b / 4))) = _
      have e1 : b / 4 = 0 := by omega
      have e2 : 4 * (n / 4 % 16384) + b % 4 = n := by omega
      rw [e1, e2, Nat.pow_zero, Nat.div_one]
      rfl
    refine lawAt_ok (ρ := ρ) mixed Tryz.T_ok Tryz.F_ok (fun _ => ntOf_ok natD_ok) (nonext Tryz.func4 (by kernel_rfl) (by kernel_rfl)) hr ?_ w (pins_any w)
    show RVs _ ⟨[(V.tok j).val ρ]⟩ _
    rw [hv]
    exact rvs_flat (l := [.int .u16 (n : Int)]) fun v hv => by
      simp only [List.mem_cons, List.not_mem_nil, or_false] at hv
      subst hv
      rfl
  have hc : n % 4 = 0 ∨ n % 4 = 1 ∨ n % 4 = 2 ∨ n % 4 = 3 := by omega
  rcases hc with hc | hc | hc | hc
  · exact key 55 0 law0_run rfl rfl rfl rfl (by omega) hc
  · exact key 119 1 law1_run rfl rfl rfl rfl (by omega) hc
  · exact key 183 2 law2_run rfl rfl rfl rfl (by omega) hc
  · exact key 247 3 law3_run rfl rfl rfl rfl (by omega) hc
end Go.Proofs.YtfmjhleccnmhkaaGreat
