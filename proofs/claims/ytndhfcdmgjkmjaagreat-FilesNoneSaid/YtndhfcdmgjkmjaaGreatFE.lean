/- The end of the run of files' none: lives, and the law in every case. -/
import Derived.Test.YtndhfcdmgjkmjaaGreatFD
namespace Go.Proofs.YtndhfcdmgjkmjaaGreat
open Go.Ex Go.Proofs
set_option maxRecDepth 1000000

theorem livesF_run : lawAt Tryz.T Tryz.F (ntOf nat_mF4) 20000 200 6 .nil (q 25) = true := by kernel_rfl
theorem livesF : Holds Tryz.prog 6 := fun w =>
  lawAt_ok (ρ := ⟨fun _ => .int .i64 0, T5.new⟩) mixed Tryz.T_ok Tryz.F_ok (fun _ => ntOf_ok nat_mF4_ok) (nonext Tryz.func6 (by kernel_rfl) (by kernel_rfl)) livesF_run ⟨rfl, fun i a b ha => (by cases ha)⟩ w
noncomputable def natF : List (FuncId × CF) := (6, trueC) :: nat_mF2
theorem natF_ok {ρ : Env} : ∀ x ∈ natF, CfOK Tryz.prog ρ x.1 x.2 := cons_ok (true_ok (nonext Tryz.func6 (by kernel_rfl) (by kernel_rfl)) livesF) nat_mF2_ok
noncomputable def aF (n d : V) : V := .cons (.agg (.cons n (.cons (.tok 524288) (.cons (.tok 1048576) .nil)))) (.cons d .nil)
theorem filesL_run : lawAt Tryz.T Tryz.F (ntOf natF) 20000 200 3 (aF (.tok 0) (.tok 1580877)) (q 0) = true := by kernel_rfl
theorem filesN_run : lawAt Tryz.T Tryz.F (ntOf natF) 20000 200 3 (aF (.tok 1) (.tok 1580867)) (q 0) = true := by kernel_rfl
theorem filesB_run : lawAt Tryz.T Tryz.F (ntOf natF) 20000 200 3 (aF (.tok 130) (.tok 1580867)) (q 0) = true := by kernel_rfl
theorem files0_run : lawAt Tryz.T Tryz.F (ntOf natF) 20000 200 3 (aF (.int .i64 0) (.tok 1580867)) (q 0) = true := by kernel_rfl
theorem files1_run : lawAt Tryz.T Tryz.F (ntOf natF) 20000 200 3 (aF (.int .i64 1) (.tok 1580867)) (q 0) = true := by kernel_rfl
theorem files2_run : lawAt Tryz.T Tryz.F (ntOf natF) 20000 200 3 (aF (.int .i64 2) (.tok 1580867)) (q 0) = true := by kernel_rfl
theorem files3_run : lawAt Tryz.T Tryz.F (ntOf natF) 20000 200 3 (aF (.int .i64 3) (.tok 1580867)) (q 0) = true := by kernel_rfl
theorem files4_run : lawAt Tryz.T Tryz.F (ntOf natF) 20000 200 3 (aF (.int .i64 4) (.tok 1580867)) (q 0) = true := by kernel_rfl
theorem files5_run : lawAt Tryz.T Tryz.F (ntOf natF) 20000 200 3 (aF (.int .i64 5) (.tok 1580867)) (q 0) = true := by kernel_rfl
theorem files6_run : lawAt Tryz.T Tryz.F (ntOf natF) 20000 200 3 (aF (.int .i64 6) (.tok 1580867)) (q 0) = true := by kernel_rfl
theorem files7_run : lawAt Tryz.T Tryz.F (ntOf natF) 20000 200 3 (aF (.int .i64 7) (.tok 1580867)) (q 0) = true := by kernel_rfl
theorem files8_run : lawAt Tryz.T Tryz.F (ntOf natF) 20000 200 3 (aF (.int .i64 8) (.tok 1580867)) (q 0) = true := by kernel_rfl
theorem files9_run : lawAt Tryz.T Tryz.F (ntOf natF) 20000 200 3 (aF (.int .i64 9) (.tok 1580867)) (q 0) = true := by kernel_rfl
theorem files10_run : lawAt Tryz.T Tryz.F (ntOf natF) 20000 200 3 (aF (.int .i64 10) (.tok 1580867)) (q 0) = true := by kernel_rfl
theorem files11_run : lawAt Tryz.T Tryz.F (ntOf natF) 20000 200 3 (aF (.int .i64 11) (.tok 1580867)) (q 0) = true := by kernel_rfl
theorem files12_run : lawAt Tryz.T Tryz.F (ntOf natF) 20000 200 3 (aF (.int .i64 12) (.tok 1580867)) (q 0) = true := by kernel_rfl
theorem files13_run : lawAt Tryz.T Tryz.F (ntOf natF) 20000 200 3 (aF (.int .i64 13) (.tok 1580867)) (q 0) = true := by kernel_rfl
theorem files14_run : lawAt Tryz.T Tryz.F (ntOf natF) 20000 200 3 (aF (.int .i64 14) (.tok 1580867)) (q 0) = true := by kernel_rfl
theorem files15_run : lawAt Tryz.T Tryz.F (ntOf natF) 20000 200 3 (aF (.int .i64 15) (.tok 1580867)) (q 0) = true := by kernel_rfl
theorem files_at {ρ : Env} {a : V} {l : List Value} (hrun : lawAt Tryz.T Tryz.F (ntOf natF) 20000 200 3 a (q 0) = true) (e : a.vals ρ = l) (hl : ∀ v ∈ l, flatB 4 v = true) (w : World) : Calls Tryz.prog 3 ⟨l⟩ w fun e w' => e = .returned (.bool true) ∧ RowKit.Below w.heap.size w w' :=
  lawAt_ok (ρ := ρ) mixed Tryz.T_ok Tryz.F_ok (fun _ => ntOf_ok natF_ok) (nonext Tryz.func3 (by kernel_rfl) (by kernel_rfl)) hrun (by rw [e]; exact rvs_flat hl) w
/-- the law, at any input. -/
theorem files_any (n p m : Int) (s : ByteArray) (w : World) : Calls Tryz.prog 3 #[.agg #[.int .i64 n, .int .i64 p, .int .i64 m], .string s] w fun e w' => e = .returned (.bool true) ∧ RowKit.Below w.heap.size w w' := by
  obtain ⟨ρ, h0, h1, h2, h3⟩ : ∃ ρ : Env, ρ.tok 0 = .int .i64 n ∧ ρ.tok 1 = .int .i64 p ∧ ρ.tok 2 = .int .i64 m ∧ ρ.tok 3 = .string s :=
    ⟨⟨fun j => if j = 0 then .int .i64 n else if j = 1 then .int .i64 p else if j = 2 then .int .i64 m else .string s, T5.new⟩, rfl, rfl, rfl, rfl⟩
  have key : ∀ (d : V) (nv : V), lawAt Tryz.T Tryz.F (ntOf natF) 20000 200 3 (aF nv d) (q 0) = true → nv.val ρ = .int .i64 n → d.val ρ = .string s →
      Calls Tryz.prog 3 #[.agg #[.int .i64 n, .int .i64 p, .int .i64 m], .string s] w fun e w' => e = .returned (.bool true) ∧ RowKit.Below w.heap.size w w' := fun d nv hr e1 e2 =>
    files_at (ρ := ρ) (l := [.agg #[.int .i64 n, .int .i64 p, .int .i64 m], .string s]) hr (by
      show [Value.agg ⟨[nv.val ρ, tokV 524288 (ρ.tok 1), tokV 1048576 (ρ.tok 2)]⟩, d.val ρ] = _
      rw [e1, e2, h1, h2]; rfl) (fun v hv => by
        simp only [List.mem_cons, List.not_mem_nil, or_false] at hv
        rcases hv with rfl | rfl <;> rfl) w
  by_cases hs : s.size ≤ 1000
  · have hd : (V.tok 1580867).val ρ = .string s := by
      show tokV 1580867 (ρ.tok 3) = _
      rw [h3]
      show Value.string (if s.size ≤ 1000 then s else ⟨#[]⟩) = _
      rw [if_pos hs]
    by_cases hn : n < 0
    · refine key _ _ filesN_run ?_ hd
      show tokV 1 (ρ.tok 0) = _
      rw [h0]
      show Value.int .i64 (min n (-1)) = _
      congr 1; omega
    by_cases hb : 16 ≤ n
    · refine key _ _ filesB_run ?_ hd
      show tokV 130 (ρ.tok 0) = _
      rw [h0]
      show Value.int .i64 (max n 16) = _
      congr 1; omega
    have hc : n = 0 ∨ n = 1 ∨ n = 2 ∨ n = 3 ∨ n = 4 ∨ n = 5 ∨ n = 6 ∨ n = 7 ∨ n = 8 ∨ n = 9 ∨ n = 10 ∨ n = 11 ∨ n = 12 ∨ n = 13 ∨ n = 14 ∨ n = 15 := by omega
    rcases hc with rfl | rfl | rfl | rfl | rfl | rfl | rfl | rfl | rfl | rfl | rfl | rfl | rfl | rfl | rfl | rfl
    · exact key _ _ files0_run rfl hd
    · exact key _ _ files1_run rfl hd
    · exact key _ _ files2_run rfl hd
    · exact key _ _ files3_run rfl hd
    · exact key _ _ files4_run rfl hd
    · exact key _ _ files5_run rfl hd
    · exact key _ _ files6_run rfl hd
    · exact key _ _ files7_run rfl hd
    · exact key _ _ files8_run rfl hd
    · exact key _ _ files9_run rfl hd
    · exact key _ _ files10_run rfl hd
    · exact key _ _ files11_run rfl hd
    · exact key _ _ files12_run rfl hd
    · exact key _ _ files13_run rfl hd
    · exact key _ _ files14_run rfl hd
    · exact key _ _ files15_run rfl hd
  · have hd : (V.tok 1580877).val ρ = .string s := by
      show tokV 1580877 (ρ.tok 3) = _
      rw [h3]
      show Value.string (if 1001 ≤ s.size then s else ⟨Array.replicate 1001 0⟩) = _
      rw [if_pos (by omega)]
    refine key _ _ filesL_run ?_ hd
    show tokV 0 (ρ.tok 0) = _
    rw [h0]; rfl
end Go.Proofs.YtndhfcdmgjkmjaaGreat
