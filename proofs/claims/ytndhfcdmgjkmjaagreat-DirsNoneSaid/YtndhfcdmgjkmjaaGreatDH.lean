/- The end of the run of directories' none: lives, and the law in every case. -/
import Derived.Test.YtndhfcdmgjkmjaaGreatDG
namespace Go.Proofs.YtndhfcdmgjkmjaaGreat
open Go.Ex Go.Proofs
set_option maxRecDepth 1000000

theorem livesD_run : lawAt Tryz.T Tryz.F (ntOf nat_mD6) 20000 200 12 .nil (q 0) = true := by kernel_rfl
theorem livesD : Holds Tryz.prog 12 := fun w =>
  lawAt_ok (ρ := ⟨fun _ => .int .i64 0, T5.new⟩) mixed Tryz.T_ok Tryz.F_ok (fun _ => ntOf_ok nat_mD6_ok) (nonext Tryz.func12 (by kernel_rfl) (by kernel_rfl)) livesD_run ⟨rfl, fun i a b ha => (by cases ha)⟩ w
noncomputable def natD : List (FuncId × CF) := (12, trueC) :: nat_mD7
theorem natD_ok {ρ : Env} : ∀ x ∈ natD, CfOK Tryz.prog ρ x.1 x.2 := cons_ok (true_ok (nonext Tryz.func12 (by kernel_rfl) (by kernel_rfl)) livesD) nat_mD7_ok
noncomputable def aD (n d : V) : V := .cons n (.cons (.tok 524288) (.cons d .nil))
theorem dirsL_run : lawAt Tryz.T Tryz.F (ntOf natD) 20000 200 4 (aD (.tok 0) (.tok 1049389)) (q 0) = true := by kernel_rfl
theorem dirsN_run : lawAt Tryz.T Tryz.F (ntOf natD) 20000 200 4 (aD (.tok 1) (.tok 1049379)) (q 0) = true := by kernel_rfl
theorem dirsB_run : lawAt Tryz.T Tryz.F (ntOf natD) 20000 200 4 (aD (.tok 130) (.tok 1049379)) (q 0) = true := by kernel_rfl
theorem dirs0_run : lawAt Tryz.T Tryz.F (ntOf natD) 20000 200 4 (aD (.int .i64 0) (.tok 1049379)) (q 0) = true := by kernel_rfl
theorem dirs1_run : lawAt Tryz.T Tryz.F (ntOf natD) 20000 200 4 (aD (.int .i64 1) (.tok 1049379)) (q 0) = true := by kernel_rfl
theorem dirs2_run : lawAt Tryz.T Tryz.F (ntOf natD) 20000 200 4 (aD (.int .i64 2) (.tok 1049379)) (q 0) = true := by kernel_rfl
theorem dirs3_run : lawAt Tryz.T Tryz.F (ntOf natD) 20000 200 4 (aD (.int .i64 3) (.tok 1049379)) (q 0) = true := by kernel_rfl
theorem dirs4_run : lawAt Tryz.T Tryz.F (ntOf natD) 20000 200 4 (aD (.int .i64 4) (.tok 1049379)) (q 0) = true := by kernel_rfl
theorem dirs5_run : lawAt Tryz.T Tryz.F (ntOf natD) 20000 200 4 (aD (.int .i64 5) (.tok 1049379)) (q 0) = true := by kernel_rfl
theorem dirs6_run : lawAt Tryz.T Tryz.F (ntOf natD) 20000 200 4 (aD (.int .i64 6) (.tok 1049379)) (q 0) = true := by kernel_rfl
theorem dirs7_run : lawAt Tryz.T Tryz.F (ntOf natD) 20000 200 4 (aD (.int .i64 7) (.tok 1049379)) (q 0) = true := by kernel_rfl
theorem dirs8_run : lawAt Tryz.T Tryz.F (ntOf natD) 20000 200 4 (aD (.int .i64 8) (.tok 1049379)) (q 0) = true := by kernel_rfl
theorem dirs9_run : lawAt Tryz.T Tryz.F (ntOf natD) 20000 200 4 (aD (.int .i64 9) (.tok 1049379)) (q 0) = true := by kernel_rfl
theorem dirs10_run : lawAt Tryz.T Tryz.F (ntOf natD) 20000 200 4 (aD (.int .i64 10) (.tok 1049379)) (q 0) = true := by kernel_rfl
theorem dirs11_run : lawAt Tryz.T Tryz.F (ntOf natD) 20000 200 4 (aD (.int .i64 11) (.tok 1049379)) (q 0) = true := by kernel_rfl
theorem dirs12_run : lawAt Tryz.T Tryz.F (ntOf natD) 20000 200 4 (aD (.int .i64 12) (.tok 1049379)) (q 0) = true := by kernel_rfl
theorem dirs13_run : lawAt Tryz.T Tryz.F (ntOf natD) 20000 200 4 (aD (.int .i64 13) (.tok 1049379)) (q 0) = true := by kernel_rfl
theorem dirs14_run : lawAt Tryz.T Tryz.F (ntOf natD) 20000 200 4 (aD (.int .i64 14) (.tok 1049379)) (q 0) = true := by kernel_rfl
theorem dirs15_run : lawAt Tryz.T Tryz.F (ntOf natD) 20000 200 4 (aD (.int .i64 15) (.tok 1049379)) (q 0) = true := by kernel_rfl
theorem dirs_at {ρ : Env} {a : V} {l : List Value} (hrun : lawAt Tryz.T Tryz.F (ntOf natD) 20000 200 4 a (q 0) = true) (e : a.vals ρ = l) (hl : ∀ v ∈ l, flatB 4 v = true) (w : World) : Calls Tryz.prog 4 ⟨l⟩ w fun e w' => e = .returned (.bool true) ∧ RowKit.Below w.heap.size w w' :=
  lawAt_ok (ρ := ρ) mixed Tryz.T_ok Tryz.F_ok (fun _ => ntOf_ok natD_ok) (nonext Tryz.func4 (by kernel_rfl) (by kernel_rfl)) hrun (by rw [e]; exact rvs_flat hl) w
/-- the law, at any input. -/
theorem dirs_any (n p : Int) (s : ByteArray) (w : World) : Calls Tryz.prog 4 #[.int .i64 n, .int .i64 p, .string s] w fun e w' => e = .returned (.bool true) ∧ RowKit.Below w.heap.size w w' := by
  obtain ⟨ρ, h0, h1, h2⟩ : ∃ ρ : Env, ρ.tok 0 = .int .i64 n ∧ ρ.tok 1 = .int .i64 p ∧ ρ.tok 2 = .string s :=
    ⟨⟨fun j => if j = 0 then .int .i64 n else if j = 1 then .int .i64 p else .string s, T5.new⟩, rfl, rfl, rfl⟩
  have key : ∀ (d : V) (nv : V), lawAt Tryz.T Tryz.F (ntOf natD) 20000 200 4 (aD nv d) (q 0) = true → nv.val ρ = .int .i64 n → d.val ρ = .string s →
      Calls Tryz.prog 4 #[.int .i64 n, .int .i64 p, .string s] w fun e w' => e = .returned (.bool true) ∧ RowKit.Below w.heap.size w w' := fun d nv hr e1 e2 =>
    dirs_at (ρ := ρ) (l := [.int .i64 n, .int .i64 p, .string s]) hr (by
      show [nv.val ρ, tokV 524288 (ρ.tok 1), d.val ρ] = _
      rw [e1, e2, h1]; rfl) (fun v hv => by
        simp only [List.mem_cons, List.not_mem_nil, or_false] at hv
        rcases hv with rfl | rfl | rfl <;> rfl) w
  by_cases hs : s.size ≤ 100
  · have hd : (V.tok 1049379).val ρ = .string s := by
      show tokV 1049379 (ρ.tok 2) = _
      rw [h2]
      show Value.string (if s.size ≤ 100 then s else ⟨#[]⟩) = _
      rw [if_pos hs]
    by_cases hn : n < 0
    · refine key _ _ dirsN_run ?_ hd
      show tokV 1 (ρ.tok 0) = _
      rw [h0]
      show Value.int .i64 (min n (-1)) = _
      congr 1; omega
    by_cases hb : 16 ≤ n
    · refine key _ _ dirsB_run ?_ hd
      show tokV 130 (ρ.tok 0) = _
      rw [h0]
      show Value.int .i64 (max n 16) = _
      congr 1; omega
    have hc : n = 0 ∨ n = 1 ∨ n = 2 ∨ n = 3 ∨ n = 4 ∨ n = 5 ∨ n = 6 ∨ n = 7 ∨ n = 8 ∨ n = 9 ∨ n = 10 ∨ n = 11 ∨ n = 12 ∨ n = 13 ∨ n = 14 ∨ n = 15 := by omega
    rcases hc with rfl | rfl | rfl | rfl | rfl | rfl | rfl | rfl | rfl | rfl | rfl | rfl | rfl | rfl | rfl | rfl
    · exact key _ _ dirs0_run rfl hd
    · exact key _ _ dirs1_run rfl hd
    · exact key _ _ dirs2_run rfl hd
    · exact key _ _ dirs3_run rfl hd
    · exact key _ _ dirs4_run rfl hd
    · exact key _ _ dirs5_run rfl hd
    · exact key _ _ dirs6_run rfl hd
    · exact key _ _ dirs7_run rfl hd
    · exact key _ _ dirs8_run rfl hd
    · exact key _ _ dirs9_run rfl hd
    · exact key _ _ dirs10_run rfl hd
    · exact key _ _ dirs11_run rfl hd
    · exact key _ _ dirs12_run rfl hd
    · exact key _ _ dirs13_run rfl hd
    · exact key _ _ dirs14_run rfl hd
    · exact key _ _ dirs15_run rfl hd
  · have hd : (V.tok 1049389).val ρ = .string s := by
      show tokV 1049389 (ρ.tok 2) = _
      rw [h2]
      show Value.string (if 101 ≤ s.size then s else ⟨Array.replicate 101 0⟩) = _
      rw [if_pos (by omega)]
    refine key _ _ dirsL_run ?_ hd
    show tokV 0 (ρ.tok 0) = _
    rw [h0]; rfl
end Go.Proofs.YtndhfcdmgjkmjaaGreat
