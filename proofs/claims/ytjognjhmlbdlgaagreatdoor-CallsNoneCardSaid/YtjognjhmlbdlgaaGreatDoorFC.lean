/- The end of the run of calls' none: lives, and the law in every case. -/
import Derived.Test.YtjognjhmlbdlgaaGreatDoorGE
import Derived.Test.YtjognjhmlbdlgaaGreatDoorGH
import Derived.Test.YtjognjhmlbdlgaaGreatDoorCA
import Derived.Test.YtjognjhmlbdlgaaGreatDoorCB
import Derived.Test.YtjognjhmlbdlgaaGreatDoorCC
import Derived.Test.YtjognjhmlbdlgaaGreatDoorCD
import Derived.Test.YtjognjhmlbdlgaaGreatDoorCE
import Derived.Test.YtjognjhmlbdlgaaGreatDoorCF
import Derived.Test.YtjognjhmlbdlgaaGreatDoorCG
import Derived.Test.YtjognjhmlbdlgaaGreatDoorCH
import Derived.Test.YtjognjhmlbdlgaaGreatDoorCI
import Derived.Test.YtjognjhmlbdlgaaGreatDoorCJ
import Derived.Test.YtjognjhmlbdlgaaGreatDoorCK
import Derived.Test.YtjognjhmlbdlgaaGreatDoorCL
namespace Go.Proofs.YtjognjhmlbdlgaaGreatDoor
open Go.Ex Go.Proofs
set_option maxRecDepth 1000000

theorem gm {ρ : Env} {f : FuncId} (hf : (Tryz.F.get f).isSome = true) : CfOK Tryz.prog ρ f (fnC Tryz.T Tryz.F f) := fnC_ok mixed Tryz.T_ok Tryz.F_ok hf
noncomputable def doC : CF := (memoC mC12 (memoC mC11 (memoC mC10 (memoC mC9 (memoC mC8 (memoC mC7 (memoC mC6 (memoC mC5 (memoC mC4 (memoC mC3 (memoC mC2 (memoC mC1 (fnC Tryz.T Tryz.F 9)))))))))))))
theorem doC_ok {ρ : Env} : CfOK Tryz.prog ρ 9 doC := mC12_ok (mC11_ok (mC10_ok (mC9_ok (mC8_ok (mC7_ok (mC6_ok (mC5_ok (mC4_ok (mC3_ok (mC2_ok (mC1_ok (gm (by decide +kernel)))))))))))))
noncomputable def natC : List (FuncId × CF) := (42, memoC mG5 (fnC Tryz.T Tryz.F 42)) :: (43, memoC mG8 (fnC Tryz.T Tryz.F 43)) :: (9, doC) :: natL
theorem natC_ok {ρ : Env} : ∀ x ∈ natC, CfOK Tryz.prog ρ x.1 x.2 := cons_ok (mG5_ok (gm (by decide +kernel))) (cons_ok (mG8_ok (gm (by decide +kernel))) (cons_ok doC_ok natOK))
theorem livesC_run : lawAt Tryz.T Tryz.F (ntOf natC) 20000 200 6 .nil (q 18) = true := by kernel_rfl
theorem livesC : Holds Tryz.prog 6 := fun w =>
  lawAt_ok (ρ := ⟨fun _ => .int .i64 0, T5.new⟩) mixed Tryz.T_ok Tryz.F_ok (fun _ => ntOf_ok natC_ok) (nonext Tryz.func6 (by kernel_rfl) (by kernel_rfl)) livesC_run ⟨rfl, fun i a b ha => (by cases ha)⟩ w
noncomputable def natD : List (FuncId × CF) := (42, memoC mG5 (fnC Tryz.T Tryz.F 42)) :: (43, memoC mG8 (fnC Tryz.T Tryz.F 43)) :: (6, trueC) :: natL
theorem natD_ok {ρ : Env} : ∀ x ∈ natD, CfOK Tryz.prog ρ x.1 x.2 := cons_ok (mG5_ok (gm (by decide +kernel))) (cons_ok (mG8_ok (gm (by decide +kernel))) (cons_ok (true_ok (nonext Tryz.func6 (by kernel_rfl) (by kernel_rfl)) livesC) natOK))
/-- a call of which nothing is known, and a kind. -/
noncomputable def aC (k : V) : V := .cons (.agg (.cons (.tok 0) (.cons (.tok 524293) (.cons (.tok 1048581) (.cons (.tok 1572864) (.cons (.tok 2097152) (.cons (.tok 2621445) (.cons (.tok 3145759) .nil)))))))) (.cons k .nil)
/-- run in all ways: the law, and Beyond. -/
def bsC (f : FuncId) : Bool := Nat.beq f 3 || Nat.beq f 5
noncomputable def lawC (k : V) : Bool := lawS (callK Tryz.T Tryz.F (brC Tryz.T) (ntOf natD) 20000 200) Tryz.T Tryz.F bsC 20000 200 3 (aC k) (q 0)
theorem callsN_run : lawC (.tok 3670017) = true := by kernel_rfl
theorem callsB_run : lawC (.tok 3670186) = true := by kernel_rfl
theorem calls0_run : lawC (.int .i64 0) = true := by kernel_rfl
theorem calls1_run : lawC (.int .i64 1) = true := by kernel_rfl
theorem calls2_run : lawC (.int .i64 2) = true := by kernel_rfl
theorem calls3_run : lawC (.int .i64 3) = true := by kernel_rfl
theorem calls4_run : lawC (.int .i64 4) = true := by kernel_rfl
theorem calls5_run : lawC (.int .i64 5) = true := by kernel_rfl
theorem calls6_run : lawC (.int .i64 6) = true := by kernel_rfl
theorem calls7_run : lawC (.int .i64 7) = true := by kernel_rfl
theorem calls8_run : lawC (.int .i64 8) = true := by kernel_rfl
theorem calls9_run : lawC (.int .i64 9) = true := by kernel_rfl
theorem calls10_run : lawC (.int .i64 10) = true := by kernel_rfl
theorem calls11_run : lawC (.int .i64 11) = true := by kernel_rfl
theorem calls12_run : lawC (.int .i64 12) = true := by kernel_rfl
theorem calls13_run : lawC (.int .i64 13) = true := by kernel_rfl
theorem calls14_run : lawC (.int .i64 14) = true := by kernel_rfl
theorem calls15_run : lawC (.int .i64 15) = true := by kernel_rfl
theorem calls16_run : lawC (.int .i64 16) = true := by kernel_rfl
theorem calls17_run : lawC (.int .i64 17) = true := by kernel_rfl
theorem calls18_run : lawC (.int .i64 18) = true := by kernel_rfl
theorem calls19_run : lawC (.int .i64 19) = true := by kernel_rfl
theorem calls20_run : lawC (.int .i64 20) = true := by kernel_rfl
/-- the law, at any input. -/
theorem calls_any (kd : Int) (a b : ByteArray) (fd n : Int) (s : ByteArray) (on : Bool) (k : Int) (w : World) : Calls Tryz.prog 3 #[.agg #[.int .i64 kd, .string a, .string b, .int .i64 fd, .int .i64 n, .string s, .bool on], .int .i64 k] w fun e w' => e = .returned (.bool true) ∧ RowKit.Below w.heap.size w w' := by
  obtain ⟨ρ, h0, h1, h2, h3, h4, h5, h6, h7⟩ : ∃ ρ : Env, ρ.tok 0 = .int .i64 kd ∧ ρ.tok 1 = .string a ∧ ρ.tok 2 = .string b ∧ ρ.tok 3 = .int .i64 fd ∧ ρ.tok 4 = .int .i64 n ∧ ρ.tok 5 = .string s ∧ ρ.tok 6 = .bool on ∧ ρ.tok 7 = .int .i64 k :=
    ⟨⟨fun j => if j = 0 then .int .i64 kd else if j = 1 then .string a else if j = 2 then .string b else if j = 3 then .int .i64 fd else if j = 4 then .int .i64 n else if j = 5 then .string s else if j = 6 then .bool on else .int .i64 k, T5.new⟩, rfl, rfl, rfl, rfl, rfl, rfl, rfl, rfl⟩
  have key : ∀ kv : V, lawC kv = true → kv.val ρ = .int .i64 k →
      Calls Tryz.prog 3 #[.agg #[.int .i64 kd, .string a, .string b, .int .i64 fd, .int .i64 n, .string s, .bool on], .int .i64 k] w fun e w' => e = .returned (.bool true) ∧ RowKit.Below w.heap.size w w' := fun kv hr e1 => by
    have hv : (aC kv).vals ρ = [.agg #[.int .i64 kd, .string a, .string b, .int .i64 fd, .int .i64 n, .string s, .bool on], .int .i64 k] := by
      show [Value.agg ⟨[tokV 0 (ρ.tok 0), tokV 524293 (ρ.tok 1), tokV 1048581 (ρ.tok 2), tokV 1572864 (ρ.tok 3), tokV 2097152 (ρ.tok 4), tokV 2621445 (ρ.tok 5), .bool (tokB (ρ.tok 6))]⟩, kv.val ρ] = _
      rw [e1, h0, h1, h2, h3, h4, h5, h6]
      have et : ∀ x : ByteArray, tokL 0 (.string x) = x := fun x => if_pos (e := (⟨Array.replicate 0 0⟩ : ByteArray)) (Nat.zero_le x.size)
      show [Value.agg ⟨[.int .i64 kd, .string (tokL 0 (.string a)), .string (tokL 0 (.string b)), .int .i64 fd, .int .i64 n, .string (tokL 0 (.string s)), .bool on]⟩, .int .i64 k] = _
      rw [et, et, et]
    refine lawS_ok (ρ := ρ) mixed Tryz.T_ok Tryz.F_ok (fun _ => ntOf_ok natD_ok) (nonext Tryz.func3 (by kernel_rfl) (by kernel_rfl)) hr ?_ w
    rw [hv]
    exact rvs_flat fun v hv => by
      simp only [List.mem_cons, List.not_mem_nil, or_false] at hv
      rcases hv with rfl | rfl <;> rfl
  by_cases hn : k < 0
  · refine key _ callsN_run ?_
    show tokV 1 (ρ.tok 7) = _
    rw [h7]
    show Value.int .i64 (min k (-1)) = _
    congr 1; omega
  by_cases hb : 21 ≤ k
  · refine key _ callsB_run ?_
    show tokV 170 (ρ.tok 7) = _
    rw [h7]
    show Value.int .i64 (max k 21) = _
    congr 1; omega
  have hc : k = 0 ∨ k = 1 ∨ k = 2 ∨ k = 3 ∨ k = 4 ∨ k = 5 ∨ k = 6 ∨ k = 7 ∨ k = 8 ∨ k = 9 ∨ k = 10 ∨ k = 11 ∨ k = 12 ∨ k = 13 ∨ k = 14 ∨ k = 15 ∨ k = 16 ∨ k = 17 ∨ k = 18 ∨ k = 19 ∨ k = 20 := by omega
  rcases hc with rfl | rfl | rfl | rfl | rfl | rfl | rfl | rfl | rfl | rfl | rfl | rfl | rfl | rfl | rfl | rfl | rfl | rfl | rfl | rfl | rfl
  · exact key _ calls0_run rfl
  · exact key _ calls1_run rfl
  · exact key _ calls2_run rfl
  · exact key _ calls3_run rfl
  · exact key _ calls4_run rfl
  · exact key _ calls5_run rfl
  · exact key _ calls6_run rfl
  · exact key _ calls7_run rfl
  · exact key _ calls8_run rfl
  · exact key _ calls9_run rfl
  · exact key _ calls10_run rfl
  · exact key _ calls11_run rfl
  · exact key _ calls12_run rfl
  · exact key _ calls13_run rfl
  · exact key _ calls14_run rfl
  · exact key _ calls15_run rfl
  · exact key _ calls16_run rfl
  · exact key _ calls17_run rfl
  · exact key _ calls18_run rfl
  · exact key _ calls19_run rfl
  · exact key _ calls20_run rfl
end Go.Proofs.YtjognjhmlbdlgaaGreatDoor
