/- The end of the run of worlds' none: lives, in all its ways, and the law in every case. -/
import Derived.Test.YtncnheodmcfmmaaGreatDoorWE
import Derived.Test.YtncnheodmcfmmaaGreatDoorWH
import Derived.Test.YtncnheodmcfmmaaGreatDoorWI
import Derived.Test.YtncnheodmcfmmaaGreatDoorWJ
import Derived.Test.YtncnheodmcfmmaaGreatDoorWK
import Derived.Test.YtncnheodmcfmmaaGreatDoorWL
import Derived.Test.YtncnheodmcfmmaaGreatDoorWM
import Derived.Test.YtncnheodmcfmmaaGreatDoorWN
import Derived.Test.YtncnheodmcfmmaaGreatDoorWS
import Derived.Test.YtncnheodmcfmmaaGreatDoorWT
import Derived.Test.YtncnheodmcfmmaaGreatDoorWU
import Derived.Test.YtncnheodmcfmmaaGreatDoorWW
namespace Go.Proofs.YtncnheodmcfmmaaGreatDoor
open Go.Ex Go.Proofs
set_option maxRecDepth 1000000

noncomputable def wrC : CF := memoC mW31 (memoC mW29 (memoC mW27 (memoC mW25 (memoC mW23 (memoC mW13 (memoC mW10 (fnC Tryz.T Tryz.F 31)))))))
theorem wrC_ok {ρ : Env} : CfOK Tryz.prog ρ 31 wrC := mW31_ok (mW29_ok (mW27_ok (mW25_ok (mW23_ok (mW13_ok (mW10_ok (fnw (by decide +kernel))))))))
noncomputable def failsC : CF := memoC mW24 (memoC mW17 (fnC Tryz.T Tryz.F 14))
theorem failsC_ok {ρ : Env} : CfOK Tryz.prog ρ 14 failsC := mW24_ok (mW17_ok (fnw (by decide +kernel)))
noncomputable def natW : List (FuncId × CF) := (20, memoC mW5 (fnC Tryz.T Tryz.F 20)) :: (59, memoC mW8 (fnC Tryz.T Tryz.F 59)) :: (28, memoC mW9 (fnC Tryz.T Tryz.F 28)) :: (31, wrC) :: (68, memoC mW12 (fnC Tryz.T Tryz.F 68)) :: (14, failsC) :: (40, memoC mW18 (fnC Tryz.T Tryz.F 40)) :: (9, memoC mW19 (fnC Tryz.T Tryz.F 9)) :: (12, memoC mW22 (fnC Tryz.T Tryz.F 12)) :: natL
theorem natW_ok {ρ : Env} : ∀ x ∈ natW, CfOK Tryz.prog ρ x.1 x.2 := cons_ok (mW5_ok (fnw (by decide +kernel))) (cons_ok (mW8_ok (fnw (by decide +kernel))) (cons_ok (mW9_ok (fnw (by decide +kernel))) (cons_ok wrC_ok (cons_ok (mW12_ok (fnw (by decide +kernel))) (cons_ok failsC_ok (cons_ok (mW18_ok (fnw (by decide +kernel))) (cons_ok (mW19_ok (fnw (by decide +kernel))) (cons_ok (mW22_ok (fnw (by decide +kernel))) natOK))))))))
/-- run in all ways: lives, a world's Do, a system's Do, sync, and the commit, which unpins blocks in some order. -/
def bsL (f : FuncId) : Bool := Nat.beq f 5 || Nat.beq f 6 || Nat.beq f 16 || Nat.beq f 44 || Nat.beq f 26
theorem livesW_run : lawS (callK Tryz.T Tryz.F (brC Tryz.T) (ntOf natW) 20000 200) Tryz.T Tryz.F bsL 20000 200 5 .nil (q 0) = true := by kernel_rfl
theorem livesW : Holds Tryz.prog 5 := fun w =>
  lawS_ok (ρ := ⟨fun _ => .int .i64 0, T5.new⟩) mixed Tryz.T_ok Tryz.F_ok (fun _ => ntOf_ok natW_ok) (nonext Tryz.func5 (by kernel_rfl) (by kernel_rfl)) livesW_run ⟨rfl, fun i a b ha => (by cases ha)⟩ w
noncomputable def natD : List (FuncId × CF) := (5, trueC) :: natL
theorem natD_ok {ρ : Env} : ∀ x ∈ natD, CfOK Tryz.prog ρ x.1 x.2 := cons_ok (true_ok (nonext Tryz.func5 (by kernel_rfl) (by kernel_rfl)) livesW) natOK
/-- a step of which nothing is known, and two numbers. -/
noncomputable def aW : V := .cons (.agg (.cons (.tok 0) (.cons (.tok 524293) (.cons (.tok 1048581) (.cons (.tok 1572864) (.cons (.tok 2097152) (.cons (.tok 2621445) (.cons (.tok 3145759) (.cons (.tok 3670047) (.cons (.tok 4194335) (.cons (.tok 4718592) (.cons (.tok 5242895) .nil)))))))))))) (.cons (.tok 5767168) (.cons (.tok 6291456) .nil))
/-- run in all ways: the law, both Beyond, and what is asked of the numbers. -/
def bsW (f : FuncId) : Bool := Nat.beq f 3 || Nat.beq f 4 || Nat.beq f 11 || Nat.beq f 10 || Nat.beq f 20 || Nat.beq f 51
theorem worlds_run : lawS (callK Tryz.T Tryz.F (brC Tryz.T) (ntOf natD) 20000 200) Tryz.T Tryz.F bsW 20000 200 3 aW (q 1) = true := by kernel_rfl
theorem step_rv {r : Ren} {kd : Int} {p o : ByteArray} {fd n : Int} {s : ByteArray} {on ag cr : Bool} {ac : Int} {k0 kp : Value} (hk : RV r k0 kp) :
    RV r (.agg #[.int .i64 kd, .string p, .string o, .int .i64 fd, .int .i64 n, .string s, .bool on, .bool ag, .bool cr, .int .i64 ac, k0]) (.agg #[.int .i64 kd, .string p, .string o, .int .i64 fd, .int .i64 n, .string s, .bool on, .bool ag, .bool cr, .int .i64 ac, kp]) :=
  .agg rfl fun i x y hx hy => by
    match i with
    | 0 => simp at hx hy; subst hx; subst hy; exact .int _ _
    | 1 => simp at hx hy; subst hx; subst hy; exact .str _
    | 2 => simp at hx hy; subst hx; subst hy; exact .str _
    | 3 => simp at hx hy; subst hx; subst hy; exact .int _ _
    | 4 => simp at hx hy; subst hx; subst hy; exact .int _ _
    | 5 => simp at hx hy; subst hx; subst hy; exact .str _
    | 6 => simp at hx hy; subst hx; subst hy; exact .bool _
    | 7 => simp at hx hy; subst hx; subst hy; exact .bool _
    | 8 => simp at hx hy; subst hx; subst hy; exact .bool _
    | 9 => simp at hx hy; subst hx; subst hy; exact .int _ _
    | 10 => simp at hx hy; subst hx; subst hy; exact hk
    | i + 11 => simp at hx
/-- the law, at any input. -/
theorem worlds_any (kd : Int) (p o : ByteArray) (fd n : Int) (s : ByteArray) (on ag cr : Bool) (ac : Int) (kp : Value) (bl lg : Int) (w : World) (hkp : kp = .slice none 0 0 ∨ ∃ (B off len cap : Nat), kp = .slice (some ⟨B, off, none⟩) len cap ∧ B < w.heap.size ∧ len ≤ cap) :
    Calls Tryz.prog 3 #[.agg #[.int .i64 kd, .string p, .string o, .int .i64 fd, .int .i64 n, .string s, .bool on, .bool ag, .bool cr, .int .i64 ac, kp], .int .i64 bl, .int .i64 lg] w fun e w' => e = .returned (.bool true) ∧ RowKit.Below w.heap.size w w' := by
  obtain ⟨r, a, l, c, hW, hk⟩ : ∃ (r : Ren) (a : Option Addr) (l c : Nat), RW r ⟨.lf, 1⟩ w ∧ RV r (.slice a l c) kp := by
    rcases hkp with rfl | ⟨B, off, len, cap, rfl, hB, hl⟩
    · exact ⟨fun _ => none, none, 0, 0, ⟨fun i o hi => (by cases hi), fun i j o p b c d hi => (by cases hi), fun i x hi => (by cases hi), fun i b c hi => (by cases hi)⟩, .nilSlice 0 0⟩
    · refine ⟨fun i => if i = 0 then some (B, cap) else none, some ⟨0, off, none⟩, len, unk + 0, ⟨fun i o hi => (by cases hi), fun i j o p b c d hi => (by cases hi), fun i x hi => ?_, fun i b c hi => ?_⟩, .sliceU (if_pos rfl) len rfl hl⟩
      · show i < 1
        by_cases h0 : i = 0
        · omega
        · rw [if_neg h0] at hi; cases hi
      · by_cases h0 : i = 0
        · rw [if_pos h0] at hi
          injection hi with hi
          injection hi with h1 _
          omega
        · rw [if_neg h0] at hi; cases hi
  obtain ⟨ρ, h0, h1, h2, h3, h4, h5, h6, h7, h8, h9, h10, h11, h12⟩ : ∃ ρ : Env, ρ.tok 0 = .int .i64 kd ∧ ρ.tok 1 = .string p ∧ ρ.tok 2 = .string o ∧ ρ.tok 3 = .int .i64 fd ∧ ρ.tok 4 = .int .i64 n ∧ ρ.tok 5 = .string s ∧ ρ.tok 6 = .bool on ∧ ρ.tok 7 = .bool ag ∧ ρ.tok 8 = .bool cr ∧ ρ.tok 9 = .int .i64 ac ∧ ρ.tok 10 = .slice a l c ∧ ρ.tok 11 = .int .i64 bl ∧ ρ.tok 12 = .int .i64 lg :=
    ⟨⟨fun j => if j = 0 then .int .i64 kd else if j = 1 then .string p else if j = 2 then .string o else if j = 3 then .int .i64 fd else if j = 4 then .int .i64 n else if j = 5 then .string s else if j = 6 then .bool on else if j = 7 then .bool ag else if j = 8 then .bool cr else if j = 9 then .int .i64 ac else if j = 10 then .slice a l c else if j = 11 then .int .i64 bl else .int .i64 lg, T5.new⟩, rfl, rfl, rfl, rfl, rfl, rfl, rfl, rfl, rfl, rfl, rfl, rfl, rfl⟩
  have hv : aW.vals ρ = [.agg #[.int .i64 kd, .string p, .string o, .int .i64 fd, .int .i64 n, .string s, .bool on, .bool ag, .bool cr, .int .i64 ac, .slice a l c], .int .i64 bl, .int .i64 lg] := by
    show [Value.agg ⟨[tokV 0 (ρ.tok 0), tokV 524293 (ρ.tok 1), tokV 1048581 (ρ.tok 2), tokV 1572864 (ρ.tok 3), tokV 2097152 (ρ.tok 4), tokV 2621445 (ρ.tok 5), .bool (tokB (ρ.tok 6)), .bool (tokB (ρ.tok 7)), .bool (tokB (ρ.tok 8)), tokV 4718592 (ρ.tok 9), tokSl (ρ.tok 10)]⟩, tokV 5767168 (ρ.tok 11), tokV 6291456 (ρ.tok 12)] = _
    rw [h0, h1, h2, h3, h4, h5, h6, h7, h8, h9, h10, h11, h12]
    have et : ∀ x : ByteArray, tokL 0 (.string x) = x := fun x => if_pos (e := (⟨Array.replicate 0 0⟩ : ByteArray)) (Nat.zero_le x.size)
    show [Value.agg ⟨[.int .i64 kd, .string (tokL 0 (.string p)), .string (tokL 0 (.string o)), .int .i64 fd, .int .i64 n, .string (tokL 0 (.string s)), .bool on, .bool ag, .bool cr, .int .i64 ac, .slice a l c]⟩, .int .i64 bl, .int .i64 lg] = _
    rw [et, et, et]
  refine lawS_okr (ρ := ρ) mixed Tryz.T_ok Tryz.F_ok (fun _ => ntOf_ok natD_ok) (nonext Tryz.func3 (by kernel_rfl) (by kernel_rfl)) worlds_run hW ?_
  rw [hv]
  refine ⟨rfl, fun i x y hx hy => ?_⟩
  match i with
  | 0 => simp at hx hy; subst hx; subst hy; exact step_rv hk
  | 1 => simp at hx hy; subst hx; subst hy; exact .int _ _
  | 2 => simp at hx hy; subst hx; subst hy; exact .int _ _
  | i + 3 => simp at hx
end Go.Proofs.YtncnheodmcfmmaaGreatDoor
