/- The closure of a function, in stages. -/
import Derived.Test.YtkjdlganghbgaaaGreatDoorProg
import GoSem.ClaimFn
import Derived.KernelRfl
import Derived.ProofKit
import Derived.OpenShut
namespace Go.Proofs.YtkjdlganghbgaaaGreatDoor
open Go.ChangeShapes Go.WideShapes Go.ChangeAt Go.RowKit
set_option maxRecDepth 100000
def csts (P : Program) : Nat → List FuncId → List FuncId → List FuncId × List FuncId
  | 0, t, s => (t, s)
  | _ + 1, [], s => ([], s)
  | n + 1, f :: t, s => if s.contains f then csts P n t s else csts P n ((P.funcs[f]?).elim [] P.leadsTo ++ t) (f :: s)
theorem via_nil (P : Program) (n : Nat) (s : List FuncId) : P.closureVia n [] s = s.reverse := by cases n <;> rfl
theorem via_csts (P : Program) (n : Nat) : ∀ (k : Nat) (t s : List FuncId), P.closureVia (k + n) t s = P.closureVia n (csts P k t s).1 (csts P k t s).2
  | 0, t, s => by rw [Nat.zero_add]; rfl
  | k + 1, [], s => by rw [via_nil]; exact (via_nil P n s).symm
  | k + 1, f :: t, s => by
    rw [Nat.succ_add]
    rw [Program.closureVia, csts]
    by_cases h : s.contains f = true
    · rw [if_pos h, if_pos h]; exact via_csts P n k t s
    · rw [if_neg h, if_neg h]; exact via_csts P n k _ _
theorem sum_take (l : List Nat) (k : Nat) : (l.take k).sum ≤ l.sum := by
  conv => rhs; rw [← List.take_append_drop k l, List.sum_append]
  omega
theorem fuel0 : (((Tryz.prog.funcs.toList.drop 0).take 205).map fun g => (Tryz.prog.leadsTo g).length + 1).sum = 799 := by kernel_rfl
theorem fuel1 : (((Tryz.prog.funcs.toList.drop 205).take 205).map fun g => (Tryz.prog.leadsTo g).length + 1).sum = 637 := by kernel_rfl
theorem fuel_ok : 1436 ≤ 1 + (Tryz.prog.funcs.toList.map fun g => (Tryz.prog.leadsTo g).length + 1).sum := by
  have h1 := sum_take (Tryz.prog.funcs.toList.map fun g => (Tryz.prog.leadsTo g).length + 1) 410
  rw [← List.map_take, show (410 : Nat) = 205 + 205 from rfl, List.take_add, List.map_append, List.sum_append] at h1
  have f0 := fuel0
  rw [List.drop_zero] at f0
  rw [f0, fuel1] at h1
  omega
end Go.Proofs.YtkjdlganghbgaaaGreatDoor
