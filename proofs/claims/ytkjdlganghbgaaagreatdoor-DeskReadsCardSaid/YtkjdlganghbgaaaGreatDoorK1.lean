/- Rows of the types 450 to 599. -/
import Derived.Test.YtkjdlganghbgaaaGreatDoorRows
import Derived.ProofKit
import Derived.OpenShut
import Derived.Test.YtkjdlganghbgaaaGreatDoorKA0
namespace Go.Proofs.YtkjdlganghbgaaaGreatDoor
open Go.ChangeShapes Go.WideShapes Go.ChangeAt Go.RowKit
set_option maxRecDepth 100000
theorem ka3 : (List.range' 450 150).all (rowFine Tryz.prog) = true := by kernel_rfl
end Go.Proofs.YtkjdlganghbgaaaGreatDoor
namespace Go.Proofs.YtkjdlganghbgaaaGreatDoor
open Go.ChangeShapes Go.WideShapes Go.ChangeAt Go.RowKit
set_option maxRecDepth 100000
theorem ka4 : (List.range' 600 142).all (rowFine Tryz.prog) = true := by kernel_rfl
end Go.Proofs.YtkjdlganghbgaaaGreatDoor
namespace Go.Proofs.YtkjdlganghbgaaaGreatDoor
open Go.ChangeShapes Go.WideShapes Go.ChangeAt Go.RowKit
set_option maxRecDepth 100000
theorem kparams : (Tryz.prog.globals.all (fun g => decide (g.type < Tryz.prog.types.size)) && Tryz.prog.funcs.all (fun f => f.params.all fun t => decide (t < Tryz.prog.types.size))) = true := by kernel_rfl
theorem k1 : laidOutB Tryz.prog = true := by
  unfold laidOutB
  rw [Bool.and_assoc, kparams, Bool.and_true, show Tryz.prog.types.size = 742 by kernel_rfl, List.range_eq_range', show List.range' 0 742 = List.range' 0 150 ++ (List.range' 150 150 ++ (List.range' 300 150 ++ (List.range' 450 150 ++ (List.range' 600 142)))) from rfl]
  rw [List.all_append, List.all_append, List.all_append, List.all_append, ka0, ka1, ka2, ka3, ka4]
  rfl
end Go.Proofs.YtkjdlganghbgaaaGreatDoor
