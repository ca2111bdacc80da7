/- Parts of the run, told once: mD21. -/
import Derived.Test.YtkjdlganghbgaaaGreatDoorDO
namespace Go.Proofs.YtkjdlganghbgaaaGreatDoor
open Go.Ex Go.Proofs
set_option maxRecDepth 1000000

noncomputable def mD21 : Memo := ⟨(.cons (.ptr (q 9747) 0) (.cons (.agg (.cons (z5 256) (.cons (z5 128) (.cons (z5 8) (.cons (z5 1) (.cons (z5 129) (.cons (z5 1) (.cons (z5 130) (.cons (z5 4) (.cons (z5 134) .nil)))))))))) .nil)),
  [(q 9747, Dob105),(q 9746, .big 256 1 (.cons z1 .nil) (trL []) 4 none),(q 9749, Dob98),(q 9745, Dob99)],
  q 9772, (.tup (.cons .nslc (.cons z3 .nil))),
  [(q 9747, Dob105),(q 9746, .big 256 1 (.cons z1 .nil) (trL []) 4 none),(q 9749, Dob98),(q 9745, Dob99)],
  q 9800⟩
theorem mD21_run : zAc Tryz.T Tryz.F (brC Tryz.T) (ntOf natL) 20000 200 81 mD21 = true := by kernel_rfl
theorem mD21_ok {ρ : Env} {slow : CF} (hs : CfOK Tryz.prog ρ 81 slow) : CfOK Tryz.prog ρ 81 (zAe mD21 slow) := zAd Tryz.T_ok Tryz.F_ok (fun _ => zAh mixed Tryz.T_ok) (fun _ => zAb natOK) mD21_run hs
end Go.Proofs.YtkjdlganghbgaaaGreatDoor
namespace Go.Proofs.YtkjdlganghbgaaaGreatDoor
open Go.Ex Go.Proofs
set_option maxRecDepth 1000000

noncomputable def mD22 : Memo := ⟨(.cons (.agg (.cons (z5 256) (.cons (z5 128) (.cons (z5 8) (.cons (z5 1) (.cons (z5 129) (.cons (z5 1) (.cons (z5 130) (.cons (z5 4) (.cons (z5 134) .nil)))))))))) (.cons (.fn 77 (.cons (.ptr (q 9747) 0) .nil) .nil) .nil)),
  [(q 9747, Dob105),(q 9746, .big 256 1 (.cons z1 .nil) (trL []) 4 none),(q 9749, Dob98),(q 9745, Dob99)],
  q 9800, .nslc,
  [(q 9747, Dob105),(q 9746, .big 256 1 (.cons z1 .nil) (trL []) 4 none),(q 9749, Dob98),(q 9745, Dob99)],
  q 10163⟩
theorem mD22_run : zAc Tryz.T Tryz.F (brC Tryz.T) (ntOf natL) 20000 200 82 mD22 = true := by kernel_rfl
theorem mD22_ok {ρ : Env} {slow : CF} (hs : CfOK Tryz.prog ρ 82 slow) : CfOK Tryz.prog ρ 82 (zAe mD22 slow) := zAd Tryz.T_ok Tryz.F_ok (fun _ => zAh mixed Tryz.T_ok) (fun _ => zAb natOK) mD22_run hs
end Go.Proofs.YtkjdlganghbgaaaGreatDoor
namespace Go.Proofs.YtkjdlganghbgaaaGreatDoor
open Go.Ex Go.Proofs
set_option maxRecDepth 1000000

noncomputable def natS : List (FuncId × CF) := (82,(zAe mD22 (fnC Tryz.T Tryz.F 82))) :: (81,(zAe mD21 (fnC Tryz.T Tryz.F 81))) :: natL
theorem natS_ok {ρ : Env} : ∀ x ∈ natS, CfOK Tryz.prog ρ x.1 x.2 := (zB4 (mD22_ok (fnw (by decide +kernel))) (zB4 (mD21_ok (fnw (by decide +kernel))) natOK))
noncomputable def mD23 : Memo := ⟨(.cons (.str 32768 Dnum0) .nil),
  [],
  q 9234, .nslc,
  [],
  q 10163⟩
theorem mD23_run : zAc Tryz.T Tryz.F (brC Tryz.T) (ntOf natS) 20000 200 43 mD23 = true := by kernel_rfl
theorem mD23_ok {ρ : Env} {slow : CF} (hs : CfOK Tryz.prog ρ 43 slow) : CfOK Tryz.prog ρ 43 (zAe mD23 slow) := zAd Tryz.T_ok Tryz.F_ok (fun _ => zAh mixed Tryz.T_ok) (fun _ => zAb natS_ok) mD23_run hs
end Go.Proofs.YtkjdlganghbgaaaGreatDoor
