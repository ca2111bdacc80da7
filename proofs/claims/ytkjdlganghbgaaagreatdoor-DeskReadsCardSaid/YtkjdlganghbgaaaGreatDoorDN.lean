/- Parts of the run, told once: mD17. -/
import Derived.Test.YtkjdlganghbgaaaGreatDoorDO
namespace Go.Proofs.YtkjdlganghbgaaaGreatDoor
open Go.Ex Go.Proofs
set_option maxRecDepth 1000000

noncomputable def mD17 : Memo := ⟨(.cons (.ptr (q 7859) 0) (.cons (.agg (.cons (z5 256) (.cons (z5 128) (.cons (z5 8) (.cons (z5 1) (.cons (z5 129) (.cons (z5 1) (.cons (z5 130) (.cons (z5 4) (.cons (z5 134) .nil)))))))))) .nil)),
  [(q 7859, Dob97),(q 7858, .big 256 1 (.cons z1 .nil) (trL []) 4 none),(q 7861, Dob98),(q 7857, Dob99)],
  q 7886, (.tup (.cons .nslc (.cons z3 .nil))),
  [(q 7859, Dob97),(q 7858, .big 256 1 (.cons z1 .nil) (trL []) 4 none),(q 7861, Dob98),(q 7857, Dob99)],
  q 7914⟩
theorem mD17_run : zAc Tryz.T Tryz.F (brC Tryz.T) (ntOf natL) 20000 200 81 mD17 = true := by kernel_rfl
theorem mD17_ok {ρ : Env} {slow : CF} (hs : CfOK Tryz.prog ρ 81 slow) : CfOK Tryz.prog ρ 81 (zAe mD17 slow) := zAd Tryz.T_ok Tryz.F_ok (fun _ => zAh mixed Tryz.T_ok) (fun _ => zAb natOK) mD17_run hs
end Go.Proofs.YtkjdlganghbgaaaGreatDoor
namespace Go.Proofs.YtkjdlganghbgaaaGreatDoor
open Go.Ex Go.Proofs
set_option maxRecDepth 1000000

noncomputable def mD18 : Memo := ⟨(.cons (.agg (.cons (z5 256) (.cons (z5 128) (.cons (z5 8) (.cons (z5 1) (.cons (z5 129) (.cons (z5 1) (.cons (z5 130) (.cons (z5 4) (.cons (z5 134) .nil)))))))))) (.cons (.fn 77 (.cons (.ptr (q 7859) 0) .nil) .nil) .nil)),
  [(q 7859, Dob97),(q 7858, .big 256 1 (.cons z1 .nil) (trL []) 4 none),(q 7861, Dob98),(q 7857, Dob99)],
  q 7914, .nslc,
  [(q 7859, Dob97),(q 7858, .big 256 1 (.cons z1 .nil) (trL []) 4 none),(q 7861, Dob98),(q 7857, Dob99)],
  q 8277⟩
theorem mD18_run : zAc Tryz.T Tryz.F (brC Tryz.T) (ntOf natL) 20000 200 82 mD18 = true := by kernel_rfl
theorem mD18_ok {ρ : Env} {slow : CF} (hs : CfOK Tryz.prog ρ 82 slow) : CfOK Tryz.prog ρ 82 (zAe mD18 slow) := zAd Tryz.T_ok Tryz.F_ok (fun _ => zAh mixed Tryz.T_ok) (fun _ => zAb natOK) mD18_run hs
end Go.Proofs.YtkjdlganghbgaaaGreatDoor
namespace Go.Proofs.YtkjdlganghbgaaaGreatDoor
open Go.Ex Go.Proofs
set_option maxRecDepth 1000000

noncomputable def natR : List (FuncId × CF) := (82,(zAe mD18 (fnC Tryz.T Tryz.F 82))) :: (81,(zAe mD17 (fnC Tryz.T Tryz.F 81))) :: natL
theorem natR_ok {ρ : Env} : ∀ x ∈ natR, CfOK Tryz.prog ρ x.1 x.2 := (zB4 (mD18_ok (fnw (by decide +kernel))) (zB4 (mD17_ok (fnw (by decide +kernel))) natOK))
noncomputable def mD19 : Memo := ⟨(.cons (.ptr (q 7859) 0) .nil),
  [(q 7859, Dob97),(q 7858, .big 256 1 (.cons z1 .nil) (trL []) 4 none),(q 7861, Dob98),(q 7857, Dob99)],
  q 7862, (.tup (.cons (.ptr (q 8314) 0) (.cons z3 .nil))),
  [(q 8314, Dob100),(q 8313, .map .nil 0),(q 8312, .map .nil 0),(q 8311, .map .nil 0),(q 8307, Dob101),(q 7859, Dob97),(q 7858, .big 256 1 (.cons z1 .nil) (trL []) 4 none),(q 7861, Dob98),(q 7857, Dob99),(q 8309, Dob102),(q 8580, Dob103),(q 8330, Dob45),(q 8499, Dob18),(q 8578, Dob19),(q 8420, Dob20),(q 8308, Dob104)],
  q 8692⟩
theorem mD19_run : zAc Tryz.T Tryz.F (brC Tryz.T) (ntOf natR) 20000 200 99 mD19 = true := by kernel_rfl
theorem mD19_ok {ρ : Env} {slow : CF} (hs : CfOK Tryz.prog ρ 99 slow) : CfOK Tryz.prog ρ 99 (zAe mD19 slow) := zAd Tryz.T_ok Tryz.F_ok (fun _ => zAh mixed Tryz.T_ok) (fun _ => zAb natR_ok) mD19_run hs
end Go.Proofs.YtkjdlganghbgaaaGreatDoor
