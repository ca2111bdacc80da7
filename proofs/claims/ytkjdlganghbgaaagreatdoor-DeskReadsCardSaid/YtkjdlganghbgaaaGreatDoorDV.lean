/- Parts of the run, told once: mL4, mL5, mL6, mL7. -/
import Derived.Test.YtkjdlganghbgaaaGreatDoorDO
namespace Go.Proofs.YtkjdlganghbgaaaGreatDoor
open Go.Ex Go.Proofs
set_option maxRecDepth 1000000

noncomputable def mL4 : Memo := ⟨(.cons (.ptr (q 2) 0) (.cons (.str 4096 0) .nil)),
  [(q 2, rowOf 2 (.cons z2 (.cons .nptr .nil)) 29 none)],
  q 4, (.tup (.cons (.str 0 0) (.cons (z5 310) .nil))),
  [(q 2, rowOf 2 (.cons z2 (.cons .nptr .nil)) 29 none)],
  q 29⟩
noncomputable def mL5 : Memo := ⟨(.cons (.ptr (q 2) 0) (.cons (.str 4 2003134838) .nil)),
  [(q 2, rowOf 2 (.cons z2 (.cons .nptr .nil)) 29 none)],
  q 29, (.tup (.cons (.str 0 0) (.cons (z5 4) .nil))),
  [(q 2, rowOf 2 (.cons z2 (.cons .nptr .nil)) 29 none)],
  q 30⟩
noncomputable def mL6 : Memo := ⟨(.cons (.ptr (q 2) 0) (.cons (.str 15 516278076288707884359400256723579491) .nil)),
  [(q 2, rowOf 2 (.cons z2 (.cons .nptr .nil)) 29 none)],
  q 30, (.tup (.cons (.str 0 0) (.cons (z5 4) .nil))),
  [(q 2, rowOf 2 (.cons z2 (.cons .nptr .nil)) 29 none)],
  q 64⟩
noncomputable def mL7 : Memo := ⟨(.cons (.ptr (q 2) 0) (.cons (.str 15 516278076288712606725883126368793187) .nil)),
  [(q 2, rowOf 2 (.cons z2 (.cons .nptr .nil)) 29 none)],
  q 64, (.tup (.cons (.str 0 0) (.cons (z5 310) .nil))),
  [(q 2, rowOf 2 (.cons z2 (.cons .nptr .nil)) 29 none)],
  q 91⟩
end Go.Proofs.YtkjdlganghbgaaaGreatDoor
namespace Go.Proofs.YtkjdlganghbgaaaGreatDoor
open Go.Ex Go.Proofs
set_option maxRecDepth 1000000

noncomputable def mD20 : Memo := ⟨(.cons (.ptr (q 8694) 0) (.cons (.agg (.cons (z5 13) (.cons (.str 2 26159) (.cons (.str 0 0) (.cons z3 (.cons z3 (.cons (.str 0 0) (.cons z1 .nil)))))))) .nil)),
  [(q 8694, Dob106),(q 8693, Dob48),(q 8314, Dob100),(q 8313, .map .nil 0),(q 8312, .map .nil 0),(q 8311, .map .nil 0),(q 8307, Dob101),(q 7859, Dob97),(q 7858, .big 256 1 (.cons z1 .nil) (trL []) 4 none),(q 7861, Dob98),(q 7857, Dob99),(q 8309, Dob102),(q 8580, Dob103),(q 8330, Dob45),(q 8499, Dob18),(q 8578, Dob19),(q 8420, Dob20),(q 8308, Dob104)],
  q 8732, (.agg (.cons (z5 210) (.cons z3 (.cons (.str 0 0) (.cons .nslc (.cons z3 (.cons z3 (.cons z3 (.cons z1 (.cons .nslc (.cons z1 .nil))))))))))),
  [(q 8694, Dob106),(q 8693, Dob48),(q 8314, Dob100),(q 8313, .map .nil 0),(q 8312, .map .nil 0),(q 8311, .map .nil 0),(q 8307, Dob101),(q 7859, Dob97),(q 7858, .big 256 1 (.cons z1 .nil) (trL []) 4 none),(q 7861, Dob98),(q 7857, Dob99),(q 8309, Dob107),(q 8945, Dob108),(q 8943, Dob109),(q 8890, Dob110),(q 8330, Dob111),(q 8499, Dob18),(q 8578, Dob19),(q 8420, Dob20),(q 8308, Dob112)],
  q 8970⟩
theorem mD20_run : zAc Tryz.T Tryz.F (brC Tryz.T) (ntOf natL) 20000 200 71 mD20 = true := by kernel_rfl
theorem mD20_ok {ρ : Env} {slow : CF} (hs : CfOK Tryz.prog ρ 71 slow) : CfOK Tryz.prog ρ 71 (zAe mD20 slow) := zAd Tryz.T_ok Tryz.F_ok (fun _ => zAh mixed Tryz.T_ok) (fun _ => zAb natOK) mD20_run hs
end Go.Proofs.YtkjdlganghbgaaaGreatDoor
