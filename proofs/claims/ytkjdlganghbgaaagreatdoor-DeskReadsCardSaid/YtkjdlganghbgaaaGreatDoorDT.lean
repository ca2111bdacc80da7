/- Parts of the run, told once: mD24, mD25. -/
import Derived.Test.YtkjdlganghbgaaaGreatDoorDO
namespace Go.Proofs.YtkjdlganghbgaaaGreatDoor
open Go.Ex Go.Proofs
set_option maxRecDepth 1000000

noncomputable def mD24 : Memo := ⟨(.cons (.ptr (q 8694) 0) .nil),
  [(q 8694, Gob0),(q 8693, Gob1),(q 8314, Gob2),(q 8313, .map .nil 0),(q 8312, .map .nil 0),(q 8311, .map .nil 0),(q 8307, Gob3),(q 7859, Gob4),(q 7858, .big 256 1 (.cons z1 .nil) (trL []) 4 none),(q 7861, Gob5),(q 7857, Gob6),(q 8309, Gob7),(q 8945, Gob8),(q 8943, Gob9),(q 8890, Gob10),(q 8330, Gob11),(q 8499, Gob12),(q 8578, Gob13),(q 8420, Gob14),(q 8308, Gob15)],
  q 10165, (.tup (.cons (.slc (q 10394) 0 1 4611686018427387904) (.cons z3 .nil))),
  [(q 10394, Gob16),(q 8694, Gob0),(q 8693, Gob1),(q 8314, Gob2),(q 8313, .map .nil 0),(q 8312, .map .nil 0),(q 8311, .map .nil 0),(q 8307, Gob3),(q 7859, Gob4),(q 7858, .big 256 1 (.cons z1 .nil) (trL []) 4 none),(q 7861, Gob5),(q 7857, Gob6),(q 8309, Gob17),(q 8945, Gob8),(q 8943, Gob18),(q 8890, Gob19),(q 8330, Gob20),(q 8499, Gob12),(q 8578, Gob13),(q 8420, Gob14),(q 8308, Gob15)],
  q 10395⟩
theorem mD24_run : zAc Tryz.T Tryz.F (brC Tryz.T) (ntOf natL) 20000 200 38 mD24 = true := by kernel_rfl
theorem mD24_ok {ρ : Env} {slow : CF} (hs : CfOK Tryz.prog ρ 38 slow) : CfOK Tryz.prog ρ 38 (zAe mD24 slow) := zAd Tryz.T_ok Tryz.F_ok (fun _ => zAh mixed Tryz.T_ok) (fun _ => zAb natOK) mD24_run hs
noncomputable def mD25 : Memo := ⟨(.cons (.ptr (q 8694) 0) (.cons (.agg (.cons (z5 20) (.cons (.str 0 0) (.cons (.str 0 0) (.cons z3 (.cons z3 (.cons (.str 0 0) (.cons z1 .nil)))))))) .nil)),
  [(q 8694, Gob0),(q 8693, Gob1),(q 8314, Gob2),(q 8313, .map .nil 0),(q 8312, .map .nil 0),(q 8311, .map .nil 0),(q 8307, Gob3),(q 7859, Gob4),(q 7858, .big 256 1 (.cons z1 .nil) (trL []) 4 none),(q 7861, Gob5),(q 7857, Gob6),(q 8309, Gob17),(q 8945, Gob8),(q 8943, Gob18),(q 8890, Gob19),(q 8330, Gob20),(q 8499, Gob12),(q 8578, Gob13),(q 8420, Gob14),(q 8308, Gob15)],
  q 10435, (.agg (.cons z3 (.cons z3 (.cons (.str 0 0) (.cons .nslc (.cons z3 (.cons z3 (.cons z3 (.cons z1 (.cons (.slc (q 10467) 0 1 4611686018427387904) (.cons z1 .nil))))))))))),
  [(q 10467, rowOf 1 (.cons (z5 121) .nil) 3 (some 1)),(q 8694, Gob0),(q 8693, Gob1),(q 8314, Gob2),(q 8313, .map .nil 0),(q 8312, .map .nil 0),(q 8311, .map .nil 0),(q 8307, Gob3),(q 7859, Gob4),(q 7858, .big 256 1 (.cons z1 .nil) (trL []) 4 none),(q 7861, Gob5),(q 7857, Gob6),(q 8309, Gob21),(q 10450, Gob22),(q 10448, Gob23),(q 8943, Gob18),(q 8890, Gob19),(q 8330, Gob20),(q 8499, Gob12),(q 8578, Gob13),(q 8420, Gob14),(q 8308, Gob24)],
  q 10469⟩
theorem mD25_run : zAc Tryz.T Tryz.F (brC Tryz.T) (ntOf natL) 20000 200 71 mD25 = true := by kernel_rfl
theorem mD25_ok {ρ : Env} {slow : CF} (hs : CfOK Tryz.prog ρ 71 slow) : CfOK Tryz.prog ρ 71 (zAe mD25 slow) := zAd Tryz.T_ok Tryz.F_ok (fun _ => zAh mixed Tryz.T_ok) (fun _ => zAb natOK) mD25_run hs
end Go.Proofs.YtkjdlganghbgaaaGreatDoor
namespace Go.Proofs.YtkjdlganghbgaaaGreatDoor
open Go.Ex Go.Proofs
set_option maxRecDepth 1000000

noncomputable def mD26 : Memo := ⟨(.cons (.ptr (q 8694) 0) (.cons (.agg (.cons (z5 19) (.cons (.str 0 0) (.cons (.str 0 0) (.cons z3 (.cons z3 (.cons (.str 0 0) (.cons z1 .nil)))))))) .nil)),
  [(q 8694, Gob0),(q 8693, Gob1),(q 8314, Gob2),(q 8313, .map .nil 0),(q 8312, .map .nil 0),(q 8311, .map .nil 0),(q 8307, Gob3),(q 7859, Gob4),(q 7858, .big 256 1 (.cons z1 .nil) (trL []) 4 none),(q 7861, Gob5),(q 7857, Gob6),(q 8309, Gob21),(q 10450, Gob22),(q 10448, Gob23),(q 8943, Gob18),(q 8890, Gob19),(q 8330, Gob20),(q 8499, Gob12),(q 8578, Gob13),(q 8420, Gob14),(q 8308, Gob24)],
  q 10503, (.agg (.cons z3 (.cons z3 (.cons (.str 0 0) (.cons .nslc (.cons z3 (.cons z3 (.cons z3 (.cons z1 (.cons .nslc (.cons z2 .nil))))))))))),
  [(q 8694, Gob0),(q 8693, Gob1),(q 8314, Gob2),(q 8313, .map .nil 0),(q 8312, .map .nil 0),(q 8311, .map .nil 0),(q 8307, Gob3),(q 7859, Gob4),(q 7858, .big 256 1 (.cons z1 .nil) (trL []) 4 none),(q 7861, Gob5),(q 7857, Gob6),(q 8309, Gob25),(q 10450, Gob26),(q 8578, Gob27),(q 8420, Gob28),(q 8890, Gob29),(q 8330, Gob30),(q 10448, Gob31),(q 8499, Gob32),(q 8943, Gob33),(q 8308, Gob24)],
  q 11055⟩
theorem mD26_run : zAc Tryz.T Tryz.F (brC Tryz.T) (ntOf natL) 20000 200 71 mD26 = true := by kernel_rfl
theorem mD26_ok {ρ : Env} {slow : CF} (hs : CfOK Tryz.prog ρ 71 slow) : CfOK Tryz.prog ρ 71 (zAe mD26 slow) := zAd Tryz.T_ok Tryz.F_ok (fun _ => zAh mixed Tryz.T_ok) (fun _ => zAb natOK) mD26_run hs
noncomputable def mD27 : Memo := ⟨(.cons (.ptr (q 8694) 0) (.cons (.agg (.cons (z5 1) (.cons (.str 1 47) (.cons (.str 0 0) (.cons z3 (.cons (z5 8) (.cons (.str 0 0) (.cons z1 .nil)))))))) .nil)),
  [(q 8694, Gob0),(q 8693, Gob1),(q 8314, Gob2),(q 8313, .map .nil 0),(q 8312, .map .nil 0),(q 8311, .map .nil 0),(q 8307, Gob3),(q 7859, Gob4),(q 7858, .big 256 1 (.cons z1 .nil) (trL []) 4 none),(q 7861, Gob5),(q 7857, Gob6),(q 8309, Gob25),(q 10450, Gob26),(q 8578, Gob27),(q 8420, Gob28),(q 8890, Gob29),(q 8330, Gob30),(q 10448, Gob31),(q 8499, Gob32),(q 8943, Gob33),(q 8308, Gob24)],
  q 11077, (.agg (.cons (z5 216) (.cons z3 (.cons (.str 0 0) (.cons .nslc (.cons z3 (.cons z3 (.cons z3 (.cons z1 (.cons .nslc (.cons z1 .nil))))))))))),
  [(q 8694, Gob0),(q 8693, Gob1),(q 8314, Gob2),(q 8313, .map .nil 0),(q 8312, .map .nil 0),(q 8311, .map .nil 0),(q 8307, Gob3),(q 7859, Gob4),(q 7858, .big 256 1 (.cons z1 .nil) (trL []) 4 none),(q 7861, Gob5),(q 7857, Gob6),(q 8309, Gob25),(q 10450, Gob26),(q 8578, Gob27),(q 8420, Gob28),(q 8890, Gob29),(q 8330, Gob30),(q 10448, Gob31),(q 8499, Gob32),(q 8943, Gob33),(q 8308, Gob24)],
  q 11086⟩
theorem mD27_run : zAc Tryz.T Tryz.F (brC Tryz.T) (ntOf natL) 20000 200 71 mD27 = true := by kernel_rfl
theorem mD27_ok {ρ : Env} {slow : CF} (hs : CfOK Tryz.prog ρ 71 slow) : CfOK Tryz.prog ρ 71 (zAe mD27 slow) := zAd Tryz.T_ok Tryz.F_ok (fun _ => zAh mixed Tryz.T_ok) (fun _ => zAb natOK) mD27_run hs
end Go.Proofs.YtkjdlganghbgaaaGreatDoor
