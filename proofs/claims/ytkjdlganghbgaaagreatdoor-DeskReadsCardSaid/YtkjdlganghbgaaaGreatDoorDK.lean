/- Parts of the run, told once: mD12, mD13, mD14, mD15, mD16. -/
import Derived.Test.YtkjdlganghbgaaaGreatDoorDO
namespace Go.Proofs.YtkjdlganghbgaaaGreatDoor
open Go.Ex Go.Proofs
set_option maxRecDepth 1000000

noncomputable def mD12 : Memo := ⟨(.cons (.ptr (q 3473) 0) (.cons (.agg (.cons (z5 18) (.cons (.str 0 0) (.cons (.str 0 0) (.cons z3 (.cons z3 (.cons (.str 0 0) (.cons z1 .nil)))))))) .nil)),
  [(q 3473, Dob47), (q 3472, Dob61), (q 3093, Dob41), (q 3092, .map .nil 0), (q 3091, .map (.cons (z5 135) (z4 6430817) 0 .nil) 1), (q 3090, Dob62), (q 3086, Dob42), (q 77, Dob38), (q 76, Dob3), (q 79, Dob39), (q 75, Dob40), (q 3088, Dob63), (q 3977, Dob64), (q 3109, Dob65), (q 3713, Dob54), (q 3975, Dob66), (q 3660, Dob67), (q 3357, Dob57), (q 3278, Dob58), (q 3199, Dob59), (q 3087, Dob60)],
  q 5657, (.agg (.cons z3 (.cons (z5 120) (.cons (.str 0 0) (.cons .nslc (.cons z3 (.cons z3 (.cons z3 (.cons z1 (.cons (.slc (q 6001) 0 1 1) (.cons z1 .nil))))))))))),
  [(q 6001, rowOf 1 (.cons (z5 6) .nil) 3 none), (q 3473, Dob47), (q 3472, Dob61), (q 3093, Dob41), (q 3092, .map .nil 0), (q 3091, .map (.cons (z5 135) (z4 6430817) 0 .nil) 1), (q 3090, Dob62), (q 3086, Dob42), (q 77, Dob38), (q 76, Dob3), (q 79, Dob39), (q 75, Dob40), (q 3088, Dob68), (q 3977, Dob69), (q 3109, Dob70), (q 3713, Dob54), (q 3975, Dob71), (q 3357, Dob72), (q 3278, Dob73), (q 3199, Dob74), (q 3660, Dob75), (q 3087, Dob60)],
  q 6003⟩
theorem mD12_run : zAc Tryz.T Tryz.F (brC Tryz.T) (ntOf natL) 20000 200 71 mD12 = true := by kernel_rfl
theorem mD12_ok {ρ : Env} {slow : CF} (hs : CfOK Tryz.prog ρ 71 slow) : CfOK Tryz.prog ρ 71 (zAe mD12 slow) := zAd Tryz.T_ok Tryz.F_ok (fun _ => zAh mixed Tryz.T_ok) (fun _ => zAb natOK) mD12_run hs
noncomputable def mD13 : Memo := ⟨(.cons (.ptr (q 3473) 0) (.cons (.agg (.cons (z5 5) (.cons (.str 0 0) (.cons (.str 0 0) (.cons z3 (.cons z3 (.cons (.str 0 0) (.cons z1 .nil)))))))) .nil)),
  [(q 3473, Dob47), (q 3472, Dob61), (q 3093, Dob41), (q 3092, .map .nil 0), (q 3091, .map (.cons (z5 135) (z4 6430817) 0 .nil) 1), (q 3090, Dob62), (q 3086, Dob42), (q 77, Dob38), (q 76, Dob3), (q 79, Dob39), (q 75, Dob40), (q 3088, Dob68), (q 3977, Dob69), (q 3109, Dob70), (q 3713, Dob54), (q 3975, Dob71), (q 3357, Dob72), (q 3278, Dob73), (q 3199, Dob74), (q 3660, Dob75), (q 3087, Dob60)],
  q 6027, (.agg (.cons z3 (.cons z3 (.cons (.str 0 0) (.cons .nslc (.cons z3 (.cons z3 (.cons z3 (.cons z1 (.cons .nslc (.cons z1 .nil))))))))))),
  [(q 3473, Dob47), (q 3472, Dob49), (q 3093, Dob41), (q 3092, .map .nil 0), (q 3091, .map (.cons (z5 135) (z4 6430817) 0 .nil) 1), (q 3090, Dob62), (q 3086, Dob42), (q 77, Dob38), (q 76, Dob3), (q 79, Dob39), (q 75, Dob40), (q 3088, Dob68), (q 3977, Dob69), (q 3109, Dob70), (q 3713, Dob54), (q 3975, Dob71), (q 3357, Dob72), (q 3278, Dob73), (q 3199, Dob74), (q 3660, Dob75), (q 3087, Dob60)],
  q 6033⟩
theorem mD13_run : zAc Tryz.T Tryz.F (brC Tryz.T) (ntOf natL) 20000 200 71 mD13 = true := by kernel_rfl
theorem mD13_ok {ρ : Env} {slow : CF} (hs : CfOK Tryz.prog ρ 71 slow) : CfOK Tryz.prog ρ 71 (zAe mD13 slow) := zAd Tryz.T_ok Tryz.F_ok (fun _ => zAh mixed Tryz.T_ok) (fun _ => zAb natOK) mD13_run hs
noncomputable def mD14 : Memo := ⟨(.cons (.ptr (q 3473) 0) (.cons (.agg (.cons (z5 3) (.cons (.str 0 0) (.cons (.str 0 0) (.cons z3 (.cons (z5 9) (.cons (.str 0 0) (.cons z1 .nil)))))))) .nil)),
  [(q 3473, Dob47), (q 3472, Dob49), (q 3093, Dob41), (q 3092, .map .nil 0), (q 3091, .map (.cons (z5 135) (z4 6430817) 0 .nil) 1), (q 3090, Dob62), (q 3086, Dob42), (q 77, Dob38), (q 76, Dob3), (q 79, Dob39), (q 75, Dob40), (q 3088, Dob68), (q 3977, Dob69), (q 3109, Dob70), (q 3713, Dob54), (q 3975, Dob71), (q 3357, Dob72), (q 3278, Dob73), (q 3199, Dob74), (q 3660, Dob75), (q 3087, Dob60)],
  q 6052, (.agg (.cons z3 (.cons z3 (.cons (.str 3 6430817) (.cons .nslc (.cons z3 (.cons z3 (.cons z3 (.cons z1 (.cons .nslc (.cons z1 .nil))))))))))),
  [(q 3473, Dob47), (q 3472, Dob61), (q 3093, Dob41), (q 3092, .map .nil 0), (q 3091, .map (.cons (z5 135) (z4 6430817) 0 .nil) 1), (q 3090, Dob62), (q 3086, Dob42), (q 77, Dob38), (q 76, Dob3), (q 79, Dob39), (q 75, Dob40), (q 3088, Dob76), (q 3977, Dob77), (q 3109, Dob78), (q 3713, Dob54), (q 3975, Dob71), (q 3660, Dob79), (q 3278, Dob73), (q 3357, Dob80), (q 3199, Dob81), (q 3087, Dob60)],
  q 6221⟩
theorem mD14_run : zAc Tryz.T Tryz.F (brC Tryz.T) (ntOf natL) 20000 200 71 mD14 = true := by kernel_rfl
theorem mD14_ok {ρ : Env} {slow : CF} (hs : CfOK Tryz.prog ρ 71 slow) : CfOK Tryz.prog ρ 71 (zAe mD14 slow) := zAd Tryz.T_ok Tryz.F_ok (fun _ => zAh mixed Tryz.T_ok) (fun _ => zAb natOK) mD14_run hs
noncomputable def mD15 : Memo := ⟨(.cons (.ptr (q 3473) 0) (.cons (.agg (.cons (z5 12) (.cons (.str 1 47) (.cons (.str 0 0) (.cons z3 (.cons z3 (.cons (.str 0 0) (.cons z1 .nil)))))))) .nil)),
  [(q 3473, Dob47), (q 3472, Dob61), (q 3093, Dob41), (q 3092, .map .nil 0), (q 3091, .map (.cons (z5 135) (z4 6430817) 0 .nil) 1), (q 3090, Dob62), (q 3086, Dob42), (q 77, Dob38), (q 76, Dob3), (q 79, Dob39), (q 75, Dob40), (q 3088, Dob76), (q 3977, Dob77), (q 3109, Dob78), (q 3713, Dob54), (q 3975, Dob71), (q 3660, Dob79), (q 3278, Dob73), (q 3357, Dob80), (q 3199, Dob81), (q 3087, Dob60)],
  q 6264, (.agg (.cons z3 (.cons z3 (.cons (.str 0 0) (.cons (.slc (q 6509) 0 1 4611686018427387904) (.cons z3 (.cons z3 (.cons z3 (.cons z1 (.cons .nslc (.cons z1 .nil))))))))))),
  [(q 6509, rowOf 1 (.cons (.str 1 102) .nil) 9 (some 1)), (q 3473, Dob47), (q 3472, Dob61), (q 3093, Dob41), (q 3092, .map .nil 0), (q 3091, .map (.cons (z5 135) (z4 6430817) 0 .nil) 1), (q 3090, Dob62), (q 3086, Dob42), (q 77, Dob38), (q 76, Dob3), (q 79, Dob39), (q 75, Dob40), (q 3088, Dob82), (q 3977, Dob77), (q 3109, Dob83), (q 3713, Dob84), (q 3975, Dob71), (q 3660, Dob85), (q 3278, Dob73), (q 3357, Dob80), (q 3199, Dob81), (q 3087, Dob60)],
  q 6511⟩
theorem mD15_run : zAc Tryz.T Tryz.F (brC Tryz.T) (ntOf natL) 20000 200 71 mD15 = true := by kernel_rfl
theorem mD15_ok {ρ : Env} {slow : CF} (hs : CfOK Tryz.prog ρ 71 slow) : CfOK Tryz.prog ρ 71 (zAe mD15 slow) := zAd Tryz.T_ok Tryz.F_ok (fun _ => zAh mixed Tryz.T_ok) (fun _ => zAb natOK) mD15_run hs
noncomputable def mD16 : Memo := ⟨(.cons (.ptr (q 3473) 0) (.cons (.agg (.cons (z5 13) (.cons (.str 2 26159) (.cons (.str 0 0) (.cons z3 (.cons z3 (.cons (.str 0 0) (.cons z1 .nil)))))))) .nil)),
  [(q 3473, Dob47), (q 3472, Dob61), (q 3093, Dob41), (q 3092, .map .nil 0), (q 3091, .map (.cons (z5 135) (z4 6430817) 0 .nil) 1), (q 3090, Dob62), (q 3086, Dob42), (q 77, Dob38), (q 76, Dob3), (q 79, Dob39), (q 75, Dob40), (q 3088, Dob82), (q 3977, Dob77), (q 3109, Dob83), (q 3713, Dob84), (q 3975, Dob71), (q 3660, Dob85), (q 3278, Dob73), (q 3357, Dob80), (q 3199, Dob81), (q 3087, Dob60)],
  q 6551, (.agg (.cons z3 (.cons z3 (.cons (.str 0 0) (.cons .nslc (.cons (z5 1) (.cons (z5 3) (.cons (z5 1) (.cons z1 (.cons .nslc (.cons z1 .nil))))))))))),
  [(q 3473, Dob47), (q 3472, Dob61), (q 3093, Dob41), (q 3092, .map .nil 0), (q 3091, .map (.cons (z5 135) (z4 6430817) 0 .nil) 1), (q 3090, Dob62), (q 3086, Dob42), (q 77, Dob38), (q 76, Dob3), (q 79, Dob39), (q 75, Dob40), (q 3088, Dob86), (q 3977, Dob77), (q 3109, Dob87), (q 3713, Dob88), (q 3975, Dob71), (q 3660, Dob89), (q 3278, Dob73), (q 3357, Dob80), (q 3199, Dob81), (q 3087, Dob60)],
  q 6845⟩
theorem mD16_run : zAc Tryz.T Tryz.F (brC Tryz.T) (ntOf natL) 20000 200 71 mD16 = true := by kernel_rfl
theorem mD16_ok {ρ : Env} {slow : CF} (hs : CfOK Tryz.prog ρ 71 slow) : CfOK Tryz.prog ρ 71 (zAe mD16 slow) := zAd Tryz.T_ok Tryz.F_ok (fun _ => zAh mixed Tryz.T_ok) (fun _ => zAb natOK) mD16_run hs
end Go.Proofs.YtkjdlganghbgaaaGreatDoor
