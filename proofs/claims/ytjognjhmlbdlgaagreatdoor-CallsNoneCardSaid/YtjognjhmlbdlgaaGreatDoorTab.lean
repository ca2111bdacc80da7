/- The tables of the load: its functions, its types. -/
import Derived.Test.YtjognjhmlbdlgaaGreatDoorProg
import Derived.Test.YtjognjhmlbdlgaaGreatDoorEe
namespace Go.Proofs
open Go.Ex
noncomputable def Tryz.ty0 : Ty := ⟨Tryz.t0.desc, 1, 0, false, Tryz.t0.zero, [], true, Tryz.t0.methods⟩
theorem Tryz.ty0_ok : tyOf Tryz.prog 0 = some Tryz.ty0 := by kernel_rfl
noncomputable def Tryz.ty1 : Ty := ⟨Tryz.t1.desc, 1, 8, false, Tryz.t1.zero, [], true, Tryz.t1.methods⟩
theorem Tryz.ty1_ok : tyOf Tryz.prog 1 = some Tryz.ty1 := by kernel_rfl
noncomputable def Tryz.ty2 : Ty := ⟨Tryz.t2.desc, 1, 8, false, Tryz.t2.zero, [], true, Tryz.t2.methods⟩
theorem Tryz.ty2_ok : tyOf Tryz.prog 2 = some Tryz.ty2 := by kernel_rfl
noncomputable def Tryz.ty3 : Ty := ⟨Tryz.t3.desc, 1, 8, false, Tryz.t3.zero, [], true, Tryz.t3.methods⟩
theorem Tryz.ty3_ok : tyOf Tryz.prog 3 = some Tryz.ty3 := by kernel_rfl
noncomputable def Tryz.ty4 : Ty := ⟨Tryz.t4.desc, 1, 1, false, Tryz.t4.zero, [], true, Tryz.t4.methods⟩
theorem Tryz.ty4_ok : tyOf Tryz.prog 4 = some Tryz.ty4 := by kernel_rfl
noncomputable def Tryz.ty5 : Ty := ⟨Tryz.t5.desc, 1, 1, false, Tryz.t5.zero, [], true, Tryz.t5.methods⟩
theorem Tryz.ty5_ok : tyOf Tryz.prog 5 = some Tryz.ty5 := by kernel_rfl
noncomputable def Tryz.ty6 : Ty := ⟨Tryz.t5.desc, 1, 1, false, Tryz.t6.zero, [], true, Tryz.t6.methods⟩
theorem Tryz.ty6_ok : tyOf Tryz.prog 6 = some Tryz.ty6 := by kernel_rfl
noncomputable def Tryz.ty7 : Ty := ⟨Tryz.t7.desc, 4, 24, true, Tryz.t7.zero, [(0, 1), (1, 1), (2, 1), (3, 1)], true, Tryz.t7.methods⟩
theorem Tryz.ty7_ok : tyOf Tryz.prog 7 = some Tryz.ty7 := by kernel_rfl
noncomputable def Tryz.ty8 : Ty := ⟨Tryz.t7.desc, 4, 24, true, Tryz.t8.zero, [(0, 1), (1, 1), (2, 1), (3, 1)], true, Tryz.t8.methods⟩
theorem Tryz.ty8_ok : tyOf Tryz.prog 8 = some Tryz.ty8 := by kernel_rfl
noncomputable def Tryz.ty9 : Ty := ⟨Tryz.t9.desc, 1, 16, false, Tryz.t9.zero, [], true, Tryz.t9.methods⟩
theorem Tryz.ty9_ok : tyOf Tryz.prog 9 = some Tryz.ty9 := by kernel_rfl
noncomputable def Tryz.ty10 : Ty := ⟨Tryz.t9.desc, 1, 16, false, Tryz.t10.zero, [], true, Tryz.t10.methods⟩
theorem Tryz.ty10_ok : tyOf Tryz.prog 10 = some Tryz.ty10 := by kernel_rfl
noncomputable def Tryz.ty11 : Ty := ⟨Tryz.t9.desc, 1, 16, false, Tryz.t11.zero, [], true, Tryz.t11.methods⟩
theorem Tryz.ty11_ok : tyOf Tryz.prog 11 = some Tryz.ty11 := by kernel_rfl
noncomputable def Tryz.ty12 : Ty := ⟨Tryz.t12.desc, 1, 8, false, Tryz.t12.zero, [], true, Tryz.t12.methods⟩
theorem Tryz.ty12_ok : tyOf Tryz.prog 12 = some Tryz.ty12 := by kernel_rfl
noncomputable def Tryz.ty13 : Ty := ⟨Tryz.t13.desc, 2, 24, true, Tryz.t13.zero, [(0, 1), (1, 1)], false, Tryz.t13.methods⟩
theorem Tryz.ty13_ok : tyOf Tryz.prog 13 = some Tryz.ty13 := by kernel_rfl
noncomputable def Tryz.ty14 : Ty := ⟨Tryz.t13.desc, 2, 24, true, Tryz.t14.zero, [(0, 1), (1, 1)], false, Tryz.t14.methods⟩
theorem Tryz.ty14_ok : tyOf Tryz.prog 14 = some Tryz.ty14 := by kernel_rfl
noncomputable def Tryz.ty15 : Ty := ⟨Tryz.t15.desc, 1, 8, false, Tryz.t15.zero, [], true, Tryz.t15.methods⟩
theorem Tryz.ty15_ok : tyOf Tryz.prog 15 = some Tryz.ty15 := by kernel_rfl
noncomputable def Tryz.ty16 : Ty := ⟨Tryz.t16.desc, 1, 8, false, Tryz.t16.zero, [], true, Tryz.t16.methods⟩
theorem Tryz.ty16_ok : tyOf Tryz.prog 16 = some Tryz.ty16 := by kernel_rfl
noncomputable def Tryz.ty17 : Ty := ⟨Tryz.t17.desc, 1, 8, false, Tryz.t17.zero, [], true, Tryz.t17.methods⟩
theorem Tryz.ty17_ok : tyOf Tryz.prog 17 = some Tryz.ty17 := by kernel_rfl
noncomputable def Tryz.ty18 : Ty := ⟨Tryz.t18.desc, 1, 8, true, Tryz.t18.zero, [(0, 1)], false, Tryz.t18.methods⟩
theorem Tryz.ty18_ok : tyOf Tryz.prog 18 = some Tryz.ty18 := by kernel_rfl
noncomputable def Tryz.ty19 : Ty := ⟨Tryz.t18.desc, 1, 8, true, Tryz.t19.zero, [(0, 1)], false, Tryz.t19.methods⟩
theorem Tryz.ty19_ok : tyOf Tryz.prog 19 = some Tryz.ty19 := by kernel_rfl
noncomputable def Tryz.ty20 : Ty := ⟨Tryz.t20.desc, 1, 16, false, Tryz.t20.zero, [], true, Tryz.t20.methods⟩
theorem Tryz.ty20_ok : tyOf Tryz.prog 20 = some Tryz.ty20 := by kernel_rfl
noncomputable def Tryz.ty21 : Ty := ⟨Tryz.t21.desc, 1, 4, false, Tryz.t21.zero, [], true, Tryz.t21.methods⟩
theorem Tryz.ty21_ok : tyOf Tryz.prog 21 = some Tryz.ty21 := by kernel_rfl
noncomputable def Tryz.ty22 : Ty := ⟨Tryz.t22.desc, 7, 80, true, Tryz.t22.zero, [(0, 1), (1, 1), (2, 1), (3, 1), (4, 1), (5, 1), (6, 1)], true, Tryz.t22.methods⟩
theorem Tryz.ty22_ok : tyOf Tryz.prog 22 = some Tryz.ty22 := by kernel_rfl
noncomputable def Tryz.ty23 : Ty := ⟨Tryz.t22.desc, 7, 80, true, Tryz.t23.zero, [(0, 1), (1, 1), (2, 1), (3, 1), (4, 1), (5, 1), (6, 1)], true, Tryz.t23.methods⟩
theorem Tryz.ty23_ok : tyOf Tryz.prog 23 = some Tryz.ty23 := by kernel_rfl
noncomputable def Tryz.ty24 : Ty := ⟨Tryz.t24.desc, 1, 8, false, Tryz.t24.zero, [], true, Tryz.t24.methods⟩
theorem Tryz.ty24_ok : tyOf Tryz.prog 24 = some Tryz.ty24 := by kernel_rfl
noncomputable def Tryz.ty25 : Ty := ⟨Tryz.t25.desc, 1, 24, false, Tryz.t25.zero, [], true, Tryz.t25.methods⟩
theorem Tryz.ty25_ok : tyOf Tryz.prog 25 = some Tryz.ty25 := by kernel_rfl
noncomputable def Tryz.ty26 : Ty := ⟨Tryz.t26.desc, 1, 8, false, Tryz.t26.zero, [], true, Tryz.t26.methods⟩
theorem Tryz.ty26_ok : tyOf Tryz.prog 26 = some Tryz.ty26 := by kernel_rfl
noncomputable def Tryz.ty27 : Ty := ⟨Tryz.t27.desc, 1, 8, false, Tryz.t27.zero, [], true, Tryz.t27.methods⟩
theorem Tryz.ty27_ok : tyOf Tryz.prog 27 = some Tryz.ty27 := by kernel_rfl
noncomputable def Tryz.ty28 : Ty := ⟨Tryz.t28.desc, 1, 8, false, Tryz.t28.zero, [], true, Tryz.t28.methods⟩
theorem Tryz.ty28_ok : tyOf Tryz.prog 28 = some Tryz.ty28 := by kernel_rfl
noncomputable def Tryz.ty29 : Ty := ⟨Tryz.t29.desc, 1, 8, false, Tryz.t29.zero, [], true, Tryz.t29.methods⟩
theorem Tryz.ty29_ok : tyOf Tryz.prog 29 = some Tryz.ty29 := by kernel_rfl
noncomputable def Tryz.ty30 : Ty := ⟨Tryz.t30.desc, 1, 0, false, Tryz.t30.zero, [], true, Tryz.t30.methods⟩
theorem Tryz.ty30_ok : tyOf Tryz.prog 30 = some Tryz.ty30 := by kernel_rfl
noncomputable def Tryz.ty31 : Ty := ⟨Tryz.t31.desc, 1, 8, false, Tryz.t31.zero, [], true, Tryz.t31.methods⟩
theorem Tryz.ty31_ok : tyOf Tryz.prog 31 = some Tryz.ty31 := by kernel_rfl
noncomputable def Tryz.ty32 : Ty := ⟨Tryz.t32.desc, 1, 8, false, Tryz.t32.zero, [], true, Tryz.t32.methods⟩
theorem Tryz.ty32_ok : tyOf Tryz.prog 32 = some Tryz.ty32 := by kernel_rfl
noncomputable def Tryz.ty33 : Ty := ⟨Tryz.t3.desc, 1, 8, false, Tryz.t33.zero, [], true, Tryz.t33.methods⟩
theorem Tryz.ty33_ok : tyOf Tryz.prog 33 = some Tryz.ty33 := by kernel_rfl
noncomputable def Tryz.ty34 : Ty := ⟨Tryz.t34.desc, 1, 24, false, Tryz.t34.zero, [], true, Tryz.t34.methods⟩
theorem Tryz.ty34_ok : tyOf Tryz.prog 34 = some Tryz.ty34 := by kernel_rfl
noncomputable def Tryz.ty35 : Ty := ⟨Tryz.t35.desc, 4, 32, true, Tryz.t35.zero, [(0, 1), (1, 1), (2, 1), (3, 1)], true, Tryz.t35.methods⟩
theorem Tryz.ty35_ok : tyOf Tryz.prog 35 = some Tryz.ty35 := by kernel_rfl
noncomputable def Tryz.ty36 : Ty := ⟨Tryz.t35.desc, 4, 32, true, Tryz.t36.zero, [(0, 1), (1, 1), (2, 1), (3, 1)], true, Tryz.t36.methods⟩
theorem Tryz.ty36_ok : tyOf Tryz.prog 36 = some Tryz.ty36 := by kernel_rfl
noncomputable def Tryz.ty37 : Ty := ⟨Tryz.t37.desc, 1, 24, false, Tryz.t37.zero, [], true, Tryz.t37.methods⟩
theorem Tryz.ty37_ok : tyOf Tryz.prog 37 = some Tryz.ty37 := by kernel_rfl
noncomputable def Tryz.ty38 : Ty := ⟨Tryz.t38.desc, 10, 120, true, Tryz.t38.zero, [(0, 1), (1, 1), (2, 1), (3, 1), (4, 4), (8, 1), (9, 1)], true, Tryz.t38.methods⟩
theorem Tryz.ty38_ok : tyOf Tryz.prog 38 = some Tryz.ty38 := by kernel_rfl
noncomputable def Tryz.ty39 : Ty := ⟨Tryz.t38.desc, 10, 120, true, Tryz.t39.zero, [(0, 1), (1, 1), (2, 1), (3, 1), (4, 4), (8, 1), (9, 1)], true, Tryz.t39.methods⟩
theorem Tryz.ty39_ok : tyOf Tryz.prog 39 = some Tryz.ty39 := by kernel_rfl
noncomputable def Tryz.ty40 : Ty := ⟨Tryz.t40.desc, 1, 8, false, Tryz.t40.zero, [], true, Tryz.t40.methods⟩
theorem Tryz.ty40_ok : tyOf Tryz.prog 40 = some Tryz.ty40 := by kernel_rfl
noncomputable def Tryz.ty41 : Ty := ⟨Tryz.t41.desc, 1, 0, false, Tryz.t41.zero, [], true, Tryz.t41.methods⟩
theorem Tryz.ty41_ok : tyOf Tryz.prog 41 = some Tryz.ty41 := by kernel_rfl
noncomputable def Tryz.ty42 : Ty := ⟨Tryz.t42.desc, 1, 8, false, Tryz.t42.zero, [], true, Tryz.t42.methods⟩
theorem Tryz.ty42_ok : tyOf Tryz.prog 42 = some Tryz.ty42 := by kernel_rfl
noncomputable def Tryz.ty43 : Ty := ⟨Tryz.t43.desc, 2, 16, true, Tryz.t43.zero, [(0, 1), (1, 1)], true, Tryz.t43.methods⟩
theorem Tryz.ty43_ok : tyOf Tryz.prog 43 = some Tryz.ty43 := by kernel_rfl
noncomputable def Tryz.ty44 : Ty := ⟨Tryz.t43.desc, 2, 16, true, Tryz.t44.zero, [(0, 1), (1, 1)], true, Tryz.t44.methods⟩
theorem Tryz.ty44_ok : tyOf Tryz.prog 44 = some Tryz.ty44 := by kernel_rfl
noncomputable def Tryz.ty45 : Ty := ⟨Tryz.t45.desc, 1, 8, false, Tryz.t45.zero, [], true, Tryz.t45.methods⟩
theorem Tryz.ty45_ok : tyOf Tryz.prog 45 = some Tryz.ty45 := by kernel_rfl
noncomputable def Tryz.ty46 : Ty := ⟨Tryz.t46.desc, 9, 72, true, Tryz.t46.zero, [(0, 1), (1, 1), (2, 1), (3, 1), (4, 1), (5, 1), (6, 1), (7, 1), (8, 1)], true, Tryz.t46.methods⟩
theorem Tryz.ty46_ok : tyOf Tryz.prog 46 = some Tryz.ty46 := by kernel_rfl
noncomputable def Tryz.ty47 : Ty := ⟨Tryz.t46.desc, 9, 72, true, Tryz.t47.zero, [(0, 1), (1, 1), (2, 1), (3, 1), (4, 1), (5, 1), (6, 1), (7, 1), (8, 1)], true, Tryz.t47.methods⟩
theorem Tryz.ty47_ok : tyOf Tryz.prog 47 = some Tryz.ty47 := by kernel_rfl
noncomputable def Tryz.ty48 : Ty := ⟨Tryz.t48.desc, 1, 8, false, Tryz.t48.zero, [], true, Tryz.t48.methods⟩
theorem Tryz.ty48_ok : tyOf Tryz.prog 48 = some Tryz.ty48 := by kernel_rfl
noncomputable def Tryz.ty49 : Ty := ⟨Tryz.t49.desc, 1, 8, false, Tryz.t49.zero, [], true, Tryz.t49.methods⟩
theorem Tryz.ty49_ok : tyOf Tryz.prog 49 = some Tryz.ty49 := by kernel_rfl
noncomputable def Tryz.ty50 : Ty := ⟨Tryz.t50.desc, 1, 8, false, Tryz.t50.zero, [], true, Tryz.t50.methods⟩
theorem Tryz.ty50_ok : tyOf Tryz.prog 50 = some Tryz.ty50 := by kernel_rfl
noncomputable def Tryz.ty51 : Ty := ⟨Tryz.t51.desc, 1, 8, false, Tryz.t51.zero, [], true, Tryz.t51.methods⟩
theorem Tryz.ty51_ok : tyOf Tryz.prog 51 = some Tryz.ty51 := by kernel_rfl
noncomputable def Tryz.ty52 : Ty := ⟨Tryz.t52.desc, 3, 24, true, Tryz.t52.zero, [(0, 1), (1, 1), (2, 1)], true, Tryz.t52.methods⟩
theorem Tryz.ty52_ok : tyOf Tryz.prog 52 = some Tryz.ty52 := by kernel_rfl
noncomputable def Tryz.ty53 : Ty := ⟨Tryz.t52.desc, 3, 24, true, Tryz.t53.zero, [(0, 1), (1, 1), (2, 1)], true, Tryz.t53.methods⟩
theorem Tryz.ty53_ok : tyOf Tryz.prog 53 = some Tryz.ty53 := by kernel_rfl
noncomputable def Tryz.ty54 : Ty := ⟨Tryz.t54.desc, 1, 8, false, Tryz.t54.zero, [], true, Tryz.t54.methods⟩
theorem Tryz.ty54_ok : tyOf Tryz.prog 54 = some Tryz.ty54 := by kernel_rfl
noncomputable def Tryz.ty55 : Ty := ⟨Tryz.t55.desc, 17, 136, true, Tryz.t55.zero, [(0, 1), (1, 9), (10, 1), (11, 1), (12, 3), (15, 1), (16, 1)], true, Tryz.t55.methods⟩
theorem Tryz.ty55_ok : tyOf Tryz.prog 55 = some Tryz.ty55 := by kernel_rfl
noncomputable def Tryz.ty56 : Ty := ⟨Tryz.t55.desc, 17, 136, true, Tryz.t56.zero, [(0, 1), (1, 9), (10, 1), (11, 1), (12, 3), (15, 1), (16, 1)], true, Tryz.t56.methods⟩
theorem Tryz.ty56_ok : tyOf Tryz.prog 56 = some Tryz.ty56 := by kernel_rfl
noncomputable def Tryz.ty57 : Ty := ⟨Tryz.t57.desc, 1, 0, false, Tryz.t57.zero, [], true, Tryz.t57.methods⟩
theorem Tryz.ty57_ok : tyOf Tryz.prog 57 = some Tryz.ty57 := by kernel_rfl
noncomputable def Tryz.ty58 : Ty := ⟨Tryz.t58.desc, 1, 8, false, Tryz.t58.zero, [], true, Tryz.t58.methods⟩
theorem Tryz.ty58_ok : tyOf Tryz.prog 58 = some Tryz.ty58 := by kernel_rfl
noncomputable def Tryz.ty59 : Ty := ⟨Tryz.t59.desc, 1, 8, false, Tryz.t59.zero, [], true, Tryz.t59.methods⟩
theorem Tryz.ty59_ok : tyOf Tryz.prog 59 = some Tryz.ty59 := by kernel_rfl
noncomputable def Tryz.ty60 : Ty := ⟨Tryz.t60.desc, 1, 24, false, Tryz.t60.zero, [], true, Tryz.t60.methods⟩
theorem Tryz.ty60_ok : tyOf Tryz.prog 60 = some Tryz.ty60 := by kernel_rfl
noncomputable def Tryz.ty61 : Ty := ⟨Tryz.t61.desc, 1, 0, false, Tryz.t61.zero, [], true, Tryz.t61.methods⟩
theorem Tryz.ty61_ok : tyOf Tryz.prog 61 = some Tryz.ty61 := by kernel_rfl
noncomputable def Tryz.ty62 : Ty := ⟨Tryz.t62.desc, 1, 8, false, Tryz.t62.zero, [], true, Tryz.t62.methods⟩
theorem Tryz.ty62_ok : tyOf Tryz.prog 62 = some Tryz.ty62 := by kernel_rfl
noncomputable def Tryz.ty63 : Ty := ⟨Tryz.t63.desc, 1, 24, false, Tryz.t63.zero, [], true, Tryz.t63.methods⟩
theorem Tryz.ty63_ok : tyOf Tryz.prog 63 = some Tryz.ty63 := by kernel_rfl
noncomputable def Tryz.ty64 : Ty := ⟨Tryz.t64.desc, 1, 0, false, Tryz.t64.zero, [], true, Tryz.t64.methods⟩
theorem Tryz.ty64_ok : tyOf Tryz.prog 64 = some Tryz.ty64 := by kernel_rfl
noncomputable def Tryz.ty65 : Ty := ⟨Tryz.t65.desc, 1, 8, false, Tryz.t65.zero, [], true, Tryz.t65.methods⟩
theorem Tryz.ty65_ok : tyOf Tryz.prog 65 = some Tryz.ty65 := by kernel_rfl
noncomputable def Tryz.ty66 : Ty := ⟨Tryz.t66.desc, 1, 24, false, Tryz.t66.zero, [], true, Tryz.t66.methods⟩
theorem Tryz.ty66_ok : tyOf Tryz.prog 66 = some Tryz.ty66 := by kernel_rfl
noncomputable def Tryz.ty67 : Ty := ⟨Tryz.t67.desc, 1, 0, false, Tryz.t67.zero, [], true, Tryz.t67.methods⟩
theorem Tryz.ty67_ok : tyOf Tryz.prog 67 = some Tryz.ty67 := by kernel_rfl
noncomputable def Tryz.ty68 : Ty := ⟨Tryz.t68.desc, 1, 8, false, Tryz.t68.zero, [], true, Tryz.t68.methods⟩
theorem Tryz.ty68_ok : tyOf Tryz.prog 68 = some Tryz.ty68 := by kernel_rfl
noncomputable def Tryz.ty69 : Ty := ⟨Tryz.t69.desc, 1, 8, false, Tryz.t69.zero, [], true, Tryz.t69.methods⟩
theorem Tryz.ty69_ok : tyOf Tryz.prog 69 = some Tryz.ty69 := by kernel_rfl
noncomputable def Tryz.ty70 : Ty := ⟨Tryz.t70.desc, 1, 8, false, Tryz.t70.zero, [], true, Tryz.t70.methods⟩
theorem Tryz.ty70_ok : tyOf Tryz.prog 70 = some Tryz.ty70 := by kernel_rfl
noncomputable def Tryz.ty71 : Ty := ⟨Tryz.t71.desc, 1, 8, false, Tryz.t71.zero, [], true, Tryz.t71.methods⟩
theorem Tryz.ty71_ok : tyOf Tryz.prog 71 = some Tryz.ty71 := by kernel_rfl
noncomputable def Tryz.ty72 : Ty := ⟨Tryz.t72.desc, 1, 8, false, Tryz.t72.zero, [], true, Tryz.t72.methods⟩
theorem Tryz.ty72_ok : tyOf Tryz.prog 72 = some Tryz.ty72 := by kernel_rfl
noncomputable def Tryz.ty73 : Ty := ⟨Tryz.t73.desc, 1, 8, false, Tryz.t73.zero, [], true, Tryz.t73.methods⟩
theorem Tryz.ty73_ok : tyOf Tryz.prog 73 = some Tryz.ty73 := by kernel_rfl
noncomputable def Tryz.ty74 : Ty := ⟨Tryz.t74.desc, 1, 8, false, Tryz.t74.zero, [], true, Tryz.t74.methods⟩
theorem Tryz.ty74_ok : tyOf Tryz.prog 74 = some Tryz.ty74 := by kernel_rfl
noncomputable def Tryz.ty75 : Ty := ⟨Tryz.t75.desc, 1, 0, false, Tryz.t75.zero, [], true, Tryz.t75.methods⟩
theorem Tryz.ty75_ok : tyOf Tryz.prog 75 = some Tryz.ty75 := by kernel_rfl
noncomputable def Tryz.ty76 : Ty := ⟨Tryz.t76.desc, 1, 8, false, Tryz.t76.zero, [], true, Tryz.t76.methods⟩
theorem Tryz.ty76_ok : tyOf Tryz.prog 76 = some Tryz.ty76 := by kernel_rfl
noncomputable def Tryz.ty77 : Ty := ⟨Tryz.t77.desc, 1, 8, false, Tryz.t77.zero, [], true, Tryz.t77.methods⟩
theorem Tryz.ty77_ok : tyOf Tryz.prog 77 = some Tryz.ty77 := by kernel_rfl
noncomputable def Tryz.ty78 : Ty := ⟨Tryz.t78.desc, 1, 0, false, Tryz.t78.zero, [], true, Tryz.t78.methods⟩
theorem Tryz.ty78_ok : tyOf Tryz.prog 78 = some Tryz.ty78 := by kernel_rfl
noncomputable def Tryz.ty79 : Ty := ⟨Tryz.t79.desc, 1, 8, false, Tryz.t79.zero, [], true, Tryz.t79.methods⟩
theorem Tryz.ty79_ok : tyOf Tryz.prog 79 = some Tryz.ty79 := by kernel_rfl
noncomputable def Tryz.ty80 : Ty := ⟨Tryz.t80.desc, 1, 0, false, Tryz.t80.zero, [], true, Tryz.t80.methods⟩
theorem Tryz.ty80_ok : tyOf Tryz.prog 80 = some Tryz.ty80 := by kernel_rfl
noncomputable def Tryz.ty81 : Ty := ⟨Tryz.t81.desc, 1, 8, false, Tryz.t81.zero, [], true, Tryz.t81.methods⟩
theorem Tryz.ty81_ok : tyOf Tryz.prog 81 = some Tryz.ty81 := by kernel_rfl
noncomputable def Tryz.ty82 : Ty := ⟨Tryz.t82.desc, 1, 8, false, Tryz.t82.zero, [], true, Tryz.t82.methods⟩
theorem Tryz.ty82_ok : tyOf Tryz.prog 82 = some Tryz.ty82 := by kernel_rfl
noncomputable def Tryz.ty83 : Ty := ⟨Tryz.t83.desc, 1, 0, false, Tryz.t83.zero, [], true, Tryz.t83.methods⟩
theorem Tryz.ty83_ok : tyOf Tryz.prog 83 = some Tryz.ty83 := by kernel_rfl
noncomputable def Tryz.ty84 : Ty := ⟨Tryz.t84.desc, 1, 8, false, Tryz.t84.zero, [], true, Tryz.t84.methods⟩
theorem Tryz.ty84_ok : tyOf Tryz.prog 84 = some Tryz.ty84 := by kernel_rfl
noncomputable def Tryz.ty85 : Ty := ⟨Tryz.t85.desc, 1, 8, false, Tryz.t85.zero, [], true, Tryz.t85.methods⟩
theorem Tryz.ty85_ok : tyOf Tryz.prog 85 = some Tryz.ty85 := by kernel_rfl
noncomputable def Tryz.ty86 : Ty := ⟨Tryz.t86.desc, 3, 40, true, Tryz.t86.zero, [(0, 1), (1, 1), (2, 1)], true, Tryz.t86.methods⟩
theorem Tryz.ty86_ok : tyOf Tryz.prog 86 = some Tryz.ty86 := by kernel_rfl
noncomputable def Tryz.ty87 : Ty := ⟨Tryz.t86.desc, 3, 40, true, Tryz.t87.zero, [(0, 1), (1, 1), (2, 1)], true, Tryz.t87.methods⟩
theorem Tryz.ty87_ok : tyOf Tryz.prog 87 = some Tryz.ty87 := by kernel_rfl
noncomputable def Tryz.ty88 : Ty := ⟨Tryz.t88.desc, 1, 0, false, Tryz.t88.zero, [], true, Tryz.t88.methods⟩
theorem Tryz.ty88_ok : tyOf Tryz.prog 88 = some Tryz.ty88 := by kernel_rfl
noncomputable def Tryz.ty89 : Ty := ⟨Tryz.t89.desc, 1, 8, false, Tryz.t89.zero, [], true, Tryz.t89.methods⟩
theorem Tryz.ty89_ok : tyOf Tryz.prog 89 = some Tryz.ty89 := by kernel_rfl
noncomputable def Tryz.ty90 : Ty := ⟨Tryz.t90.desc, 1, 24, false, Tryz.t90.zero, [], true, Tryz.t90.methods⟩
theorem Tryz.ty90_ok : tyOf Tryz.prog 90 = some Tryz.ty90 := by kernel_rfl
noncomputable def Tryz.ty91 : Ty := ⟨Tryz.t91.desc, 6, 64, true, Tryz.t91.zero, [(0, 1), (1, 1), (2, 1), (3, 1), (4, 1), (5, 1)], true, Tryz.t91.methods⟩
theorem Tryz.ty91_ok : tyOf Tryz.prog 91 = some Tryz.ty91 := by kernel_rfl
noncomputable def Tryz.ty92 : Ty := ⟨Tryz.t91.desc, 6, 64, true, Tryz.t92.zero, [(0, 1), (1, 1), (2, 1), (3, 1), (4, 1), (5, 1)], true, Tryz.t92.methods⟩
theorem Tryz.ty92_ok : tyOf Tryz.prog 92 = some Tryz.ty92 := by kernel_rfl
noncomputable def Tryz.ty93 : Ty := ⟨Tryz.t93.desc, 1, 0, false, Tryz.t93.zero, [], true, Tryz.t93.methods⟩
theorem Tryz.ty93_ok : tyOf Tryz.prog 93 = some Tryz.ty93 := by kernel_rfl
noncomputable def Tryz.ty94 : Ty := ⟨Tryz.t94.desc, 1, 8, false, Tryz.t94.zero, [], true, Tryz.t94.methods⟩
theorem Tryz.ty94_ok : tyOf Tryz.prog 94 = some Tryz.ty94 := by kernel_rfl
noncomputable def Tryz.ty95 : Ty := ⟨Tryz.t95.desc, 4, 32, true, Tryz.t95.zero, [(0, 1), (1, 1), (2, 1), (3, 1)], true, Tryz.t95.methods⟩
theorem Tryz.ty95_ok : tyOf Tryz.prog 95 = some Tryz.ty95 := by kernel_rfl
noncomputable def Tryz.ty96 : Ty := ⟨Tryz.t95.desc, 4, 32, true, Tryz.t96.zero, [(0, 1), (1, 1), (2, 1), (3, 1)], true, Tryz.t96.methods⟩
theorem Tryz.ty96_ok : tyOf Tryz.prog 96 = some Tryz.ty96 := by kernel_rfl
noncomputable def Tryz.ty97 : Ty := ⟨Tryz.t97.desc, 1, 0, false, Tryz.t97.zero, [], true, Tryz.t97.methods⟩
theorem Tryz.ty97_ok : tyOf Tryz.prog 97 = some Tryz.ty97 := by kernel_rfl
noncomputable def Tryz.ty98 : Ty := ⟨Tryz.t98.desc, 1, 0, false, Tryz.t98.zero, [], true, Tryz.t98.methods⟩
theorem Tryz.ty98_ok : tyOf Tryz.prog 98 = some Tryz.ty98 := by kernel_rfl
noncomputable def Tryz.ty99 : Ty := ⟨Tryz.t99.desc, 1, 8, false, Tryz.t99.zero, [], true, Tryz.t99.methods⟩
theorem Tryz.ty99_ok : tyOf Tryz.prog 99 = some Tryz.ty99 := by kernel_rfl
noncomputable def Tryz.ty100 : Ty := ⟨Tryz.t100.desc, 1, 8, false, Tryz.t100.zero, [], true, Tryz.t100.methods⟩
theorem Tryz.ty100_ok : tyOf Tryz.prog 100 = some Tryz.ty100 := by kernel_rfl
noncomputable def Tryz.ty101 : Ty := ⟨Tryz.t101.desc, 1, 8, false, Tryz.t101.zero, [], true, Tryz.t101.methods⟩
theorem Tryz.ty101_ok : tyOf Tryz.prog 101 = some Tryz.ty101 := by kernel_rfl
noncomputable def Tryz.ty102 : Ty := ⟨Tryz.t102.desc, 2, 24, true, Tryz.t102.zero, [(0, 1), (1, 1)], true, Tryz.t102.methods⟩
theorem Tryz.ty102_ok : tyOf Tryz.prog 102 = some Tryz.ty102 := by kernel_rfl
noncomputable def Tryz.ty103 : Ty := ⟨Tryz.t102.desc, 2, 24, true, Tryz.t103.zero, [(0, 1), (1, 1)], true, Tryz.t103.methods⟩
theorem Tryz.ty103_ok : tyOf Tryz.prog 103 = some Tryz.ty103 := by kernel_rfl
noncomputable def Tryz.ty104 : Ty := ⟨Tryz.t104.desc, 1, 8, false, Tryz.t104.zero, [], true, Tryz.t104.methods⟩
theorem Tryz.ty104_ok : tyOf Tryz.prog 104 = some Tryz.ty104 := by kernel_rfl
noncomputable def Tryz.ty105 : Ty := ⟨Tryz.t105.desc, 1, 8, false, Tryz.t105.zero, [], true, Tryz.t105.methods⟩
theorem Tryz.ty105_ok : tyOf Tryz.prog 105 = some Tryz.ty105 := by kernel_rfl
noncomputable def Tryz.ty106 : Ty := ⟨Tryz.t106.desc, 7, 72, true, Tryz.t106.zero, [(0, 1), (1, 1), (2, 4), (6, 1)], true, Tryz.t106.methods⟩
theorem Tryz.ty106_ok : tyOf Tryz.prog 106 = some Tryz.ty106 := by kernel_rfl
noncomputable def Tryz.ty107 : Ty := ⟨Tryz.t106.desc, 7, 72, true, Tryz.t107.zero, [(0, 1), (1, 1), (2, 4), (6, 1)], true, Tryz.t107.methods⟩
theorem Tryz.ty107_ok : tyOf Tryz.prog 107 = some Tryz.ty107 := by kernel_rfl
noncomputable def Tryz.ty108 : Ty := ⟨Tryz.t108.desc, 1, 8, false, Tryz.t108.zero, [], true, Tryz.t108.methods⟩
theorem Tryz.ty108_ok : tyOf Tryz.prog 108 = some Tryz.ty108 := by kernel_rfl
noncomputable def Tryz.ty109 : Ty := ⟨Tryz.t109.desc, 1, 24, false, Tryz.t109.zero, [], true, Tryz.t109.methods⟩
theorem Tryz.ty109_ok : tyOf Tryz.prog 109 = some Tryz.ty109 := by kernel_rfl
noncomputable def Tryz.ty110 : Ty := ⟨Tryz.t110.desc, 3, 24, true, Tryz.t110.zero, [(0, 1), (1, 1), (2, 1)], true, Tryz.t110.methods⟩
theorem Tryz.ty110_ok : tyOf Tryz.prog 110 = some Tryz.ty110 := by kernel_rfl
noncomputable def Tryz.ty111 : Ty := ⟨Tryz.t110.desc, 3, 24, true, Tryz.t111.zero, [(0, 1), (1, 1), (2, 1)], true, Tryz.t111.methods⟩
theorem Tryz.ty111_ok : tyOf Tryz.prog 111 = some Tryz.ty111 := by kernel_rfl
noncomputable def Tryz.ty112 : Ty := ⟨Tryz.t112.desc, 48, 384, true, Tryz.t112.zero, [], true, Tryz.t112.methods⟩
theorem Tryz.ty112_ok : tyOf Tryz.prog 112 = some Tryz.ty112 := by kernel_rfl
noncomputable def Tryz.ty113 : Ty := ⟨Tryz.t113.desc, 49, 392, true, Tryz.t113.zero, [(0, 1), (1, 48)], true, Tryz.t113.methods⟩
theorem Tryz.ty113_ok : tyOf Tryz.prog 113 = some Tryz.ty113 := by kernel_rfl
noncomputable def Tryz.ty114 : Ty := ⟨Tryz.t113.desc, 49, 392, true, Tryz.t114.zero, [(0, 1), (1, 48)], true, Tryz.t114.methods⟩
theorem Tryz.ty114_ok : tyOf Tryz.prog 114 = some Tryz.ty114 := by kernel_rfl
noncomputable def Tryz.ty115 : Ty := ⟨Tryz.t115.desc, 1, 0, false, Tryz.t115.zero, [], true, Tryz.t115.methods⟩
theorem Tryz.ty115_ok : tyOf Tryz.prog 115 = some Tryz.ty115 := by kernel_rfl
noncomputable def Tryz.ty116 : Ty := ⟨Tryz.t116.desc, 1, 8, false, Tryz.t116.zero, [], true, Tryz.t116.methods⟩
theorem Tryz.ty116_ok : tyOf Tryz.prog 116 = some Tryz.ty116 := by kernel_rfl
noncomputable def Tryz.ty117 : Ty := ⟨Tryz.t117.desc, 1, 0, false, Tryz.t117.zero, [], true, Tryz.t117.methods⟩
theorem Tryz.ty117_ok : tyOf Tryz.prog 117 = some Tryz.ty117 := by kernel_rfl
noncomputable def Tryz.ty118 : Ty := ⟨Tryz.t118.desc, 1, 8, false, Tryz.t118.zero, [], true, Tryz.t118.methods⟩
theorem Tryz.ty118_ok : tyOf Tryz.prog 118 = some Tryz.ty118 := by kernel_rfl
noncomputable def Tryz.ty119 : Ty := ⟨Tryz.t119.desc, 1, 0, false, Tryz.t119.zero, [], true, Tryz.t119.methods⟩
theorem Tryz.ty119_ok : tyOf Tryz.prog 119 = some Tryz.ty119 := by kernel_rfl
noncomputable def Tryz.ty120 : Ty := ⟨Tryz.t120.desc, 1, 8, false, Tryz.t120.zero, [], true, Tryz.t120.methods⟩
theorem Tryz.ty120_ok : tyOf Tryz.prog 120 = some Tryz.ty120 := by kernel_rfl
noncomputable def Tryz.ty121 : Ty := ⟨Tryz.t121.desc, 1, 8, false, Tryz.t121.zero, [], true, Tryz.t121.methods⟩
theorem Tryz.ty121_ok : tyOf Tryz.prog 121 = some Tryz.ty121 := by kernel_rfl
noncomputable def Tryz.ty122 : Ty := ⟨Tryz.t122.desc, 1, 8, false, Tryz.t122.zero, [], true, Tryz.t122.methods⟩
theorem Tryz.ty122_ok : tyOf Tryz.prog 122 = some Tryz.ty122 := by kernel_rfl
noncomputable def Tryz.ty123 : Ty := ⟨Tryz.t123.desc, 1, 8, false, Tryz.t123.zero, [], true, Tryz.t123.methods⟩
theorem Tryz.ty123_ok : tyOf Tryz.prog 123 = some Tryz.ty123 := by kernel_rfl
noncomputable def Tryz.ty124 : Ty := ⟨Tryz.t124.desc, 1, 8, false, Tryz.t124.zero, [], true, Tryz.t124.methods⟩
theorem Tryz.ty124_ok : tyOf Tryz.prog 124 = some Tryz.ty124 := by kernel_rfl
noncomputable def Tryz.ty125 : Ty := ⟨Tryz.t125.desc, 1, 0, false, Tryz.t125.zero, [], true, Tryz.t125.methods⟩
theorem Tryz.ty125_ok : tyOf Tryz.prog 125 = some Tryz.ty125 := by kernel_rfl
noncomputable def Tryz.ty126 : Ty := ⟨Tryz.t126.desc, 1, 8, false, Tryz.t126.zero, [], true, Tryz.t126.methods⟩
theorem Tryz.ty126_ok : tyOf Tryz.prog 126 = some Tryz.ty126 := by kernel_rfl
noncomputable def Tryz.ty127 : Ty := ⟨Tryz.t127.desc, 1, 8, false, Tryz.t127.zero, [], true, Tryz.t127.methods⟩
theorem Tryz.ty127_ok : tyOf Tryz.prog 127 = some Tryz.ty127 := by kernel_rfl
noncomputable def Tryz.ty128 : Ty := ⟨Tryz.t128.desc, 1, 0, false, Tryz.t128.zero, [], true, Tryz.t128.methods⟩
theorem Tryz.ty128_ok : tyOf Tryz.prog 128 = some Tryz.ty128 := by kernel_rfl
noncomputable def Tryz.ty129 : Ty := ⟨Tryz.t129.desc, 1, 8, false, Tryz.t129.zero, [], true, Tryz.t129.methods⟩
theorem Tryz.ty129_ok : tyOf Tryz.prog 129 = some Tryz.ty129 := by kernel_rfl
noncomputable def Tryz.ty130 : Ty := ⟨Tryz.t130.desc, 1, 8, false, Tryz.t130.zero, [], true, Tryz.t130.methods⟩
theorem Tryz.ty130_ok : tyOf Tryz.prog 130 = some Tryz.ty130 := by kernel_rfl
noncomputable def Tryz.ty131 : Ty := ⟨Tryz.t131.desc, 1, 8, false, Tryz.t131.zero, [], true, Tryz.t131.methods⟩
theorem Tryz.ty131_ok : tyOf Tryz.prog 131 = some Tryz.ty131 := by kernel_rfl
noncomputable def Tryz.ty132 : Ty := ⟨Tryz.t132.desc, 15, 160, true, Tryz.t132.zero, [(0, 1), (1, 1), (2, 1), (3, 6), (9, 6)], true, Tryz.t132.methods⟩
theorem Tryz.ty132_ok : tyOf Tryz.prog 132 = some Tryz.ty132 := by kernel_rfl
noncomputable def Tryz.ty133 : Ty := ⟨Tryz.t132.desc, 15, 160, true, Tryz.t133.zero, [(0, 1), (1, 1), (2, 1), (3, 6), (9, 6)], true, Tryz.t133.methods⟩
theorem Tryz.ty133_ok : tyOf Tryz.prog 133 = some Tryz.ty133 := by kernel_rfl
noncomputable def Tryz.ty134 : Ty := ⟨Tryz.t134.desc, 1, 0, false, Tryz.t134.zero, [], true, Tryz.t134.methods⟩
theorem Tryz.ty134_ok : tyOf Tryz.prog 134 = some Tryz.ty134 := by kernel_rfl
noncomputable def Tryz.ty135 : Ty := ⟨Tryz.t135.desc, 1, 8, false, Tryz.t135.zero, [], true, Tryz.t135.methods⟩
theorem Tryz.ty135_ok : tyOf Tryz.prog 135 = some Tryz.ty135 := by kernel_rfl
noncomputable def Tryz.ty136 : Ty := ⟨Tryz.t136.desc, 1, 8, false, Tryz.t136.zero, [], true, Tryz.t136.methods⟩
theorem Tryz.ty136_ok : tyOf Tryz.prog 136 = some Tryz.ty136 := by kernel_rfl
noncomputable def Tryz.ty137 : Ty := ⟨Tryz.t137.desc, 1, 0, false, Tryz.t137.zero, [], true, Tryz.t137.methods⟩
theorem Tryz.ty137_ok : tyOf Tryz.prog 137 = some Tryz.ty137 := by kernel_rfl
noncomputable def Tryz.ty138 : Ty := ⟨Tryz.t138.desc, 1, 8, false, Tryz.t138.zero, [], true, Tryz.t138.methods⟩
theorem Tryz.ty138_ok : tyOf Tryz.prog 138 = some Tryz.ty138 := by kernel_rfl
noncomputable def Tryz.ty139 : Ty := ⟨Tryz.t139.desc, 1, 8, false, Tryz.t139.zero, [], true, Tryz.t139.methods⟩
theorem Tryz.ty139_ok : tyOf Tryz.prog 139 = some Tryz.ty139 := by kernel_rfl
noncomputable def Tryz.ty140 : Ty := ⟨Tryz.t140.desc, 1, 8, false, Tryz.t140.zero, [], true, Tryz.t140.methods⟩
theorem Tryz.ty140_ok : tyOf Tryz.prog 140 = some Tryz.ty140 := by kernel_rfl
noncomputable def Tryz.ty141 : Ty := ⟨Tryz.t141.desc, 1, 8, false, Tryz.t141.zero, [], true, Tryz.t141.methods⟩
theorem Tryz.ty141_ok : tyOf Tryz.prog 141 = some Tryz.ty141 := by kernel_rfl
noncomputable def Tryz.ty142 : Ty := ⟨Tryz.t142.desc, 2, 24, true, Tryz.t142.zero, [(0, 1), (1, 1)], true, Tryz.t142.methods⟩
theorem Tryz.ty142_ok : tyOf Tryz.prog 142 = some Tryz.ty142 := by kernel_rfl
noncomputable def Tryz.ty143 : Ty := ⟨Tryz.t142.desc, 2, 24, true, Tryz.t143.zero, [(0, 1), (1, 1)], true, Tryz.t143.methods⟩
theorem Tryz.ty143_ok : tyOf Tryz.prog 143 = some Tryz.ty143 := by kernel_rfl
noncomputable def Tryz.ty144 : Ty := ⟨Tryz.t144.desc, 1, 8, false, Tryz.t144.zero, [], true, Tryz.t144.methods⟩
theorem Tryz.ty144_ok : tyOf Tryz.prog 144 = some Tryz.ty144 := by kernel_rfl
noncomputable def Tryz.ty145 : Ty := ⟨Tryz.t145.desc, 1, 24, false, Tryz.t145.zero, [], true, Tryz.t145.methods⟩
theorem Tryz.ty145_ok : tyOf Tryz.prog 145 = some Tryz.ty145 := by kernel_rfl
noncomputable def Tryz.ty146 : Ty := ⟨Tryz.t146.desc, 1, 0, false, Tryz.t146.zero, [], true, Tryz.t146.methods⟩
theorem Tryz.ty146_ok : tyOf Tryz.prog 146 = some Tryz.ty146 := by kernel_rfl
noncomputable def Tryz.ty147 : Ty := ⟨Tryz.t147.desc, 1, 8, false, Tryz.t147.zero, [], true, Tryz.t147.methods⟩
theorem Tryz.ty147_ok : tyOf Tryz.prog 147 = some Tryz.ty147 := by kernel_rfl
noncomputable def Tryz.ty148 : Ty := ⟨Tryz.t148.desc, 1, 8, false, Tryz.t148.zero, [], true, Tryz.t148.methods⟩
theorem Tryz.ty148_ok : tyOf Tryz.prog 148 = some Tryz.ty148 := by kernel_rfl
noncomputable def Tryz.ty149 : Ty := ⟨Tryz.t149.desc, 1, 8, false, Tryz.t149.zero, [], true, Tryz.t149.methods⟩
theorem Tryz.ty149_ok : tyOf Tryz.prog 149 = some Tryz.ty149 := by kernel_rfl
noncomputable def Tryz.ty150 : Ty := ⟨Tryz.t150.desc, 1, 8, false, Tryz.t150.zero, [], true, Tryz.t150.methods⟩
theorem Tryz.ty150_ok : tyOf Tryz.prog 150 = some Tryz.ty150 := by kernel_rfl
noncomputable def Tryz.ty151 : Ty := ⟨Tryz.t151.desc, 1, 8, false, Tryz.t151.zero, [], true, Tryz.t151.methods⟩
theorem Tryz.ty151_ok : tyOf Tryz.prog 151 = some Tryz.ty151 := by kernel_rfl
noncomputable def Tryz.ty152 : Ty := ⟨Tryz.t152.desc, 1, 0, false, Tryz.t152.zero, [], true, Tryz.t152.methods⟩
theorem Tryz.ty152_ok : tyOf Tryz.prog 152 = some Tryz.ty152 := by kernel_rfl
noncomputable def Tryz.ty153 : Ty := ⟨Tryz.t153.desc, 1, 8, false, Tryz.t153.zero, [], true, Tryz.t153.methods⟩
theorem Tryz.ty153_ok : tyOf Tryz.prog 153 = some Tryz.ty153 := by kernel_rfl
noncomputable def Tryz.ty154 : Ty := ⟨Tryz.t154.desc, 1, 8, false, Tryz.t154.zero, [], true, Tryz.t154.methods⟩
theorem Tryz.ty154_ok : tyOf Tryz.prog 154 = some Tryz.ty154 := by kernel_rfl
noncomputable def Tryz.ty155 : Ty := ⟨Tryz.t155.desc, 1, 8, false, Tryz.t155.zero, [], true, Tryz.t155.methods⟩
theorem Tryz.ty155_ok : tyOf Tryz.prog 155 = some Tryz.ty155 := by kernel_rfl
noncomputable def Tryz.ty156 : Ty := ⟨Tryz.t156.desc, 1, 8, false, Tryz.t156.zero, [], true, Tryz.t156.methods⟩
theorem Tryz.ty156_ok : tyOf Tryz.prog 156 = some Tryz.ty156 := by kernel_rfl
noncomputable def Tryz.ty157 : Ty := ⟨Tryz.t157.desc, 1, 8, false, Tryz.t157.zero, [], true, Tryz.t157.methods⟩
theorem Tryz.ty157_ok : tyOf Tryz.prog 157 = some Tryz.ty157 := by kernel_rfl
noncomputable def Tryz.ty158 : Ty := ⟨Tryz.t158.desc, 1, 8, false, Tryz.t158.zero, [], true, Tryz.t158.methods⟩
theorem Tryz.ty158_ok : tyOf Tryz.prog 158 = some Tryz.ty158 := by kernel_rfl
noncomputable def Tryz.ty159 : Ty := ⟨Tryz.t159.desc, 1, 8, false, Tryz.t159.zero, [], true, Tryz.t159.methods⟩
theorem Tryz.ty159_ok : tyOf Tryz.prog 159 = some Tryz.ty159 := by kernel_rfl
noncomputable def Tryz.ty160 : Ty := ⟨Tryz.t160.desc, 1, 8, false, Tryz.t160.zero, [], true, Tryz.t160.methods⟩
theorem Tryz.ty160_ok : tyOf Tryz.prog 160 = some Tryz.ty160 := by kernel_rfl
noncomputable def Tryz.ty161 : Ty := ⟨Tryz.t161.desc, 1, 24, false, Tryz.t161.zero, [], true, Tryz.t161.methods⟩
theorem Tryz.ty161_ok : tyOf Tryz.prog 161 = some Tryz.ty161 := by kernel_rfl
noncomputable def Tryz.ty162 : Ty := ⟨Tryz.t162.desc, 1, 0, false, Tryz.t162.zero, [], true, Tryz.t162.methods⟩
theorem Tryz.ty162_ok : tyOf Tryz.prog 162 = some Tryz.ty162 := by kernel_rfl
noncomputable def Tryz.ty163 : Ty := ⟨Tryz.t163.desc, 1, 8, false, Tryz.t163.zero, [], true, Tryz.t163.methods⟩
theorem Tryz.ty163_ok : tyOf Tryz.prog 163 = some Tryz.ty163 := by kernel_rfl
noncomputable def Tryz.ty164 : Ty := ⟨Tryz.t164.desc, 1, 8, false, Tryz.t164.zero, [], true, Tryz.t164.methods⟩
theorem Tryz.ty164_ok : tyOf Tryz.prog 164 = some Tryz.ty164 := by kernel_rfl
noncomputable def Tryz.ty165 : Ty := ⟨Tryz.t165.desc, 1, 24, false, Tryz.t165.zero, [], true, Tryz.t165.methods⟩
theorem Tryz.ty165_ok : tyOf Tryz.prog 165 = some Tryz.ty165 := by kernel_rfl
noncomputable def Tryz.ty166 : Ty := ⟨Tryz.t166.desc, 1, 8, false, Tryz.t166.zero, [], true, Tryz.t166.methods⟩
theorem Tryz.ty166_ok : tyOf Tryz.prog 166 = some Tryz.ty166 := by kernel_rfl
noncomputable def Tryz.ty167 : Ty := ⟨Tryz.t167.desc, 1, 8, false, Tryz.t167.zero, [], true, Tryz.t167.methods⟩
theorem Tryz.ty167_ok : tyOf Tryz.prog 167 = some Tryz.ty167 := by kernel_rfl
noncomputable def Tryz.ty168 : Ty := ⟨Tryz.t168.desc, 1, 8, false, Tryz.t168.zero, [], true, Tryz.t168.methods⟩
theorem Tryz.ty168_ok : tyOf Tryz.prog 168 = some Tryz.ty168 := by kernel_rfl
noncomputable def Tryz.ty169 : Ty := ⟨Tryz.t169.desc, 1, 8, false, Tryz.t169.zero, [], true, Tryz.t169.methods⟩
theorem Tryz.ty169_ok : tyOf Tryz.prog 169 = some Tryz.ty169 := by kernel_rfl
noncomputable def Tryz.ty170 : Ty := ⟨Tryz.t170.desc, 1, 0, false, Tryz.t170.zero, [], true, Tryz.t170.methods⟩
theorem Tryz.ty170_ok : tyOf Tryz.prog 170 = some Tryz.ty170 := by kernel_rfl
noncomputable def Tryz.ty171 : Ty := ⟨Tryz.t171.desc, 1, 8, false, Tryz.t171.zero, [], true, Tryz.t171.methods⟩
theorem Tryz.ty171_ok : tyOf Tryz.prog 171 = some Tryz.ty171 := by kernel_rfl
noncomputable def Tryz.ty172 : Ty := ⟨Tryz.t172.desc, 1, 0, false, Tryz.t172.zero, [], true, Tryz.t172.methods⟩
theorem Tryz.ty172_ok : tyOf Tryz.prog 172 = some Tryz.ty172 := by kernel_rfl
noncomputable def Tryz.ty173 : Ty := ⟨Tryz.t173.desc, 1, 8, false, Tryz.t173.zero, [], true, Tryz.t173.methods⟩
theorem Tryz.ty173_ok : tyOf Tryz.prog 173 = some Tryz.ty173 := by kernel_rfl
noncomputable def Tryz.ty174 : Ty := ⟨Tryz.t174.desc, 1, 8, false, Tryz.t174.zero, [], true, Tryz.t174.methods⟩
theorem Tryz.ty174_ok : tyOf Tryz.prog 174 = some Tryz.ty174 := by kernel_rfl
noncomputable def Tryz.ty175 : Ty := ⟨Tryz.t175.desc, 1, 24, false, Tryz.t175.zero, [], true, Tryz.t175.methods⟩
theorem Tryz.ty175_ok : tyOf Tryz.prog 175 = some Tryz.ty175 := by kernel_rfl
noncomputable def Tryz.ty176 : Ty := ⟨Tryz.t176.desc, 1, 0, false, Tryz.t176.zero, [], true, Tryz.t176.methods⟩
theorem Tryz.ty176_ok : tyOf Tryz.prog 176 = some Tryz.ty176 := by kernel_rfl
noncomputable def Tryz.ty177 : Ty := ⟨Tryz.t177.desc, 1, 8, false, Tryz.t177.zero, [], true, Tryz.t177.methods⟩
theorem Tryz.ty177_ok : tyOf Tryz.prog 177 = some Tryz.ty177 := by kernel_rfl
noncomputable def Tryz.ty178 : Ty := ⟨Tryz.t178.desc, 3, 24, true, Tryz.t178.zero, [(0, 1), (1, 1), (2, 1)], true, Tryz.t178.methods⟩
theorem Tryz.ty178_ok : tyOf Tryz.prog 178 = some Tryz.ty178 := by kernel_rfl
noncomputable def Tryz.ty179 : Ty := ⟨Tryz.t178.desc, 3, 24, true, Tryz.t179.zero, [(0, 1), (1, 1), (2, 1)], true, Tryz.t179.methods⟩
theorem Tryz.ty179_ok : tyOf Tryz.prog 179 = some Tryz.ty179 := by kernel_rfl
noncomputable def Tryz.ty180 : Ty := ⟨Tryz.t180.desc, 1, 8, false, Tryz.t180.zero, [], true, Tryz.t180.methods⟩
theorem Tryz.ty180_ok : tyOf Tryz.prog 180 = some Tryz.ty180 := by kernel_rfl
noncomputable def Tryz.ty181 : Ty := ⟨Tryz.t181.desc, 1, 8, false, Tryz.t181.zero, [], true, Tryz.t181.methods⟩
theorem Tryz.ty181_ok : tyOf Tryz.prog 181 = some Tryz.ty181 := by kernel_rfl
noncomputable def Tryz.ty182 : Ty := ⟨Tryz.t182.desc, 1, 8, false, Tryz.t182.zero, [], true, Tryz.t182.methods⟩
theorem Tryz.ty182_ok : tyOf Tryz.prog 182 = some Tryz.ty182 := by kernel_rfl
noncomputable def Tryz.ty183 : Ty := ⟨Tryz.t183.desc, 1, 8, false, Tryz.t183.zero, [], true, Tryz.t183.methods⟩
theorem Tryz.ty183_ok : tyOf Tryz.prog 183 = some Tryz.ty183 := by kernel_rfl
noncomputable def Tryz.ty184 : Ty := ⟨Tryz.t184.desc, 1, 0, false, Tryz.t184.zero, [], true, Tryz.t184.methods⟩
theorem Tryz.ty184_ok : tyOf Tryz.prog 184 = some Tryz.ty184 := by kernel_rfl
noncomputable def Tryz.ty185 : Ty := ⟨Tryz.t185.desc, 1, 8, false, Tryz.t185.zero, [], true, Tryz.t185.methods⟩
theorem Tryz.ty185_ok : tyOf Tryz.prog 185 = some Tryz.ty185 := by kernel_rfl
noncomputable def Tryz.ty186 : Ty := ⟨Tryz.t186.desc, 1, 8, false, Tryz.t186.zero, [], true, Tryz.t186.methods⟩
theorem Tryz.ty186_ok : tyOf Tryz.prog 186 = some Tryz.ty186 := by kernel_rfl
noncomputable def Tryz.ty187 : Ty := ⟨Tryz.t187.desc, 1, 8, false, Tryz.t187.zero, [], true, Tryz.t187.methods⟩
theorem Tryz.ty187_ok : tyOf Tryz.prog 187 = some Tryz.ty187 := by kernel_rfl
noncomputable def Tryz.ty188 : Ty := ⟨Tryz.t188.desc, 1, 8, false, Tryz.t188.zero, [], true, Tryz.t188.methods⟩
theorem Tryz.ty188_ok : tyOf Tryz.prog 188 = some Tryz.ty188 := by kernel_rfl
noncomputable def Tryz.ty189 : Ty := ⟨Tryz.t189.desc, 1, 8, false, Tryz.t189.zero, [], true, Tryz.t189.methods⟩
theorem Tryz.ty189_ok : tyOf Tryz.prog 189 = some Tryz.ty189 := by kernel_rfl
noncomputable def Tryz.ty190 : Ty := ⟨Tryz.t190.desc, 1, 24, false, Tryz.t190.zero, [], true, Tryz.t190.methods⟩
theorem Tryz.ty190_ok : tyOf Tryz.prog 190 = some Tryz.ty190 := by kernel_rfl
noncomputable def Tryz.ty191 : Ty := ⟨Tryz.t191.desc, 1, 8, false, Tryz.t191.zero, [], true, Tryz.t191.methods⟩
theorem Tryz.ty191_ok : tyOf Tryz.prog 191 = some Tryz.ty191 := by kernel_rfl
noncomputable def Tryz.ty192 : Ty := ⟨Tryz.t192.desc, 1, 8, false, Tryz.t192.zero, [], true, Tryz.t192.methods⟩
theorem Tryz.ty192_ok : tyOf Tryz.prog 192 = some Tryz.ty192 := by kernel_rfl
noncomputable def Tryz.ty193 : Ty := ⟨Tryz.t193.desc, 1, 0, false, Tryz.t193.zero, [], true, Tryz.t193.methods⟩
theorem Tryz.ty193_ok : tyOf Tryz.prog 193 = some Tryz.ty193 := by kernel_rfl
noncomputable def Tryz.ty194 : Ty := ⟨Tryz.t194.desc, 1, 8, false, Tryz.t194.zero, [], true, Tryz.t194.methods⟩
theorem Tryz.ty194_ok : tyOf Tryz.prog 194 = some Tryz.ty194 := by kernel_rfl
noncomputable def Tryz.ty195 : Ty := ⟨Tryz.t195.desc, 1, 24, false, Tryz.t195.zero, [], true, Tryz.t195.methods⟩
theorem Tryz.ty195_ok : tyOf Tryz.prog 195 = some Tryz.ty195 := by kernel_rfl
noncomputable def Tryz.ty196 : Ty := ⟨Tryz.t196.desc, 1, 0, false, Tryz.t196.zero, [], true, Tryz.t196.methods⟩
theorem Tryz.ty196_ok : tyOf Tryz.prog 196 = some Tryz.ty196 := by kernel_rfl
noncomputable def Tryz.ty197 : Ty := ⟨Tryz.t197.desc, 1, 8, false, Tryz.t197.zero, [], true, Tryz.t197.methods⟩
theorem Tryz.ty197_ok : tyOf Tryz.prog 197 = some Tryz.ty197 := by kernel_rfl
noncomputable def Tryz.ty198 : Ty := ⟨Tryz.t198.desc, 2, 16, true, Tryz.t198.zero, [(0, 1), (1, 1)], true, Tryz.t198.methods⟩
theorem Tryz.ty198_ok : tyOf Tryz.prog 198 = some Tryz.ty198 := by kernel_rfl
noncomputable def Tryz.ty199 : Ty := ⟨Tryz.t198.desc, 2, 16, true, Tryz.t199.zero, [(0, 1), (1, 1)], true, Tryz.t199.methods⟩
theorem Tryz.ty199_ok : tyOf Tryz.prog 199 = some Tryz.ty199 := by kernel_rfl
noncomputable def Tryz.ty200 : Ty := ⟨Tryz.t200.desc, 1, 8, false, Tryz.t200.zero, [], true, Tryz.t200.methods⟩
theorem Tryz.ty200_ok : tyOf Tryz.prog 200 = some Tryz.ty200 := by kernel_rfl
noncomputable def Tryz.ty201 : Ty := ⟨Tryz.t201.desc, 1, 8, false, Tryz.t201.zero, [], true, Tryz.t201.methods⟩
theorem Tryz.ty201_ok : tyOf Tryz.prog 201 = some Tryz.ty201 := by kernel_rfl
noncomputable def Tryz.ty202 : Ty := ⟨Tryz.t202.desc, 1, 8, false, Tryz.t202.zero, [], true, Tryz.t202.methods⟩
theorem Tryz.ty202_ok : tyOf Tryz.prog 202 = some Tryz.ty202 := by kernel_rfl
noncomputable def Tryz.ty203 : Ty := ⟨Tryz.t203.desc, 1, 8, false, Tryz.t203.zero, [], true, Tryz.t203.methods⟩
theorem Tryz.ty203_ok : tyOf Tryz.prog 203 = some Tryz.ty203 := by kernel_rfl
noncomputable def Tryz.ty204 : Ty := ⟨Tryz.t204.desc, 1, 0, false, Tryz.t204.zero, [], true, Tryz.t204.methods⟩
theorem Tryz.ty204_ok : tyOf Tryz.prog 204 = some Tryz.ty204 := by kernel_rfl
noncomputable def Tryz.ty205 : Ty := ⟨Tryz.t205.desc, 1, 8, false, Tryz.t205.zero, [], true, Tryz.t205.methods⟩
theorem Tryz.ty205_ok : tyOf Tryz.prog 205 = some Tryz.ty205 := by kernel_rfl
noncomputable def Tryz.ty206 : Ty := ⟨Tryz.t206.desc, 1, 8, false, Tryz.t206.zero, [], true, Tryz.t206.methods⟩
theorem Tryz.ty206_ok : tyOf Tryz.prog 206 = some Tryz.ty206 := by kernel_rfl
noncomputable def Tryz.ty207 : Ty := ⟨Tryz.t207.desc, 1, 8, false, Tryz.t207.zero, [], true, Tryz.t207.methods⟩
theorem Tryz.ty207_ok : tyOf Tryz.prog 207 = some Tryz.ty207 := by kernel_rfl
noncomputable def Tryz.ty208 : Ty := ⟨Tryz.t208.desc, 2, 32, true, Tryz.t208.zero, [(0, 1), (1, 1)], true, Tryz.t208.methods⟩
theorem Tryz.ty208_ok : tyOf Tryz.prog 208 = some Tryz.ty208 := by kernel_rfl
noncomputable def Tryz.ty209 : Ty := ⟨Tryz.t208.desc, 2, 32, true, Tryz.t209.zero, [(0, 1), (1, 1)], true, Tryz.t209.methods⟩
theorem Tryz.ty209_ok : tyOf Tryz.prog 209 = some Tryz.ty209 := by kernel_rfl
noncomputable def Tryz.ty210 : Ty := ⟨Tryz.t210.desc, 1, 8, false, Tryz.t210.zero, [], true, Tryz.t210.methods⟩
theorem Tryz.ty210_ok : tyOf Tryz.prog 210 = some Tryz.ty210 := by kernel_rfl
noncomputable def Tryz.ty211 : Ty := ⟨Tryz.t211.desc, 1, 16, false, Tryz.t211.zero, [], false, Tryz.t211.methods⟩
theorem Tryz.ty211_ok : tyOf Tryz.prog 211 = some Tryz.ty211 := by kernel_rfl
noncomputable def Tryz.ty212 : Ty := ⟨Tryz.t211.desc, 1, 16, false, Tryz.t212.zero, [], false, Tryz.t212.methods⟩
theorem Tryz.ty212_ok : tyOf Tryz.prog 212 = some Tryz.ty212 := by kernel_rfl
noncomputable def Tryz.ty213 : Ty := ⟨Tryz.t213.desc, 1, 0, false, Tryz.t213.zero, [], true, Tryz.t213.methods⟩
theorem Tryz.ty213_ok : tyOf Tryz.prog 213 = some Tryz.ty213 := by kernel_rfl
noncomputable def Tryz.ty214 : Ty := ⟨Tryz.t214.desc, 1, 8, false, Tryz.t214.zero, [], true, Tryz.t214.methods⟩
theorem Tryz.ty214_ok : tyOf Tryz.prog 214 = some Tryz.ty214 := by kernel_rfl
noncomputable def Tryz.ty215 : Ty := ⟨Tryz.t215.desc, 1, 8, false, Tryz.t215.zero, [], true, Tryz.t215.methods⟩
theorem Tryz.ty215_ok : tyOf Tryz.prog 215 = some Tryz.ty215 := by kernel_rfl
noncomputable def Tryz.ty216 : Ty := ⟨Tryz.t216.desc, 1, 8, false, Tryz.t216.zero, [], true, Tryz.t216.methods⟩
theorem Tryz.ty216_ok : tyOf Tryz.prog 216 = some Tryz.ty216 := by kernel_rfl
noncomputable def Tryz.ty217 : Ty := ⟨Tryz.t217.desc, 1, 8, false, Tryz.t217.zero, [], true, Tryz.t217.methods⟩
theorem Tryz.ty217_ok : tyOf Tryz.prog 217 = some Tryz.ty217 := by kernel_rfl
noncomputable def Tryz.ty218 : Ty := ⟨Tryz.t218.desc, 1, 0, false, Tryz.t218.zero, [], true, Tryz.t218.methods⟩
theorem Tryz.ty218_ok : tyOf Tryz.prog 218 = some Tryz.ty218 := by kernel_rfl
noncomputable def Tryz.ty219 : Ty := ⟨Tryz.t219.desc, 1, 8, false, Tryz.t219.zero, [], true, Tryz.t219.methods⟩
theorem Tryz.ty219_ok : tyOf Tryz.prog 219 = some Tryz.ty219 := by kernel_rfl
noncomputable def Tryz.ty220 : Ty := ⟨Tryz.t220.desc, 1, 8, false, Tryz.t220.zero, [], true, Tryz.t220.methods⟩
theorem Tryz.ty220_ok : tyOf Tryz.prog 220 = some Tryz.ty220 := by kernel_rfl
noncomputable def Tryz.ty221 : Ty := ⟨Tryz.t221.desc, 1, 8, false, Tryz.t221.zero, [], true, Tryz.t221.methods⟩
theorem Tryz.ty221_ok : tyOf Tryz.prog 221 = some Tryz.ty221 := by kernel_rfl
noncomputable def Tryz.ty222 : Ty := ⟨Tryz.t222.desc, 1, 8, false, Tryz.t222.zero, [], true, Tryz.t222.methods⟩
theorem Tryz.ty222_ok : tyOf Tryz.prog 222 = some Tryz.ty222 := by kernel_rfl
noncomputable def Tryz.ty223 : Ty := ⟨Tryz.t223.desc, 1, 8, false, Tryz.t223.zero, [], true, Tryz.t223.methods⟩
theorem Tryz.ty223_ok : tyOf Tryz.prog 223 = some Tryz.ty223 := by kernel_rfl
noncomputable def Tryz.ty224 : Ty := ⟨Tryz.t224.desc, 1, 24, false, Tryz.t224.zero, [], true, Tryz.t224.methods⟩
theorem Tryz.ty224_ok : tyOf Tryz.prog 224 = some Tryz.ty224 := by kernel_rfl
noncomputable def Tryz.ty225 : Ty := ⟨Tryz.t225.desc, 1, 24, false, Tryz.t225.zero, [], true, Tryz.t225.methods⟩
theorem Tryz.ty225_ok : tyOf Tryz.prog 225 = some Tryz.ty225 := by kernel_rfl
noncomputable def Tryz.ty226 : Ty := ⟨Tryz.t226.desc, 1, 0, false, Tryz.t226.zero, [], true, Tryz.t226.methods⟩
theorem Tryz.ty226_ok : tyOf Tryz.prog 226 = some Tryz.ty226 := by kernel_rfl
noncomputable def Tryz.ty227 : Ty := ⟨Tryz.t227.desc, 1, 8, false, Tryz.t227.zero, [], true, Tryz.t227.methods⟩
theorem Tryz.ty227_ok : tyOf Tryz.prog 227 = some Tryz.ty227 := by kernel_rfl
noncomputable def Tryz.ty228 : Ty := ⟨Tryz.t228.desc, 1, 8, false, Tryz.t228.zero, [], true, Tryz.t228.methods⟩
theorem Tryz.ty228_ok : tyOf Tryz.prog 228 = some Tryz.ty228 := by kernel_rfl
noncomputable def Tryz.ty229 : Ty := ⟨Tryz.t229.desc, 2, 24, true, Tryz.t229.zero, [(0, 1), (1, 1)], true, Tryz.t229.methods⟩
theorem Tryz.ty229_ok : tyOf Tryz.prog 229 = some Tryz.ty229 := by kernel_rfl
noncomputable def Tryz.ty230 : Ty := ⟨Tryz.t229.desc, 2, 24, true, Tryz.t230.zero, [(0, 1), (1, 1)], true, Tryz.t230.methods⟩
theorem Tryz.ty230_ok : tyOf Tryz.prog 230 = some Tryz.ty230 := by kernel_rfl
noncomputable def Tryz.ty231 : Ty := ⟨Tryz.t231.desc, 1, 8, false, Tryz.t231.zero, [], true, Tryz.t231.methods⟩
theorem Tryz.ty231_ok : tyOf Tryz.prog 231 = some Tryz.ty231 := by kernel_rfl
noncomputable def Tryz.ty232 : Ty := ⟨Tryz.t232.desc, 1, 8, false, Tryz.t232.zero, [], true, Tryz.t232.methods⟩
theorem Tryz.ty232_ok : tyOf Tryz.prog 232 = some Tryz.ty232 := by kernel_rfl
noncomputable def Tryz.ty233 : Ty := ⟨Tryz.t233.desc, 1, 8, false, Tryz.t233.zero, [], true, Tryz.t233.methods⟩
theorem Tryz.ty233_ok : tyOf Tryz.prog 233 = some Tryz.ty233 := by kernel_rfl
noncomputable def Tryz.ty234 : Ty := ⟨Tryz.t234.desc, 1, 8, false, Tryz.t234.zero, [], true, Tryz.t234.methods⟩
theorem Tryz.ty234_ok : tyOf Tryz.prog 234 = some Tryz.ty234 := by kernel_rfl
noncomputable def Tryz.ty235 : Ty := ⟨Tryz.t235.desc, 1, 8, false, Tryz.t235.zero, [], true, Tryz.t235.methods⟩
theorem Tryz.ty235_ok : tyOf Tryz.prog 235 = some Tryz.ty235 := by kernel_rfl
noncomputable def Tryz.ty236 : Ty := ⟨Tryz.t236.desc, 1, 8, false, Tryz.t236.zero, [], true, Tryz.t236.methods⟩
theorem Tryz.ty236_ok : tyOf Tryz.prog 236 = some Tryz.ty236 := by kernel_rfl
noncomputable def Tryz.ty237 : Ty := ⟨Tryz.t237.desc, 1, 8, false, Tryz.t237.zero, [], true, Tryz.t237.methods⟩
theorem Tryz.ty237_ok : tyOf Tryz.prog 237 = some Tryz.ty237 := by kernel_rfl
noncomputable def Tryz.ty238 : Ty := ⟨Tryz.t238.desc, 1, 8, false, Tryz.t238.zero, [], true, Tryz.t238.methods⟩
theorem Tryz.ty238_ok : tyOf Tryz.prog 238 = some Tryz.ty238 := by kernel_rfl
noncomputable def Tryz.ty239 : Ty := ⟨Tryz.t239.desc, 2, 48, true, Tryz.t239.zero, [(0, 1), (1, 1)], true, Tryz.t239.methods⟩
theorem Tryz.ty239_ok : tyOf Tryz.prog 239 = some Tryz.ty239 := by kernel_rfl
noncomputable def Tryz.ty240 : Ty := ⟨Tryz.t239.desc, 2, 48, true, Tryz.t240.zero, [(0, 1), (1, 1)], true, Tryz.t240.methods⟩
theorem Tryz.ty240_ok : tyOf Tryz.prog 240 = some Tryz.ty240 := by kernel_rfl
noncomputable def Tryz.ty241 : Ty := ⟨Tryz.t241.desc, 1, 0, false, Tryz.t241.zero, [], true, Tryz.t241.methods⟩
theorem Tryz.ty241_ok : tyOf Tryz.prog 241 = some Tryz.ty241 := by kernel_rfl
noncomputable def Tryz.ty242 : Ty := ⟨Tryz.t242.desc, 1, 8, false, Tryz.t242.zero, [], true, Tryz.t242.methods⟩
theorem Tryz.ty242_ok : tyOf Tryz.prog 242 = some Tryz.ty242 := by kernel_rfl
noncomputable def Tryz.ty243 : Ty := ⟨Tryz.t243.desc, 1, 8, false, Tryz.t243.zero, [], true, Tryz.t243.methods⟩
theorem Tryz.ty243_ok : tyOf Tryz.prog 243 = some Tryz.ty243 := by kernel_rfl
noncomputable def Tryz.ty244 : Ty := ⟨Tryz.t244.desc, 1, 8, false, Tryz.t244.zero, [], true, Tryz.t244.methods⟩
theorem Tryz.ty244_ok : tyOf Tryz.prog 244 = some Tryz.ty244 := by kernel_rfl
noncomputable def Tryz.ty245 : Ty := ⟨Tryz.t245.desc, 1, 8, false, Tryz.t245.zero, [], true, Tryz.t245.methods⟩
theorem Tryz.ty245_ok : tyOf Tryz.prog 245 = some Tryz.ty245 := by kernel_rfl
noncomputable def Tryz.ty246 : Ty := ⟨Tryz.t246.desc, 1, 8, false, Tryz.t246.zero, [], true, Tryz.t246.methods⟩
theorem Tryz.ty246_ok : tyOf Tryz.prog 246 = some Tryz.ty246 := by kernel_rfl
noncomputable def Tryz.ty247 : Ty := ⟨Tryz.t247.desc, 1, 8, false, Tryz.t247.zero, [], true, Tryz.t247.methods⟩
theorem Tryz.ty247_ok : tyOf Tryz.prog 247 = some Tryz.ty247 := by kernel_rfl
noncomputable def Tryz.ty248 : Ty := ⟨Tryz.t248.desc, 6, 48, true, Tryz.t248.zero, [(0, 2), (2, 1), (3, 1), (4, 1), (5, 1)], true, Tryz.t248.methods⟩
theorem Tryz.ty248_ok : tyOf Tryz.prog 248 = some Tryz.ty248 := by kernel_rfl
noncomputable def Tryz.ty249 : Ty := ⟨Tryz.t248.desc, 6, 48, true, Tryz.t249.zero, [(0, 2), (2, 1), (3, 1), (4, 1), (5, 1)], true, Tryz.t249.methods⟩
theorem Tryz.ty249_ok : tyOf Tryz.prog 249 = some Tryz.ty249 := by kernel_rfl
noncomputable def Tryz.ty250 : Ty := ⟨Tryz.t250.desc, 3, 24, true, Tryz.t250.zero, [(0, 1), (1, 1), (2, 1)], true, Tryz.t250.methods⟩
theorem Tryz.ty250_ok : tyOf Tryz.prog 250 = some Tryz.ty250 := by kernel_rfl
noncomputable def Tryz.ty251 : Ty := ⟨Tryz.t250.desc, 3, 24, true, Tryz.t251.zero, [(0, 1), (1, 1), (2, 1)], true, Tryz.t251.methods⟩
theorem Tryz.ty251_ok : tyOf Tryz.prog 251 = some Tryz.ty251 := by kernel_rfl
noncomputable def Tryz.ty252 : Ty := ⟨Tryz.t252.desc, 11, 88, true, Tryz.t252.zero, [(0, 6), (6, 3), (9, 1), (10, 1)], true, Tryz.t252.methods⟩
theorem Tryz.ty252_ok : tyOf Tryz.prog 252 = some Tryz.ty252 := by kernel_rfl
noncomputable def Tryz.ty253 : Ty := ⟨Tryz.t252.desc, 11, 88, true, Tryz.t253.zero, [(0, 6), (6, 3), (9, 1), (10, 1)], true, Tryz.t253.methods⟩
theorem Tryz.ty253_ok : tyOf Tryz.prog 253 = some Tryz.ty253 := by kernel_rfl
noncomputable def Tryz.ty254 : Ty := ⟨Tryz.t254.desc, 1, 0, false, Tryz.t254.zero, [], true, Tryz.t254.methods⟩
theorem Tryz.ty254_ok : tyOf Tryz.prog 254 = some Tryz.ty254 := by kernel_rfl
noncomputable def Tryz.ty255 : Ty := ⟨Tryz.t255.desc, 1, 8, false, Tryz.t255.zero, [], true, Tryz.t255.methods⟩
theorem Tryz.ty255_ok : tyOf Tryz.prog 255 = some Tryz.ty255 := by kernel_rfl
noncomputable def Tryz.ty256 : Ty := ⟨Tryz.t256.desc, 1, 8, false, Tryz.t256.zero, [], true, Tryz.t256.methods⟩
theorem Tryz.ty256_ok : tyOf Tryz.prog 256 = some Tryz.ty256 := by kernel_rfl
noncomputable def Tryz.ty257 : Ty := ⟨Tryz.t257.desc, 1, 8, false, Tryz.t257.zero, [], true, Tryz.t257.methods⟩
theorem Tryz.ty257_ok : tyOf Tryz.prog 257 = some Tryz.ty257 := by kernel_rfl
noncomputable def Tryz.ty258 : Ty := ⟨Tryz.t258.desc, 1, 0, false, Tryz.t258.zero, [], true, Tryz.t258.methods⟩
theorem Tryz.ty258_ok : tyOf Tryz.prog 258 = some Tryz.ty258 := by kernel_rfl
noncomputable def Tryz.ty259 : Ty := ⟨Tryz.t259.desc, 1, 8, false, Tryz.t259.zero, [], true, Tryz.t259.methods⟩
theorem Tryz.ty259_ok : tyOf Tryz.prog 259 = some Tryz.ty259 := by kernel_rfl
noncomputable def Tryz.ty260 : Ty := ⟨Tryz.t260.desc, 1, 8, false, Tryz.t260.zero, [], true, Tryz.t260.methods⟩
theorem Tryz.ty260_ok : tyOf Tryz.prog 260 = some Tryz.ty260 := by kernel_rfl
noncomputable def Tryz.ty261 : Ty := ⟨Tryz.t261.desc, 1, 8, false, Tryz.t261.zero, [], true, Tryz.t261.methods⟩
theorem Tryz.ty261_ok : tyOf Tryz.prog 261 = some Tryz.ty261 := by kernel_rfl
noncomputable def Tryz.ty262 : Ty := ⟨Tryz.t262.desc, 1, 8, false, Tryz.t262.zero, [], true, Tryz.t262.methods⟩
theorem Tryz.ty262_ok : tyOf Tryz.prog 262 = some Tryz.ty262 := by kernel_rfl
noncomputable def Tryz.ty263 : Ty := ⟨Tryz.t263.desc, 1, 8, false, Tryz.t263.zero, [], true, Tryz.t263.methods⟩
theorem Tryz.ty263_ok : tyOf Tryz.prog 263 = some Tryz.ty263 := by kernel_rfl
noncomputable def Tryz.ty264 : Ty := ⟨Tryz.t264.desc, 10, 80, true, Tryz.t264.zero, [(0, 1), (1, 9)], true, Tryz.t264.methods⟩
theorem Tryz.ty264_ok : tyOf Tryz.prog 264 = some Tryz.ty264 := by kernel_rfl
noncomputable def Tryz.ty265 : Ty := ⟨Tryz.t264.desc, 10, 80, true, Tryz.t265.zero, [(0, 1), (1, 9)], true, Tryz.t265.methods⟩
theorem Tryz.ty265_ok : tyOf Tryz.prog 265 = some Tryz.ty265 := by kernel_rfl
noncomputable def Tryz.ty266 : Ty := ⟨Tryz.t266.desc, 1, 0, false, Tryz.t266.zero, [], true, Tryz.t266.methods⟩
theorem Tryz.ty266_ok : tyOf Tryz.prog 266 = some Tryz.ty266 := by kernel_rfl
noncomputable def Tryz.ty267 : Ty := ⟨Tryz.t267.desc, 1, 8, false, Tryz.t267.zero, [], true, Tryz.t267.methods⟩
theorem Tryz.ty267_ok : tyOf Tryz.prog 267 = some Tryz.ty267 := by kernel_rfl
noncomputable def Tryz.ty268 : Ty := ⟨Tryz.t268.desc, 1, 24, false, Tryz.t268.zero, [], true, Tryz.t268.methods⟩
theorem Tryz.ty268_ok : tyOf Tryz.prog 268 = some Tryz.ty268 := by kernel_rfl
noncomputable def Tryz.ty269 : Ty := ⟨Tryz.t123.desc, 1, 8, false, Tryz.t269.zero, [], true, Tryz.t269.methods⟩
theorem Tryz.ty269_ok : tyOf Tryz.prog 269 = some Tryz.ty269 := by kernel_rfl
noncomputable def Tryz.ty270 : Ty := ⟨Tryz.t270.desc, 1, 8, false, Tryz.t270.zero, [], true, Tryz.t270.methods⟩
theorem Tryz.ty270_ok : tyOf Tryz.prog 270 = some Tryz.ty270 := by kernel_rfl
noncomputable def Tryz.ty271 : Ty := ⟨Tryz.t271.desc, 1, 8, false, Tryz.t271.zero, [], true, Tryz.t271.methods⟩
theorem Tryz.ty271_ok : tyOf Tryz.prog 271 = some Tryz.ty271 := by kernel_rfl
noncomputable def Tryz.ty272 : Ty := ⟨Tryz.t272.desc, 1, 8, false, Tryz.t272.zero, [], true, Tryz.t272.methods⟩
theorem Tryz.ty272_ok : tyOf Tryz.prog 272 = some Tryz.ty272 := by kernel_rfl
noncomputable def Tryz.ty273 : Ty := ⟨Tryz.t273.desc, 1, 8, false, Tryz.t273.zero, [], true, Tryz.t273.methods⟩
theorem Tryz.ty273_ok : tyOf Tryz.prog 273 = some Tryz.ty273 := by kernel_rfl
noncomputable def Tryz.ty274 : Ty := ⟨Tryz.t274.desc, 1, 8, false, Tryz.t274.zero, [], true, Tryz.t274.methods⟩
theorem Tryz.ty274_ok : tyOf Tryz.prog 274 = some Tryz.ty274 := by kernel_rfl
noncomputable def Tryz.ty275 : Ty := ⟨Tryz.t275.desc, 1, 8, false, Tryz.t275.zero, [], true, Tryz.t275.methods⟩
theorem Tryz.ty275_ok : tyOf Tryz.prog 275 = some Tryz.ty275 := by kernel_rfl
noncomputable def Tryz.ty276 : Ty := ⟨Tryz.t276.desc, 1, 0, false, Tryz.t276.zero, [], true, Tryz.t276.methods⟩
theorem Tryz.ty276_ok : tyOf Tryz.prog 276 = some Tryz.ty276 := by kernel_rfl
noncomputable def Tryz.ty277 : Ty := ⟨Tryz.t277.desc, 1, 8, false, Tryz.t277.zero, [], true, Tryz.t277.methods⟩
theorem Tryz.ty277_ok : tyOf Tryz.prog 277 = some Tryz.ty277 := by kernel_rfl
noncomputable def Tryz.ty278 : Ty := ⟨Tryz.t278.desc, 1, 0, false, Tryz.t278.zero, [], true, Tryz.t278.methods⟩
theorem Tryz.ty278_ok : tyOf Tryz.prog 278 = some Tryz.ty278 := by kernel_rfl
noncomputable def Tryz.ty279 : Ty := ⟨Tryz.t279.desc, 1, 8, false, Tryz.t279.zero, [], true, Tryz.t279.methods⟩
theorem Tryz.ty279_ok : tyOf Tryz.prog 279 = some Tryz.ty279 := by kernel_rfl
noncomputable def Tryz.ty280 : Ty := ⟨Tryz.t280.desc, 1, 24, false, Tryz.t280.zero, [], true, Tryz.t280.methods⟩
theorem Tryz.ty280_ok : tyOf Tryz.prog 280 = some Tryz.ty280 := by kernel_rfl
noncomputable def Tryz.ty281 : Ty := ⟨Tryz.t281.desc, 1, 8, false, Tryz.t281.zero, [], true, Tryz.t281.methods⟩
theorem Tryz.ty281_ok : tyOf Tryz.prog 281 = some Tryz.ty281 := by kernel_rfl
noncomputable def Tryz.ty282 : Ty := ⟨Tryz.t282.desc, 1, 24, false, Tryz.t282.zero, [], true, Tryz.t282.methods⟩
theorem Tryz.ty282_ok : tyOf Tryz.prog 282 = some Tryz.ty282 := by kernel_rfl
noncomputable def Tryz.ty283 : Ty := ⟨Tryz.t283.desc, 6, 96, true, Tryz.t283.zero, [(0, 1), (1, 1), (2, 1), (3, 1), (4, 1), (5, 1)], true, Tryz.t283.methods⟩
theorem Tryz.ty283_ok : tyOf Tryz.prog 283 = some Tryz.ty283 := by kernel_rfl
noncomputable def Tryz.ty284 : Ty := ⟨Tryz.t283.desc, 6, 96, true, Tryz.t284.zero, [(0, 1), (1, 1), (2, 1), (3, 1), (4, 1), (5, 1)], true, Tryz.t284.methods⟩
theorem Tryz.ty284_ok : tyOf Tryz.prog 284 = some Tryz.ty284 := by kernel_rfl
noncomputable def Tryz.ty285 : Ty := ⟨Tryz.t285.desc, 10, 80, true, Tryz.t285.zero, [(0, 1), (1, 1), (2, 1), (3, 1), (4, 1), (5, 1), (6, 1), (7, 1), (8, 1), (9, 1)], true, Tryz.t285.methods⟩
theorem Tryz.ty285_ok : tyOf Tryz.prog 285 = some Tryz.ty285 := by kernel_rfl
noncomputable def Tryz.ty286 : Ty := ⟨Tryz.t285.desc, 10, 80, true, Tryz.t286.zero, [(0, 1), (1, 1), (2, 1), (3, 1), (4, 1), (5, 1), (6, 1), (7, 1), (8, 1), (9, 1)], true, Tryz.t286.methods⟩
theorem Tryz.ty286_ok : tyOf Tryz.prog 286 = some Tryz.ty286 := by kernel_rfl
noncomputable def Tryz.ty287 : Ty := ⟨Tryz.t287.desc, 1, 0, false, Tryz.t287.zero, [], true, Tryz.t287.methods⟩
theorem Tryz.ty287_ok : tyOf Tryz.prog 287 = some Tryz.ty287 := by kernel_rfl
noncomputable def Tryz.ty288 : Ty := ⟨Tryz.t288.desc, 1, 8, false, Tryz.t288.zero, [], true, Tryz.t288.methods⟩
theorem Tryz.ty288_ok : tyOf Tryz.prog 288 = some Tryz.ty288 := by kernel_rfl
noncomputable def Tryz.ty289 : Ty := ⟨Tryz.t289.desc, 4, 48, true, Tryz.t289.zero, [(0, 1), (1, 1), (2, 1), (3, 1)], true, Tryz.t289.methods⟩
theorem Tryz.ty289_ok : tyOf Tryz.prog 289 = some Tryz.ty289 := by kernel_rfl
noncomputable def Tryz.ty290 : Ty := ⟨Tryz.t289.desc, 4, 48, true, Tryz.t290.zero, [(0, 1), (1, 1), (2, 1), (3, 1)], true, Tryz.t290.methods⟩
theorem Tryz.ty290_ok : tyOf Tryz.prog 290 = some Tryz.ty290 := by kernel_rfl
noncomputable def Tryz.ty291 : Ty := ⟨Tryz.t291.desc, 1, 0, false, Tryz.t291.zero, [], true, Tryz.t291.methods⟩
theorem Tryz.ty291_ok : tyOf Tryz.prog 291 = some Tryz.ty291 := by kernel_rfl
noncomputable def Tryz.ty292 : Ty := ⟨Tryz.t292.desc, 1, 8, false, Tryz.t292.zero, [], true, Tryz.t292.methods⟩
theorem Tryz.ty292_ok : tyOf Tryz.prog 292 = some Tryz.ty292 := by kernel_rfl
noncomputable def Tryz.ty293 : Ty := ⟨Tryz.t293.desc, 1, 8, false, Tryz.t293.zero, [], true, Tryz.t293.methods⟩
theorem Tryz.ty293_ok : tyOf Tryz.prog 293 = some Tryz.ty293 := by kernel_rfl
noncomputable def Tryz.ty294 : Ty := ⟨Tryz.t294.desc, 1, 8, false, Tryz.t294.zero, [], true, Tryz.t294.methods⟩
theorem Tryz.ty294_ok : tyOf Tryz.prog 294 = some Tryz.ty294 := by kernel_rfl
noncomputable def Tryz.ty295 : Ty := ⟨Tryz.t295.desc, 1, 8, false, Tryz.t295.zero, [], true, Tryz.t295.methods⟩
theorem Tryz.ty295_ok : tyOf Tryz.prog 295 = some Tryz.ty295 := by kernel_rfl
noncomputable def Tryz.ty296 : Ty := ⟨Tryz.t295.desc, 1, 8, false, Tryz.t296.zero, [], true, Tryz.t296.methods⟩
theorem Tryz.ty296_ok : tyOf Tryz.prog 296 = some Tryz.ty296 := by kernel_rfl
noncomputable def Tryz.ty297 : Ty := ⟨Tryz.t297.desc, 1, 8, false, Tryz.t297.zero, [], true, Tryz.t297.methods⟩
theorem Tryz.ty297_ok : tyOf Tryz.prog 297 = some Tryz.ty297 := by kernel_rfl
noncomputable def Tryz.ty298 : Ty := ⟨Tryz.t298.desc, 2, 16, true, Tryz.t298.zero, [(0, 1), (1, 1)], true, Tryz.t298.methods⟩
theorem Tryz.ty298_ok : tyOf Tryz.prog 298 = some Tryz.ty298 := by kernel_rfl
noncomputable def Tryz.ty299 : Ty := ⟨Tryz.t298.desc, 2, 16, true, Tryz.t299.zero, [(0, 1), (1, 1)], true, Tryz.t299.methods⟩
theorem Tryz.ty299_ok : tyOf Tryz.prog 299 = some Tryz.ty299 := by kernel_rfl
noncomputable def Tryz.ty300 : Ty := ⟨Tryz.t300.desc, 1, 8, false, Tryz.t300.zero, [], true, Tryz.t300.methods⟩
theorem Tryz.ty300_ok : tyOf Tryz.prog 300 = some Tryz.ty300 := by kernel_rfl
noncomputable def Tryz.ty301 : Ty := ⟨Tryz.t301.desc, 1, 8, false, Tryz.t301.zero, [], true, Tryz.t301.methods⟩
theorem Tryz.ty301_ok : tyOf Tryz.prog 301 = some Tryz.ty301 := by kernel_rfl
noncomputable def Tryz.ty302 : Ty := ⟨Tryz.t302.desc, 1, 8, false, Tryz.t302.zero, [], true, Tryz.t302.methods⟩
theorem Tryz.ty302_ok : tyOf Tryz.prog 302 = some Tryz.ty302 := by kernel_rfl
noncomputable def Tryz.ty303 : Ty := ⟨Tryz.t303.desc, 1, 24, false, Tryz.t303.zero, [], true, Tryz.t303.methods⟩
theorem Tryz.ty303_ok : tyOf Tryz.prog 303 = some Tryz.ty303 := by kernel_rfl
noncomputable def Tryz.ty304 : Ty := ⟨Tryz.t304.desc, 26, 240, true, Tryz.t304.zero, [(0, 9), (9, 1), (10, 1), (11, 1), (12, 1), (13, 1), (14, 1), (15, 1), (16, 10)], true, Tryz.t304.methods⟩
theorem Tryz.ty304_ok : tyOf Tryz.prog 304 = some Tryz.ty304 := by kernel_rfl
noncomputable def Tryz.ty305 : Ty := ⟨Tryz.t304.desc, 26, 240, true, Tryz.t305.zero, [(0, 9), (9, 1), (10, 1), (11, 1), (12, 1), (13, 1), (14, 1), (15, 1), (16, 10)], true, Tryz.t305.methods⟩
theorem Tryz.ty305_ok : tyOf Tryz.prog 305 = some Tryz.ty305 := by kernel_rfl
noncomputable def Tryz.ty306 : Ty := ⟨Tryz.t306.desc, 1, 8, false, Tryz.t306.zero, [], true, Tryz.t306.methods⟩
theorem Tryz.ty306_ok : tyOf Tryz.prog 306 = some Tryz.ty306 := by kernel_rfl
noncomputable def Tryz.ty307 : Ty := ⟨Tryz.t307.desc, 1, 8, false, Tryz.t307.zero, [], true, Tryz.t307.methods⟩
theorem Tryz.ty307_ok : tyOf Tryz.prog 307 = some Tryz.ty307 := by kernel_rfl
noncomputable def Tryz.ty308 : Ty := ⟨Tryz.t308.desc, 1, 8, false, Tryz.t308.zero, [], true, Tryz.t308.methods⟩
theorem Tryz.ty308_ok : tyOf Tryz.prog 308 = some Tryz.ty308 := by kernel_rfl
noncomputable def Tryz.ty309 : Ty := ⟨Tryz.t309.desc, 1, 8, false, Tryz.t309.zero, [], true, Tryz.t309.methods⟩
theorem Tryz.ty309_ok : tyOf Tryz.prog 309 = some Tryz.ty309 := by kernel_rfl
noncomputable def Tryz.ty310 : Ty := ⟨Tryz.t310.desc, 1, 8, false, Tryz.t310.zero, [], true, Tryz.t310.methods⟩
theorem Tryz.ty310_ok : tyOf Tryz.prog 310 = some Tryz.ty310 := by kernel_rfl
noncomputable def Tryz.ty311 : Ty := ⟨Tryz.t311.desc, 1, 8, false, Tryz.t311.zero, [], true, Tryz.t311.methods⟩
theorem Tryz.ty311_ok : tyOf Tryz.prog 311 = some Tryz.ty311 := by kernel_rfl
noncomputable def Tryz.ty312 : Ty := ⟨Tryz.t312.desc, 1, 8, false, Tryz.t312.zero, [], true, Tryz.t312.methods⟩
theorem Tryz.ty312_ok : tyOf Tryz.prog 312 = some Tryz.ty312 := by kernel_rfl
noncomputable def Tryz.ty313 : Ty := ⟨Tryz.t313.desc, 1, 8, false, Tryz.t313.zero, [], true, Tryz.t313.methods⟩
theorem Tryz.ty313_ok : tyOf Tryz.prog 313 = some Tryz.ty313 := by kernel_rfl
noncomputable def Tryz.ty314 : Ty := ⟨Tryz.t314.desc, 3, 24, true, Tryz.t314.zero, [(0, 1), (1, 1), (2, 1)], true, Tryz.t314.methods⟩
theorem Tryz.ty314_ok : tyOf Tryz.prog 314 = some Tryz.ty314 := by kernel_rfl
noncomputable def Tryz.ty315 : Ty := ⟨Tryz.t315.desc, 18, 144, true, Tryz.t315.zero, [], true, Tryz.t315.methods⟩
theorem Tryz.ty315_ok : tyOf Tryz.prog 315 = some Tryz.ty315 := by kernel_rfl
noncomputable def Tryz.ty316 : Ty := ⟨Tryz.t316.desc, 1, 8, false, Tryz.t316.zero, [], true, Tryz.t316.methods⟩
theorem Tryz.ty316_ok : tyOf Tryz.prog 316 = some Tryz.ty316 := by kernel_rfl
noncomputable def Tryz.ty317 : Ty := ⟨Tryz.t317.desc, 1, 8, false, Tryz.t317.zero, [], true, Tryz.t317.methods⟩
theorem Tryz.ty317_ok : tyOf Tryz.prog 317 = some Tryz.ty317 := by kernel_rfl
noncomputable def Tryz.ty318 : Ty := ⟨Tryz.t318.desc, 1, 8, false, Tryz.t318.zero, [], true, Tryz.t318.methods⟩
theorem Tryz.ty318_ok : tyOf Tryz.prog 318 = some Tryz.ty318 := by kernel_rfl
noncomputable def Tryz.ty319 : Ty := ⟨Tryz.t319.desc, 1, 8, false, Tryz.t319.zero, [], true, Tryz.t319.methods⟩
theorem Tryz.ty319_ok : tyOf Tryz.prog 319 = some Tryz.ty319 := by kernel_rfl
noncomputable def Tryz.ty320 : Ty := ⟨Tryz.t320.desc, 2, 32, true, Tryz.t320.zero, [(0, 1), (1, 1)], true, Tryz.t320.methods⟩
theorem Tryz.ty320_ok : tyOf Tryz.prog 320 = some Tryz.ty320 := by kernel_rfl
noncomputable def Tryz.ty321 : Ty := ⟨Tryz.t320.desc, 2, 32, true, Tryz.t321.zero, [(0, 1), (1, 1)], true, Tryz.t321.methods⟩
theorem Tryz.ty321_ok : tyOf Tryz.prog 321 = some Tryz.ty321 := by kernel_rfl
noncomputable def Tryz.ty322 : Ty := ⟨Tryz.t322.desc, 1, 8, false, Tryz.t322.zero, [], true, Tryz.t322.methods⟩
theorem Tryz.ty322_ok : tyOf Tryz.prog 322 = some Tryz.ty322 := by kernel_rfl
noncomputable def Tryz.ty323 : Ty := ⟨Tryz.t323.desc, 1, 8, false, Tryz.t323.zero, [], true, Tryz.t323.methods⟩
theorem Tryz.ty323_ok : tyOf Tryz.prog 323 = some Tryz.ty323 := by kernel_rfl
noncomputable def Tryz.ty324 : Ty := ⟨Tryz.t324.desc, 1, 8, false, Tryz.t324.zero, [], true, Tryz.t324.methods⟩
theorem Tryz.ty324_ok : tyOf Tryz.prog 324 = some Tryz.ty324 := by kernel_rfl
noncomputable def Tryz.ty325 : Ty := ⟨Tryz.t325.desc, 1, 8, false, Tryz.t325.zero, [], true, Tryz.t325.methods⟩
theorem Tryz.ty325_ok : tyOf Tryz.prog 325 = some Tryz.ty325 := by kernel_rfl
noncomputable def Tryz.ty326 : Ty := ⟨Tryz.t3.desc, 1, 8, false, Tryz.t326.zero, [], true, Tryz.t326.methods⟩
theorem Tryz.ty326_ok : tyOf Tryz.prog 326 = some Tryz.ty326 := by kernel_rfl
noncomputable def Tryz.ty327 : Ty := ⟨Tryz.t327.desc, 1, 0, false, Tryz.t327.zero, [], true, Tryz.t327.methods⟩
theorem Tryz.ty327_ok : tyOf Tryz.prog 327 = some Tryz.ty327 := by kernel_rfl
noncomputable def Tryz.ty328 : Ty := ⟨Tryz.t328.desc, 1, 8, false, Tryz.t328.zero, [], true, Tryz.t328.methods⟩
theorem Tryz.ty328_ok : tyOf Tryz.prog 328 = some Tryz.ty328 := by kernel_rfl
noncomputable def Tryz.ty329 : Ty := ⟨Tryz.t329.desc, 1, 8, false, Tryz.t329.zero, [], true, Tryz.t329.methods⟩
theorem Tryz.ty329_ok : tyOf Tryz.prog 329 = some Tryz.ty329 := by kernel_rfl
noncomputable def Tryz.ty330 : Ty := ⟨Tryz.t330.desc, 1, 8, false, Tryz.t330.zero, [], true, Tryz.t330.methods⟩
theorem Tryz.ty330_ok : tyOf Tryz.prog 330 = some Tryz.ty330 := by kernel_rfl
noncomputable def Tryz.ty331 : Ty := ⟨Tryz.t331.desc, 1, 8, false, Tryz.t331.zero, [], true, Tryz.t331.methods⟩
theorem Tryz.ty331_ok : tyOf Tryz.prog 331 = some Tryz.ty331 := by kernel_rfl
noncomputable def Tryz.ty332 : Ty := ⟨Tryz.t332.desc, 1, 8, false, Tryz.t332.zero, [], true, Tryz.t332.methods⟩
theorem Tryz.ty332_ok : tyOf Tryz.prog 332 = some Tryz.ty332 := by kernel_rfl
noncomputable def Tryz.ty333 : Ty := ⟨Tryz.t333.desc, 1, 4, false, Tryz.t333.zero, [], true, Tryz.t333.methods⟩
theorem Tryz.ty333_ok : tyOf Tryz.prog 333 = some Tryz.ty333 := by kernel_rfl
noncomputable def Tryz.ty334 : Ty := ⟨Tryz.t334.desc, 1, 8, false, Tryz.t334.zero, [], true, Tryz.t334.methods⟩
theorem Tryz.ty334_ok : tyOf Tryz.prog 334 = some Tryz.ty334 := by kernel_rfl
noncomputable def Tryz.ty335 : Ty := ⟨Tryz.t335.desc, 1, 8, false, Tryz.t335.zero, [], true, Tryz.t335.methods⟩
theorem Tryz.ty335_ok : tyOf Tryz.prog 335 = some Tryz.ty335 := by kernel_rfl
noncomputable def Tryz.ty336 : Ty := ⟨Tryz.t336.desc, 1, 8, false, Tryz.t336.zero, [], true, Tryz.t336.methods⟩
theorem Tryz.ty336_ok : tyOf Tryz.prog 336 = some Tryz.ty336 := by kernel_rfl
noncomputable def Tryz.ty337 : Ty := ⟨Tryz.t337.desc, 1, 8, false, Tryz.t337.zero, [], true, Tryz.t337.methods⟩
theorem Tryz.ty337_ok : tyOf Tryz.prog 337 = some Tryz.ty337 := by kernel_rfl
noncomputable def Tryz.ty338 : Ty := ⟨Tryz.t338.desc, 1, 8, false, Tryz.t338.zero, [], true, Tryz.t338.methods⟩
theorem Tryz.ty338_ok : tyOf Tryz.prog 338 = some Tryz.ty338 := by kernel_rfl
noncomputable def Tryz.ty339 : Ty := ⟨Tryz.t339.desc, 1, 8, false, Tryz.t339.zero, [], true, Tryz.t339.methods⟩
theorem Tryz.ty339_ok : tyOf Tryz.prog 339 = some Tryz.ty339 := by kernel_rfl
noncomputable def Tryz.ty340 : Ty := ⟨Tryz.t340.desc, 1, 8, false, Tryz.t340.zero, [], true, Tryz.t340.methods⟩
theorem Tryz.ty340_ok : tyOf Tryz.prog 340 = some Tryz.ty340 := by kernel_rfl
noncomputable def Tryz.ty341 : Ty := ⟨Tryz.t341.desc, 1, 8, false, Tryz.t341.zero, [], true, Tryz.t341.methods⟩
theorem Tryz.ty341_ok : tyOf Tryz.prog 341 = some Tryz.ty341 := by kernel_rfl
noncomputable def Tryz.ty342 : Ty := ⟨Tryz.t342.desc, 1, 8, false, Tryz.t342.zero, [], true, Tryz.t342.methods⟩
theorem Tryz.ty342_ok : tyOf Tryz.prog 342 = some Tryz.ty342 := by kernel_rfl
noncomputable def Tryz.ty343 : Ty := ⟨Tryz.t343.desc, 1, 8, false, Tryz.t343.zero, [], true, Tryz.t343.methods⟩
theorem Tryz.ty343_ok : tyOf Tryz.prog 343 = some Tryz.ty343 := by kernel_rfl
noncomputable def Tryz.ty344 : Ty := ⟨Tryz.t344.desc, 1, 8, false, Tryz.t344.zero, [], true, Tryz.t344.methods⟩
theorem Tryz.ty344_ok : tyOf Tryz.prog 344 = some Tryz.ty344 := by kernel_rfl
noncomputable def Tryz.ty345 : Ty := ⟨Tryz.t345.desc, 1, 8, false, Tryz.t345.zero, [], true, Tryz.t345.methods⟩
theorem Tryz.ty345_ok : tyOf Tryz.prog 345 = some Tryz.ty345 := by kernel_rfl
noncomputable def Tryz.ty346 : Ty := ⟨Tryz.t346.desc, 1, 8, false, Tryz.t346.zero, [], true, Tryz.t346.methods⟩
theorem Tryz.ty346_ok : tyOf Tryz.prog 346 = some Tryz.ty346 := by kernel_rfl
noncomputable def Tryz.ty347 : Ty := ⟨Tryz.t347.desc, 1, 8, false, Tryz.t347.zero, [], true, Tryz.t347.methods⟩
theorem Tryz.ty347_ok : tyOf Tryz.prog 347 = some Tryz.ty347 := by kernel_rfl
noncomputable def Tryz.ty348 : Ty := ⟨Tryz.t348.desc, 1, 8, false, Tryz.t348.zero, [], true, Tryz.t348.methods⟩
theorem Tryz.ty348_ok : tyOf Tryz.prog 348 = some Tryz.ty348 := by kernel_rfl
noncomputable def Tryz.ty349 : Ty := ⟨Tryz.t349.desc, 1, 0, false, Tryz.t349.zero, [], true, Tryz.t349.methods⟩
theorem Tryz.ty349_ok : tyOf Tryz.prog 349 = some Tryz.ty349 := by kernel_rfl
noncomputable def Tryz.ty350 : Ty := ⟨Tryz.t350.desc, 1, 8, false, Tryz.t350.zero, [], true, Tryz.t350.methods⟩
theorem Tryz.ty350_ok : tyOf Tryz.prog 350 = some Tryz.ty350 := by kernel_rfl
noncomputable def Tryz.ty351 : Ty := ⟨Tryz.t351.desc, 1, 8, false, Tryz.t351.zero, [], true, Tryz.t351.methods⟩
theorem Tryz.ty351_ok : tyOf Tryz.prog 351 = some Tryz.ty351 := by kernel_rfl
noncomputable def Tryz.ty352 : Ty := ⟨Tryz.t352.desc, 1, 0, false, Tryz.t352.zero, [], true, Tryz.t352.methods⟩
theorem Tryz.ty352_ok : tyOf Tryz.prog 352 = some Tryz.ty352 := by kernel_rfl
noncomputable def Tryz.ty353 : Ty := ⟨Tryz.t353.desc, 1, 8, false, Tryz.t353.zero, [], true, Tryz.t353.methods⟩
theorem Tryz.ty353_ok : tyOf Tryz.prog 353 = some Tryz.ty353 := by kernel_rfl
noncomputable def Tryz.ty354 : Ty := ⟨Tryz.t354.desc, 1, 8, false, Tryz.t354.zero, [], true, Tryz.t354.methods⟩
theorem Tryz.ty354_ok : tyOf Tryz.prog 354 = some Tryz.ty354 := by kernel_rfl
noncomputable def Tryz.ty355 : Ty := ⟨Tryz.t355.desc, 1, 0, false, Tryz.t355.zero, [], true, Tryz.t355.methods⟩
theorem Tryz.ty355_ok : tyOf Tryz.prog 355 = some Tryz.ty355 := by kernel_rfl
noncomputable def Tryz.ty356 : Ty := ⟨Tryz.t356.desc, 1, 8, false, Tryz.t356.zero, [], true, Tryz.t356.methods⟩
theorem Tryz.ty356_ok : tyOf Tryz.prog 356 = some Tryz.ty356 := by kernel_rfl
noncomputable def Tryz.ty357 : Ty := ⟨Tryz.t357.desc, 1, 8, false, Tryz.t357.zero, [], true, Tryz.t357.methods⟩
theorem Tryz.ty357_ok : tyOf Tryz.prog 357 = some Tryz.ty357 := by kernel_rfl
noncomputable def Tryz.ty358 : Ty := ⟨Tryz.t358.desc, 1, 8, false, Tryz.t358.zero, [], true, Tryz.t358.methods⟩
theorem Tryz.ty358_ok : tyOf Tryz.prog 358 = some Tryz.ty358 := by kernel_rfl
noncomputable def Tryz.ty359 : Ty := ⟨Tryz.t359.desc, 1, 8, false, Tryz.t359.zero, [], true, Tryz.t359.methods⟩
theorem Tryz.ty359_ok : tyOf Tryz.prog 359 = some Tryz.ty359 := by kernel_rfl
noncomputable def Tryz.ty360 : Ty := ⟨Tryz.t360.desc, 1, 8, false, Tryz.t360.zero, [], true, Tryz.t360.methods⟩
theorem Tryz.ty360_ok : tyOf Tryz.prog 360 = some Tryz.ty360 := by kernel_rfl
noncomputable def Tryz.ty361 : Ty := ⟨Tryz.t361.desc, 1, 8, false, Tryz.t361.zero, [], true, Tryz.t361.methods⟩
theorem Tryz.ty361_ok : tyOf Tryz.prog 361 = some Tryz.ty361 := by kernel_rfl
noncomputable def Tryz.ty362 : Ty := ⟨Tryz.t362.desc, 1, 8, false, Tryz.t362.zero, [], true, Tryz.t362.methods⟩
theorem Tryz.ty362_ok : tyOf Tryz.prog 362 = some Tryz.ty362 := by kernel_rfl
noncomputable def Tryz.ty363 : Ty := ⟨Tryz.t363.desc, 1, 8, false, Tryz.t363.zero, [], true, Tryz.t363.methods⟩
theorem Tryz.ty363_ok : tyOf Tryz.prog 363 = some Tryz.ty363 := by kernel_rfl
noncomputable def Tryz.ty364 : Ty := ⟨Tryz.t364.desc, 1, 8, false, Tryz.t364.zero, [], true, Tryz.t364.methods⟩
theorem Tryz.ty364_ok : tyOf Tryz.prog 364 = some Tryz.ty364 := by kernel_rfl
noncomputable def Tryz.ty365 : Ty := ⟨Tryz.t365.desc, 1, 8, false, Tryz.t365.zero, [], true, Tryz.t365.methods⟩
theorem Tryz.ty365_ok : tyOf Tryz.prog 365 = some Tryz.ty365 := by kernel_rfl
noncomputable def Tryz.ty366 : Ty := ⟨Tryz.t366.desc, 1, 8, false, Tryz.t366.zero, [], true, Tryz.t366.methods⟩
theorem Tryz.ty366_ok : tyOf Tryz.prog 366 = some Tryz.ty366 := by kernel_rfl
noncomputable def Tryz.ty367 : Ty := ⟨Tryz.t367.desc, 1, 8, false, Tryz.t367.zero, [], true, Tryz.t367.methods⟩
theorem Tryz.ty367_ok : tyOf Tryz.prog 367 = some Tryz.ty367 := by kernel_rfl
noncomputable def Tryz.ty368 : Ty := ⟨Tryz.t368.desc, 3, 24, true, Tryz.t368.zero, [(0, 1), (1, 1), (2, 1)], true, Tryz.t368.methods⟩
theorem Tryz.ty368_ok : tyOf Tryz.prog 368 = some Tryz.ty368 := by kernel_rfl
noncomputable def Tryz.ty369 : Ty := ⟨Tryz.t369.desc, 1, 8, false, Tryz.t369.zero, [], true, Tryz.t369.methods⟩
theorem Tryz.ty369_ok : tyOf Tryz.prog 369 = some Tryz.ty369 := by kernel_rfl
noncomputable def Tryz.ty370 : Ty := ⟨Tryz.t370.desc, 18, 144, true, Tryz.t370.zero, [], true, Tryz.t370.methods⟩
theorem Tryz.ty370_ok : tyOf Tryz.prog 370 = some Tryz.ty370 := by kernel_rfl
noncomputable def Tryz.ty371 : Ty := ⟨Tryz.t371.desc, 1, 8, false, Tryz.t371.zero, [], true, Tryz.t371.methods⟩
theorem Tryz.ty371_ok : tyOf Tryz.prog 371 = some Tryz.ty371 := by kernel_rfl
noncomputable def Tryz.ty372 : Ty := ⟨Tryz.t372.desc, 1, 8, false, Tryz.t372.zero, [], true, Tryz.t372.methods⟩
theorem Tryz.ty372_ok : tyOf Tryz.prog 372 = some Tryz.ty372 := by kernel_rfl
noncomputable def Tryz.ty373 : Ty := ⟨Tryz.t373.desc, 1, 8, false, Tryz.t373.zero, [], true, Tryz.t373.methods⟩
theorem Tryz.ty373_ok : tyOf Tryz.prog 373 = some Tryz.ty373 := by kernel_rfl
noncomputable def Tryz.ty374 : Ty := ⟨Tryz.t374.desc, 1, 8, false, Tryz.t374.zero, [], true, Tryz.t374.methods⟩
theorem Tryz.ty374_ok : tyOf Tryz.prog 374 = some Tryz.ty374 := by kernel_rfl
noncomputable def Tryz.ty375 : Ty := ⟨Tryz.t375.desc, 15, 120, true, Tryz.t375.zero, [(0, 1), (1, 10), (11, 1), (12, 1), (13, 1), (14, 1)], true, Tryz.t375.methods⟩
theorem Tryz.ty375_ok : tyOf Tryz.prog 375 = some Tryz.ty375 := by kernel_rfl
noncomputable def Tryz.ty376 : Ty := ⟨Tryz.t375.desc, 15, 120, true, Tryz.t376.zero, [(0, 1), (1, 10), (11, 1), (12, 1), (13, 1), (14, 1)], true, Tryz.t376.methods⟩
theorem Tryz.ty376_ok : tyOf Tryz.prog 376 = some Tryz.ty376 := by kernel_rfl
noncomputable def Tryz.ty377 : Ty := ⟨Tryz.t377.desc, 1, 8, false, Tryz.t377.zero, [], true, Tryz.t377.methods⟩
theorem Tryz.ty377_ok : tyOf Tryz.prog 377 = some Tryz.ty377 := by kernel_rfl
noncomputable def Tryz.ty378 : Ty := ⟨Tryz.t378.desc, 1, 8, false, Tryz.t378.zero, [], true, Tryz.t378.methods⟩
theorem Tryz.ty378_ok : tyOf Tryz.prog 378 = some Tryz.ty378 := by kernel_rfl
noncomputable def Tryz.ty379 : Ty := ⟨Tryz.t379.desc, 1, 8, false, Tryz.t379.zero, [], true, Tryz.t379.methods⟩
theorem Tryz.ty379_ok : tyOf Tryz.prog 379 = some Tryz.ty379 := by kernel_rfl
noncomputable def Tryz.ty380 : Ty := ⟨Tryz.t380.desc, 1, 8, false, Tryz.t380.zero, [], true, Tryz.t380.methods⟩
theorem Tryz.ty380_ok : tyOf Tryz.prog 380 = some Tryz.ty380 := by kernel_rfl
noncomputable def Tryz.ty381 : Ty := ⟨Tryz.t381.desc, 1, 8, false, Tryz.t381.zero, [], true, Tryz.t381.methods⟩
theorem Tryz.ty381_ok : tyOf Tryz.prog 381 = some Tryz.ty381 := by kernel_rfl
noncomputable def Tryz.ty382 : Ty := ⟨Tryz.t382.desc, 1, 8, false, Tryz.t382.zero, [], true, Tryz.t382.methods⟩
theorem Tryz.ty382_ok : tyOf Tryz.prog 382 = some Tryz.ty382 := by kernel_rfl
noncomputable def Tryz.ty383 : Ty := ⟨Tryz.t383.desc, 1, 8, false, Tryz.t383.zero, [], true, Tryz.t383.methods⟩
theorem Tryz.ty383_ok : tyOf Tryz.prog 383 = some Tryz.ty383 := by kernel_rfl
noncomputable def Tryz.ty384 : Ty := ⟨Tryz.t384.desc, 1, 8, false, Tryz.t384.zero, [], true, Tryz.t384.methods⟩
theorem Tryz.ty384_ok : tyOf Tryz.prog 384 = some Tryz.ty384 := by kernel_rfl
noncomputable def Tryz.ty385 : Ty := ⟨Tryz.t385.desc, 1, 8, false, Tryz.t385.zero, [], true, Tryz.t385.methods⟩
theorem Tryz.ty385_ok : tyOf Tryz.prog 385 = some Tryz.ty385 := by kernel_rfl
noncomputable def Tryz.ty386 : Ty := ⟨Tryz.t386.desc, 1, 8, false, Tryz.t386.zero, [], true, Tryz.t386.methods⟩
theorem Tryz.ty386_ok : tyOf Tryz.prog 386 = some Tryz.ty386 := by kernel_rfl
noncomputable def Tryz.ty387 : Ty := ⟨Tryz.t387.desc, 1, 8, false, Tryz.t387.zero, [], true, Tryz.t387.methods⟩
theorem Tryz.ty387_ok : tyOf Tryz.prog 387 = some Tryz.ty387 := by kernel_rfl
noncomputable def Tryz.ty388 : Ty := ⟨Tryz.t388.desc, 1, 8, false, Tryz.t388.zero, [], true, Tryz.t388.methods⟩
theorem Tryz.ty388_ok : tyOf Tryz.prog 388 = some Tryz.ty388 := by kernel_rfl
noncomputable def Tryz.ty389 : Ty := ⟨Tryz.t389.desc, 1, 8, false, Tryz.t389.zero, [], true, Tryz.t389.methods⟩
theorem Tryz.ty389_ok : tyOf Tryz.prog 389 = some Tryz.ty389 := by kernel_rfl
noncomputable def Tryz.ty390 : Ty := ⟨Tryz.t390.desc, 1, 8, false, Tryz.t390.zero, [], true, Tryz.t390.methods⟩
theorem Tryz.ty390_ok : tyOf Tryz.prog 390 = some Tryz.ty390 := by kernel_rfl
noncomputable def Tryz.ty391 : Ty := ⟨Tryz.t391.desc, 1, 8, false, Tryz.t391.zero, [], true, Tryz.t391.methods⟩
theorem Tryz.ty391_ok : tyOf Tryz.prog 391 = some Tryz.ty391 := by kernel_rfl
noncomputable def Tryz.ty392 : Ty := ⟨Tryz.t392.desc, 1, 8, false, Tryz.t392.zero, [], true, Tryz.t392.methods⟩
theorem Tryz.ty392_ok : tyOf Tryz.prog 392 = some Tryz.ty392 := by kernel_rfl
noncomputable def Tryz.ty393 : Ty := ⟨Tryz.t393.desc, 1, 0, false, Tryz.t393.zero, [], true, Tryz.t393.methods⟩
theorem Tryz.ty393_ok : tyOf Tryz.prog 393 = some Tryz.ty393 := by kernel_rfl
noncomputable def Tryz.ty394 : Ty := ⟨Tryz.t394.desc, 1, 8, false, Tryz.t394.zero, [], true, Tryz.t394.methods⟩
theorem Tryz.ty394_ok : tyOf Tryz.prog 394 = some Tryz.ty394 := by kernel_rfl
noncomputable def Tryz.ty395 : Ty := ⟨Tryz.t395.desc, 1, 8, false, Tryz.t395.zero, [], true, Tryz.t395.methods⟩
theorem Tryz.ty395_ok : tyOf Tryz.prog 395 = some Tryz.ty395 := by kernel_rfl
noncomputable def Tryz.ty396 : Ty := ⟨Tryz.t396.desc, 6, 80, true, Tryz.t396.zero, [(0, 1), (1, 1), (2, 1), (3, 1), (4, 1), (5, 1)], true, Tryz.t396.methods⟩
theorem Tryz.ty396_ok : tyOf Tryz.prog 396 = some Tryz.ty396 := by kernel_rfl
noncomputable def Tryz.ty397 : Ty := ⟨Tryz.t396.desc, 6, 80, true, Tryz.t397.zero, [(0, 1), (1, 1), (2, 1), (3, 1), (4, 1), (5, 1)], true, Tryz.t397.methods⟩
theorem Tryz.ty397_ok : tyOf Tryz.prog 397 = some Tryz.ty397 := by kernel_rfl
noncomputable def Tryz.ty398 : Ty := ⟨Tryz.t398.desc, 1, 8, false, Tryz.t398.zero, [], true, Tryz.t398.methods⟩
theorem Tryz.ty398_ok : tyOf Tryz.prog 398 = some Tryz.ty398 := by kernel_rfl
noncomputable def Tryz.ty399 : Ty := ⟨Tryz.t399.desc, 1, 8, false, Tryz.t399.zero, [], true, Tryz.t399.methods⟩
theorem Tryz.ty399_ok : tyOf Tryz.prog 399 = some Tryz.ty399 := by kernel_rfl
noncomputable def Tryz.ty400 : Ty := ⟨Tryz.t400.desc, 1, 24, false, Tryz.t400.zero, [], true, Tryz.t400.methods⟩
theorem Tryz.ty400_ok : tyOf Tryz.prog 400 = some Tryz.ty400 := by kernel_rfl
noncomputable def Tryz.ty401 : Ty := ⟨Tryz.t400.desc, 1, 24, false, Tryz.t401.zero, [], true, Tryz.t401.methods⟩
theorem Tryz.ty401_ok : tyOf Tryz.prog 401 = some Tryz.ty401 := by kernel_rfl
noncomputable def Tryz.ty402 : Ty := ⟨Tryz.t402.desc, 6, 80, true, Tryz.t402.zero, [(0, 1), (1, 1), (2, 1), (3, 1), (4, 1), (5, 1)], true, Tryz.t402.methods⟩
theorem Tryz.ty402_ok : tyOf Tryz.prog 402 = some Tryz.ty402 := by kernel_rfl
noncomputable def Tryz.ty403 : Ty := ⟨Tryz.t402.desc, 6, 80, true, Tryz.t403.zero, [(0, 1), (1, 1), (2, 1), (3, 1), (4, 1), (5, 1)], true, Tryz.t403.methods⟩
theorem Tryz.ty403_ok : tyOf Tryz.prog 403 = some Tryz.ty403 := by kernel_rfl
noncomputable def Tryz.ty404 : Ty := ⟨Tryz.t404.desc, 1, 8, false, Tryz.t404.zero, [], true, Tryz.t404.methods⟩
theorem Tryz.ty404_ok : tyOf Tryz.prog 404 = some Tryz.ty404 := by kernel_rfl
noncomputable def Tryz.ty405 : Ty := ⟨Tryz.t405.desc, 1, 8, false, Tryz.t405.zero, [], true, Tryz.t405.methods⟩
theorem Tryz.ty405_ok : tyOf Tryz.prog 405 = some Tryz.ty405 := by kernel_rfl
noncomputable def Tryz.ty406 : Ty := ⟨Tryz.t406.desc, 10, 80, true, Tryz.t406.zero, [], true, Tryz.t406.methods⟩
theorem Tryz.ty406_ok : tyOf Tryz.prog 406 = some Tryz.ty406 := by kernel_rfl
noncomputable def Tryz.ty407 : Ty := ⟨Tryz.t407.desc, 1, 0, false, Tryz.t407.zero, [], true, Tryz.t407.methods⟩
theorem Tryz.ty407_ok : tyOf Tryz.prog 407 = some Tryz.ty407 := by kernel_rfl
noncomputable def Tryz.ty408 : Ty := ⟨Tryz.t408.desc, 1, 8, false, Tryz.t408.zero, [], true, Tryz.t408.methods⟩
theorem Tryz.ty408_ok : tyOf Tryz.prog 408 = some Tryz.ty408 := by kernel_rfl
noncomputable def Tryz.ty409 : Ty := ⟨Tryz.t409.desc, 1, 8, false, Tryz.t409.zero, [], true, Tryz.t409.methods⟩
theorem Tryz.ty409_ok : tyOf Tryz.prog 409 = some Tryz.ty409 := by kernel_rfl
noncomputable def Tryz.ty410 : Ty := ⟨Tryz.t410.desc, 16, 160, true, Tryz.t410.zero, [(0, 10), (10, 1), (11, 1), (12, 1), (13, 1), (14, 2)], true, Tryz.t410.methods⟩
theorem Tryz.ty410_ok : tyOf Tryz.prog 410 = some Tryz.ty410 := by kernel_rfl
noncomputable def Tryz.ty411 : Ty := ⟨Tryz.t410.desc, 16, 160, true, Tryz.t411.zero, [(0, 10), (10, 1), (11, 1), (12, 1), (13, 1), (14, 2)], true, Tryz.t411.methods⟩
theorem Tryz.ty411_ok : tyOf Tryz.prog 411 = some Tryz.ty411 := by kernel_rfl
noncomputable def Tryz.ty412 : Ty := ⟨Tryz.t412.desc, 1, 8, false, Tryz.t412.zero, [], true, Tryz.t412.methods⟩
theorem Tryz.ty412_ok : tyOf Tryz.prog 412 = some Tryz.ty412 := by kernel_rfl
noncomputable def Tryz.ty413 : Ty := ⟨Tryz.t413.desc, 1, 8, false, Tryz.t413.zero, [], true, Tryz.t413.methods⟩
theorem Tryz.ty413_ok : tyOf Tryz.prog 413 = some Tryz.ty413 := by kernel_rfl
noncomputable def Tryz.ty414 : Ty := ⟨Tryz.t414.desc, 1, 0, false, Tryz.t414.zero, [], true, Tryz.t414.methods⟩
theorem Tryz.ty414_ok : tyOf Tryz.prog 414 = some Tryz.ty414 := by kernel_rfl
noncomputable def Tryz.ty415 : Ty := ⟨Tryz.t415.desc, 1, 0, false, Tryz.t415.zero, [], true, Tryz.t415.methods⟩
theorem Tryz.ty415_ok : tyOf Tryz.prog 415 = some Tryz.ty415 := by kernel_rfl
noncomputable def Tryz.ty416 : Ty := ⟨Tryz.t416.desc, 1, 8, false, Tryz.t416.zero, [], true, Tryz.t416.methods⟩
theorem Tryz.ty416_ok : tyOf Tryz.prog 416 = some Tryz.ty416 := by kernel_rfl
noncomputable def Tryz.ty417 : Ty := ⟨Tryz.t417.desc, 1, 8, false, Tryz.t417.zero, [], true, Tryz.t417.methods⟩
theorem Tryz.ty417_ok : tyOf Tryz.prog 417 = some Tryz.ty417 := by kernel_rfl
noncomputable def Tryz.ty418 : Ty := ⟨Tryz.t418.desc, 1, 8, false, Tryz.t418.zero, [], true, Tryz.t418.methods⟩
theorem Tryz.ty418_ok : tyOf Tryz.prog 418 = some Tryz.ty418 := by kernel_rfl
noncomputable def Tryz.ty419 : Ty := ⟨Tryz.t419.desc, 3, 32, true, Tryz.t419.zero, [(0, 1), (1, 1), (2, 1)], true, Tryz.t419.methods⟩
theorem Tryz.ty419_ok : tyOf Tryz.prog 419 = some Tryz.ty419 := by kernel_rfl
noncomputable def Tryz.ty420 : Ty := ⟨Tryz.t419.desc, 3, 32, true, Tryz.t420.zero, [(0, 1), (1, 1), (2, 1)], true, Tryz.t420.methods⟩
theorem Tryz.ty420_ok : tyOf Tryz.prog 420 = some Tryz.ty420 := by kernel_rfl
noncomputable def Tryz.ty421 : Ty := ⟨Tryz.t421.desc, 1, 8, false, Tryz.t421.zero, [], true, Tryz.t421.methods⟩
theorem Tryz.ty421_ok : tyOf Tryz.prog 421 = some Tryz.ty421 := by kernel_rfl
noncomputable def Tryz.ty422 : Ty := ⟨Tryz.t422.desc, 1, 8, false, Tryz.t422.zero, [], true, Tryz.t422.methods⟩
theorem Tryz.ty422_ok : tyOf Tryz.prog 422 = some Tryz.ty422 := by kernel_rfl
noncomputable def Tryz.ty423 : Ty := ⟨Tryz.t423.desc, 1, 8, false, Tryz.t423.zero, [], true, Tryz.t423.methods⟩
theorem Tryz.ty423_ok : tyOf Tryz.prog 423 = some Tryz.ty423 := by kernel_rfl
noncomputable def Tryz.ty424 : Ty := ⟨Tryz.t424.desc, 1, 0, false, Tryz.t424.zero, [], true, Tryz.t424.methods⟩
theorem Tryz.ty424_ok : tyOf Tryz.prog 424 = some Tryz.ty424 := by kernel_rfl
noncomputable def Tryz.ty425 : Ty := ⟨Tryz.t425.desc, 1, 8, false, Tryz.t425.zero, [], true, Tryz.t425.methods⟩
theorem Tryz.ty425_ok : tyOf Tryz.prog 425 = some Tryz.ty425 := by kernel_rfl
noncomputable def Tryz.ty426 : Ty := ⟨Tryz.t178.desc, 3, 24, true, Tryz.t426.zero, [(0, 1), (1, 1), (2, 1)], true, Tryz.t426.methods⟩
theorem Tryz.ty426_ok : tyOf Tryz.prog 426 = some Tryz.ty426 := by kernel_rfl
noncomputable def Tryz.ty427 : Ty := ⟨Tryz.t427.desc, 3, 24, true, Tryz.t427.zero, [], true, Tryz.t427.methods⟩
theorem Tryz.ty427_ok : tyOf Tryz.prog 427 = some Tryz.ty427 := by kernel_rfl
noncomputable def Tryz.ty428 : Ty := ⟨Tryz.t167.desc, 1, 8, false, Tryz.t428.zero, [], true, Tryz.t428.methods⟩
theorem Tryz.ty428_ok : tyOf Tryz.prog 428 = some Tryz.ty428 := by kernel_rfl
noncomputable def Tryz.ty429 : Ty := ⟨Tryz.t429.desc, 1, 8, false, Tryz.t429.zero, [], true, Tryz.t429.methods⟩
theorem Tryz.ty429_ok : tyOf Tryz.prog 429 = some Tryz.ty429 := by kernel_rfl
noncomputable def Tryz.ty430 : Ty := ⟨Tryz.t430.desc, 1, 0, false, Tryz.t430.zero, [], true, Tryz.t430.methods⟩
theorem Tryz.ty430_ok : tyOf Tryz.prog 430 = some Tryz.ty430 := by kernel_rfl
noncomputable def Tryz.ty431 : Ty := ⟨Tryz.t431.desc, 1, 8, false, Tryz.t431.zero, [], true, Tryz.t431.methods⟩
theorem Tryz.ty431_ok : tyOf Tryz.prog 431 = some Tryz.ty431 := by kernel_rfl
noncomputable def Tryz.ty432 : Ty := ⟨Tryz.t432.desc, 1, 24, false, Tryz.t432.zero, [], true, Tryz.t432.methods⟩
theorem Tryz.ty432_ok : tyOf Tryz.prog 432 = some Tryz.ty432 := by kernel_rfl
noncomputable def Tryz.ty433 : Ty := ⟨Tryz.t433.desc, 4, 80, true, Tryz.t433.zero, [(0, 1), (1, 1), (2, 1), (3, 1)], true, Tryz.t433.methods⟩
theorem Tryz.ty433_ok : tyOf Tryz.prog 433 = some Tryz.ty433 := by kernel_rfl
noncomputable def Tryz.ty434 : Ty := ⟨Tryz.t433.desc, 4, 80, true, Tryz.t434.zero, [(0, 1), (1, 1), (2, 1), (3, 1)], true, Tryz.t434.methods⟩
theorem Tryz.ty434_ok : tyOf Tryz.prog 434 = some Tryz.ty434 := by kernel_rfl
noncomputable def Tryz.ty435 : Ty := ⟨Tryz.t435.desc, 1, 24, false, Tryz.t435.zero, [], true, Tryz.t435.methods⟩
theorem Tryz.ty435_ok : tyOf Tryz.prog 435 = some Tryz.ty435 := by kernel_rfl
noncomputable def Tryz.ty436 : Ty := ⟨Tryz.t436.desc, 1, 8, false, Tryz.t436.zero, [], true, Tryz.t436.methods⟩
theorem Tryz.ty436_ok : tyOf Tryz.prog 436 = some Tryz.ty436 := by kernel_rfl
noncomputable def Tryz.ty437 : Ty := ⟨Tryz.t437.desc, 1, 8, false, Tryz.t437.zero, [], true, Tryz.t437.methods⟩
theorem Tryz.ty437_ok : tyOf Tryz.prog 437 = some Tryz.ty437 := by kernel_rfl
noncomputable def Tryz.ty438 : Ty := ⟨Tryz.t438.desc, 1, 0, false, Tryz.t438.zero, [], true, Tryz.t438.methods⟩
theorem Tryz.ty438_ok : tyOf Tryz.prog 438 = some Tryz.ty438 := by kernel_rfl
noncomputable def Tryz.ty439 : Ty := ⟨Tryz.t439.desc, 1, 8, false, Tryz.t439.zero, [], true, Tryz.t439.methods⟩
theorem Tryz.ty439_ok : tyOf Tryz.prog 439 = some Tryz.ty439 := by kernel_rfl
noncomputable def Tryz.ty440 : Ty := ⟨Tryz.t440.desc, 6, 48, true, Tryz.t440.zero, [(0, 1), (1, 1), (2, 1), (3, 1), (4, 1), (5, 1)], true, Tryz.t440.methods⟩
theorem Tryz.ty440_ok : tyOf Tryz.prog 440 = some Tryz.ty440 := by kernel_rfl
noncomputable def Tryz.ty441 : Ty := ⟨Tryz.t440.desc, 6, 48, true, Tryz.t441.zero, [(0, 1), (1, 1), (2, 1), (3, 1), (4, 1), (5, 1)], true, Tryz.t441.methods⟩
theorem Tryz.ty441_ok : tyOf Tryz.prog 441 = some Tryz.ty441 := by kernel_rfl
noncomputable def Tryz.ty442 : Ty := ⟨Tryz.t274.desc, 1, 8, false, Tryz.t442.zero, [], true, Tryz.t442.methods⟩
theorem Tryz.ty442_ok : tyOf Tryz.prog 442 = some Tryz.ty442 := by kernel_rfl
noncomputable def Tryz.ty443 : Ty := ⟨Tryz.t443.desc, 1, 8, false, Tryz.t443.zero, [], true, Tryz.t443.methods⟩
theorem Tryz.ty443_ok : tyOf Tryz.prog 443 = some Tryz.ty443 := by kernel_rfl
noncomputable def Tryz.ty444 : Ty := ⟨Tryz.t444.desc, 1, 8, false, Tryz.t444.zero, [], true, Tryz.t444.methods⟩
theorem Tryz.ty444_ok : tyOf Tryz.prog 444 = some Tryz.ty444 := by kernel_rfl
noncomputable def Tryz.ty445 : Ty := ⟨Tryz.t445.desc, 1, 8, false, Tryz.t445.zero, [], true, Tryz.t445.methods⟩
theorem Tryz.ty445_ok : tyOf Tryz.prog 445 = some Tryz.ty445 := by kernel_rfl
noncomputable def Tryz.ty446 : Ty := ⟨Tryz.t446.desc, 1, 8, false, Tryz.t446.zero, [], true, Tryz.t446.methods⟩
theorem Tryz.ty446_ok : tyOf Tryz.prog 446 = some Tryz.ty446 := by kernel_rfl
noncomputable def Tryz.ty447 : Ty := ⟨Tryz.t447.desc, 1, 8, false, Tryz.t447.zero, [], true, Tryz.t447.methods⟩
theorem Tryz.ty447_ok : tyOf Tryz.prog 447 = some Tryz.ty447 := by kernel_rfl
noncomputable def Tryz.ty448 : Ty := ⟨Tryz.t448.desc, 1, 8, false, Tryz.t448.zero, [], true, Tryz.t448.methods⟩
theorem Tryz.ty448_ok : tyOf Tryz.prog 448 = some Tryz.ty448 := by kernel_rfl
noncomputable def Tryz.ty449 : Ty := ⟨Tryz.t449.desc, 4, 80, true, Tryz.t449.zero, [(0, 2), (2, 1), (3, 1)], true, Tryz.t449.methods⟩
theorem Tryz.ty449_ok : tyOf Tryz.prog 449 = some Tryz.ty449 := by kernel_rfl
noncomputable def Tryz.ty450 : Ty := ⟨Tryz.t449.desc, 4, 80, true, Tryz.t450.zero, [(0, 2), (2, 1), (3, 1)], true, Tryz.t450.methods⟩
theorem Tryz.ty450_ok : tyOf Tryz.prog 450 = some Tryz.ty450 := by kernel_rfl
noncomputable def Tryz.ty451 : Ty := ⟨Tryz.t451.desc, 1, 0, false, Tryz.t451.zero, [], true, Tryz.t451.methods⟩
theorem Tryz.ty451_ok : tyOf Tryz.prog 451 = some Tryz.ty451 := by kernel_rfl
noncomputable def Tryz.ty452 : Ty := ⟨Tryz.t452.desc, 1, 8, false, Tryz.t452.zero, [], true, Tryz.t452.methods⟩
theorem Tryz.ty452_ok : tyOf Tryz.prog 452 = some Tryz.ty452 := by kernel_rfl
noncomputable def Tryz.ty453 : Ty := ⟨Tryz.t453.desc, 1, 8, false, Tryz.t453.zero, [], true, Tryz.t453.methods⟩
theorem Tryz.ty453_ok : tyOf Tryz.prog 453 = some Tryz.ty453 := by kernel_rfl
noncomputable def Tryz.ty454 : Ty := ⟨Tryz.t454.desc, 1, 8, false, Tryz.t454.zero, [], true, Tryz.t454.methods⟩
theorem Tryz.ty454_ok : tyOf Tryz.prog 454 = some Tryz.ty454 := by kernel_rfl
noncomputable def Tryz.ty455 : Ty := ⟨Tryz.t175.desc, 1, 24, false, Tryz.t455.zero, [], true, Tryz.t455.methods⟩
theorem Tryz.ty455_ok : tyOf Tryz.prog 455 = some Tryz.ty455 := by kernel_rfl
noncomputable def Tryz.ty456 : Ty := ⟨Tryz.t456.desc, 1, 8, false, Tryz.t456.zero, [], true, Tryz.t456.methods⟩
theorem Tryz.ty456_ok : tyOf Tryz.prog 456 = some Tryz.ty456 := by kernel_rfl
noncomputable def Tryz.ty457 : Ty := ⟨Tryz.t457.desc, 1, 8, false, Tryz.t457.zero, [], true, Tryz.t457.methods⟩
theorem Tryz.ty457_ok : tyOf Tryz.prog 457 = some Tryz.ty457 := by kernel_rfl
noncomputable def Tryz.ty458 : Ty := ⟨Tryz.t458.desc, 1, 8, false, Tryz.t458.zero, [], true, Tryz.t458.methods⟩
theorem Tryz.ty458_ok : tyOf Tryz.prog 458 = some Tryz.ty458 := by kernel_rfl
noncomputable def Tryz.ty459 : Ty := ⟨Tryz.t459.desc, 1, 8, false, Tryz.t459.zero, [], true, Tryz.t459.methods⟩
theorem Tryz.ty459_ok : tyOf Tryz.prog 459 = some Tryz.ty459 := by kernel_rfl
noncomputable def Tryz.ty460 : Ty := ⟨Tryz.t460.desc, 1, 8, false, Tryz.t460.zero, [], true, Tryz.t460.methods⟩
theorem Tryz.ty460_ok : tyOf Tryz.prog 460 = some Tryz.ty460 := by kernel_rfl
noncomputable def Tryz.ty461 : Ty := ⟨Tryz.t461.desc, 1, 8, false, Tryz.t461.zero, [], true, Tryz.t461.methods⟩
theorem Tryz.ty461_ok : tyOf Tryz.prog 461 = some Tryz.ty461 := by kernel_rfl
noncomputable def Tryz.ty462 : Ty := ⟨Tryz.t462.desc, 1, 8, false, Tryz.t462.zero, [], true, Tryz.t462.methods⟩
theorem Tryz.ty462_ok : tyOf Tryz.prog 462 = some Tryz.ty462 := by kernel_rfl
noncomputable def Tryz.ty463 : Ty := ⟨Tryz.t463.desc, 1, 8, false, Tryz.t463.zero, [], true, Tryz.t463.methods⟩
theorem Tryz.ty463_ok : tyOf Tryz.prog 463 = some Tryz.ty463 := by kernel_rfl
noncomputable def Tryz.ty464 : Ty := ⟨Tryz.t464.desc, 2, 16, true, Tryz.t464.zero, [], true, Tryz.t464.methods⟩
theorem Tryz.ty464_ok : tyOf Tryz.prog 464 = some Tryz.ty464 := by kernel_rfl
noncomputable def Tryz.ty465 : Ty := ⟨Tryz.t465.desc, 1, 8, false, Tryz.t465.zero, [], true, Tryz.t465.methods⟩
theorem Tryz.ty465_ok : tyOf Tryz.prog 465 = some Tryz.ty465 := by kernel_rfl
noncomputable def Tryz.ty466 : Ty := ⟨Tryz.t466.desc, 1, 8, false, Tryz.t466.zero, [], true, Tryz.t466.methods⟩
theorem Tryz.ty466_ok : tyOf Tryz.prog 466 = some Tryz.ty466 := by kernel_rfl
noncomputable def Tryz.ty467 : Ty := ⟨Tryz.t467.desc, 1, 8, false, Tryz.t467.zero, [], true, Tryz.t467.methods⟩
theorem Tryz.ty467_ok : tyOf Tryz.prog 467 = some Tryz.ty467 := by kernel_rfl
noncomputable def Tryz.ty468 : Ty := ⟨Tryz.t468.desc, 1, 8, false, Tryz.t468.zero, [], true, Tryz.t468.methods⟩
theorem Tryz.ty468_ok : tyOf Tryz.prog 468 = some Tryz.ty468 := by kernel_rfl
noncomputable def Tryz.ty469 : Ty := ⟨Tryz.t469.desc, 1, 8, false, Tryz.t469.zero, [], true, Tryz.t469.methods⟩
theorem Tryz.ty469_ok : tyOf Tryz.prog 469 = some Tryz.ty469 := by kernel_rfl
noncomputable def Tryz.ty470 : Ty := ⟨Tryz.t470.desc, 1, 8, false, Tryz.t470.zero, [], true, Tryz.t470.methods⟩
theorem Tryz.ty470_ok : tyOf Tryz.prog 470 = some Tryz.ty470 := by kernel_rfl
noncomputable def Tryz.ty471 : Ty := ⟨Tryz.t471.desc, 1, 8, false, Tryz.t471.zero, [], true, Tryz.t471.methods⟩
theorem Tryz.ty471_ok : tyOf Tryz.prog 471 = some Tryz.ty471 := by kernel_rfl
noncomputable def Tryz.ty472 : Ty := ⟨Tryz.t472.desc, 1, 8, false, Tryz.t472.zero, [], true, Tryz.t472.methods⟩
theorem Tryz.ty472_ok : tyOf Tryz.prog 472 = some Tryz.ty472 := by kernel_rfl
noncomputable def Tryz.ty473 : Ty := ⟨Tryz.t473.desc, 1, 8, false, Tryz.t473.zero, [], true, Tryz.t473.methods⟩
theorem Tryz.ty473_ok : tyOf Tryz.prog 473 = some Tryz.ty473 := by kernel_rfl
noncomputable def Tryz.ty474 : Ty := ⟨Tryz.t474.desc, 1, 8, false, Tryz.t474.zero, [], true, Tryz.t474.methods⟩
theorem Tryz.ty474_ok : tyOf Tryz.prog 474 = some Tryz.ty474 := by kernel_rfl
noncomputable def Tryz.ty475 : Ty := ⟨Tryz.t475.desc, 1, 8, false, Tryz.t475.zero, [], true, Tryz.t475.methods⟩
theorem Tryz.ty475_ok : tyOf Tryz.prog 475 = some Tryz.ty475 := by kernel_rfl
noncomputable def Tryz.ty476 : Ty := ⟨Tryz.t476.desc, 3, 24, true, Tryz.t476.zero, [], true, Tryz.t476.methods⟩
theorem Tryz.ty476_ok : tyOf Tryz.prog 476 = some Tryz.ty476 := by kernel_rfl
noncomputable def Tryz.ty477 : Ty := ⟨Tryz.t477.desc, 1, 0, false, Tryz.t477.zero, [], true, Tryz.t477.methods⟩
theorem Tryz.ty477_ok : tyOf Tryz.prog 477 = some Tryz.ty477 := by kernel_rfl
noncomputable def Tryz.ty478 : Ty := ⟨Tryz.t478.desc, 1, 8, false, Tryz.t478.zero, [], true, Tryz.t478.methods⟩
theorem Tryz.ty478_ok : tyOf Tryz.prog 478 = some Tryz.ty478 := by kernel_rfl
noncomputable def Tryz.ty479 : Ty := ⟨Tryz.t479.desc, 1, 8, false, Tryz.t479.zero, [], true, Tryz.t479.methods⟩
theorem Tryz.ty479_ok : tyOf Tryz.prog 479 = some Tryz.ty479 := by kernel_rfl
noncomputable def Tryz.ty480 : Ty := ⟨Tryz.t480.desc, 1, 8, false, Tryz.t480.zero, [], true, Tryz.t480.methods⟩
theorem Tryz.ty480_ok : tyOf Tryz.prog 480 = some Tryz.ty480 := by kernel_rfl
noncomputable def Tryz.ty481 : Ty := ⟨Tryz.t481.desc, 1, 8, false, Tryz.t481.zero, [], true, Tryz.t481.methods⟩
theorem Tryz.ty481_ok : tyOf Tryz.prog 481 = some Tryz.ty481 := by kernel_rfl
noncomputable def Tryz.ty482 : Ty := ⟨Tryz.t482.desc, 1, 8, false, Tryz.t482.zero, [], true, Tryz.t482.methods⟩
theorem Tryz.ty482_ok : tyOf Tryz.prog 482 = some Tryz.ty482 := by kernel_rfl
noncomputable def Tryz.ty483 : Ty := ⟨Tryz.t482.desc, 1, 8, false, Tryz.t483.zero, [], true, Tryz.t483.methods⟩
theorem Tryz.ty483_ok : tyOf Tryz.prog 483 = some Tryz.ty483 := by kernel_rfl
noncomputable def Tryz.ty484 : Ty := ⟨Tryz.t484.desc, 1, 8, false, Tryz.t484.zero, [], true, Tryz.t484.methods⟩
theorem Tryz.ty484_ok : tyOf Tryz.prog 484 = some Tryz.ty484 := by kernel_rfl
noncomputable def Tryz.ty485 : Ty := ⟨Tryz.t485.desc, 1, 8, false, Tryz.t485.zero, [], true, Tryz.t485.methods⟩
theorem Tryz.ty485_ok : tyOf Tryz.prog 485 = some Tryz.ty485 := by kernel_rfl
noncomputable def Tryz.ty486 : Ty := ⟨Tryz.t485.desc, 1, 8, false, Tryz.t486.zero, [], true, Tryz.t486.methods⟩
theorem Tryz.ty486_ok : tyOf Tryz.prog 486 = some Tryz.ty486 := by kernel_rfl
noncomputable def Tryz.ty487 : Ty := ⟨Tryz.t487.desc, 1, 8, false, Tryz.t487.zero, [], true, Tryz.t487.methods⟩
theorem Tryz.ty487_ok : tyOf Tryz.prog 487 = some Tryz.ty487 := by kernel_rfl
noncomputable def Tryz.ty488 : Ty := ⟨Tryz.t488.desc, 1, 8, false, Tryz.t488.zero, [], true, Tryz.t488.methods⟩
theorem Tryz.ty488_ok : tyOf Tryz.prog 488 = some Tryz.ty488 := by kernel_rfl
noncomputable def Tryz.ty489 : Ty := ⟨Tryz.t489.desc, 1, 8, false, Tryz.t489.zero, [], true, Tryz.t489.methods⟩
theorem Tryz.ty489_ok : tyOf Tryz.prog 489 = some Tryz.ty489 := by kernel_rfl
noncomputable def Tryz.ty490 : Ty := ⟨Tryz.t490.desc, 1, 8, false, Tryz.t490.zero, [], true, Tryz.t490.methods⟩
theorem Tryz.ty490_ok : tyOf Tryz.prog 490 = some Tryz.ty490 := by kernel_rfl
noncomputable def Tryz.ty491 : Ty := ⟨Tryz.t491.desc, 1, 8, false, Tryz.t491.zero, [], true, Tryz.t491.methods⟩
theorem Tryz.ty491_ok : tyOf Tryz.prog 491 = some Tryz.ty491 := by kernel_rfl
noncomputable def Tryz.ty492 : Ty := ⟨Tryz.t492.desc, 1, 8, false, Tryz.t492.zero, [], true, Tryz.t492.methods⟩
theorem Tryz.ty492_ok : tyOf Tryz.prog 492 = some Tryz.ty492 := by kernel_rfl
noncomputable def Tryz.ty493 : Ty := ⟨Tryz.t493.desc, 1, 8, false, Tryz.t493.zero, [], true, Tryz.t493.methods⟩
theorem Tryz.ty493_ok : tyOf Tryz.prog 493 = some Tryz.ty493 := by kernel_rfl
noncomputable def Tryz.ty494 : Ty := ⟨Tryz.t494.desc, 1, 8, false, Tryz.t494.zero, [], true, Tryz.t494.methods⟩
theorem Tryz.ty494_ok : tyOf Tryz.prog 494 = some Tryz.ty494 := by kernel_rfl
noncomputable def Tryz.ty495 : Ty := ⟨Tryz.t495.desc, 1, 24, false, Tryz.t495.zero, [], true, Tryz.t495.methods⟩
theorem Tryz.ty495_ok : tyOf Tryz.prog 495 = some Tryz.ty495 := by kernel_rfl
noncomputable def Tryz.ty496 : Ty := ⟨Tryz.t496.desc, 1, 0, false, Tryz.t496.zero, [], true, Tryz.t496.methods⟩
theorem Tryz.ty496_ok : tyOf Tryz.prog 496 = some Tryz.ty496 := by kernel_rfl
noncomputable def Tryz.ty497 : Ty := ⟨Tryz.t497.desc, 1, 8, false, Tryz.t497.zero, [], true, Tryz.t497.methods⟩
theorem Tryz.ty497_ok : tyOf Tryz.prog 497 = some Tryz.ty497 := by kernel_rfl
noncomputable def Tryz.ty498 : Ty := ⟨Tryz.t498.desc, 1, 0, false, Tryz.t498.zero, [], true, Tryz.t498.methods⟩
theorem Tryz.ty498_ok : tyOf Tryz.prog 498 = some Tryz.ty498 := by kernel_rfl
noncomputable def Tryz.ty499 : Ty := ⟨Tryz.t499.desc, 1, 8, false, Tryz.t499.zero, [], true, Tryz.t499.methods⟩
theorem Tryz.ty499_ok : tyOf Tryz.prog 499 = some Tryz.ty499 := by kernel_rfl
noncomputable def Tryz.ty500 : Ty := ⟨Tryz.t500.desc, 1, 8, false, Tryz.t500.zero, [], true, Tryz.t500.methods⟩
theorem Tryz.ty500_ok : tyOf Tryz.prog 500 = some Tryz.ty500 := by kernel_rfl
noncomputable def Tryz.ty501 : Ty := ⟨Tryz.t501.desc, 1, 8, false, Tryz.t501.zero, [], true, Tryz.t501.methods⟩
theorem Tryz.ty501_ok : tyOf Tryz.prog 501 = some Tryz.ty501 := by kernel_rfl
noncomputable def Tryz.ty502 : Ty := ⟨Tryz.t502.desc, 1, 8, false, Tryz.t502.zero, [], true, Tryz.t502.methods⟩
theorem Tryz.ty502_ok : tyOf Tryz.prog 502 = some Tryz.ty502 := by kernel_rfl
noncomputable def Tryz.ty503 : Ty := ⟨Tryz.t503.desc, 1, 8, false, Tryz.t503.zero, [], true, Tryz.t503.methods⟩
theorem Tryz.ty503_ok : tyOf Tryz.prog 503 = some Tryz.ty503 := by kernel_rfl
noncomputable def Tryz.ty504 : Ty := ⟨Tryz.t504.desc, 1, 8, false, Tryz.t504.zero, [], true, Tryz.t504.methods⟩
theorem Tryz.ty504_ok : tyOf Tryz.prog 504 = some Tryz.ty504 := by kernel_rfl
noncomputable def Tryz.ty505 : Ty := ⟨Tryz.t505.desc, 1, 8, false, Tryz.t505.zero, [], true, Tryz.t505.methods⟩
theorem Tryz.ty505_ok : tyOf Tryz.prog 505 = some Tryz.ty505 := by kernel_rfl
noncomputable def Tryz.ty506 : Ty := ⟨Tryz.t506.desc, 1, 8, false, Tryz.t506.zero, [], true, Tryz.t506.methods⟩
theorem Tryz.ty506_ok : tyOf Tryz.prog 506 = some Tryz.ty506 := by kernel_rfl
noncomputable def Tryz.ty507 : Ty := ⟨Tryz.t507.desc, 1, 8, false, Tryz.t507.zero, [], true, Tryz.t507.methods⟩
theorem Tryz.ty507_ok : tyOf Tryz.prog 507 = some Tryz.ty507 := by kernel_rfl
noncomputable def Tryz.ty508 : Ty := ⟨Tryz.t508.desc, 1, 8, false, Tryz.t508.zero, [], true, Tryz.t508.methods⟩
theorem Tryz.ty508_ok : tyOf Tryz.prog 508 = some Tryz.ty508 := by kernel_rfl
noncomputable def Tryz.ty509 : Ty := ⟨Tryz.t509.desc, 1, 8, false, Tryz.t509.zero, [], true, Tryz.t509.methods⟩
theorem Tryz.ty509_ok : tyOf Tryz.prog 509 = some Tryz.ty509 := by kernel_rfl
noncomputable def Tryz.ty510 : Ty := ⟨Tryz.t510.desc, 1, 8, false, Tryz.t510.zero, [], true, Tryz.t510.methods⟩
theorem Tryz.ty510_ok : tyOf Tryz.prog 510 = some Tryz.ty510 := by kernel_rfl
noncomputable def Tryz.ty511 : Ty := ⟨Tryz.t511.desc, 1, 8, false, Tryz.t511.zero, [], true, Tryz.t511.methods⟩
theorem Tryz.ty511_ok : tyOf Tryz.prog 511 = some Tryz.ty511 := by kernel_rfl
noncomputable def Tryz.ty512 : Ty := ⟨Tryz.t512.desc, 1, 8, false, Tryz.t512.zero, [], true, Tryz.t512.methods⟩
theorem Tryz.ty512_ok : tyOf Tryz.prog 512 = some Tryz.ty512 := by kernel_rfl
noncomputable def Tryz.ty513 : Ty := ⟨Tryz.t513.desc, 1, 8, false, Tryz.t513.zero, [], true, Tryz.t513.methods⟩
theorem Tryz.ty513_ok : tyOf Tryz.prog 513 = some Tryz.ty513 := by kernel_rfl
noncomputable def Tryz.ty514 : Ty := ⟨Tryz.t514.desc, 1, 0, false, Tryz.t514.zero, [], true, Tryz.t514.methods⟩
theorem Tryz.ty514_ok : tyOf Tryz.prog 514 = some Tryz.ty514 := by kernel_rfl
noncomputable def Tryz.ty515 : Ty := ⟨Tryz.t515.desc, 1, 8, false, Tryz.t515.zero, [], true, Tryz.t515.methods⟩
theorem Tryz.ty515_ok : tyOf Tryz.prog 515 = some Tryz.ty515 := by kernel_rfl
noncomputable def Tryz.ty516 : Ty := ⟨Tryz.t516.desc, 1, 0, false, Tryz.t516.zero, [], true, Tryz.t516.methods⟩
theorem Tryz.ty516_ok : tyOf Tryz.prog 516 = some Tryz.ty516 := by kernel_rfl
noncomputable def Tryz.ty517 : Ty := ⟨Tryz.t517.desc, 1, 8, false, Tryz.t517.zero, [], true, Tryz.t517.methods⟩
theorem Tryz.ty517_ok : tyOf Tryz.prog 517 = some Tryz.ty517 := by kernel_rfl
noncomputable def Tryz.ty518 : Ty := ⟨Tryz.t518.desc, 1, 8, false, Tryz.t518.zero, [], true, Tryz.t518.methods⟩
theorem Tryz.ty518_ok : tyOf Tryz.prog 518 = some Tryz.ty518 := by kernel_rfl
noncomputable def Tryz.ty519 : Ty := ⟨Tryz.t519.desc, 1, 8, false, Tryz.t519.zero, [], true, Tryz.t519.methods⟩
theorem Tryz.ty519_ok : tyOf Tryz.prog 519 = some Tryz.ty519 := by kernel_rfl
noncomputable def Tryz.ty520 : Ty := ⟨Tryz.t520.desc, 10, 80, true, Tryz.t520.zero, [], true, Tryz.t520.methods⟩
theorem Tryz.ty520_ok : tyOf Tryz.prog 520 = some Tryz.ty520 := by kernel_rfl
noncomputable def Tryz.ty521 : Ty := ⟨Tryz.t521.desc, 1, 8, false, Tryz.t521.zero, [], true, Tryz.t521.methods⟩
theorem Tryz.ty521_ok : tyOf Tryz.prog 521 = some Tryz.ty521 := by kernel_rfl
noncomputable def Tryz.ty522 : Ty := ⟨Tryz.t522.desc, 1, 8, false, Tryz.t522.zero, [], true, Tryz.t522.methods⟩
theorem Tryz.ty522_ok : tyOf Tryz.prog 522 = some Tryz.ty522 := by kernel_rfl
noncomputable def Tryz.ty523 : Ty := ⟨Tryz.t523.desc, 3, 32, true, Tryz.t523.zero, [(0, 1), (1, 1), (2, 1)], true, Tryz.t523.methods⟩
theorem Tryz.ty523_ok : tyOf Tryz.prog 523 = some Tryz.ty523 := by kernel_rfl
noncomputable def Tryz.ty524 : Ty := ⟨Tryz.t523.desc, 3, 32, true, Tryz.t524.zero, [(0, 1), (1, 1), (2, 1)], true, Tryz.t524.methods⟩
theorem Tryz.ty524_ok : tyOf Tryz.prog 524 = some Tryz.ty524 := by kernel_rfl
noncomputable def Tryz.ty525 : Ty := ⟨Tryz.t525.desc, 1, 8, false, Tryz.t525.zero, [], true, Tryz.t525.methods⟩
theorem Tryz.ty525_ok : tyOf Tryz.prog 525 = some Tryz.ty525 := by kernel_rfl
noncomputable def Tryz.ty526 : Ty := ⟨Tryz.t526.desc, 1, 8, false, Tryz.t526.zero, [], true, Tryz.t526.methods⟩
theorem Tryz.ty526_ok : tyOf Tryz.prog 526 = some Tryz.ty526 := by kernel_rfl
noncomputable def Tryz.ty527 : Ty := ⟨Tryz.t527.desc, 1, 8, false, Tryz.t527.zero, [], true, Tryz.t527.methods⟩
theorem Tryz.ty527_ok : tyOf Tryz.prog 527 = some Tryz.ty527 := by kernel_rfl
noncomputable def Tryz.ty528 : Ty := ⟨Tryz.t528.desc, 1, 8, false, Tryz.t528.zero, [], true, Tryz.t528.methods⟩
theorem Tryz.ty528_ok : tyOf Tryz.prog 528 = some Tryz.ty528 := by kernel_rfl
noncomputable def Tryz.ty529 : Ty := ⟨Tryz.t529.desc, 1, 0, false, Tryz.t529.zero, [], true, Tryz.t529.methods⟩
theorem Tryz.ty529_ok : tyOf Tryz.prog 529 = some Tryz.ty529 := by kernel_rfl
noncomputable def Tryz.ty530 : Ty := ⟨Tryz.t530.desc, 1, 8, false, Tryz.t530.zero, [], true, Tryz.t530.methods⟩
theorem Tryz.ty530_ok : tyOf Tryz.prog 530 = some Tryz.ty530 := by kernel_rfl
noncomputable def Tryz.ty531 : Ty := ⟨Tryz.t531.desc, 1, 8, false, Tryz.t531.zero, [], true, Tryz.t531.methods⟩
theorem Tryz.ty531_ok : tyOf Tryz.prog 531 = some Tryz.ty531 := by kernel_rfl
noncomputable def Tryz.ty532 : Ty := ⟨Tryz.t532.desc, 1, 8, false, Tryz.t532.zero, [], true, Tryz.t532.methods⟩
theorem Tryz.ty532_ok : tyOf Tryz.prog 532 = some Tryz.ty532 := by kernel_rfl
noncomputable def Tryz.ty533 : Ty := ⟨Tryz.t533.desc, 1, 8, false, Tryz.t533.zero, [], true, Tryz.t533.methods⟩
theorem Tryz.ty533_ok : tyOf Tryz.prog 533 = some Tryz.ty533 := by kernel_rfl
noncomputable def Tryz.ty534 : Ty := ⟨Tryz.t534.desc, 1, 8, false, Tryz.t534.zero, [], true, Tryz.t534.methods⟩
theorem Tryz.ty534_ok : tyOf Tryz.prog 534 = some Tryz.ty534 := by kernel_rfl
noncomputable def Tryz.ty535 : Ty := ⟨Tryz.t535.desc, 1, 8, false, Tryz.t535.zero, [], true, Tryz.t535.methods⟩
theorem Tryz.ty535_ok : tyOf Tryz.prog 535 = some Tryz.ty535 := by kernel_rfl
noncomputable def Tryz.ty536 : Ty := ⟨Tryz.t536.desc, 1, 8, false, Tryz.t536.zero, [], true, Tryz.t536.methods⟩
theorem Tryz.ty536_ok : tyOf Tryz.prog 536 = some Tryz.ty536 := by kernel_rfl
noncomputable def Tryz.ty537 : Ty := ⟨Tryz.t537.desc, 1, 8, false, Tryz.t537.zero, [], true, Tryz.t537.methods⟩
theorem Tryz.ty537_ok : tyOf Tryz.prog 537 = some Tryz.ty537 := by kernel_rfl
noncomputable def Tryz.ty538 : Ty := ⟨Tryz.t538.desc, 4, 32, true, Tryz.t538.zero, [], true, Tryz.t538.methods⟩
theorem Tryz.ty538_ok : tyOf Tryz.prog 538 = some Tryz.ty538 := by kernel_rfl
noncomputable def Tryz.ty539 : Ty := ⟨Tryz.t539.desc, 1, 8, false, Tryz.t539.zero, [], true, Tryz.t539.methods⟩
theorem Tryz.ty539_ok : tyOf Tryz.prog 539 = some Tryz.ty539 := by kernel_rfl
noncomputable def Tryz.ty540 : Ty := ⟨Tryz.t540.desc, 1, 8, false, Tryz.t540.zero, [], true, Tryz.t540.methods⟩
theorem Tryz.ty540_ok : tyOf Tryz.prog 540 = some Tryz.ty540 := by kernel_rfl
noncomputable def Tryz.ty541 : Ty := ⟨Tryz.t541.desc, 1, 0, false, Tryz.t541.zero, [], true, Tryz.t541.methods⟩
theorem Tryz.ty541_ok : tyOf Tryz.prog 541 = some Tryz.ty541 := by kernel_rfl
noncomputable def Tryz.ty542 : Ty := ⟨Tryz.t542.desc, 1, 8, false, Tryz.t542.zero, [], true, Tryz.t542.methods⟩
theorem Tryz.ty542_ok : tyOf Tryz.prog 542 = some Tryz.ty542 := by kernel_rfl
noncomputable def Tryz.ty543 : Ty := ⟨Tryz.t543.desc, 1, 8, false, Tryz.t543.zero, [], true, Tryz.t543.methods⟩
theorem Tryz.ty543_ok : tyOf Tryz.prog 543 = some Tryz.ty543 := by kernel_rfl
noncomputable def Tryz.ty544 : Ty := ⟨Tryz.t544.desc, 1, 0, false, Tryz.t544.zero, [], true, Tryz.t544.methods⟩
theorem Tryz.ty544_ok : tyOf Tryz.prog 544 = some Tryz.ty544 := by kernel_rfl
noncomputable def Tryz.ty545 : Ty := ⟨Tryz.t545.desc, 1, 8, false, Tryz.t545.zero, [], true, Tryz.t545.methods⟩
theorem Tryz.ty545_ok : tyOf Tryz.prog 545 = some Tryz.ty545 := by kernel_rfl
noncomputable def Tryz.ty546 : Ty := ⟨Tryz.t546.desc, 1, 8, false, Tryz.t546.zero, [], true, Tryz.t546.methods⟩
theorem Tryz.ty546_ok : tyOf Tryz.prog 546 = some Tryz.ty546 := by kernel_rfl
noncomputable def Tryz.ty547 : Ty := ⟨Tryz.t547.desc, 1, 8, false, Tryz.t547.zero, [], true, Tryz.t547.methods⟩
theorem Tryz.ty547_ok : tyOf Tryz.prog 547 = some Tryz.ty547 := by kernel_rfl
noncomputable def Tryz.ty548 : Ty := ⟨Tryz.t548.desc, 256, 256, true, Tryz.t548.zero, [], true, Tryz.t548.methods⟩
theorem Tryz.ty548_ok : tyOf Tryz.prog 548 = some Tryz.ty548 := by kernel_rfl
noncomputable def Tryz.ty549 : Ty := ⟨Tryz.t548.desc, 256, 256, true, Tryz.t549.zero, [], true, Tryz.t549.methods⟩
theorem Tryz.ty549_ok : tyOf Tryz.prog 549 = some Tryz.ty549 := by kernel_rfl
noncomputable def Tryz.ty550 : Ty := ⟨Tryz.t550.desc, 1, 0, false, Tryz.t550.zero, [], true, Tryz.t550.methods⟩
theorem Tryz.ty550_ok : tyOf Tryz.prog 550 = some Tryz.ty550 := by kernel_rfl
noncomputable def Tryz.ty551 : Ty := ⟨Tryz.t551.desc, 1, 8, false, Tryz.t551.zero, [], true, Tryz.t551.methods⟩
theorem Tryz.ty551_ok : tyOf Tryz.prog 551 = some Tryz.ty551 := by kernel_rfl
noncomputable def Tryz.ty552 : Ty := ⟨Tryz.t552.desc, 1, 8, false, Tryz.t552.zero, [], true, Tryz.t552.methods⟩
theorem Tryz.ty552_ok : tyOf Tryz.prog 552 = some Tryz.ty552 := by kernel_rfl
noncomputable def Tryz.ty553 : Ty := ⟨Tryz.t448.desc, 1, 8, false, Tryz.t553.zero, [], true, Tryz.t553.methods⟩
theorem Tryz.ty553_ok : tyOf Tryz.prog 553 = some Tryz.ty553 := by kernel_rfl
noncomputable def Tryz.ty554 : Ty := ⟨Tryz.t554.desc, 1, 8, false, Tryz.t554.zero, [], true, Tryz.t554.methods⟩
theorem Tryz.ty554_ok : tyOf Tryz.prog 554 = some Tryz.ty554 := by kernel_rfl
noncomputable def Tryz.ty555 : Ty := ⟨Tryz.t555.desc, 1, 0, false, Tryz.t555.zero, [], true, Tryz.t555.methods⟩
theorem Tryz.ty555_ok : tyOf Tryz.prog 555 = some Tryz.ty555 := by kernel_rfl
noncomputable def Tryz.ty556 : Ty := ⟨Tryz.t556.desc, 1, 8, false, Tryz.t556.zero, [], true, Tryz.t556.methods⟩
theorem Tryz.ty556_ok : tyOf Tryz.prog 556 = some Tryz.ty556 := by kernel_rfl
noncomputable def Tryz.ty557 : Ty := ⟨Tryz.t557.desc, 1, 8, false, Tryz.t557.zero, [], true, Tryz.t557.methods⟩
theorem Tryz.ty557_ok : tyOf Tryz.prog 557 = some Tryz.ty557 := by kernel_rfl
noncomputable def Tryz.ty558 : Ty := ⟨Tryz.t558.desc, 1, 8, true, Tryz.t558.zero, [(0, 1)], true, Tryz.t558.methods⟩
theorem Tryz.ty558_ok : tyOf Tryz.prog 558 = some Tryz.ty558 := by kernel_rfl
noncomputable def Tryz.ty559 : Ty := ⟨Tryz.t558.desc, 1, 8, true, Tryz.t559.zero, [(0, 1)], true, Tryz.t559.methods⟩
theorem Tryz.ty559_ok : tyOf Tryz.prog 559 = some Tryz.ty559 := by kernel_rfl
noncomputable def Tryz.ty560 : Ty := ⟨Tryz.t560.desc, 2, 48, true, Tryz.t560.zero, [(0, 1), (1, 1)], true, Tryz.t560.methods⟩
theorem Tryz.ty560_ok : tyOf Tryz.prog 560 = some Tryz.ty560 := by kernel_rfl
noncomputable def Tryz.ty561 : Ty := ⟨Tryz.t560.desc, 2, 48, true, Tryz.t561.zero, [(0, 1), (1, 1)], true, Tryz.t561.methods⟩
theorem Tryz.ty561_ok : tyOf Tryz.prog 561 = some Tryz.ty561 := by kernel_rfl
noncomputable def Tryz.ty562 : Ty := ⟨Tryz.t562.desc, 1, 8, false, Tryz.t562.zero, [], true, Tryz.t562.methods⟩
theorem Tryz.ty562_ok : tyOf Tryz.prog 562 = some Tryz.ty562 := by kernel_rfl
noncomputable def Tryz.ty563 : Ty := ⟨Tryz.t563.desc, 1, 8, false, Tryz.t563.zero, [], true, Tryz.t563.methods⟩
theorem Tryz.ty563_ok : tyOf Tryz.prog 563 = some Tryz.ty563 := by kernel_rfl
noncomputable def Tryz.ty564 : Ty := ⟨Tryz.t564.desc, 4, 64, true, Tryz.t564.zero, [(0, 1), (1, 1), (2, 1), (3, 1)], true, Tryz.t564.methods⟩
theorem Tryz.ty564_ok : tyOf Tryz.prog 564 = some Tryz.ty564 := by kernel_rfl
noncomputable def Tryz.ty565 : Ty := ⟨Tryz.t564.desc, 4, 64, true, Tryz.t565.zero, [(0, 1), (1, 1), (2, 1), (3, 1)], true, Tryz.t565.methods⟩
theorem Tryz.ty565_ok : tyOf Tryz.prog 565 = some Tryz.ty565 := by kernel_rfl
noncomputable def Tryz.ty566 : Ty := ⟨Tryz.t566.desc, 1, 8, false, Tryz.t566.zero, [], true, Tryz.t566.methods⟩
theorem Tryz.ty566_ok : tyOf Tryz.prog 566 = some Tryz.ty566 := by kernel_rfl
noncomputable def Tryz.ty567 : Ty := ⟨Tryz.t567.desc, 1, 8, false, Tryz.t567.zero, [], true, Tryz.t567.methods⟩
theorem Tryz.ty567_ok : tyOf Tryz.prog 567 = some Tryz.ty567 := by kernel_rfl
noncomputable def Tryz.ty568 : Ty := ⟨Tryz.t568.desc, 1, 8, false, Tryz.t568.zero, [], true, Tryz.t568.methods⟩
theorem Tryz.ty568_ok : tyOf Tryz.prog 568 = some Tryz.ty568 := by kernel_rfl
noncomputable def Tryz.ty569 : Ty := ⟨Tryz.t569.desc, 1, 8, false, Tryz.t569.zero, [], true, Tryz.t569.methods⟩
theorem Tryz.ty569_ok : tyOf Tryz.prog 569 = some Tryz.ty569 := by kernel_rfl
noncomputable def Tryz.ty570 : Ty := ⟨Tryz.t570.desc, 1, 8, false, Tryz.t570.zero, [], true, Tryz.t570.methods⟩
theorem Tryz.ty570_ok : tyOf Tryz.prog 570 = some Tryz.ty570 := by kernel_rfl
noncomputable def Tryz.ty571 : Ty := ⟨Tryz.t571.desc, 1, 8, false, Tryz.t571.zero, [], true, Tryz.t571.methods⟩
theorem Tryz.ty571_ok : tyOf Tryz.prog 571 = some Tryz.ty571 := by kernel_rfl
noncomputable def Tryz.ty572 : Ty := ⟨Tryz.t572.desc, 1, 8, false, Tryz.t572.zero, [], true, Tryz.t572.methods⟩
theorem Tryz.ty572_ok : tyOf Tryz.prog 572 = some Tryz.ty572 := by kernel_rfl
noncomputable def Tryz.ty573 : Ty := ⟨Tryz.t573.desc, 1, 8, false, Tryz.t573.zero, [], true, Tryz.t573.methods⟩
theorem Tryz.ty573_ok : tyOf Tryz.prog 573 = some Tryz.ty573 := by kernel_rfl
noncomputable def Tryz.ty574 : Ty := ⟨Tryz.t574.desc, 1, 8, false, Tryz.t574.zero, [], true, Tryz.t574.methods⟩
theorem Tryz.ty574_ok : tyOf Tryz.prog 574 = some Tryz.ty574 := by kernel_rfl
noncomputable def Tryz.ty575 : Ty := ⟨Tryz.t575.desc, 1, 8, false, Tryz.t575.zero, [], true, Tryz.t575.methods⟩
theorem Tryz.ty575_ok : tyOf Tryz.prog 575 = some Tryz.ty575 := by kernel_rfl
noncomputable def Tryz.ty576 : Ty := ⟨Tryz.t576.desc, 1, 16, false, Tryz.t576.zero, [], false, Tryz.t576.methods⟩
theorem Tryz.ty576_ok : tyOf Tryz.prog 576 = some Tryz.ty576 := by kernel_rfl
noncomputable def Tryz.ty577 : Ty := ⟨Tryz.t576.desc, 1, 16, false, Tryz.t577.zero, [], false, Tryz.t577.methods⟩
theorem Tryz.ty577_ok : tyOf Tryz.prog 577 = some Tryz.ty577 := by kernel_rfl
noncomputable def Tryz.ty578 : Ty := ⟨Tryz.t578.desc, 1, 8, false, Tryz.t578.zero, [], true, Tryz.t578.methods⟩
theorem Tryz.ty578_ok : tyOf Tryz.prog 578 = some Tryz.ty578 := by kernel_rfl
noncomputable def Tryz.ty579 : Ty := ⟨Tryz.t579.desc, 1, 8, false, Tryz.t579.zero, [], true, Tryz.t579.methods⟩
theorem Tryz.ty579_ok : tyOf Tryz.prog 579 = some Tryz.ty579 := by kernel_rfl
noncomputable def Tryz.ty580 : Ty := ⟨Tryz.t580.desc, 1, 8, false, Tryz.t580.zero, [], true, Tryz.t580.methods⟩
theorem Tryz.ty580_ok : tyOf Tryz.prog 580 = some Tryz.ty580 := by kernel_rfl
noncomputable def Tryz.ty581 : Ty := ⟨Tryz.t581.desc, 1, 0, false, Tryz.t581.zero, [], true, Tryz.t581.methods⟩
theorem Tryz.ty581_ok : tyOf Tryz.prog 581 = some Tryz.ty581 := by kernel_rfl
noncomputable def Tryz.ty582 : Ty := ⟨Tryz.t582.desc, 1, 8, false, Tryz.t582.zero, [], true, Tryz.t582.methods⟩
theorem Tryz.ty582_ok : tyOf Tryz.prog 582 = some Tryz.ty582 := by kernel_rfl
noncomputable def Tryz.ty583 : Ty := ⟨Tryz.t583.desc, 1, 8, false, Tryz.t583.zero, [], true, Tryz.t583.methods⟩
theorem Tryz.ty583_ok : tyOf Tryz.prog 583 = some Tryz.ty583 := by kernel_rfl
noncomputable def Tryz.ty584 : Ty := ⟨Tryz.t584.desc, 1, 8, false, Tryz.t584.zero, [], true, Tryz.t584.methods⟩
theorem Tryz.ty584_ok : tyOf Tryz.prog 584 = some Tryz.ty584 := by kernel_rfl
noncomputable def Tryz.ty585 : Ty := ⟨Tryz.t585.desc, 1, 8, false, Tryz.t585.zero, [], true, Tryz.t585.methods⟩
theorem Tryz.ty585_ok : tyOf Tryz.prog 585 = some Tryz.ty585 := by kernel_rfl
noncomputable def Tryz.ty586 : Ty := ⟨Tryz.t586.desc, 1, 8, false, Tryz.t586.zero, [], true, Tryz.t586.methods⟩
theorem Tryz.ty586_ok : tyOf Tryz.prog 586 = some Tryz.ty586 := by kernel_rfl
noncomputable def Tryz.ty587 : Ty := ⟨Tryz.t587.desc, 2, 16, true, Tryz.t587.zero, [], true, Tryz.t587.methods⟩
theorem Tryz.ty587_ok : tyOf Tryz.prog 587 = some Tryz.ty587 := by kernel_rfl
noncomputable def Tryz.ty588 : Ty := ⟨Tryz.t588.desc, 1, 0, false, Tryz.t588.zero, [], true, Tryz.t588.methods⟩
theorem Tryz.ty588_ok : tyOf Tryz.prog 588 = some Tryz.ty588 := by kernel_rfl
noncomputable def Tryz.ty589 : Ty := ⟨Tryz.t589.desc, 1, 8, false, Tryz.t589.zero, [], true, Tryz.t589.methods⟩
theorem Tryz.ty589_ok : tyOf Tryz.prog 589 = some Tryz.ty589 := by kernel_rfl
noncomputable def Tryz.ty590 : Ty := ⟨Tryz.t590.desc, 1, 8, false, Tryz.t590.zero, [], true, Tryz.t590.methods⟩
theorem Tryz.ty590_ok : tyOf Tryz.prog 590 = some Tryz.ty590 := by kernel_rfl
noncomputable def Tryz.ty591 : Ty := ⟨Tryz.t591.desc, 1, 8, false, Tryz.t591.zero, [], true, Tryz.t591.methods⟩
theorem Tryz.ty591_ok : tyOf Tryz.prog 591 = some Tryz.ty591 := by kernel_rfl
noncomputable def Tryz.ty592 : Ty := ⟨Tryz.t592.desc, 1, 8, false, Tryz.t592.zero, [], true, Tryz.t592.methods⟩
theorem Tryz.ty592_ok : tyOf Tryz.prog 592 = some Tryz.ty592 := by kernel_rfl
noncomputable def Tryz.ty593 : Ty := ⟨Tryz.t593.desc, 1, 8, false, Tryz.t593.zero, [], true, Tryz.t593.methods⟩
theorem Tryz.ty593_ok : tyOf Tryz.prog 593 = some Tryz.ty593 := by kernel_rfl
noncomputable def Tryz.ty594 : Ty := ⟨Tryz.t594.desc, 1, 8, false, Tryz.t594.zero, [], true, Tryz.t594.methods⟩
theorem Tryz.ty594_ok : tyOf Tryz.prog 594 = some Tryz.ty594 := by kernel_rfl
noncomputable def Tryz.ty595 : Ty := ⟨Tryz.t595.desc, 1, 8, false, Tryz.t595.zero, [], true, Tryz.t595.methods⟩
theorem Tryz.ty595_ok : tyOf Tryz.prog 595 = some Tryz.ty595 := by kernel_rfl
noncomputable def Tryz.ty596 : Ty := ⟨Tryz.t596.desc, 1, 24, false, Tryz.t596.zero, [], true, Tryz.t596.methods⟩
theorem Tryz.ty596_ok : tyOf Tryz.prog 596 = some Tryz.ty596 := by kernel_rfl
noncomputable def Tryz.ty597 : Ty := ⟨Tryz.t597.desc, 1, 8, false, Tryz.t597.zero, [], true, Tryz.t597.methods⟩
theorem Tryz.ty597_ok : tyOf Tryz.prog 597 = some Tryz.ty597 := by kernel_rfl
noncomputable def Tryz.ty598 : Ty := ⟨Tryz.t598.desc, 2, 32, true, Tryz.t598.zero, [(0, 1), (1, 1)], true, Tryz.t598.methods⟩
theorem Tryz.ty598_ok : tyOf Tryz.prog 598 = some Tryz.ty598 := by kernel_rfl
noncomputable def Tryz.ty599 : Ty := ⟨Tryz.t598.desc, 2, 32, true, Tryz.t599.zero, [(0, 1), (1, 1)], true, Tryz.t599.methods⟩
theorem Tryz.ty599_ok : tyOf Tryz.prog 599 = some Tryz.ty599 := by kernel_rfl
noncomputable def Tryz.ty600 : Ty := ⟨Tryz.t600.desc, 1, 8, false, Tryz.t600.zero, [], true, Tryz.t600.methods⟩
theorem Tryz.ty600_ok : tyOf Tryz.prog 600 = some Tryz.ty600 := by kernel_rfl
noncomputable def Tryz.ty601 : Ty := ⟨Tryz.t601.desc, 1, 8, false, Tryz.t601.zero, [], true, Tryz.t601.methods⟩
theorem Tryz.ty601_ok : tyOf Tryz.prog 601 = some Tryz.ty601 := by kernel_rfl
noncomputable def Tryz.ty602 : Ty := ⟨Tryz.t602.desc, 1, 8, false, Tryz.t602.zero, [], true, Tryz.t602.methods⟩
theorem Tryz.ty602_ok : tyOf Tryz.prog 602 = some Tryz.ty602 := by kernel_rfl
noncomputable def Tryz.ty603 : Ty := ⟨Tryz.t603.desc, 1, 8, false, Tryz.t603.zero, [], true, Tryz.t603.methods⟩
theorem Tryz.ty603_ok : tyOf Tryz.prog 603 = some Tryz.ty603 := by kernel_rfl
noncomputable def Tryz.ty604 : Ty := ⟨Tryz.t604.desc, 1, 8, false, Tryz.t604.zero, [], true, Tryz.t604.methods⟩
theorem Tryz.ty604_ok : tyOf Tryz.prog 604 = some Tryz.ty604 := by kernel_rfl
noncomputable def Tryz.ty605 : Ty := ⟨Tryz.t605.desc, 1, 8, false, Tryz.t605.zero, [], true, Tryz.t605.methods⟩
theorem Tryz.ty605_ok : tyOf Tryz.prog 605 = some Tryz.ty605 := by kernel_rfl
noncomputable def Tryz.ty606 : Ty := ⟨Tryz.t606.desc, 1, 8, false, Tryz.t606.zero, [], true, Tryz.t606.methods⟩
theorem Tryz.ty606_ok : tyOf Tryz.prog 606 = some Tryz.ty606 := by kernel_rfl
noncomputable def Tryz.ty607 : Ty := ⟨Tryz.t607.desc, 1, 8, false, Tryz.t607.zero, [], true, Tryz.t607.methods⟩
theorem Tryz.ty607_ok : tyOf Tryz.prog 607 = some Tryz.ty607 := by kernel_rfl
noncomputable def Tryz.ty608 : Ty := ⟨Tryz.t608.desc, 1, 8, false, Tryz.t608.zero, [], true, Tryz.t608.methods⟩
theorem Tryz.ty608_ok : tyOf Tryz.prog 608 = some Tryz.ty608 := by kernel_rfl
noncomputable def Tryz.ty609 : Ty := ⟨Tryz.t609.desc, 1, 8, false, Tryz.t609.zero, [], true, Tryz.t609.methods⟩
theorem Tryz.ty609_ok : tyOf Tryz.prog 609 = some Tryz.ty609 := by kernel_rfl
noncomputable def Tryz.ty610 : Ty := ⟨Tryz.t610.desc, 1, 8, false, Tryz.t610.zero, [], true, Tryz.t610.methods⟩
theorem Tryz.ty610_ok : tyOf Tryz.prog 610 = some Tryz.ty610 := by kernel_rfl
noncomputable def Tryz.ty611 : Ty := ⟨Tryz.t611.desc, 1, 8, false, Tryz.t611.zero, [], true, Tryz.t611.methods⟩
theorem Tryz.ty611_ok : tyOf Tryz.prog 611 = some Tryz.ty611 := by kernel_rfl
noncomputable def Tryz.ty612 : Ty := ⟨Tryz.t612.desc, 2, 24, true, Tryz.t612.zero, [(0, 1), (1, 1)], true, Tryz.t612.methods⟩
theorem Tryz.ty612_ok : tyOf Tryz.prog 612 = some Tryz.ty612 := by kernel_rfl
noncomputable def Tryz.ty613 : Ty := ⟨Tryz.t612.desc, 2, 24, true, Tryz.t613.zero, [(0, 1), (1, 1)], true, Tryz.t613.methods⟩
theorem Tryz.ty613_ok : tyOf Tryz.prog 613 = some Tryz.ty613 := by kernel_rfl
noncomputable def Tryz.ty614 : Ty := ⟨Tryz.t614.desc, 1, 8, false, Tryz.t614.zero, [], true, Tryz.t614.methods⟩
theorem Tryz.ty614_ok : tyOf Tryz.prog 614 = some Tryz.ty614 := by kernel_rfl
noncomputable def Tryz.ty615 : Ty := ⟨Tryz.t615.desc, 1, 8, false, Tryz.t615.zero, [], true, Tryz.t615.methods⟩
theorem Tryz.ty615_ok : tyOf Tryz.prog 615 = some Tryz.ty615 := by kernel_rfl
noncomputable def Tryz.ty616 : Ty := ⟨Tryz.t616.desc, 1, 8, false, Tryz.t616.zero, [], true, Tryz.t616.methods⟩
theorem Tryz.ty616_ok : tyOf Tryz.prog 616 = some Tryz.ty616 := by kernel_rfl
noncomputable def Tryz.ty617 : Ty := ⟨Tryz.t617.desc, 1, 8, false, Tryz.t617.zero, [], true, Tryz.t617.methods⟩
theorem Tryz.ty617_ok : tyOf Tryz.prog 617 = some Tryz.ty617 := by kernel_rfl
noncomputable def Tryz.ty618 : Ty := ⟨Tryz.t618.desc, 1, 8, false, Tryz.t618.zero, [], true, Tryz.t618.methods⟩
theorem Tryz.ty618_ok : tyOf Tryz.prog 618 = some Tryz.ty618 := by kernel_rfl
noncomputable def Tryz.ty619 : Ty := ⟨Tryz.t619.desc, 1, 8, false, Tryz.t619.zero, [], true, Tryz.t619.methods⟩
theorem Tryz.ty619_ok : tyOf Tryz.prog 619 = some Tryz.ty619 := by kernel_rfl
noncomputable def Tryz.ty620 : Ty := ⟨Tryz.t620.desc, 1, 8, false, Tryz.t620.zero, [], true, Tryz.t620.methods⟩
theorem Tryz.ty620_ok : tyOf Tryz.prog 620 = some Tryz.ty620 := by kernel_rfl
noncomputable def Tryz.ty621 : Ty := ⟨Tryz.t621.desc, 1, 8, false, Tryz.t621.zero, [], true, Tryz.t621.methods⟩
theorem Tryz.ty621_ok : tyOf Tryz.prog 621 = some Tryz.ty621 := by kernel_rfl
noncomputable def Tryz.ty622 : Ty := ⟨Tryz.t622.desc, 1, 8, false, Tryz.t622.zero, [], true, Tryz.t622.methods⟩
theorem Tryz.ty622_ok : tyOf Tryz.prog 622 = some Tryz.ty622 := by kernel_rfl
noncomputable def Tryz.ty623 : Ty := ⟨Tryz.t623.desc, 1, 8, false, Tryz.t623.zero, [], true, Tryz.t623.methods⟩
theorem Tryz.ty623_ok : tyOf Tryz.prog 623 = some Tryz.ty623 := by kernel_rfl
noncomputable def Tryz.ty624 : Ty := ⟨Tryz.t624.desc, 1, 8, false, Tryz.t624.zero, [], true, Tryz.t624.methods⟩
theorem Tryz.ty624_ok : tyOf Tryz.prog 624 = some Tryz.ty624 := by kernel_rfl
noncomputable def Tryz.ty625 : Ty := ⟨Tryz.t625.desc, 1, 8, false, Tryz.t625.zero, [], true, Tryz.t625.methods⟩
theorem Tryz.ty625_ok : tyOf Tryz.prog 625 = some Tryz.ty625 := by kernel_rfl
noncomputable def Tryz.ty626 : Ty := ⟨Tryz.t626.desc, 1, 8, false, Tryz.t626.zero, [], true, Tryz.t626.methods⟩
theorem Tryz.ty626_ok : tyOf Tryz.prog 626 = some Tryz.ty626 := by kernel_rfl
noncomputable def Tryz.ty627 : Ty := ⟨Tryz.t627.desc, 1, 8, false, Tryz.t627.zero, [], true, Tryz.t627.methods⟩
theorem Tryz.ty627_ok : tyOf Tryz.prog 627 = some Tryz.ty627 := by kernel_rfl
noncomputable def Tryz.ty628 : Ty := ⟨Tryz.t628.desc, 1, 8, false, Tryz.t628.zero, [], true, Tryz.t628.methods⟩
theorem Tryz.ty628_ok : tyOf Tryz.prog 628 = some Tryz.ty628 := by kernel_rfl
noncomputable def Tryz.ty629 : Ty := ⟨Tryz.t629.desc, 1, 8, false, Tryz.t629.zero, [], true, Tryz.t629.methods⟩
theorem Tryz.ty629_ok : tyOf Tryz.prog 629 = some Tryz.ty629 := by kernel_rfl
noncomputable def Tryz.ty630 : Ty := ⟨Tryz.t630.desc, 1, 8, false, Tryz.t630.zero, [], true, Tryz.t630.methods⟩
theorem Tryz.ty630_ok : tyOf Tryz.prog 630 = some Tryz.ty630 := by kernel_rfl
noncomputable def Tryz.ty631 : Ty := ⟨Tryz.t631.desc, 1, 8, false, Tryz.t631.zero, [], true, Tryz.t631.methods⟩
theorem Tryz.ty631_ok : tyOf Tryz.prog 631 = some Tryz.ty631 := by kernel_rfl
noncomputable def Tryz.ty632 : Ty := ⟨Tryz.t632.desc, 1, 8, false, Tryz.t632.zero, [], true, Tryz.t632.methods⟩
theorem Tryz.ty632_ok : tyOf Tryz.prog 632 = some Tryz.ty632 := by kernel_rfl
noncomputable def Tryz.ty633 : Ty := ⟨Tryz.t633.desc, 1, 8, false, Tryz.t633.zero, [], true, Tryz.t633.methods⟩
theorem Tryz.ty633_ok : tyOf Tryz.prog 633 = some Tryz.ty633 := by kernel_rfl
noncomputable def Tryz.ty634 : Ty := ⟨Tryz.t634.desc, 1, 8, false, Tryz.t634.zero, [], true, Tryz.t634.methods⟩
theorem Tryz.ty634_ok : tyOf Tryz.prog 634 = some Tryz.ty634 := by kernel_rfl
noncomputable def Tryz.ty635 : Ty := ⟨Tryz.t635.desc, 1, 8, false, Tryz.t635.zero, [], true, Tryz.t635.methods⟩
theorem Tryz.ty635_ok : tyOf Tryz.prog 635 = some Tryz.ty635 := by kernel_rfl
noncomputable def Tryz.ty636 : Ty := ⟨Tryz.t636.desc, 1, 8, false, Tryz.t636.zero, [], true, Tryz.t636.methods⟩
theorem Tryz.ty636_ok : tyOf Tryz.prog 636 = some Tryz.ty636 := by kernel_rfl
noncomputable def Tryz.ty637 : Ty := ⟨Tryz.t637.desc, 1, 8, false, Tryz.t637.zero, [], true, Tryz.t637.methods⟩
theorem Tryz.ty637_ok : tyOf Tryz.prog 637 = some Tryz.ty637 := by kernel_rfl
noncomputable def Tryz.ty638 : Ty := ⟨Tryz.t638.desc, 1, 8, false, Tryz.t638.zero, [], true, Tryz.t638.methods⟩
theorem Tryz.ty638_ok : tyOf Tryz.prog 638 = some Tryz.ty638 := by kernel_rfl
noncomputable def Tryz.ty639 : Ty := ⟨Tryz.t639.desc, 1, 8, false, Tryz.t639.zero, [], true, Tryz.t639.methods⟩
theorem Tryz.ty639_ok : tyOf Tryz.prog 639 = some Tryz.ty639 := by kernel_rfl
noncomputable def Tryz.ty640 : Ty := ⟨Tryz.t640.desc, 1, 8, false, Tryz.t640.zero, [], true, Tryz.t640.methods⟩
theorem Tryz.ty640_ok : tyOf Tryz.prog 640 = some Tryz.ty640 := by kernel_rfl
noncomputable def Tryz.ty641 : Ty := ⟨Tryz.t641.desc, 1, 8, false, Tryz.t641.zero, [], true, Tryz.t641.methods⟩
theorem Tryz.ty641_ok : tyOf Tryz.prog 641 = some Tryz.ty641 := by kernel_rfl
noncomputable def Tryz.ty642 : Ty := ⟨Tryz.t642.desc, 1, 0, false, Tryz.t642.zero, [], true, Tryz.t642.methods⟩
theorem Tryz.ty642_ok : tyOf Tryz.prog 642 = some Tryz.ty642 := by kernel_rfl
noncomputable def Tryz.ty643 : Ty := ⟨Tryz.t643.desc, 1, 8, false, Tryz.t643.zero, [], true, Tryz.t643.methods⟩
theorem Tryz.ty643_ok : tyOf Tryz.prog 643 = some Tryz.ty643 := by kernel_rfl
noncomputable def Tryz.ty644 : Ty := ⟨Tryz.t644.desc, 1, 8, false, Tryz.t644.zero, [], true, Tryz.t644.methods⟩
theorem Tryz.ty644_ok : tyOf Tryz.prog 644 = some Tryz.ty644 := by kernel_rfl
noncomputable def Tryz.ty645 : Ty := ⟨Tryz.t645.desc, 256, 256, true, Tryz.t645.zero, [], true, Tryz.t645.methods⟩
theorem Tryz.ty645_ok : tyOf Tryz.prog 645 = some Tryz.ty645 := by kernel_rfl
noncomputable def Tryz.ty646 : Ty := ⟨Tryz.t646.desc, 2, 2, true, Tryz.t646.zero, [(0, 1), (1, 1)], true, Tryz.t646.methods⟩
theorem Tryz.ty646_ok : tyOf Tryz.prog 646 = some Tryz.ty646 := by kernel_rfl
noncomputable def Tryz.ty647 : Ty := ⟨Tryz.t646.desc, 2, 2, true, Tryz.t647.zero, [(0, 1), (1, 1)], true, Tryz.t647.methods⟩
theorem Tryz.ty647_ok : tyOf Tryz.prog 647 = some Tryz.ty647 := by kernel_rfl
noncomputable def Tryz.ty648 : Ty := ⟨Tryz.t648.desc, 32, 32, true, Tryz.t648.zero, [], true, Tryz.t648.methods⟩
theorem Tryz.ty648_ok : tyOf Tryz.prog 648 = some Tryz.ty648 := by kernel_rfl
noncomputable def Tryz.ty649 : Ty := ⟨Tryz.t649.desc, 1, 8, false, Tryz.t649.zero, [], true, Tryz.t649.methods⟩
theorem Tryz.ty649_ok : tyOf Tryz.prog 649 = some Tryz.ty649 := by kernel_rfl
noncomputable def Tryz.ty650 : Ty := ⟨Tryz.t650.desc, 1, 8, false, Tryz.t650.zero, [], true, Tryz.t650.methods⟩
theorem Tryz.ty650_ok : tyOf Tryz.prog 650 = some Tryz.ty650 := by kernel_rfl
noncomputable def Tryz.ty651 : Ty := ⟨Tryz.t651.desc, 1, 8, false, Tryz.t651.zero, [], true, Tryz.t651.methods⟩
theorem Tryz.ty651_ok : tyOf Tryz.prog 651 = some Tryz.ty651 := by kernel_rfl
noncomputable def Tryz.ty652 : Ty := ⟨Tryz.t652.desc, 1, 8, false, Tryz.t652.zero, [], true, Tryz.t652.methods⟩
theorem Tryz.ty652_ok : tyOf Tryz.prog 652 = some Tryz.ty652 := by kernel_rfl
noncomputable def Tryz.ty653 : Ty := ⟨Tryz.t653.desc, 1, 24, false, Tryz.t653.zero, [], true, Tryz.t653.methods⟩
theorem Tryz.ty653_ok : tyOf Tryz.prog 653 = some Tryz.ty653 := by kernel_rfl
noncomputable def Tryz.ty654 : Ty := ⟨Tryz.t654.desc, 1, 8, false, Tryz.t654.zero, [], true, Tryz.t654.methods⟩
theorem Tryz.ty654_ok : tyOf Tryz.prog 654 = some Tryz.ty654 := by kernel_rfl
noncomputable def Tryz.ty655 : Ty := ⟨Tryz.t655.desc, 1, 8, false, Tryz.t655.zero, [], true, Tryz.t655.methods⟩
theorem Tryz.ty655_ok : tyOf Tryz.prog 655 = some Tryz.ty655 := by kernel_rfl
noncomputable def Tryz.ty656 : Ty := ⟨Tryz.t656.desc, 1, 8, false, Tryz.t656.zero, [], true, Tryz.t656.methods⟩
theorem Tryz.ty656_ok : tyOf Tryz.prog 656 = some Tryz.ty656 := by kernel_rfl
noncomputable def Tryz.ty657 : Ty := ⟨Tryz.t657.desc, 1, 8, false, Tryz.t657.zero, [], true, Tryz.t657.methods⟩
theorem Tryz.ty657_ok : tyOf Tryz.prog 657 = some Tryz.ty657 := by kernel_rfl
noncomputable def Tryz.ty658 : Ty := ⟨Tryz.t658.desc, 1, 8, false, Tryz.t658.zero, [], true, Tryz.t658.methods⟩
theorem Tryz.ty658_ok : tyOf Tryz.prog 658 = some Tryz.ty658 := by kernel_rfl
noncomputable def Tryz.ty659 : Ty := ⟨Tryz.t659.desc, 1, 8, false, Tryz.t659.zero, [], true, Tryz.t659.methods⟩
theorem Tryz.ty659_ok : tyOf Tryz.prog 659 = some Tryz.ty659 := by kernel_rfl
noncomputable def Tryz.ty660 : Ty := ⟨Tryz.t660.desc, 1, 8, false, Tryz.t660.zero, [], true, Tryz.t660.methods⟩
theorem Tryz.ty660_ok : tyOf Tryz.prog 660 = some Tryz.ty660 := by kernel_rfl
noncomputable def Tryz.ty661 : Ty := ⟨Tryz.t661.desc, 1, 8, false, Tryz.t661.zero, [], true, Tryz.t661.methods⟩
theorem Tryz.ty661_ok : tyOf Tryz.prog 661 = some Tryz.ty661 := by kernel_rfl
noncomputable def Tryz.ty662 : Ty := ⟨Tryz.t662.desc, 1, 8, false, Tryz.t662.zero, [], true, Tryz.t662.methods⟩
theorem Tryz.ty662_ok : tyOf Tryz.prog 662 = some Tryz.ty662 := by kernel_rfl
noncomputable def Tryz.ty663 : Ty := ⟨Tryz.t663.desc, 1, 8, false, Tryz.t663.zero, [], true, Tryz.t663.methods⟩
theorem Tryz.ty663_ok : tyOf Tryz.prog 663 = some Tryz.ty663 := by kernel_rfl
noncomputable def Tryz.ty664 : Ty := ⟨Tryz.t664.desc, 1, 8, false, Tryz.t664.zero, [], true, Tryz.t664.methods⟩
theorem Tryz.ty664_ok : tyOf Tryz.prog 664 = some Tryz.ty664 := by kernel_rfl
noncomputable def Tryz.ty665 : Ty := ⟨Tryz.t665.desc, 1, 8, false, Tryz.t665.zero, [], true, Tryz.t665.methods⟩
theorem Tryz.ty665_ok : tyOf Tryz.prog 665 = some Tryz.ty665 := by kernel_rfl
noncomputable def Tryz.ty666 : Ty := ⟨Tryz.t666.desc, 1, 8, false, Tryz.t666.zero, [], true, Tryz.t666.methods⟩
theorem Tryz.ty666_ok : tyOf Tryz.prog 666 = some Tryz.ty666 := by kernel_rfl
noncomputable def Tryz.ty667 : Ty := ⟨Tryz.t667.desc, 1, 8, false, Tryz.t667.zero, [], true, Tryz.t667.methods⟩
theorem Tryz.ty667_ok : tyOf Tryz.prog 667 = some Tryz.ty667 := by kernel_rfl
noncomputable def Tryz.ty668 : Ty := ⟨Tryz.t668.desc, 4, 40, true, Tryz.t668.zero, [(0, 1), (1, 1), (2, 1), (3, 1)], false, Tryz.t668.methods⟩
theorem Tryz.ty668_ok : tyOf Tryz.prog 668 = some Tryz.ty668 := by kernel_rfl
noncomputable def Tryz.ty669 : Ty := ⟨Tryz.t668.desc, 4, 40, true, Tryz.t669.zero, [(0, 1), (1, 1), (2, 1), (3, 1)], false, Tryz.t669.methods⟩
theorem Tryz.ty669_ok : tyOf Tryz.prog 669 = some Tryz.ty669 := by kernel_rfl
noncomputable def Tryz.ty670 : Ty := ⟨Tryz.t670.desc, 0, 0, true, Tryz.t670.zero, [], true, Tryz.t670.methods⟩
theorem Tryz.ty670_ok : tyOf Tryz.prog 670 = some Tryz.ty670 := by kernel_rfl
noncomputable def Tryz.ty671 : Ty := ⟨Tryz.t671.desc, 0, 0, true, Tryz.t671.zero, [(0, 0)], false, Tryz.t671.methods⟩
theorem Tryz.ty671_ok : tyOf Tryz.prog 671 = some Tryz.ty671 := by kernel_rfl
noncomputable def Tryz.ty672 : Ty := ⟨Tryz.t671.desc, 0, 0, true, Tryz.t672.zero, [(0, 0)], false, Tryz.t672.methods⟩
theorem Tryz.ty672_ok : tyOf Tryz.prog 672 = some Tryz.ty672 := by kernel_rfl
noncomputable def Tryz.ty673 : Ty := ⟨Tryz.t5.desc, 1, 1, false, Tryz.t673.zero, [], true, Tryz.t673.methods⟩
theorem Tryz.ty673_ok : tyOf Tryz.prog 673 = some Tryz.ty673 := by kernel_rfl
noncomputable def Tryz.ty674 : Ty := ⟨Tryz.t5.desc, 1, 1, false, Tryz.t674.zero, [], true, Tryz.t674.methods⟩
theorem Tryz.ty674_ok : tyOf Tryz.prog 674 = some Tryz.ty674 := by kernel_rfl
noncomputable def Tryz.ty675 : Ty := ⟨Tryz.t675.desc, 1, 8, false, Tryz.t675.zero, [], true, Tryz.t675.methods⟩
theorem Tryz.ty675_ok : tyOf Tryz.prog 675 = some Tryz.ty675 := by kernel_rfl
noncomputable def Tryz.ty676 : Ty := ⟨Tryz.t21.desc, 1, 4, false, Tryz.t676.zero, [], true, Tryz.t676.methods⟩
theorem Tryz.ty676_ok : tyOf Tryz.prog 676 = some Tryz.ty676 := by kernel_rfl
noncomputable def Tryz.ty677 : Ty := ⟨Tryz.t21.desc, 1, 4, false, Tryz.t677.zero, [], true, Tryz.t677.methods⟩
theorem Tryz.ty677_ok : tyOf Tryz.prog 677 = some Tryz.ty677 := by kernel_rfl
noncomputable def Tryz.ty678 : Ty := ⟨Tryz.t678.desc, 11, 48, true, Tryz.t678.zero, [(0, 1), (1, 1), (2, 1), (3, 1), (4, 1), (5, 1), (6, 1), (7, 1), (8, 1), (9, 1), (10, 1)], false, Tryz.t678.methods⟩
theorem Tryz.ty678_ok : tyOf Tryz.prog 678 = some Tryz.ty678 := by kernel_rfl
noncomputable def Tryz.ty679 : Ty := ⟨Tryz.t678.desc, 11, 48, true, Tryz.t679.zero, [(0, 1), (1, 1), (2, 1), (3, 1), (4, 1), (5, 1), (6, 1), (7, 1), (8, 1), (9, 1), (10, 1)], false, Tryz.t679.methods⟩
theorem Tryz.ty679_ok : tyOf Tryz.prog 679 = some Tryz.ty679 := by kernel_rfl
noncomputable def Tryz.ty680 : Ty := ⟨Tryz.t680.desc, 1, 0, false, Tryz.t680.zero, [], true, Tryz.t680.methods⟩
theorem Tryz.ty680_ok : tyOf Tryz.prog 680 = some Tryz.ty680 := by kernel_rfl
noncomputable def Tryz.T : Tr Ty := (.nd (.nd (.nd (.nd (.nd (.nd (.nd (.nd (.nd (.nd .lf (some Tryz.ty511) .lf) (some Tryz.ty255) .lf) (some Tryz.ty127) (.nd (.nd .lf (some Tryz.ty639) .lf) (some Tryz.ty383) .lf)) (some Tryz.ty63) (.nd (.nd (.nd .lf (some Tryz.ty575) .lf) (some Tryz.ty319) .lf) (some Tryz.ty191) (.nd .lf (some Tryz.ty447) .lf))) (some Tryz.ty31) (.nd (.nd (.nd (.nd .lf (some Tryz.ty543) .lf) (some Tryz.ty287) .lf) (some Tryz.ty159) (.nd (.nd .lf (some Tryz.ty671) .lf) (some Tryz.ty415) .lf)) (some Tryz.ty95) (.nd (.nd (.nd .lf (some Tryz.ty607) .lf) (some Tryz.ty351) .lf) (some Tryz.ty223) (.nd .lf (some Tryz.ty479) .lf)))) (some Tryz.ty15) (.nd (.nd (.nd (.nd (.nd .lf (some Tryz.ty527) .lf) (some Tryz.ty271) .lf) (some Tryz.ty143) (.nd (.nd .lf (some Tryz.ty655) .lf) (some Tryz.ty399) .lf)) (some Tryz.ty79) (.nd (.nd (.nd .lf (some Tryz.ty591) .lf) (some Tryz.ty335) .lf) (some Tryz.ty207) (.nd .lf (some Tryz.ty463) .lf))) (some Tryz.ty47) (.nd (.nd (.nd (.nd .lf (some Tryz.ty559) .lf) (some Tryz.ty303) .lf) (some Tryz.ty175) (.nd .lf (some Tryz.ty431) .lf)) (some Tryz.ty111) (.nd (.nd (.nd .lf (some Tryz.ty623) .lf) (some Tryz.ty367) .lf) (some Tryz.ty239) (.nd .lf (some Tryz.ty495) .lf))))) (some Tryz.ty7) (.nd (.nd (.nd (.nd (.nd (.nd .lf (some Tryz.ty519) .lf) (some Tryz.ty263) .lf) (some Tryz.ty135) (.nd (.nd .lf (some Tryz.ty647) .lf) (some Tryz.ty391) .lf)) (some Tryz.ty71) (.nd (.nd (.nd .lf (some Tryz.ty583) .lf) (some Tryz.ty327) .lf) (some Tryz.ty199) (.nd .lf (some Tryz.ty455) .lf))) (some Tryz.ty39) (.nd (.nd (.nd (.nd .lf (some Tryz.ty551) .lf) (some Tryz.ty295) .lf) (some Tryz.ty167) (.nd (.nd .lf (some Tryz.ty679) .lf) (some Tryz.ty423) .lf)) (some Tryz.ty103) (.nd (.nd (.nd .lf (some Tryz.ty615) .lf) (some Tryz.ty359) .lf) (some Tryz.ty231) (.nd .lf (some Tryz.ty487) .lf)))) (some Tryz.ty23) (.nd (.nd (.nd (.nd (.nd .lf (some Tryz.ty535) .lf) (some Tryz.ty279) .lf) (some Tryz.ty151) (.nd (.nd .lf (some Tryz.ty663) .lf) (some Tryz.ty407) .lf)) (some Tryz.ty87) (.nd (.nd (.nd .lf (some Tryz.ty599) .lf) (some Tryz.ty343) .lf) (some Tryz.ty215) (.nd .lf (some Tryz.ty471) .lf))) (some Tryz.ty55) (.nd (.nd (.nd (.nd .lf (some Tryz.ty567) .lf) (some Tryz.ty311) .lf) (some Tryz.ty183) (.nd .lf (some Tryz.ty439) .lf)) (some Tryz.ty119) (.nd (.nd (.nd .lf (some Tryz.ty631) .lf) (some Tryz.ty375) .lf) (some Tryz.ty247) (.nd .lf (some Tryz.ty503) .lf)))))) (some Tryz.ty3) (.nd (.nd (.nd (.nd (.nd (.nd (.nd .lf (some Tryz.ty515) .lf) (some Tryz.ty259) .lf) (some Tryz.ty131) (.nd (.nd .lf (some Tryz.ty643) .lf) (some Tryz.ty387) .lf)) (some Tryz.ty67) (.nd (.nd (.nd .lf (some Tryz.ty579) .lf) (some Tryz.ty323) .lf) (some Tryz.ty195) (.nd .lf (some Tryz.ty451) .lf))) (some Tryz.ty35) (.nd (.nd (.nd (.nd .lf (some Tryz.ty547) .lf) (some Tryz.ty291) .lf) (some Tryz.ty163) (.nd (.nd .lf (some Tryz.ty675) .lf) (some Tryz.ty419) .lf)) (some Tryz.ty99) (.nd (.nd (.nd .lf (some Tryz.ty611) .lf) (some Tryz.ty355) .lf) (some Tryz.ty227) (.nd .lf (some Tryz.ty483) .lf)))) (some Tryz.ty19) (.nd (.nd (.nd (.nd (.nd .lf (some Tryz.ty531) .lf) (some Tryz.ty275) .lf) (some Tryz.ty147) (.nd (.nd .lf (some Tryz.ty659) .lf) (some Tryz.ty403) .lf)) (some Tryz.ty83) (.nd (.nd (.nd .lf (some Tryz.ty595) .lf) (some Tryz.ty339) .lf) (some Tryz.ty211) (.nd .lf (some Tryz.ty467) .lf))) (some Tryz.ty51) (.nd (.nd (.nd (.nd .lf (some Tryz.ty563) .lf) (some Tryz.ty307) .lf) (some Tryz.ty179) (.nd .lf (some Tryz.ty435) .lf)) (some Tryz.ty115) (.nd (.nd (.nd .lf (some Tryz.ty627) .lf) (some Tryz.ty371) .lf) (some Tryz.ty243) (.nd .lf (some Tryz.ty499) .lf))))) (some Tryz.ty11) (.nd (.nd (.nd (.nd (.nd (.nd .lf (some Tryz.ty523) .lf) (some Tryz.ty267) .lf) (some Tryz.ty139) (.nd (.nd .lf (some Tryz.ty651) .lf) (some Tryz.ty395) .lf)) (some Tryz.ty75) (.nd (.nd (.nd .lf (some Tryz.ty587) .lf) (some Tryz.ty331) .lf) (some Tryz.ty203) (.nd .lf (some Tryz.ty459) .lf))) (some Tryz.ty43) (.nd (.nd (.nd (.nd .lf (some Tryz.ty555) .lf) (some Tryz.ty299) .lf) (some Tryz.ty171) (.nd .lf (some Tryz.ty427) .lf)) (some Tryz.ty107) (.nd (.nd (.nd .lf (some Tryz.ty619) .lf) (some Tryz.ty363) .lf) (some Tryz.ty235) (.nd .lf (some Tryz.ty491) .lf)))) (some Tryz.ty27) (.nd (.nd (.nd (.nd (.nd .lf (some Tryz.ty539) .lf) (some Tryz.ty283) .lf) (some Tryz.ty155) (.nd (.nd .lf (some Tryz.ty667) .lf) (some Tryz.ty411) .lf)) (some Tryz.ty91) (.nd (.nd (.nd .lf (some Tryz.ty603) .lf) (some Tryz.ty347) .lf) (some Tryz.ty219) (.nd .lf (some Tryz.ty475) .lf))) (some Tryz.ty59) (.nd (.nd (.nd (.nd .lf (some Tryz.ty571) .lf) (some Tryz.ty315) .lf) (some Tryz.ty187) (.nd .lf (some Tryz.ty443) .lf)) (some Tryz.ty123) (.nd (.nd (.nd .lf (some Tryz.ty635) .lf) (some Tryz.ty379) .lf) (some Tryz.ty251) (.nd .lf (some Tryz.ty507) .lf))))))) (some Tryz.ty1) (.nd (.nd (.nd (.nd (.nd (.nd (.nd (.nd .lf (some Tryz.ty513) .lf) (some Tryz.ty257) .lf) (some Tryz.ty129) (.nd (.nd .lf (some Tryz.ty641) .lf) (some Tryz.ty385) .lf)) (some Tryz.ty65) (.nd (.nd (.nd .lf (some Tryz.ty577) .lf) (some Tryz.ty321) .lf) (some Tryz.ty193) (.nd .lf (some Tryz.ty449) .lf))) (some Tryz.ty33) (.nd (.nd (.nd (.nd .lf (some Tryz.ty545) .lf) (some Tryz.ty289) .lf) (some Tryz.ty161) (.nd (.nd .lf (some Tryz.ty673) .lf) (some Tryz.ty417) .lf)) (some Tryz.ty97) (.nd (.nd (.nd .lf (some Tryz.ty609) .lf) (some Tryz.ty353) .lf) (some Tryz.ty225) (.nd .lf (some Tryz.ty481) .lf)))) (some Tryz.ty17) (.nd (.nd (.nd (.nd (.nd .lf (some Tryz.ty529) .lf) (some Tryz.ty273) .lf) (some Tryz.ty145) (.nd (.nd .lf (some Tryz.ty657) .lf) (some Tryz.ty401) .lf)) (some Tryz.ty81) (.nd (.nd (.nd .lf (some Tryz.ty593) .lf) (some Tryz.ty337) .lf) (some Tryz.ty209) (.nd .lf (some Tryz.ty465) .lf))) (some Tryz.ty49) (.nd (.nd (.nd (.nd .lf (some Tryz.ty561) .lf) (some Tryz.ty305) .lf) (some Tryz.ty177) (.nd .lf (some Tryz.ty433) .lf)) (some Tryz.ty113) (.nd (.nd (.nd .lf (some Tryz.ty625) .lf) (some Tryz.ty369) .lf) (some Tryz.ty241) (.nd .lf (some Tryz.ty497) .lf))))) (some Tryz.ty9) (.nd (.nd (.nd (.nd (.nd (.nd .lf (some Tryz.ty521) .lf) (some Tryz.ty265) .lf) (some Tryz.ty137) (.nd (.nd .lf (some Tryz.ty649) .lf) (some Tryz.ty393) .lf)) (some Tryz.ty73) (.nd (.nd (.nd .lf (some Tryz.ty585) .lf) (some Tryz.ty329) .lf) (some Tryz.ty201) (.nd .lf (some Tryz.ty457) .lf))) (some Tryz.ty41) (.nd (.nd (.nd (.nd .lf (some Tryz.ty553) .lf) (some Tryz.ty297) .lf) (some Tryz.ty169) (.nd .lf (some Tryz.ty425) .lf)) (some Tryz.ty105) (.nd (.nd (.nd .lf (some Tryz.ty617) .lf) (some Tryz.ty361) .lf) (some Tryz.ty233) (.nd .lf (some Tryz.ty489) .lf)))) (some Tryz.ty25) (.nd (.nd (.nd (.nd (.nd .lf (some Tryz.ty537) .lf) (some Tryz.ty281) .lf) (some Tryz.ty153) (.nd (.nd .lf (some Tryz.ty665) .lf) (some Tryz.ty409) .lf)) (some Tryz.ty89) (.nd (.nd (.nd .lf (some Tryz.ty601) .lf) (some Tryz.ty345) .lf) (some Tryz.ty217) (.nd .lf (some Tryz.ty473) .lf))) (some Tryz.ty57) (.nd (.nd (.nd (.nd .lf (some Tryz.ty569) .lf) (some Tryz.ty313) .lf) (some Tryz.ty185) (.nd .lf (some Tryz.ty441) .lf)) (some Tryz.ty121) (.nd (.nd (.nd .lf (some Tryz.ty633) .lf) (some Tryz.ty377) .lf) (some Tryz.ty249) (.nd .lf (some Tryz.ty505) .lf)))))) (some Tryz.ty5) (.nd (.nd (.nd (.nd (.nd (.nd (.nd .lf (some Tryz.ty517) .lf) (some Tryz.ty261) .lf) (some Tryz.ty133) (.nd (.nd .lf (some Tryz.ty645) .lf) (some Tryz.ty389) .lf)) (some Tryz.ty69) (.nd (.nd (.nd .lf (some Tryz.ty581) .lf) (some Tryz.ty325) .lf) (some Tryz.ty197) (.nd .lf (some Tryz.ty453) .lf))) (some Tryz.ty37) (.nd (.nd (.nd (.nd .lf (some Tryz.ty549) .lf) (some Tryz.ty293) .lf) (some Tryz.ty165) (.nd (.nd .lf (some Tryz.ty677) .lf) (some Tryz.ty421) .lf)) (some Tryz.ty101) (.nd (.nd (.nd .lf (some Tryz.ty613) .lf) (some Tryz.ty357) .lf) (some Tryz.ty229) (.nd .lf (some Tryz.ty485) .lf)))) (some Tryz.ty21) (.nd (.nd (.nd (.nd (.nd .lf (some Tryz.ty533) .lf) (some Tryz.ty277) .lf) (some Tryz.ty149) (.nd (.nd .lf (some Tryz.ty661) .lf) (some Tryz.ty405) .lf)) (some Tryz.ty85) (.nd (.nd (.nd .lf (some Tryz.ty597) .lf) (some Tryz.ty341) .lf) (some Tryz.ty213) (.nd .lf (some Tryz.ty469) .lf))) (some Tryz.ty53) (.nd (.nd (.nd (.nd .lf (some Tryz.ty565) .lf) (some Tryz.ty309) .lf) (some Tryz.ty181) (.nd .lf (some Tryz.ty437) .lf)) (some Tryz.ty117) (.nd (.nd (.nd .lf (some Tryz.ty629) .lf) (some Tryz.ty373) .lf) (some Tryz.ty245) (.nd .lf (some Tryz.ty501) .lf))))) (some Tryz.ty13) (.nd (.nd (.nd (.nd (.nd (.nd .lf (some Tryz.ty525) .lf) (some Tryz.ty269) .lf) (some Tryz.ty141) (.nd (.nd .lf (some Tryz.ty653) .lf) (some Tryz.ty397) .lf)) (some Tryz.ty77) (.nd (.nd (.nd .lf (some Tryz.ty589) .lf) (some Tryz.ty333) .lf) (some Tryz.ty205) (.nd .lf (some Tryz.ty461) .lf))) (some Tryz.ty45) (.nd (.nd (.nd (.nd .lf (some Tryz.ty557) .lf) (some Tryz.ty301) .lf) (some Tryz.ty173) (.nd .lf (some Tryz.ty429) .lf)) (some Tryz.ty109) (.nd (.nd (.nd .lf (some Tryz.ty621) .lf) (some Tryz.ty365) .lf) (some Tryz.ty237) (.nd .lf (some Tryz.ty493) .lf)))) (some Tryz.ty29) (.nd (.nd (.nd (.nd (.nd .lf (some Tryz.ty541) .lf) (some Tryz.ty285) .lf) (some Tryz.ty157) (.nd (.nd .lf (some Tryz.ty669) .lf) (some Tryz.ty413) .lf)) (some Tryz.ty93) (.nd (.nd (.nd .lf (some Tryz.ty605) .lf) (some Tryz.ty349) .lf) (some Tryz.ty221) (.nd .lf (some Tryz.ty477) .lf))) (some Tryz.ty61) (.nd (.nd (.nd (.nd .lf (some Tryz.ty573) .lf) (some Tryz.ty317) .lf) (some Tryz.ty189) (.nd .lf (some Tryz.ty445) .lf)) (some Tryz.ty125) (.nd (.nd (.nd .lf (some Tryz.ty637) .lf) (some Tryz.ty381) .lf) (some Tryz.ty253) (.nd .lf (some Tryz.ty509) .lf)))))))) (some Tryz.ty0) (.nd (.nd (.nd (.nd (.nd (.nd (.nd (.nd (.nd .lf (some Tryz.ty512) .lf) (some Tryz.ty256) .lf) (some Tryz.ty128) (.nd (.nd .lf (some Tryz.ty640) .lf) (some Tryz.ty384) .lf)) (some Tryz.ty64) (.nd (.nd (.nd .lf (some Tryz.ty576) .lf) (some Tryz.ty320) .lf) (some Tryz.ty192) (.nd .lf (some Tryz.ty448) .lf))) (some Tryz.ty32) (.nd (.nd (.nd (.nd .lf (some Tryz.ty544) .lf) (some Tryz.ty288) .lf) (some Tryz.ty160) (.nd (.nd .lf (some Tryz.ty672) .lf) (some Tryz.ty416) .lf)) (some Tryz.ty96) (.nd (.nd (.nd .lf (some Tryz.ty608) .lf) (some Tryz.ty352) .lf) (some Tryz.ty224) (.nd .lf (some Tryz.ty480) .lf)))) (some Tryz.ty16) (.nd (.nd (.nd (.nd (.nd .lf (some Tryz.ty528) .lf) (some Tryz.ty272) .lf) (some Tryz.ty144) (.nd (.nd .lf (some Tryz.ty656) .lf) (some Tryz.ty400) .lf)) (some Tryz.ty80) (.nd (.nd (.nd .lf (some Tryz.ty592) .lf) (some Tryz.ty336) .lf) (some Tryz.ty208) (.nd .lf (some Tryz.ty464) .lf))) (some Tryz.ty48) (.nd (.nd (.nd (.nd .lf (some Tryz.ty560) .lf) (some Tryz.ty304) .lf) (some Tryz.ty176) (.nd .lf (some Tryz.ty432) .lf)) (some Tryz.ty112) (.nd (.nd (.nd .lf (some Tryz.ty624) .lf) (some Tryz.ty368) .lf) (some Tryz.ty240) (.nd .lf (some Tryz.ty496) .lf))))) (some Tryz.ty8) (.nd (.nd (.nd (.nd (.nd (.nd .lf (some Tryz.ty520) .lf) (some Tryz.ty264) .lf) (some Tryz.ty136) (.nd (.nd .lf (some Tryz.ty648) .lf) (some Tryz.ty392) .lf)) (some Tryz.ty72) (.nd (.nd (.nd .lf (some Tryz.ty584) .lf) (some Tryz.ty328) .lf) (some Tryz.ty200) (.nd .lf (some Tryz.ty456) .lf))) (some Tryz.ty40) (.nd (.nd (.nd (.nd .lf (some Tryz.ty552) .lf) (some Tryz.ty296) .lf) (some Tryz.ty168) (.nd (.nd .lf (some Tryz.ty680) .lf) (some Tryz.ty424) .lf)) (some Tryz.ty104) (.nd (.nd (.nd .lf (some Tryz.ty616) .lf) (some Tryz.ty360) .lf) (some Tryz.ty232) (.nd .lf (some Tryz.ty488) .lf)))) (some Tryz.ty24) (.nd (.nd (.nd (.nd (.nd .lf (some Tryz.ty536) .lf) (some Tryz.ty280) .lf) (some Tryz.ty152) (.nd (.nd .lf (some Tryz.ty664) .lf) (some Tryz.ty408) .lf)) (some Tryz.ty88) (.nd (.nd (.nd .lf (some Tryz.ty600) .lf) (some Tryz.ty344) .lf) (some Tryz.ty216) (.nd .lf (some Tryz.ty472) .lf))) (some Tryz.ty56) (.nd (.nd (.nd (.nd .lf (some Tryz.ty568) .lf) (some Tryz.ty312) .lf) (some Tryz.ty184) (.nd .lf (some Tryz.ty440) .lf)) (some Tryz.ty120) (.nd (.nd (.nd .lf (some Tryz.ty632) .lf) (some Tryz.ty376) .lf) (some Tryz.ty248) (.nd .lf (some Tryz.ty504) .lf)))))) (some Tryz.ty4) (.nd (.nd (.nd (.nd (.nd (.nd (.nd .lf (some Tryz.ty516) .lf) (some Tryz.ty260) .lf) (some Tryz.ty132) (.nd (.nd .lf (some Tryz.ty644) .lf) (some Tryz.ty388) .lf)) (some Tryz.ty68) (.nd (.nd (.nd .lf (some Tryz.ty580) .lf) (some Tryz.ty324) .lf) (some Tryz.ty196) (.nd .lf (some Tryz.ty452) .lf))) (some Tryz.ty36) (.nd (.nd (.nd (.nd .lf (some Tryz.ty548) .lf) (some Tryz.ty292) .lf) (some Tryz.ty164) (.nd (.nd .lf (some Tryz.ty676) .lf) (some Tryz.ty420) .lf)) (some Tryz.ty100) (.nd (.nd (.nd .lf (some Tryz.ty612) .lf) (some Tryz.ty356) .lf) (some Tryz.ty228) (.nd .lf (some Tryz.ty484) .lf)))) (some Tryz.ty20) (.nd (.nd (.nd (.nd (.nd .lf (some Tryz.ty532) .lf) (some Tryz.ty276) .lf) (some Tryz.ty148) (.nd (.nd .lf (some Tryz.ty660) .lf) (some Tryz.ty404) .lf)) (some Tryz.ty84) (.nd (.nd (.nd .lf (some Tryz.ty596) .lf) (some Tryz.ty340) .lf) (some Tryz.ty212) (.nd .lf (some Tryz.ty468) .lf))) (some Tryz.ty52) (.nd (.nd (.nd (.nd .lf (some Tryz.ty564) .lf) (some Tryz.ty308) .lf) (some Tryz.ty180) (.nd .lf (some Tryz.ty436) .lf)) (some Tryz.ty116) (.nd (.nd (.nd .lf (some Tryz.ty628) .lf) (some Tryz.ty372) .lf) (some Tryz.ty244) (.nd .lf (some Tryz.ty500) .lf))))) (some Tryz.ty12) (.nd (.nd (.nd (.nd (.nd (.nd .lf (some Tryz.ty524) .lf) (some Tryz.ty268) .lf) (some Tryz.ty140) (.nd (.nd .lf (some Tryz.ty652) .lf) (some Tryz.ty396) .lf)) (some Tryz.ty76) (.nd (.nd (.nd .lf (some Tryz.ty588) .lf) (some Tryz.ty332) .lf) (some Tryz.ty204) (.nd .lf (some Tryz.ty460) .lf))) (some Tryz.ty44) (.nd (.nd (.nd (.nd .lf (some Tryz.ty556) .lf) (some Tryz.ty300) .lf) (some Tryz.ty172) (.nd .lf (some Tryz.ty428) .lf)) (some Tryz.ty108) (.nd (.nd (.nd .lf (some Tryz.ty620) .lf) (some Tryz.ty364) .lf) (some Tryz.ty236) (.nd .lf (some Tryz.ty492) .lf)))) (some Tryz.ty28) (.nd (.nd (.nd (.nd (.nd .lf (some Tryz.ty540) .lf) (some Tryz.ty284) .lf) (some Tryz.ty156) (.nd (.nd .lf (some Tryz.ty668) .lf) (some Tryz.ty412) .lf)) (some Tryz.ty92) (.nd (.nd (.nd .lf (some Tryz.ty604) .lf) (some Tryz.ty348) .lf) (some Tryz.ty220) (.nd .lf (some Tryz.ty476) .lf))) (some Tryz.ty60) (.nd (.nd (.nd (.nd .lf (some Tryz.ty572) .lf) (some Tryz.ty316) .lf) (some Tryz.ty188) (.nd .lf (some Tryz.ty444) .lf)) (some Tryz.ty124) (.nd (.nd (.nd .lf (some Tryz.ty636) .lf) (some Tryz.ty380) .lf) (some Tryz.ty252) (.nd .lf (some Tryz.ty508) .lf))))))) (some Tryz.ty2) (.nd (.nd (.nd (.nd (.nd (.nd (.nd (.nd .lf (some Tryz.ty514) .lf) (some Tryz.ty258) .lf) (some Tryz.ty130) (.nd (.nd .lf (some Tryz.ty642) .lf) (some Tryz.ty386) .lf)) (some Tryz.ty66) (.nd (.nd (.nd .lf (some Tryz.ty578) .lf) (some Tryz.ty322) .lf) (some Tryz.ty194) (.nd .lf (some Tryz.ty450) .lf))) (some Tryz.ty34) (.nd (.nd (.nd (.nd .lf (some Tryz.ty546) .lf) (some Tryz.ty290) .lf) (some Tryz.ty162) (.nd (.nd .lf (some Tryz.ty674) .lf) (some Tryz.ty418) .lf)) (some Tryz.ty98) (.nd (.nd (.nd .lf (some Tryz.ty610) .lf) (some Tryz.ty354) .lf) (some Tryz.ty226) (.nd .lf (some Tryz.ty482) .lf)))) (some Tryz.ty18) (.nd (.nd (.nd (.nd (.nd .lf (some Tryz.ty530) .lf) (some Tryz.ty274) .lf) (some Tryz.ty146) (.nd (.nd .lf (some Tryz.ty658) .lf) (some Tryz.ty402) .lf)) (some Tryz.ty82) (.nd (.nd (.nd .lf (some Tryz.ty594) .lf) (some Tryz.ty338) .lf) (some Tryz.ty210) (.nd .lf (some Tryz.ty466) .lf))) (some Tryz.ty50) (.nd (.nd (.nd (.nd .lf (some Tryz.ty562) .lf) (some Tryz.ty306) .lf) (some Tryz.ty178) (.nd .lf (some Tryz.ty434) .lf)) (some Tryz.ty114) (.nd (.nd (.nd .lf (some Tryz.ty626) .lf) (some Tryz.ty370) .lf) (some Tryz.ty242) (.nd .lf (some Tryz.ty498) .lf))))) (some Tryz.ty10) (.nd (.nd (.nd (.nd (.nd (.nd .lf (some Tryz.ty522) .lf) (some Tryz.ty266) .lf) (some Tryz.ty138) (.nd (.nd .lf (some Tryz.ty650) .lf) (some Tryz.ty394) .lf)) (some Tryz.ty74) (.nd (.nd (.nd .lf (some Tryz.ty586) .lf) (some Tryz.ty330) .lf) (some Tryz.ty202) (.nd .lf (some Tryz.ty458) .lf))) (some Tryz.ty42) (.nd (.nd (.nd (.nd .lf (some Tryz.ty554) .lf) (some Tryz.ty298) .lf) (some Tryz.ty170) (.nd .lf (some Tryz.ty426) .lf)) (some Tryz.ty106) (.nd (.nd (.nd .lf (some Tryz.ty618) .lf) (some Tryz.ty362) .lf) (some Tryz.ty234) (.nd .lf (some Tryz.ty490) .lf)))) (some Tryz.ty26) (.nd (.nd (.nd (.nd (.nd .lf (some Tryz.ty538) .lf) (some Tryz.ty282) .lf) (some Tryz.ty154) (.nd (.nd .lf (some Tryz.ty666) .lf) (some Tryz.ty410) .lf)) (some Tryz.ty90) (.nd (.nd (.nd .lf (some Tryz.ty602) .lf) (some Tryz.ty346) .lf) (some Tryz.ty218) (.nd .lf (some Tryz.ty474) .lf))) (some Tryz.ty58) (.nd (.nd (.nd (.nd .lf (some Tryz.ty570) .lf) (some Tryz.ty314) .lf) (some Tryz.ty186) (.nd .lf (some Tryz.ty442) .lf)) (some Tryz.ty122) (.nd (.nd (.nd .lf (some Tryz.ty634) .lf) (some Tryz.ty378) .lf) (some Tryz.ty250) (.nd .lf (some Tryz.ty506) .lf)))))) (some Tryz.ty6) (.nd (.nd (.nd (.nd (.nd (.nd (.nd .lf (some Tryz.ty518) .lf) (some Tryz.ty262) .lf) (some Tryz.ty134) (.nd (.nd .lf (some Tryz.ty646) .lf) (some Tryz.ty390) .lf)) (some Tryz.ty70) (.nd (.nd (.nd .lf (some Tryz.ty582) .lf) (some Tryz.ty326) .lf) (some Tryz.ty198) (.nd .lf (some Tryz.ty454) .lf))) (some Tryz.ty38) (.nd (.nd (.nd (.nd .lf (some Tryz.ty550) .lf) (some Tryz.ty294) .lf) (some Tryz.ty166) (.nd (.nd .lf (some Tryz.ty678) .lf) (some Tryz.ty422) .lf)) (some Tryz.ty102) (.nd (.nd (.nd .lf (some Tryz.ty614) .lf) (some Tryz.ty358) .lf) (some Tryz.ty230) (.nd .lf (some Tryz.ty486) .lf)))) (some Tryz.ty22) (.nd (.nd (.nd (.nd (.nd .lf (some Tryz.ty534) .lf) (some Tryz.ty278) .lf) (some Tryz.ty150) (.nd (.nd .lf (some Tryz.ty662) .lf) (some Tryz.ty406) .lf)) (some Tryz.ty86) (.nd (.nd (.nd .lf (some Tryz.ty598) .lf) (some Tryz.ty342) .lf) (some Tryz.ty214) (.nd .lf (some Tryz.ty470) .lf))) (some Tryz.ty54) (.nd (.nd (.nd (.nd .lf (some Tryz.ty566) .lf) (some Tryz.ty310) .lf) (some Tryz.ty182) (.nd .lf (some Tryz.ty438) .lf)) (some Tryz.ty118) (.nd (.nd (.nd .lf (some Tryz.ty630) .lf) (some Tryz.ty374) .lf) (some Tryz.ty246) (.nd .lf (some Tryz.ty502) .lf))))) (some Tryz.ty14) (.nd (.nd (.nd (.nd (.nd (.nd .lf (some Tryz.ty526) .lf) (some Tryz.ty270) .lf) (some Tryz.ty142) (.nd (.nd .lf (some Tryz.ty654) .lf) (some Tryz.ty398) .lf)) (some Tryz.ty78) (.nd (.nd (.nd .lf (some Tryz.ty590) .lf) (some Tryz.ty334) .lf) (some Tryz.ty206) (.nd .lf (some Tryz.ty462) .lf))) (some Tryz.ty46) (.nd (.nd (.nd (.nd .lf (some Tryz.ty558) .lf) (some Tryz.ty302) .lf) (some Tryz.ty174) (.nd .lf (some Tryz.ty430) .lf)) (some Tryz.ty110) (.nd (.nd (.nd .lf (some Tryz.ty622) .lf) (some Tryz.ty366) .lf) (some Tryz.ty238) (.nd .lf (some Tryz.ty494) .lf)))) (some Tryz.ty30) (.nd (.nd (.nd (.nd (.nd .lf (some Tryz.ty542) .lf) (some Tryz.ty286) .lf) (some Tryz.ty158) (.nd (.nd .lf (some Tryz.ty670) .lf) (some Tryz.ty414) .lf)) (some Tryz.ty94) (.nd (.nd (.nd .lf (some Tryz.ty606) .lf) (some Tryz.ty350) .lf) (some Tryz.ty222) (.nd .lf (some Tryz.ty478) .lf))) (some Tryz.ty62) (.nd (.nd (.nd (.nd .lf (some Tryz.ty574) .lf) (some Tryz.ty318) .lf) (some Tryz.ty190) (.nd .lf (some Tryz.ty446) .lf)) (some Tryz.ty126) (.nd (.nd (.nd .lf (some Tryz.ty638) .lf) (some Tryz.ty382) .lf) (some Tryz.ty254) (.nd .lf (some Tryz.ty510) .lf)))))))))
noncomputable def Tryz.F : Tr Func := (.nd (.nd (.nd (.nd (.nd (.nd (.nd (.nd (.nd (.nd .lf (some Tryz.f511) .lf) (some Tryz.f255) .lf) (some Tryz.f127) (.nd .lf (some Tryz.f383) .lf)) (some Tryz.f63) (.nd (.nd (.nd .lf (some Tryz.f575) .lf) (some Tryz.f319) .lf) (some Tryz.f191) (.nd .lf (some Tryz.f447) .lf))) (some Tryz.f31) (.nd (.nd (.nd (.nd .lf (some Tryz.f543) .lf) (some Tryz.f287) .lf) (some Tryz.f159) (.nd .lf (some Tryz.f415) .lf)) (some Tryz.f95) (.nd (.nd .lf (some Tryz.f351) .lf) (some Tryz.f223) (.nd .lf (some Tryz.f479) .lf)))) (some Tryz.f15) (.nd (.nd (.nd (.nd (.nd .lf (some Tryz.f527) .lf) (some Tryz.f271) .lf) (some Tryz.f143) (.nd .lf (some Tryz.f399) .lf)) (some Tryz.f79) (.nd (.nd (.nd .lf (some Tryz.f591) .lf) (some Tryz.f335) .lf) (some Tryz.f207) (.nd .lf (some Tryz.f463) .lf))) (some Tryz.f47) (.nd (.nd (.nd (.nd .lf (some Tryz.f559) .lf) (some Tryz.f303) .lf) (some Tryz.f175) (.nd .lf (some Tryz.f431) .lf)) (some Tryz.f111) (.nd (.nd (.nd .lf (some Tryz.f623) .lf) (some Tryz.f367) .lf) (some Tryz.f239) (.nd .lf (some Tryz.f495) .lf))))) (some Tryz.f7) (.nd (.nd (.nd (.nd (.nd (.nd .lf (some Tryz.f519) .lf) (some Tryz.f263) .lf) (some Tryz.f135) (.nd .lf (some Tryz.f391) .lf)) (some Tryz.f71) (.nd (.nd (.nd .lf (some Tryz.f583) .lf) (some Tryz.f327) .lf) (some Tryz.f199) (.nd .lf (some Tryz.f455) .lf))) (some Tryz.f39) (.nd (.nd (.nd (.nd .lf (some Tryz.f551) .lf) (some Tryz.f295) .lf) (some Tryz.f167) (.nd .lf (some Tryz.f423) .lf)) (some Tryz.f103) (.nd (.nd (.nd .lf (some Tryz.f615) .lf) (some Tryz.f359) .lf) (some Tryz.f231) (.nd .lf (some Tryz.f487) .lf)))) (some Tryz.f23) (.nd (.nd (.nd (.nd (.nd .lf (some Tryz.f535) .lf) (some Tryz.f279) .lf) (some Tryz.f151) (.nd .lf (some Tryz.f407) .lf)) (some Tryz.f87) (.nd (.nd .lf (some Tryz.f343) .lf) (some Tryz.f215) (.nd .lf (some Tryz.f471) .lf))) (some Tryz.f55) (.nd (.nd (.nd (.nd .lf (some Tryz.f567) .lf) (some Tryz.f311) .lf) (some Tryz.f183) (.nd .lf (some Tryz.f439) .lf)) (some Tryz.f119) (.nd (.nd .lf (some Tryz.f375) .lf) (some Tryz.f247) (.nd .lf (some Tryz.f503) .lf)))))) (some Tryz.f3) (.nd (.nd (.nd (.nd (.nd (.nd .lf (some Tryz.f259) .lf) (some Tryz.f131) (.nd .lf (some Tryz.f387) .lf)) (some Tryz.f67) (.nd (.nd (.nd .lf (some Tryz.f579) .lf) (some Tryz.f323) .lf) (some Tryz.f195) (.nd .lf (some Tryz.f451) .lf))) (some Tryz.f35) (.nd (.nd (.nd (.nd .lf (some Tryz.f547) .lf) (some Tryz.f291) .lf) (some Tryz.f163) (.nd .lf (some Tryz.f419) .lf)) (some Tryz.f99) (.nd (.nd .lf (some Tryz.f355) .lf) (some Tryz.f227) (.nd .lf (some Tryz.f483) .lf)))) (some Tryz.f19) (.nd (.nd (.nd (.nd (.nd .lf (some Tryz.f531) .lf) (some Tryz.f275) .lf) (some Tryz.f147) (.nd .lf (some Tryz.f403) .lf)) (some Tryz.f83) (.nd (.nd .lf (some Tryz.f339) .lf) (some Tryz.f211) (.nd .lf (some Tryz.f467) .lf))) (some Tryz.f51) (.nd (.nd (.nd (.nd .lf (some Tryz.f563) .lf) (some Tryz.f307) .lf) (some Tryz.f179) (.nd .lf (some Tryz.f435) .lf)) (some Tryz.f115) (.nd (.nd .lf (some Tryz.f371) .lf) (some Tryz.f243) (.nd .lf (some Tryz.f499) .lf))))) (some Tryz.f11) (.nd (.nd (.nd (.nd (.nd (.nd .lf (some Tryz.f523) .lf) (some Tryz.f267) .lf) (some Tryz.f139) (.nd .lf (some Tryz.f395) .lf)) (some Tryz.f75) (.nd (.nd (.nd .lf (some Tryz.f587) .lf) (some Tryz.f331) .lf) (some Tryz.f203) (.nd .lf (some Tryz.f459) .lf))) (some Tryz.f43) (.nd (.nd (.nd (.nd .lf (some Tryz.f555) .lf) (some Tryz.f299) .lf) (some Tryz.f171) (.nd .lf (some Tryz.f427) .lf)) (some Tryz.f107) (.nd (.nd .lf (some Tryz.f363) .lf) (some Tryz.f235) (.nd .lf (some Tryz.f491) .lf)))) (some Tryz.f27) (.nd (.nd (.nd (.nd (.nd .lf (some Tryz.f539) .lf) (some Tryz.f283) .lf) (some Tryz.f155) (.nd .lf (some Tryz.f411) .lf)) (some Tryz.f91) (.nd (.nd .lf (some Tryz.f347) .lf) (some Tryz.f219) (.nd .lf (some Tryz.f475) .lf))) (some Tryz.f59) (.nd (.nd (.nd (.nd .lf (some Tryz.f571) .lf) (some Tryz.f315) .lf) (some Tryz.f187) (.nd .lf (some Tryz.f443) .lf)) (some Tryz.f123) (.nd (.nd .lf (some Tryz.f379) .lf) (some Tryz.f251) (.nd .lf (some Tryz.f507) .lf))))))) none (.nd (.nd (.nd (.nd (.nd (.nd (.nd (.nd .lf (some Tryz.f513) .lf) (some Tryz.f257) .lf) (some Tryz.f129) (.nd .lf (some Tryz.f385) .lf)) (some Tryz.f65) (.nd (.nd (.nd .lf (some Tryz.f577) .lf) (some Tryz.f321) .lf) (some Tryz.f193) (.nd .lf (some Tryz.f449) .lf))) (some Tryz.f33) (.nd (.nd (.nd (.nd .lf (some Tryz.f545) .lf) (some Tryz.f289) .lf) (some Tryz.f161) (.nd .lf (some Tryz.f417) .lf)) (some Tryz.f97) (.nd (.nd .lf (some Tryz.f353) .lf) (some Tryz.f225) (.nd .lf (some Tryz.f481) .lf)))) (some Tryz.f17) (.nd (.nd (.nd (.nd (.nd .lf (some Tryz.f529) .lf) (some Tryz.f273) .lf) (some Tryz.f145) (.nd .lf (some Tryz.f401) .lf)) (some Tryz.f81) (.nd (.nd .lf (some Tryz.f337) .lf) (some Tryz.f209) (.nd .lf (some Tryz.f465) .lf))) (some Tryz.f49) (.nd (.nd (.nd (.nd .lf (some Tryz.f561) .lf) (some Tryz.f305) .lf) (some Tryz.f177) (.nd .lf (some Tryz.f433) .lf)) (some Tryz.f113) (.nd (.nd .lf (some Tryz.f369) .lf) (some Tryz.f241) (.nd .lf (some Tryz.f497) .lf))))) (some Tryz.f9) (.nd (.nd (.nd (.nd (.nd (.nd .lf (some Tryz.f521) .lf) (some Tryz.f265) .lf) (some Tryz.f137) (.nd .lf (some Tryz.f393) .lf)) (some Tryz.f73) (.nd (.nd (.nd .lf (some Tryz.f585) .lf) (some Tryz.f329) .lf) (some Tryz.f201) (.nd .lf (some Tryz.f457) .lf))) (some Tryz.f41) (.nd (.nd (.nd (.nd .lf (some Tryz.f553) .lf) (some Tryz.f297) .lf) (some Tryz.f169) (.nd .lf (some Tryz.f425) .lf)) (some Tryz.f105) (.nd (.nd (.nd .lf (some Tryz.f617) .lf) (some Tryz.f361) .lf) (some Tryz.f233) (.nd .lf (some Tryz.f489) .lf)))) (some Tryz.f25) (.nd (.nd (.nd (.nd (.nd .lf (some Tryz.f537) .lf) (some Tryz.f281) .lf) (some Tryz.f153) (.nd .lf (some Tryz.f409) .lf)) (some Tryz.f89) (.nd (.nd .lf (some Tryz.f345) .lf) (some Tryz.f217) (.nd .lf (some Tryz.f473) .lf))) (some Tryz.f57) (.nd (.nd (.nd (.nd .lf (some Tryz.f569) .lf) (some Tryz.f313) .lf) (some Tryz.f185) (.nd .lf (some Tryz.f441) .lf)) (some Tryz.f121) (.nd (.nd .lf (some Tryz.f377) .lf) (some Tryz.f249) (.nd .lf (some Tryz.f505) .lf)))))) (some Tryz.f5) (.nd (.nd (.nd (.nd (.nd (.nd (.nd .lf (some Tryz.f517) .lf) (some Tryz.f261) .lf) (some Tryz.f133) (.nd .lf (some Tryz.f389) .lf)) (some Tryz.f69) (.nd (.nd (.nd .lf (some Tryz.f581) .lf) (some Tryz.f325) .lf) (some Tryz.f197) (.nd .lf (some Tryz.f453) .lf))) (some Tryz.f37) (.nd (.nd (.nd (.nd .lf (some Tryz.f549) .lf) (some Tryz.f293) .lf) (some Tryz.f165) (.nd .lf (some Tryz.f421) .lf)) (some Tryz.f101) (.nd (.nd (.nd .lf (some Tryz.f613) .lf) (some Tryz.f357) .lf) (some Tryz.f229) (.nd .lf (some Tryz.f485) .lf)))) (some Tryz.f21) (.nd (.nd (.nd (.nd (.nd .lf (some Tryz.f533) .lf) (some Tryz.f277) .lf) (some Tryz.f149) (.nd .lf (some Tryz.f405) .lf)) (some Tryz.f85) (.nd (.nd .lf (some Tryz.f341) .lf) (some Tryz.f213) (.nd .lf (some Tryz.f469) .lf))) (some Tryz.f53) (.nd (.nd (.nd (.nd .lf (some Tryz.f565) .lf) (some Tryz.f309) .lf) (some Tryz.f181) (.nd .lf (some Tryz.f437) .lf)) (some Tryz.f117) (.nd (.nd .lf (some Tryz.f373) .lf) (some Tryz.f245) (.nd .lf (some Tryz.f501) .lf))))) (some Tryz.f13) (.nd (.nd (.nd (.nd (.nd (.nd .lf (some Tryz.f525) .lf) (some Tryz.f269) .lf) (some Tryz.f141) (.nd .lf (some Tryz.f397) .lf)) (some Tryz.f77) (.nd (.nd (.nd .lf (some Tryz.f589) .lf) (some Tryz.f333) .lf) (some Tryz.f205) (.nd .lf (some Tryz.f461) .lf))) (some Tryz.f45) (.nd (.nd (.nd (.nd .lf (some Tryz.f557) .lf) (some Tryz.f301) .lf) (some Tryz.f173) (.nd .lf (some Tryz.f429) .lf)) (some Tryz.f109) (.nd (.nd .lf (some Tryz.f365) .lf) (some Tryz.f237) (.nd .lf (some Tryz.f493) .lf)))) (some Tryz.f29) (.nd (.nd (.nd (.nd (.nd .lf (some Tryz.f541) .lf) (some Tryz.f285) .lf) (some Tryz.f157) (.nd .lf (some Tryz.f413) .lf)) (some Tryz.f93) (.nd (.nd .lf (some Tryz.f349) .lf) (some Tryz.f221) (.nd .lf (some Tryz.f477) .lf))) (some Tryz.f61) (.nd (.nd (.nd (.nd .lf (some Tryz.f573) .lf) (some Tryz.f317) .lf) (some Tryz.f189) (.nd .lf (some Tryz.f445) .lf)) (some Tryz.f125) (.nd (.nd .lf (some Tryz.f381) .lf) (some Tryz.f253) (.nd .lf (some Tryz.f509) .lf)))))))) none (.nd (.nd (.nd (.nd (.nd (.nd (.nd (.nd (.nd .lf (some Tryz.f512) .lf) (some Tryz.f256) .lf) (some Tryz.f128) (.nd .lf (some Tryz.f384) .lf)) (some Tryz.f64) (.nd (.nd (.nd .lf (some Tryz.f576) .lf) (some Tryz.f320) .lf) (some Tryz.f192) (.nd .lf (some Tryz.f448) .lf))) (some Tryz.f32) (.nd (.nd (.nd (.nd .lf (some Tryz.f544) .lf) (some Tryz.f288) .lf) (some Tryz.f160) (.nd .lf (some Tryz.f416) .lf)) (some Tryz.f96) (.nd (.nd .lf (some Tryz.f352) .lf) (some Tryz.f224) (.nd .lf (some Tryz.f480) .lf)))) (some Tryz.f16) (.nd (.nd (.nd (.nd (.nd .lf (some Tryz.f528) .lf) (some Tryz.f272) .lf) (some Tryz.f144) (.nd .lf (some Tryz.f400) .lf)) (some Tryz.f80) (.nd (.nd .lf (some Tryz.f336) .lf) (some Tryz.f208) (.nd .lf (some Tryz.f464) .lf))) (some Tryz.f48) (.nd (.nd (.nd (.nd .lf (some Tryz.f560) .lf) (some Tryz.f304) .lf) (some Tryz.f176) (.nd .lf (some Tryz.f432) .lf)) (some Tryz.f112) (.nd (.nd .lf (some Tryz.f368) .lf) (some Tryz.f240) (.nd .lf (some Tryz.f496) .lf))))) (some Tryz.f8) (.nd (.nd (.nd (.nd (.nd (.nd .lf (some Tryz.f520) .lf) (some Tryz.f264) .lf) (some Tryz.f136) (.nd .lf (some Tryz.f392) .lf)) (some Tryz.f72) (.nd (.nd (.nd .lf (some Tryz.f584) .lf) (some Tryz.f328) .lf) (some Tryz.f200) (.nd .lf (some Tryz.f456) .lf))) (some Tryz.f40) (.nd (.nd (.nd (.nd .lf (some Tryz.f552) .lf) (some Tryz.f296) .lf) (some Tryz.f168) (.nd .lf (some Tryz.f424) .lf)) (some Tryz.f104) (.nd (.nd (.nd .lf (some Tryz.f616) .lf) (some Tryz.f360) .lf) (some Tryz.f232) (.nd .lf (some Tryz.f488) .lf)))) (some Tryz.f24) (.nd (.nd (.nd (.nd (.nd .lf (some Tryz.f536) .lf) (some Tryz.f280) .lf) (some Tryz.f152) (.nd .lf (some Tryz.f408) .lf)) (some Tryz.f88) (.nd (.nd .lf (some Tryz.f344) .lf) (some Tryz.f216) (.nd .lf (some Tryz.f472) .lf))) (some Tryz.f56) (.nd (.nd (.nd .lf (some Tryz.f312) .lf) (some Tryz.f184) (.nd .lf (some Tryz.f440) .lf)) (some Tryz.f120) (.nd (.nd .lf (some Tryz.f376) .lf) (some Tryz.f248) (.nd .lf (some Tryz.f504) .lf)))))) (some Tryz.f4) (.nd (.nd (.nd (.nd (.nd (.nd (.nd .lf (some Tryz.f516) .lf) (some Tryz.f260) .lf) (some Tryz.f132) (.nd .lf (some Tryz.f388) .lf)) (some Tryz.f68) (.nd (.nd (.nd .lf (some Tryz.f580) .lf) (some Tryz.f324) .lf) (some Tryz.f196) (.nd .lf (some Tryz.f452) .lf))) (some Tryz.f36) (.nd (.nd (.nd (.nd .lf (some Tryz.f548) .lf) (some Tryz.f292) .lf) (some Tryz.f164) (.nd .lf (some Tryz.f420) .lf)) (some Tryz.f100) (.nd (.nd .lf (some Tryz.f356) .lf) (some Tryz.f228) (.nd .lf (some Tryz.f484) .lf)))) (some Tryz.f20) (.nd (.nd (.nd (.nd (.nd .lf (some Tryz.f532) .lf) (some Tryz.f276) .lf) (some Tryz.f148) (.nd .lf (some Tryz.f404) .lf)) (some Tryz.f84) (.nd (.nd .lf (some Tryz.f340) .lf) (some Tryz.f212) (.nd .lf (some Tryz.f468) .lf))) (some Tryz.f52) (.nd (.nd (.nd (.nd .lf (some Tryz.f564) .lf) (some Tryz.f308) .lf) (some Tryz.f180) (.nd .lf (some Tryz.f436) .lf)) (some Tryz.f116) (.nd (.nd .lf (some Tryz.f372) .lf) (some Tryz.f244) (.nd .lf (some Tryz.f500) .lf))))) (some Tryz.f12) (.nd (.nd (.nd (.nd (.nd (.nd .lf (some Tryz.f524) .lf) (some Tryz.f268) .lf) (some Tryz.f140) (.nd .lf (some Tryz.f396) .lf)) (some Tryz.f76) (.nd (.nd (.nd .lf (some Tryz.f588) .lf) (some Tryz.f332) .lf) (some Tryz.f204) .lf)) (some Tryz.f44) (.nd (.nd (.nd (.nd .lf (some Tryz.f556) .lf) (some Tryz.f300) .lf) (some Tryz.f172) (.nd .lf (some Tryz.f428) .lf)) (some Tryz.f108) (.nd (.nd .lf (some Tryz.f364) .lf) (some Tryz.f236) (.nd .lf (some Tryz.f492) .lf)))) (some Tryz.f28) (.nd (.nd (.nd (.nd (.nd .lf (some Tryz.f540) .lf) (some Tryz.f284) .lf) (some Tryz.f156) (.nd .lf (some Tryz.f412) .lf)) (some Tryz.f92) (.nd (.nd .lf (some Tryz.f348) .lf) (some Tryz.f220) (.nd .lf (some Tryz.f476) .lf))) (some Tryz.f60) (.nd (.nd (.nd (.nd .lf (some Tryz.f572) .lf) (some Tryz.f316) .lf) (some Tryz.f188) (.nd .lf (some Tryz.f444) .lf)) (some Tryz.f124) (.nd (.nd .lf (some Tryz.f380) .lf) (some Tryz.f252) (.nd .lf (some Tryz.f508) .lf))))))) (some Tryz.f2) (.nd (.nd (.nd (.nd (.nd (.nd (.nd (.nd .lf (some Tryz.f514) .lf) (some Tryz.f258) .lf) (some Tryz.f130) (.nd .lf (some Tryz.f386) .lf)) (some Tryz.f66) (.nd (.nd (.nd .lf (some Tryz.f578) .lf) (some Tryz.f322) .lf) (some Tryz.f194) (.nd .lf (some Tryz.f450) .lf))) (some Tryz.f34) (.nd (.nd (.nd (.nd .lf (some Tryz.f546) .lf) (some Tryz.f290) .lf) (some Tryz.f162) (.nd .lf (some Tryz.f418) .lf)) (some Tryz.f98) (.nd (.nd .lf (some Tryz.f354) .lf) (some Tryz.f226) (.nd .lf (some Tryz.f482) .lf)))) (some Tryz.f18) (.nd (.nd (.nd (.nd .lf (some Tryz.f274) .lf) (some Tryz.f146) (.nd .lf (some Tryz.f402) .lf)) (some Tryz.f82) (.nd (.nd .lf (some Tryz.f338) .lf) (some Tryz.f210) (.nd .lf (some Tryz.f466) .lf))) (some Tryz.f50) (.nd (.nd (.nd (.nd .lf (some Tryz.f562) .lf) (some Tryz.f306) .lf) (some Tryz.f178) (.nd .lf (some Tryz.f434) .lf)) (some Tryz.f114) (.nd .lf (some Tryz.f242) (.nd .lf (some Tryz.f498) .lf))))) (some Tryz.f10) (.nd (.nd (.nd (.nd (.nd (.nd .lf (some Tryz.f522) .lf) (some Tryz.f266) .lf) (some Tryz.f138) (.nd .lf (some Tryz.f394) .lf)) (some Tryz.f74) (.nd (.nd (.nd .lf (some Tryz.f586) .lf) (some Tryz.f330) .lf) (some Tryz.f202) (.nd .lf (some Tryz.f458) .lf))) (some Tryz.f42) (.nd (.nd (.nd (.nd .lf (some Tryz.f554) .lf) (some Tryz.f298) .lf) (some Tryz.f170) (.nd .lf (some Tryz.f426) .lf)) (some Tryz.f106) (.nd (.nd .lf (some Tryz.f362) .lf) (some Tryz.f234) (.nd .lf (some Tryz.f490) .lf)))) (some Tryz.f26) (.nd (.nd (.nd (.nd (.nd .lf (some Tryz.f538) .lf) (some Tryz.f282) .lf) (some Tryz.f154) (.nd .lf (some Tryz.f410) .lf)) (some Tryz.f90) (.nd (.nd .lf (some Tryz.f346) .lf) (some Tryz.f218) (.nd .lf (some Tryz.f474) .lf))) (some Tryz.f58) (.nd (.nd (.nd (.nd .lf (some Tryz.f570) .lf) (some Tryz.f314) .lf) (some Tryz.f186) (.nd .lf (some Tryz.f442) .lf)) (some Tryz.f122) (.nd (.nd .lf (some Tryz.f378) .lf) (some Tryz.f250) (.nd .lf (some Tryz.f506) .lf)))))) (some Tryz.f6) (.nd (.nd (.nd (.nd (.nd (.nd (.nd .lf (some Tryz.f518) .lf) (some Tryz.f262) .lf) (some Tryz.f134) (.nd .lf (some Tryz.f390) .lf)) (some Tryz.f70) (.nd (.nd (.nd .lf (some Tryz.f582) .lf) (some Tryz.f326) .lf) (some Tryz.f198) (.nd .lf (some Tryz.f454) .lf))) (some Tryz.f38) (.nd (.nd (.nd (.nd .lf (some Tryz.f550) .lf) (some Tryz.f294) .lf) (some Tryz.f166) (.nd .lf (some Tryz.f422) .lf)) (some Tryz.f102) (.nd (.nd (.nd .lf (some Tryz.f614) .lf) (some Tryz.f358) .lf) (some Tryz.f230) (.nd .lf (some Tryz.f486) .lf)))) (some Tryz.f22) (.nd (.nd (.nd (.nd (.nd .lf (some Tryz.f534) .lf) (some Tryz.f278) .lf) (some Tryz.f150) (.nd .lf (some Tryz.f406) .lf)) (some Tryz.f86) (.nd (.nd .lf (some Tryz.f342) .lf) (some Tryz.f214) (.nd .lf (some Tryz.f470) .lf))) (some Tryz.f54) (.nd (.nd (.nd (.nd .lf (some Tryz.f566) .lf) (some Tryz.f310) .lf) (some Tryz.f182) (.nd .lf (some Tryz.f438) .lf)) (some Tryz.f118) (.nd (.nd .lf (some Tryz.f374) .lf) (some Tryz.f246) (.nd .lf (some Tryz.f502) .lf))))) (some Tryz.f14) (.nd (.nd (.nd (.nd (.nd (.nd .lf (some Tryz.f526) .lf) (some Tryz.f270) .lf) (some Tryz.f142) (.nd .lf (some Tryz.f398) .lf)) (some Tryz.f78) (.nd (.nd (.nd .lf (some Tryz.f590) .lf) (some Tryz.f334) .lf) (some Tryz.f206) (.nd .lf (some Tryz.f462) .lf))) (some Tryz.f46) (.nd (.nd (.nd (.nd .lf (some Tryz.f558) .lf) (some Tryz.f302) .lf) (some Tryz.f174) (.nd .lf (some Tryz.f430) .lf)) (some Tryz.f110) (.nd (.nd .lf (some Tryz.f366) .lf) (some Tryz.f238) (.nd .lf (some Tryz.f494) .lf)))) (some Tryz.f30) (.nd (.nd (.nd (.nd (.nd .lf (some Tryz.f542) .lf) (some Tryz.f286) .lf) (some Tryz.f158) (.nd .lf (some Tryz.f414) .lf)) (some Tryz.f94) (.nd (.nd .lf (some Tryz.f350) .lf) (some Tryz.f222) (.nd .lf (some Tryz.f478) .lf))) (some Tryz.f62) (.nd (.nd (.nd (.nd .lf (some Tryz.f574) .lf) (some Tryz.f318) .lf) (some Tryz.f190) (.nd .lf (some Tryz.f446) .lf)) (some Tryz.f126) (.nd (.nd .lf (some Tryz.f382) .lf) (some Tryz.f254) (.nd .lf (some Tryz.f510) .lf)))))))))
set_option maxRecDepth 100000 in
theorem Tryz.T_ok : TabOK Tryz.prog Tryz.T := tab_of_all ⟨Tryz.ty0_ok, ⟨Tryz.ty1_ok, ⟨Tryz.ty3_ok, ⟨Tryz.ty7_ok, ⟨Tryz.ty15_ok, ⟨Tryz.ty31_ok, ⟨Tryz.ty63_ok, ⟨Tryz.ty127_ok, ⟨Tryz.ty255_ok, ⟨Tryz.ty511_ok, trivial, trivial⟩, trivial⟩, ⟨Tryz.ty383_ok, ⟨Tryz.ty639_ok, trivial, trivial⟩, trivial⟩⟩, ⟨Tryz.ty191_ok, ⟨Tryz.ty319_ok, ⟨Tryz.ty575_ok, trivial, trivial⟩, trivial⟩, ⟨Tryz.ty447_ok, trivial, trivial⟩⟩⟩, ⟨Tryz.ty95_ok, ⟨Tryz.ty159_ok, ⟨Tryz.ty287_ok, ⟨Tryz.ty543_ok, trivial, trivial⟩, trivial⟩, ⟨Tryz.ty415_ok, ⟨Tryz.ty671_ok, trivial, trivial⟩, trivial⟩⟩, ⟨Tryz.ty223_ok, ⟨Tryz.ty351_ok, ⟨Tryz.ty607_ok, trivial, trivial⟩, trivial⟩, ⟨Tryz.ty479_ok, trivial, trivial⟩⟩⟩⟩, ⟨Tryz.ty47_ok, ⟨Tryz.ty79_ok, ⟨Tryz.ty143_ok, ⟨Tryz.ty271_ok, ⟨Tryz.ty527_ok, trivial, trivial⟩, trivial⟩, ⟨Tryz.ty399_ok, ⟨Tryz.ty655_ok, trivial, trivial⟩, trivial⟩⟩, ⟨Tryz.ty207_ok, ⟨Tryz.ty335_ok, ⟨Tryz.ty591_ok, trivial, trivial⟩, trivial⟩, ⟨Tryz.ty463_ok, trivial, trivial⟩⟩⟩, ⟨Tryz.ty111_ok, ⟨Tryz.ty175_ok, ⟨Tryz.ty303_ok, ⟨Tryz.ty559_ok, trivial, trivial⟩, trivial⟩, ⟨Tryz.ty431_ok, trivial, trivial⟩⟩, ⟨Tryz.ty239_ok, ⟨Tryz.ty367_ok, ⟨Tryz.ty623_ok, trivial, trivial⟩, trivial⟩, ⟨Tryz.ty495_ok, trivial, trivial⟩⟩⟩⟩⟩, ⟨Tryz.ty23_ok, ⟨Tryz.ty39_ok, ⟨Tryz.ty71_ok, ⟨Tryz.ty135_ok, ⟨Tryz.ty263_ok, ⟨Tryz.ty519_ok, trivial, trivial⟩, trivial⟩, ⟨Tryz.ty391_ok, ⟨Tryz.ty647_ok, trivial, trivial⟩, trivial⟩⟩, ⟨Tryz.ty199_ok, ⟨Tryz.ty327_ok, ⟨Tryz.ty583_ok, trivial, trivial⟩, trivial⟩, ⟨Tryz.ty455_ok, trivial, trivial⟩⟩⟩, ⟨Tryz.ty103_ok, ⟨Tryz.ty167_ok, ⟨Tryz.ty295_ok, ⟨Tryz.ty551_ok, trivial, trivial⟩, trivial⟩, ⟨Tryz.ty423_ok, ⟨Tryz.ty679_ok, trivial, trivial⟩, trivial⟩⟩, ⟨Tryz.ty231_ok, ⟨Tryz.ty359_ok, ⟨Tryz.ty615_ok, trivial, trivial⟩, trivial⟩, ⟨Tryz.ty487_ok, trivial, trivial⟩⟩⟩⟩, ⟨Tryz.ty55_ok, ⟨Tryz.ty87_ok, ⟨Tryz.ty151_ok, ⟨Tryz.ty279_ok, ⟨Tryz.ty535_ok, trivial, trivial⟩, trivial⟩, ⟨Tryz.ty407_ok, ⟨Tryz.ty663_ok, trivial, trivial⟩, trivial⟩⟩, ⟨Tryz.ty215_ok, ⟨Tryz.ty343_ok, ⟨Tryz.ty599_ok, trivial, trivial⟩, trivial⟩, ⟨Tryz.ty471_ok, trivial, trivial⟩⟩⟩, ⟨Tryz.ty119_ok, ⟨Tryz.ty183_ok, ⟨Tryz.ty311_ok, ⟨Tryz.ty567_ok, trivial, trivial⟩, trivial⟩, ⟨Tryz.ty439_ok, trivial, trivial⟩⟩, ⟨Tryz.ty247_ok, ⟨Tryz.ty375_ok, ⟨Tryz.ty631_ok, trivial, trivial⟩, trivial⟩, ⟨Tryz.ty503_ok, trivial, trivial⟩⟩⟩⟩⟩⟩, ⟨Tryz.ty11_ok, ⟨Tryz.ty19_ok, ⟨Tryz.ty35_ok, ⟨Tryz.ty67_ok, ⟨Tryz.ty131_ok, ⟨Tryz.ty259_ok, ⟨Tryz.ty515_ok, trivial, trivial⟩, trivial⟩, ⟨Tryz.ty387_ok, ⟨Tryz.ty643_ok, trivial, trivial⟩, trivial⟩⟩, ⟨Tryz.ty195_ok, ⟨Tryz.ty323_ok, ⟨Tryz.ty579_ok, trivial, trivial⟩, trivial⟩, ⟨Tryz.ty451_ok, trivial, trivial⟩⟩⟩, ⟨Tryz.ty99_ok, ⟨Tryz.ty163_ok, ⟨Tryz.ty291_ok, ⟨Tryz.ty547_ok, trivial, trivial⟩, trivial⟩, ⟨Tryz.ty419_ok, ⟨Tryz.ty675_ok, trivial, trivial⟩, trivial⟩⟩, ⟨Tryz.ty227_ok, ⟨Tryz.ty355_ok, ⟨Tryz.ty611_ok, trivial, trivial⟩, trivial⟩, ⟨Tryz.ty483_ok, trivial, trivial⟩⟩⟩⟩, ⟨Tryz.ty51_ok, ⟨Tryz.ty83_ok, ⟨Tryz.ty147_ok, ⟨Tryz.ty275_ok, ⟨Tryz.ty531_ok, trivial, trivial⟩, trivial⟩, ⟨Tryz.ty403_ok, ⟨Tryz.ty659_ok, trivial, trivial⟩, trivial⟩⟩, ⟨Tryz.ty211_ok, ⟨Tryz.ty339_ok, ⟨Tryz.ty595_ok, trivial, trivial⟩, trivial⟩, ⟨Tryz.ty467_ok, trivial, trivial⟩⟩⟩, ⟨Tryz.ty115_ok, ⟨Tryz.ty179_ok, ⟨Tryz.ty307_ok, ⟨Tryz.ty563_ok, trivial, trivial⟩, trivial⟩, ⟨Tryz.ty435_ok, trivial, trivial⟩⟩, ⟨Tryz.ty243_ok, ⟨Tryz.ty371_ok, ⟨Tryz.ty627_ok, trivial, trivial⟩, trivial⟩, ⟨Tryz.ty499_ok, trivial, trivial⟩⟩⟩⟩⟩, ⟨Tryz.ty27_ok, ⟨Tryz.ty43_ok, ⟨Tryz.ty75_ok, ⟨Tryz.ty139_ok, ⟨Tryz.ty267_ok, ⟨Tryz.ty523_ok, trivial, trivial⟩, trivial⟩, ⟨Tryz.ty395_ok, ⟨Tryz.ty651_ok, trivial, trivial⟩, trivial⟩⟩, ⟨Tryz.ty203_ok, ⟨Tryz.ty331_ok, ⟨Tryz.ty587_ok, trivial, trivial⟩, trivial⟩, ⟨Tryz.ty459_ok, trivial, trivial⟩⟩⟩, ⟨Tryz.ty107_ok, ⟨Tryz.ty171_ok, ⟨Tryz.ty299_ok, ⟨Tryz.ty555_ok, trivial, trivial⟩, trivial⟩, ⟨Tryz.ty427_ok, trivial, trivial⟩⟩, ⟨Tryz.ty235_ok, ⟨Tryz.ty363_ok, ⟨Tryz.ty619_ok, trivial, trivial⟩, trivial⟩, ⟨Tryz.ty491_ok, trivial, trivial⟩⟩⟩⟩, ⟨Tryz.ty59_ok, ⟨Tryz.ty91_ok, ⟨Tryz.ty155_ok, ⟨Tryz.ty283_ok, ⟨Tryz.ty539_ok, trivial, trivial⟩, trivial⟩, ⟨Tryz.ty411_ok, ⟨Tryz.ty667_ok, trivial, trivial⟩, trivial⟩⟩, ⟨Tryz.ty219_ok, ⟨Tryz.ty347_ok, ⟨Tryz.ty603_ok, trivial, trivial⟩, trivial⟩, ⟨Tryz.ty475_ok, trivial, trivial⟩⟩⟩, ⟨Tryz.ty123_ok, ⟨Tryz.ty187_ok, ⟨Tryz.ty315_ok, ⟨Tryz.ty571_ok, trivial, trivial⟩, trivial⟩, ⟨Tryz.ty443_ok, trivial, trivial⟩⟩, ⟨Tryz.ty251_ok, ⟨Tryz.ty379_ok, ⟨Tryz.ty635_ok, trivial, trivial⟩, trivial⟩, ⟨Tryz.ty507_ok, trivial, trivial⟩⟩⟩⟩⟩⟩⟩, ⟨Tryz.ty5_ok, ⟨Tryz.ty9_ok, ⟨Tryz.ty17_ok, ⟨Tryz.ty33_ok, ⟨Tryz.ty65_ok, ⟨Tryz.ty129_ok, ⟨Tryz.ty257_ok, ⟨Tryz.ty513_ok, trivial, trivial⟩, trivial⟩, ⟨Tryz.ty385_ok, ⟨Tryz.ty641_ok, trivial, trivial⟩, trivial⟩⟩, ⟨Tryz.ty193_ok, ⟨Tryz.ty321_ok, ⟨Tryz.ty577_ok, trivial, trivial⟩, trivial⟩, ⟨Tryz.ty449_ok, trivial, trivial⟩⟩⟩, ⟨Tryz.ty97_ok, ⟨Tryz.ty161_ok, ⟨Tryz.ty289_ok, ⟨Tryz.ty545_ok, trivial, trivial⟩, trivial⟩, ⟨Tryz.ty417_ok, ⟨Tryz.ty673_ok, trivial, trivial⟩, trivial⟩⟩, ⟨Tryz.ty225_ok, ⟨Tryz.ty353_ok, ⟨Tryz.ty609_ok, trivial, trivial⟩, trivial⟩, ⟨Tryz.ty481_ok, trivial, trivial⟩⟩⟩⟩, ⟨Tryz.ty49_ok, ⟨Tryz.ty81_ok, ⟨Tryz.ty145_ok, ⟨Tryz.ty273_ok, ⟨Tryz.ty529_ok, trivial, trivial⟩, trivial⟩, ⟨Tryz.ty401_ok, ⟨Tryz.ty657_ok, trivial, trivial⟩, trivial⟩⟩, ⟨Tryz.ty209_ok, ⟨Tryz.ty337_ok, ⟨Tryz.ty593_ok, trivial, trivial⟩, trivial⟩, ⟨Tryz.ty465_ok, trivial, trivial⟩⟩⟩, ⟨Tryz.ty113_ok, ⟨Tryz.ty177_ok, ⟨Tryz.ty305_ok, ⟨Tryz.ty561_ok, trivial, trivial⟩, trivial⟩, ⟨Tryz.ty433_ok, trivial, trivial⟩⟩, ⟨Tryz.ty241_ok, ⟨Tryz.ty369_ok, ⟨Tryz.ty625_ok, trivial, trivial⟩, trivial⟩, ⟨Tryz.ty497_ok, trivial, trivial⟩⟩⟩⟩⟩, ⟨Tryz.ty25_ok, ⟨Tryz.ty41_ok, ⟨Tryz.ty73_ok, ⟨Tryz.ty137_ok, ⟨Tryz.ty265_ok, ⟨Tryz.ty521_ok, trivial, trivial⟩, trivial⟩, ⟨Tryz.ty393_ok, ⟨Tryz.ty649_ok, trivial, trivial⟩, trivial⟩⟩, ⟨Tryz.ty201_ok, ⟨Tryz.ty329_ok, ⟨Tryz.ty585_ok, trivial, trivial⟩, trivial⟩, ⟨Tryz.ty457_ok, trivial, trivial⟩⟩⟩, ⟨Tryz.ty105_ok, ⟨Tryz.ty169_ok, ⟨Tryz.ty297_ok, ⟨Tryz.ty553_ok, trivial, trivial⟩, trivial⟩, ⟨Tryz.ty425_ok, trivial, trivial⟩⟩, ⟨Tryz.ty233_ok, ⟨Tryz.ty361_ok, ⟨Tryz.ty617_ok, trivial, trivial⟩, trivial⟩, ⟨Tryz.ty489_ok, trivial, trivial⟩⟩⟩⟩, ⟨Tryz.ty57_ok, ⟨Tryz.ty89_ok, ⟨Tryz.ty153_ok, ⟨Tryz.ty281_ok, ⟨Tryz.ty537_ok, trivial, trivial⟩, trivial⟩, ⟨Tryz.ty409_ok, ⟨Tryz.ty665_ok, trivial, trivial⟩, trivial⟩⟩, ⟨Tryz.ty217_ok, ⟨Tryz.ty345_ok, ⟨Tryz.ty601_ok, trivial, trivial⟩, trivial⟩, ⟨Tryz.ty473_ok, trivial, trivial⟩⟩⟩, ⟨Tryz.ty121_ok, ⟨Tryz.ty185_ok, ⟨Tryz.ty313_ok, ⟨Tryz.ty569_ok, trivial, trivial⟩, trivial⟩, ⟨Tryz.ty441_ok, trivial, trivial⟩⟩, ⟨Tryz.ty249_ok, ⟨Tryz.ty377_ok, ⟨Tryz.ty633_ok, trivial, trivial⟩, trivial⟩, ⟨Tryz.ty505_ok, trivial, trivial⟩⟩⟩⟩⟩⟩, ⟨Tryz.ty13_ok, ⟨Tryz.ty21_ok, ⟨Tryz.ty37_ok, ⟨Tryz.ty69_ok, ⟨Tryz.ty133_ok, ⟨Tryz.ty261_ok, ⟨Tryz.ty517_ok, trivial, trivial⟩, trivial⟩, ⟨Tryz.ty389_ok, ⟨Tryz.ty645_ok, trivial, trivial⟩, trivial⟩⟩, ⟨Tryz.ty197_ok, ⟨Tryz.ty325_ok, ⟨Tryz.ty581_ok, trivial, trivial⟩, trivial⟩, ⟨Tryz.ty453_ok, trivial, trivial⟩⟩⟩, ⟨Tryz.ty101_ok, ⟨Tryz.ty165_ok, ⟨Tryz.ty293_ok, ⟨Tryz.ty549_ok, trivial, trivial⟩, trivial⟩, ⟨Tryz.ty421_ok, ⟨Tryz.ty677_ok, trivial, trivial⟩, trivial⟩⟩, ⟨Tryz.ty229_ok, ⟨Tryz.ty357_ok, ⟨Tryz.ty613_ok, trivial, trivial⟩, trivial⟩, ⟨Tryz.ty485_ok, trivial, trivial⟩⟩⟩⟩, ⟨Tryz.ty53_ok, ⟨Tryz.ty85_ok, ⟨Tryz.ty149_ok, ⟨Tryz.ty277_ok, ⟨Tryz.ty533_ok, trivial, trivial⟩, trivial⟩, ⟨Tryz.ty405_ok, ⟨Tryz.ty661_ok, trivial, trivial⟩, trivial⟩⟩, ⟨Tryz.ty213_ok, ⟨Tryz.ty341_ok, ⟨Tryz.ty597_ok, trivial, trivial⟩, trivial⟩, ⟨Tryz.ty469_ok, trivial, trivial⟩⟩⟩, ⟨Tryz.ty117_ok, ⟨Tryz.ty181_ok, ⟨Tryz.ty309_ok, ⟨Tryz.ty565_ok, trivial, trivial⟩, trivial⟩, ⟨Tryz.ty437_ok, trivial, trivial⟩⟩, ⟨Tryz.ty245_ok, ⟨Tryz.ty373_ok, ⟨Tryz.ty629_ok, trivial, trivial⟩, trivial⟩, ⟨Tryz.ty501_ok, trivial, trivial⟩⟩⟩⟩⟩, ⟨Tryz.ty29_ok, ⟨Tryz.ty45_ok, ⟨Tryz.ty77_ok, ⟨Tryz.ty141_ok, ⟨Tryz.ty269_ok, ⟨Tryz.ty525_ok, trivial, trivial⟩, trivial⟩, ⟨Tryz.ty397_ok, ⟨Tryz.ty653_ok, trivial, trivial⟩, trivial⟩⟩, ⟨Tryz.ty205_ok, ⟨Tryz.ty333_ok, ⟨Tryz.ty589_ok, trivial, trivial⟩, trivial⟩, ⟨Tryz.ty461_ok, trivial, trivial⟩⟩⟩, ⟨Tryz.ty109_ok, ⟨Tryz.ty173_ok, ⟨Tryz.ty301_ok, ⟨Tryz.ty557_ok, trivial, trivial⟩, trivial⟩, ⟨Tryz.ty429_ok, trivial, trivial⟩⟩, ⟨Tryz.ty237_ok, ⟨Tryz.ty365_ok, ⟨Tryz.ty621_ok, trivial, trivial⟩, trivial⟩, ⟨Tryz.ty493_ok, trivial, trivial⟩⟩⟩⟩, ⟨Tryz.ty61_ok, ⟨Tryz.ty93_ok, ⟨Tryz.ty157_ok, ⟨Tryz.ty285_ok, ⟨Tryz.ty541_ok, trivial, trivial⟩, trivial⟩, ⟨Tryz.ty413_ok, ⟨Tryz.ty669_ok, trivial, trivial⟩, trivial⟩⟩, ⟨Tryz.ty221_ok, ⟨Tryz.ty349_ok, ⟨Tryz.ty605_ok, trivial, trivial⟩, trivial⟩, ⟨Tryz.ty477_ok, trivial, trivial⟩⟩⟩, ⟨Tryz.ty125_ok, ⟨Tryz.ty189_ok, ⟨Tryz.ty317_ok, ⟨Tryz.ty573_ok, trivial, trivial⟩, trivial⟩, ⟨Tryz.ty445_ok, trivial, trivial⟩⟩, ⟨Tryz.ty253_ok, ⟨Tryz.ty381_ok, ⟨Tryz.ty637_ok, trivial, trivial⟩, trivial⟩, ⟨Tryz.ty509_ok, trivial, trivial⟩⟩⟩⟩⟩⟩⟩⟩, ⟨Tryz.ty2_ok, ⟨Tryz.ty4_ok, ⟨Tryz.ty8_ok, ⟨Tryz.ty16_ok, ⟨Tryz.ty32_ok, ⟨Tryz.ty64_ok, ⟨Tryz.ty128_ok, ⟨Tryz.ty256_ok, ⟨Tryz.ty512_ok, trivial, trivial⟩, trivial⟩, ⟨Tryz.ty384_ok, ⟨Tryz.ty640_ok, trivial, trivial⟩, trivial⟩⟩, ⟨Tryz.ty192_ok, ⟨Tryz.ty320_ok, ⟨Tryz.ty576_ok, trivial, trivial⟩, trivial⟩, ⟨Tryz.ty448_ok, trivial, trivial⟩⟩⟩, ⟨Tryz.ty96_ok, ⟨Tryz.ty160_ok, ⟨Tryz.ty288_ok, ⟨Tryz.ty544_ok, trivial, trivial⟩, trivial⟩, ⟨Tryz.ty416_ok, ⟨Tryz.ty672_ok, trivial, trivial⟩, trivial⟩⟩, ⟨Tryz.ty224_ok, ⟨Tryz.ty352_ok, ⟨Tryz.ty608_ok, trivial, trivial⟩, trivial⟩, ⟨Tryz.ty480_ok, trivial, trivial⟩⟩⟩⟩, ⟨Tryz.ty48_ok, ⟨Tryz.ty80_ok, ⟨Tryz.ty144_ok, ⟨Tryz.ty272_ok, ⟨Tryz.ty528_ok, trivial, trivial⟩, trivial⟩, ⟨Tryz.ty400_ok, ⟨Tryz.ty656_ok, trivial, trivial⟩, trivial⟩⟩, ⟨Tryz.ty208_ok, ⟨Tryz.ty336_ok, ⟨Tryz.ty592_ok, trivial, trivial⟩, trivial⟩, ⟨Tryz.ty464_ok, trivial, trivial⟩⟩⟩, ⟨Tryz.ty112_ok, ⟨Tryz.ty176_ok, ⟨Tryz.ty304_ok, ⟨Tryz.ty560_ok, trivial, trivial⟩, trivial⟩, ⟨Tryz.ty432_ok, trivial, trivial⟩⟩, ⟨Tryz.ty240_ok, ⟨Tryz.ty368_ok, ⟨Tryz.ty624_ok, trivial, trivial⟩, trivial⟩, ⟨Tryz.ty496_ok, trivial, trivial⟩⟩⟩⟩⟩, ⟨Tryz.ty24_ok, ⟨Tryz.ty40_ok, ⟨Tryz.ty72_ok, ⟨Tryz.ty136_ok, ⟨Tryz.ty264_ok, ⟨Tryz.ty520_ok, trivial, trivial⟩, trivial⟩, ⟨Tryz.ty392_ok, ⟨Tryz.ty648_ok, trivial, trivial⟩, trivial⟩⟩, ⟨Tryz.ty200_ok, ⟨Tryz.ty328_ok, ⟨Tryz.ty584_ok, trivial, trivial⟩, trivial⟩, ⟨Tryz.ty456_ok, trivial, trivial⟩⟩⟩, ⟨Tryz.ty104_ok, ⟨Tryz.ty168_ok, ⟨Tryz.ty296_ok, ⟨Tryz.ty552_ok, trivial, trivial⟩, trivial⟩, ⟨Tryz.ty424_ok, ⟨Tryz.ty680_ok, trivial, trivial⟩, trivial⟩⟩, ⟨Tryz.ty232_ok, ⟨Tryz.ty360_ok, ⟨Tryz.ty616_ok, trivial, trivial⟩, trivial⟩, ⟨Tryz.ty488_ok, trivial, trivial⟩⟩⟩⟩, ⟨Tryz.ty56_ok, ⟨Tryz.ty88_ok, ⟨Tryz.ty152_ok, ⟨Tryz.ty280_ok, ⟨Tryz.ty536_ok, trivial, trivial⟩, trivial⟩, ⟨Tryz.ty408_ok, ⟨Tryz.ty664_ok, trivial, trivial⟩, trivial⟩⟩, ⟨Tryz.ty216_ok, ⟨Tryz.ty344_ok, ⟨Tryz.ty600_ok, trivial, trivial⟩, trivial⟩, ⟨Tryz.ty472_ok, trivial, trivial⟩⟩⟩, ⟨Tryz.ty120_ok, ⟨Tryz.ty184_ok, ⟨Tryz.ty312_ok, ⟨Tryz.ty568_ok, trivial, trivial⟩, trivial⟩, ⟨Tryz.ty440_ok, trivial, trivial⟩⟩, ⟨Tryz.ty248_ok, ⟨Tryz.ty376_ok, ⟨Tryz.ty632_ok, trivial, trivial⟩, trivial⟩, ⟨Tryz.ty504_ok, trivial, trivial⟩⟩⟩⟩⟩⟩, ⟨Tryz.ty12_ok, ⟨Tryz.ty20_ok, ⟨Tryz.ty36_ok, ⟨Tryz.ty68_ok, ⟨Tryz.ty132_ok, ⟨Tryz.ty260_ok, ⟨Tryz.ty516_ok, trivial, trivial⟩, trivial⟩, ⟨Tryz.ty388_ok, ⟨Tryz.ty644_ok, trivial, trivial⟩, trivial⟩⟩, ⟨Tryz.ty196_ok, ⟨Tryz.ty324_ok, ⟨Tryz.ty580_ok, trivial, trivial⟩, trivial⟩, ⟨Tryz.ty452_ok, trivial, trivial⟩⟩⟩, ⟨Tryz.ty100_ok, ⟨Tryz.ty164_ok, ⟨Tryz.ty292_ok, ⟨Tryz.ty548_ok, trivial, trivial⟩, trivial⟩, ⟨Tryz.ty420_ok, ⟨Tryz.ty676_ok, trivial, trivial⟩, trivial⟩⟩, ⟨Tryz.ty228_ok, ⟨Tryz.ty356_ok, ⟨Tryz.ty612_ok, trivial, trivial⟩, trivial⟩, ⟨Tryz.ty484_ok, trivial, trivial⟩⟩⟩⟩, ⟨Tryz.ty52_ok, ⟨Tryz.ty84_ok, ⟨Tryz.ty148_ok, ⟨Tryz.ty276_ok, ⟨Tryz.ty532_ok, trivial, trivial⟩, trivial⟩, ⟨Tryz.ty404_ok, ⟨Tryz.ty660_ok, trivial, trivial⟩, trivial⟩⟩, ⟨Tryz.ty212_ok, ⟨Tryz.ty340_ok, ⟨Tryz.ty596_ok, trivial, trivial⟩, trivial⟩, ⟨Tryz.ty468_ok, trivial, trivial⟩⟩⟩, ⟨Tryz.ty116_ok, ⟨Tryz.ty180_ok, ⟨Tryz.ty308_ok, ⟨Tryz.ty564_ok, trivial, trivial⟩, trivial⟩, ⟨Tryz.ty436_ok, trivial, trivial⟩⟩, ⟨Tryz.ty244_ok, ⟨Tryz.ty372_ok, ⟨Tryz.ty628_ok, trivial, trivial⟩, trivial⟩, ⟨Tryz.ty500_ok, trivial, trivial⟩⟩⟩⟩⟩, ⟨Tryz.ty28_ok, ⟨Tryz.ty44_ok, ⟨Tryz.ty76_ok, ⟨Tryz.ty140_ok, ⟨Tryz.ty268_ok, ⟨Tryz.ty524_ok, trivial, trivial⟩, trivial⟩, ⟨Tryz.ty396_ok, ⟨Tryz.ty652_ok, trivial, trivial⟩, trivial⟩⟩, ⟨Tryz.ty204_ok, ⟨Tryz.ty332_ok, ⟨Tryz.ty588_ok, trivial, trivial⟩, trivial⟩, ⟨Tryz.ty460_ok, trivial, trivial⟩⟩⟩, ⟨Tryz.ty108_ok, ⟨Tryz.ty172_ok, ⟨Tryz.ty300_ok, ⟨Tryz.ty556_ok, trivial, trivial⟩, trivial⟩, ⟨Tryz.ty428_ok, trivial, trivial⟩⟩, ⟨Tryz.ty236_ok, ⟨Tryz.ty364_ok, ⟨Tryz.ty620_ok, trivial, trivial⟩, trivial⟩, ⟨Tryz.ty492_ok, trivial, trivial⟩⟩⟩⟩, ⟨Tryz.ty60_ok, ⟨Tryz.ty92_ok, ⟨Tryz.ty156_ok, ⟨Tryz.ty284_ok, ⟨Tryz.ty540_ok, trivial, trivial⟩, trivial⟩, ⟨Tryz.ty412_ok, ⟨Tryz.ty668_ok, trivial, trivial⟩, trivial⟩⟩, ⟨Tryz.ty220_ok, ⟨Tryz.ty348_ok, ⟨Tryz.ty604_ok, trivial, trivial⟩, trivial⟩, ⟨Tryz.ty476_ok, trivial, trivial⟩⟩⟩, ⟨Tryz.ty124_ok, ⟨Tryz.ty188_ok, ⟨Tryz.ty316_ok, ⟨Tryz.ty572_ok, trivial, trivial⟩, trivial⟩, ⟨Tryz.ty444_ok, trivial, trivial⟩⟩, ⟨Tryz.ty252_ok, ⟨Tryz.ty380_ok, ⟨Tryz.ty636_ok, trivial, trivial⟩, trivial⟩, ⟨Tryz.ty508_ok, trivial, trivial⟩⟩⟩⟩⟩⟩⟩, ⟨Tryz.ty6_ok, ⟨Tryz.ty10_ok, ⟨Tryz.ty18_ok, ⟨Tryz.ty34_ok, ⟨Tryz.ty66_ok, ⟨Tryz.ty130_ok, ⟨Tryz.ty258_ok, ⟨Tryz.ty514_ok, trivial, trivial⟩, trivial⟩, ⟨Tryz.ty386_ok, ⟨Tryz.ty642_ok, trivial, trivial⟩, trivial⟩⟩, ⟨Tryz.ty194_ok, ⟨Tryz.ty322_ok, ⟨Tryz.ty578_ok, trivial, trivial⟩, trivial⟩, ⟨Tryz.ty450_ok, trivial, trivial⟩⟩⟩, ⟨Tryz.ty98_ok, ⟨Tryz.ty162_ok, ⟨Tryz.ty290_ok, ⟨Tryz.ty546_ok, trivial, trivial⟩, trivial⟩, ⟨Tryz.ty418_ok, ⟨Tryz.ty674_ok, trivial, trivial⟩, trivial⟩⟩, ⟨Tryz.ty226_ok, ⟨Tryz.ty354_ok, ⟨Tryz.ty610_ok, trivial, trivial⟩, trivial⟩, ⟨Tryz.ty482_ok, trivial, trivial⟩⟩⟩⟩, ⟨Tryz.ty50_ok, ⟨Tryz.ty82_ok, ⟨Tryz.ty146_ok, ⟨Tryz.ty274_ok, ⟨Tryz.ty530_ok, trivial, trivial⟩, trivial⟩, ⟨Tryz.ty402_ok, ⟨Tryz.ty658_ok, trivial, trivial⟩, trivial⟩⟩, ⟨Tryz.ty210_ok, ⟨Tryz.ty338_ok, ⟨Tryz.ty594_ok, trivial, trivial⟩, trivial⟩, ⟨Tryz.ty466_ok, trivial, trivial⟩⟩⟩, ⟨Tryz.ty114_ok, ⟨Tryz.ty178_ok, ⟨Tryz.ty306_ok, ⟨Tryz.ty562_ok, trivial, trivial⟩, trivial⟩, ⟨Tryz.ty434_ok, trivial, trivial⟩⟩, ⟨Tryz.ty242_ok, ⟨Tryz.ty370_ok, ⟨Tryz.ty626_ok, trivial, trivial⟩, trivial⟩, ⟨Tryz.ty498_ok, trivial, trivial⟩⟩⟩⟩⟩, ⟨Tryz.ty26_ok, ⟨Tryz.ty42_ok, ⟨Tryz.ty74_ok, ⟨Tryz.ty138_ok, ⟨Tryz.ty266_ok, ⟨Tryz.ty522_ok, trivial, trivial⟩, trivial⟩, ⟨Tryz.ty394_ok, ⟨Tryz.ty650_ok, trivial, trivial⟩, trivial⟩⟩, ⟨Tryz.ty202_ok, ⟨Tryz.ty330_ok, ⟨Tryz.ty586_ok, trivial, trivial⟩, trivial⟩, ⟨Tryz.ty458_ok, trivial, trivial⟩⟩⟩, ⟨Tryz.ty106_ok, ⟨Tryz.ty170_ok, ⟨Tryz.ty298_ok, ⟨Tryz.ty554_ok, trivial, trivial⟩, trivial⟩, ⟨Tryz.ty426_ok, trivial, trivial⟩⟩, ⟨Tryz.ty234_ok, ⟨Tryz.ty362_ok, ⟨Tryz.ty618_ok, trivial, trivial⟩, trivial⟩, ⟨Tryz.ty490_ok, trivial, trivial⟩⟩⟩⟩, ⟨Tryz.ty58_ok, ⟨Tryz.ty90_ok, ⟨Tryz.ty154_ok, ⟨Tryz.ty282_ok, ⟨Tryz.ty538_ok, trivial, trivial⟩, trivial⟩, ⟨Tryz.ty410_ok, ⟨Tryz.ty666_ok, trivial, trivial⟩, trivial⟩⟩, ⟨Tryz.ty218_ok, ⟨Tryz.ty346_ok, ⟨Tryz.ty602_ok, trivial, trivial⟩, trivial⟩, ⟨Tryz.ty474_ok, trivial, trivial⟩⟩⟩, ⟨Tryz.ty122_ok, ⟨Tryz.ty186_ok, ⟨Tryz.ty314_ok, ⟨Tryz.ty570_ok, trivial, trivial⟩, trivial⟩, ⟨Tryz.ty442_ok, trivial, trivial⟩⟩, ⟨Tryz.ty250_ok, ⟨Tryz.ty378_ok, ⟨Tryz.ty634_ok, trivial, trivial⟩, trivial⟩, ⟨Tryz.ty506_ok, trivial, trivial⟩⟩⟩⟩⟩⟩, ⟨Tryz.ty14_ok, ⟨Tryz.ty22_ok, ⟨Tryz.ty38_ok, ⟨Tryz.ty70_ok, ⟨Tryz.ty134_ok, ⟨Tryz.ty262_ok, ⟨Tryz.ty518_ok, trivial, trivial⟩, trivial⟩, ⟨Tryz.ty390_ok, ⟨Tryz.ty646_ok, trivial, trivial⟩, trivial⟩⟩, ⟨Tryz.ty198_ok, ⟨Tryz.ty326_ok, ⟨Tryz.ty582_ok, trivial, trivial⟩, trivial⟩, ⟨Tryz.ty454_ok, trivial, trivial⟩⟩⟩, ⟨Tryz.ty102_ok, ⟨Tryz.ty166_ok, ⟨Tryz.ty294_ok, ⟨Tryz.ty550_ok, trivial, trivial⟩, trivial⟩, ⟨Tryz.ty422_ok, ⟨Tryz.ty678_ok, trivial, trivial⟩, trivial⟩⟩, ⟨Tryz.ty230_ok, ⟨Tryz.ty358_ok, ⟨Tryz.ty614_ok, trivial, trivial⟩, trivial⟩, ⟨Tryz.ty486_ok, trivial, trivial⟩⟩⟩⟩, ⟨Tryz.ty54_ok, ⟨Tryz.ty86_ok, ⟨Tryz.ty150_ok, ⟨Tryz.ty278_ok, ⟨Tryz.ty534_ok, trivial, trivial⟩, trivial⟩, ⟨Tryz.ty406_ok, ⟨Tryz.ty662_ok, trivial, trivial⟩, trivial⟩⟩, ⟨Tryz.ty214_ok, ⟨Tryz.ty342_ok, ⟨Tryz.ty598_ok, trivial, trivial⟩, trivial⟩, ⟨Tryz.ty470_ok, trivial, trivial⟩⟩⟩, ⟨Tryz.ty118_ok, ⟨Tryz.ty182_ok, ⟨Tryz.ty310_ok, ⟨Tryz.ty566_ok, trivial, trivial⟩, trivial⟩, ⟨Tryz.ty438_ok, trivial, trivial⟩⟩, ⟨Tryz.ty246_ok, ⟨Tryz.ty374_ok, ⟨Tryz.ty630_ok, trivial, trivial⟩, trivial⟩, ⟨Tryz.ty502_ok, trivial, trivial⟩⟩⟩⟩⟩, ⟨Tryz.ty30_ok, ⟨Tryz.ty46_ok, ⟨Tryz.ty78_ok, ⟨Tryz.ty142_ok, ⟨Tryz.ty270_ok, ⟨Tryz.ty526_ok, trivial, trivial⟩, trivial⟩, ⟨Tryz.ty398_ok, ⟨Tryz.ty654_ok, trivial, trivial⟩, trivial⟩⟩, ⟨Tryz.ty206_ok, ⟨Tryz.ty334_ok, ⟨Tryz.ty590_ok, trivial, trivial⟩, trivial⟩, ⟨Tryz.ty462_ok, trivial, trivial⟩⟩⟩, ⟨Tryz.ty110_ok, ⟨Tryz.ty174_ok, ⟨Tryz.ty302_ok, ⟨Tryz.ty558_ok, trivial, trivial⟩, trivial⟩, ⟨Tryz.ty430_ok, trivial, trivial⟩⟩, ⟨Tryz.ty238_ok, ⟨Tryz.ty366_ok, ⟨Tryz.ty622_ok, trivial, trivial⟩, trivial⟩, ⟨Tryz.ty494_ok, trivial, trivial⟩⟩⟩⟩, ⟨Tryz.ty62_ok, ⟨Tryz.ty94_ok, ⟨Tryz.ty158_ok, ⟨Tryz.ty286_ok, ⟨Tryz.ty542_ok, trivial, trivial⟩, trivial⟩, ⟨Tryz.ty414_ok, ⟨Tryz.ty670_ok, trivial, trivial⟩, trivial⟩⟩, ⟨Tryz.ty222_ok, ⟨Tryz.ty350_ok, ⟨Tryz.ty606_ok, trivial, trivial⟩, trivial⟩, ⟨Tryz.ty478_ok, trivial, trivial⟩⟩⟩, ⟨Tryz.ty126_ok, ⟨Tryz.ty190_ok, ⟨Tryz.ty318_ok, ⟨Tryz.ty574_ok, trivial, trivial⟩, trivial⟩, ⟨Tryz.ty446_ok, trivial, trivial⟩⟩, ⟨Tryz.ty254_ok, ⟨Tryz.ty382_ok, ⟨Tryz.ty638_ok, trivial, trivial⟩, trivial⟩, ⟨Tryz.ty510_ok, trivial, trivial⟩⟩⟩⟩⟩⟩⟩⟩⟩
set_option maxRecDepth 100000 in
theorem Tryz.F_ok : FnsOK Tryz.prog Tryz.F := fns_of_all ⟨trivial, ⟨trivial, ⟨⟨Tryz.func3, by kernel_rfl, by kernel_rfl⟩, ⟨⟨Tryz.func7, by kernel_rfl, by kernel_rfl⟩, ⟨⟨Tryz.func15, by kernel_rfl, by kernel_rfl⟩, ⟨⟨Tryz.func31, by kernel_rfl, by kernel_rfl⟩, ⟨⟨Tryz.func63, by kernel_rfl, by kernel_rfl⟩, ⟨⟨Tryz.func127, by kernel_rfl, by kernel_rfl⟩, ⟨⟨Tryz.func255, by kernel_rfl, by kernel_rfl⟩, ⟨⟨Tryz.func511, by kernel_rfl, by kernel_rfl⟩, trivial, trivial⟩, trivial⟩, ⟨⟨Tryz.func383, by kernel_rfl, by kernel_rfl⟩, trivial, trivial⟩⟩, ⟨⟨Tryz.func191, by kernel_rfl, by kernel_rfl⟩, ⟨⟨Tryz.func319, by kernel_rfl, by kernel_rfl⟩, ⟨⟨Tryz.func575, by kernel_rfl, by kernel_rfl⟩, trivial, trivial⟩, trivial⟩, ⟨⟨Tryz.func447, by kernel_rfl, by kernel_rfl⟩, trivial, trivial⟩⟩⟩, ⟨⟨Tryz.func95, by kernel_rfl, by kernel_rfl⟩, ⟨⟨Tryz.func159, by kernel_rfl, by kernel_rfl⟩, ⟨⟨Tryz.func287, by kernel_rfl, by kernel_rfl⟩, ⟨⟨Tryz.func543, by kernel_rfl, by kernel_rfl⟩, trivial, trivial⟩, trivial⟩, ⟨⟨Tryz.func415, by kernel_rfl, by kernel_rfl⟩, trivial, trivial⟩⟩, ⟨⟨Tryz.func223, by kernel_rfl, by kernel_rfl⟩, ⟨⟨Tryz.func351, by kernel_rfl, by kernel_rfl⟩, trivial, trivial⟩, ⟨⟨Tryz.func479, by kernel_rfl, by kernel_rfl⟩, trivial, trivial⟩⟩⟩⟩, ⟨⟨Tryz.func47, by kernel_rfl, by kernel_rfl⟩, ⟨⟨Tryz.func79, by kernel_rfl, by kernel_rfl⟩, ⟨⟨Tryz.func143, by kernel_rfl, by kernel_rfl⟩, ⟨⟨Tryz.func271, by kernel_rfl, by kernel_rfl⟩, ⟨⟨Tryz.func527, by kernel_rfl, by kernel_rfl⟩, trivial, trivial⟩, trivial⟩, ⟨⟨Tryz.func399, by kernel_rfl, by kernel_rfl⟩, trivial, trivial⟩⟩, ⟨⟨Tryz.func207, by kernel_rfl, by kernel_rfl⟩, ⟨⟨Tryz.func335, by kernel_rfl, by kernel_rfl⟩, ⟨⟨Tryz.func591, by kernel_rfl, by kernel_rfl⟩, trivial, trivial⟩, trivial⟩, ⟨⟨Tryz.func463, by kernel_rfl, by kernel_rfl⟩, trivial, trivial⟩⟩⟩, ⟨⟨Tryz.func111, by kernel_rfl, by kernel_rfl⟩, ⟨⟨Tryz.func175, by kernel_rfl, by kernel_rfl⟩, ⟨⟨Tryz.func303, by kernel_rfl, by kernel_rfl⟩, ⟨⟨Tryz.func559, by kernel_rfl, by kernel_rfl⟩, trivial, trivial⟩, trivial⟩, ⟨⟨Tryz.func431, by kernel_rfl, by kernel_rfl⟩, trivial, trivial⟩⟩, ⟨⟨Tryz.func239, by kernel_rfl, by kernel_rfl⟩, ⟨⟨Tryz.func367, by kernel_rfl, by kernel_rfl⟩, ⟨⟨Tryz.func623, by kernel_rfl, by kernel_rfl⟩, trivial, trivial⟩, trivial⟩, ⟨⟨Tryz.func495, by kernel_rfl, by kernel_rfl⟩, trivial, trivial⟩⟩⟩⟩⟩, ⟨⟨Tryz.func23, by kernel_rfl, by kernel_rfl⟩, ⟨⟨Tryz.func39, by kernel_rfl, by kernel_rfl⟩, ⟨⟨Tryz.func71, by kernel_rfl, by kernel_rfl⟩, ⟨⟨Tryz.func135, by kernel_rfl, by kernel_rfl⟩, ⟨⟨Tryz.func263, by kernel_rfl, by kernel_rfl⟩, ⟨⟨Tryz.func519, by kernel_rfl, by kernel_rfl⟩, trivial, trivial⟩, trivial⟩, ⟨⟨Tryz.func391, by kernel_rfl, by kernel_rfl⟩, trivial, trivial⟩⟩, ⟨⟨Tryz.func199, by kernel_rfl, by kernel_rfl⟩, ⟨⟨Tryz.func327, by kernel_rfl, by kernel_rfl⟩, ⟨⟨Tryz.func583, by kernel_rfl, by kernel_rfl⟩, trivial, trivial⟩, trivial⟩, ⟨⟨Tryz.func455, by kernel_rfl, by kernel_rfl⟩, trivial, trivial⟩⟩⟩, ⟨⟨Tryz.func103, by kernel_rfl, by kernel_rfl⟩, ⟨⟨Tryz.func167, by kernel_rfl, by kernel_rfl⟩, ⟨⟨Tryz.func295, by kernel_rfl, by kernel_rfl⟩, ⟨⟨Tryz.func551, by kernel_rfl, by kernel_rfl⟩, trivial, trivial⟩, trivial⟩, ⟨⟨Tryz.func423, by kernel_rfl, by kernel_rfl⟩, trivial, trivial⟩⟩, ⟨⟨Tryz.func231, by kernel_rfl, by kernel_rfl⟩, ⟨⟨Tryz.func359, by kernel_rfl, by kernel_rfl⟩, ⟨⟨Tryz.func615, by kernel_rfl, by kernel_rfl⟩, trivial, trivial⟩, trivial⟩, ⟨⟨Tryz.func487, by kernel_rfl, by kernel_rfl⟩, trivial, trivial⟩⟩⟩⟩, ⟨⟨Tryz.func55, by kernel_rfl, by kernel_rfl⟩, ⟨⟨Tryz.func87, by kernel_rfl, by kernel_rfl⟩, ⟨⟨Tryz.func151, by kernel_rfl, by kernel_rfl⟩, ⟨⟨Tryz.func279, by kernel_rfl, by kernel_rfl⟩, ⟨⟨Tryz.func535, by kernel_rfl, by kernel_rfl⟩, trivial, trivial⟩, trivial⟩, ⟨⟨Tryz.func407, by kernel_rfl, by kernel_rfl⟩, trivial, trivial⟩⟩, ⟨⟨Tryz.func215, by kernel_rfl, by kernel_rfl⟩, ⟨⟨Tryz.func343, by kernel_rfl, by kernel_rfl⟩, trivial, trivial⟩, ⟨⟨Tryz.func471, by kernel_rfl, by kernel_rfl⟩, trivial, trivial⟩⟩⟩, ⟨⟨Tryz.func119, by kernel_rfl, by kernel_rfl⟩, ⟨⟨Tryz.func183, by kernel_rfl, by kernel_rfl⟩, ⟨⟨Tryz.func311, by kernel_rfl, by kernel_rfl⟩, ⟨⟨Tryz.func567, by kernel_rfl, by kernel_rfl⟩, trivial, trivial⟩, trivial⟩, ⟨⟨Tryz.func439, by kernel_rfl, by kernel_rfl⟩, trivial, trivial⟩⟩, ⟨⟨Tryz.func247, by kernel_rfl, by kernel_rfl⟩, ⟨⟨Tryz.func375, by kernel_rfl, by kernel_rfl⟩, trivial, trivial⟩, ⟨⟨Tryz.func503, by kernel_rfl, by kernel_rfl⟩, trivial, trivial⟩⟩⟩⟩⟩⟩, ⟨⟨Tryz.func11, by kernel_rfl, by kernel_rfl⟩, ⟨⟨Tryz.func19, by kernel_rfl, by kernel_rfl⟩, ⟨⟨Tryz.func35, by kernel_rfl, by kernel_rfl⟩, ⟨⟨Tryz.func67, by kernel_rfl, by kernel_rfl⟩, ⟨⟨Tryz.func131, by kernel_rfl, by kernel_rfl⟩, ⟨⟨Tryz.func259, by kernel_rfl, by kernel_rfl⟩, trivial, trivial⟩, ⟨⟨Tryz.func387, by kernel_rfl, by kernel_rfl⟩, trivial, trivial⟩⟩, ⟨⟨Tryz.func195, by kernel_rfl, by kernel_rfl⟩, ⟨⟨Tryz.func323, by kernel_rfl, by kernel_rfl⟩, ⟨⟨Tryz.func579, by kernel_rfl, by kernel_rfl⟩, trivial, trivial⟩, trivial⟩, ⟨⟨Tryz.func451, by kernel_rfl, by kernel_rfl⟩, trivial, trivial⟩⟩⟩, ⟨⟨Tryz.func99, by kernel_rfl, by kernel_rfl⟩, ⟨⟨Tryz.func163, by kernel_rfl, by kernel_rfl⟩, ⟨⟨Tryz.func291, by kernel_rfl, by kernel_rfl⟩, ⟨⟨Tryz.func547, by kernel_rfl, by kernel_rfl⟩, trivial, trivial⟩, trivial⟩, ⟨⟨Tryz.func419, by kernel_rfl, by kernel_rfl⟩, trivial, trivial⟩⟩, ⟨⟨Tryz.func227, by kernel_rfl, by kernel_rfl⟩, ⟨⟨Tryz.func355, by kernel_rfl, by kernel_rfl⟩, trivial, trivial⟩, ⟨⟨Tryz.func483, by kernel_rfl, by kernel_rfl⟩, trivial, trivial⟩⟩⟩⟩, ⟨⟨Tryz.func51, by kernel_rfl, by kernel_rfl⟩, ⟨⟨Tryz.func83, by kernel_rfl, by kernel_rfl⟩, ⟨⟨Tryz.func147, by kernel_rfl, by kernel_rfl⟩, ⟨⟨Tryz.func275, by kernel_rfl, by kernel_rfl⟩, ⟨⟨Tryz.func531, by kernel_rfl, by kernel_rfl⟩, trivial, trivial⟩, trivial⟩, ⟨⟨Tryz.func403, by kernel_rfl, by kernel_rfl⟩, trivial, trivial⟩⟩, ⟨⟨Tryz.func211, by kernel_rfl, by kernel_rfl⟩, ⟨⟨Tryz.func339, by kernel_rfl, by kernel_rfl⟩, trivial, trivial⟩, ⟨⟨Tryz.func467, by kernel_rfl, by kernel_rfl⟩, trivial, trivial⟩⟩⟩, ⟨⟨Tryz.func115, by kernel_rfl, by kernel_rfl⟩, ⟨⟨Tryz.func179, by kernel_rfl, by kernel_rfl⟩, ⟨⟨Tryz.func307, by kernel_rfl, by kernel_rfl⟩, ⟨⟨Tryz.func563, by kernel_rfl, by kernel_rfl⟩, trivial, trivial⟩, trivial⟩, ⟨⟨Tryz.func435, by kernel_rfl, by kernel_rfl⟩, trivial, trivial⟩⟩, ⟨⟨Tryz.func243, by kernel_rfl, by kernel_rfl⟩, ⟨⟨Tryz.func371, by kernel_rfl, by kernel_rfl⟩, trivial, trivial⟩, ⟨⟨Tryz.func499, by kernel_rfl, by kernel_rfl⟩, trivial, trivial⟩⟩⟩⟩⟩, ⟨⟨Tryz.func27, by kernel_rfl, by kernel_rfl⟩, ⟨⟨Tryz.func43, by kernel_rfl, by kernel_rfl⟩, ⟨⟨Tryz.func75, by kernel_rfl, by kernel_rfl⟩, ⟨⟨Tryz.func139, by kernel_rfl, by kernel_rfl⟩, ⟨⟨Tryz.func267, by kernel_rfl, by kernel_rfl⟩, ⟨⟨Tryz.func523, by kernel_rfl, by kernel_rfl⟩, trivial, trivial⟩, trivial⟩, ⟨⟨Tryz.func395, by kernel_rfl, by kernel_rfl⟩, trivial, trivial⟩⟩, ⟨⟨Tryz.func203, by kernel_rfl, by kernel_rfl⟩, ⟨⟨Tryz.func331, by kernel_rfl, by kernel_rfl⟩, ⟨⟨Tryz.func587, by kernel_rfl, by kernel_rfl⟩, trivial, trivial⟩, trivial⟩, ⟨⟨Tryz.func459, by kernel_rfl, by kernel_rfl⟩, trivial, trivial⟩⟩⟩, ⟨⟨Tryz.func107, by kernel_rfl, by kernel_rfl⟩, ⟨⟨Tryz.func171, by kernel_rfl, by kernel_rfl⟩, ⟨⟨Tryz.func299, by kernel_rfl, by kernel_rfl⟩, ⟨⟨Tryz.func555, by kernel_rfl, by kernel_rfl⟩, trivial, trivial⟩, trivial⟩, ⟨⟨Tryz.func427, by kernel_rfl, by kernel_rfl⟩, trivial, trivial⟩⟩, ⟨⟨Tryz.func235, by kernel_rfl, by kernel_rfl⟩, ⟨⟨Tryz.func363, by kernel_rfl, by kernel_rfl⟩, trivial, trivial⟩, ⟨⟨Tryz.func491, by kernel_rfl, by kernel_rfl⟩, trivial, trivial⟩⟩⟩⟩, ⟨⟨Tryz.func59, by kernel_rfl, by kernel_rfl⟩, ⟨⟨Tryz.func91, by kernel_rfl, by kernel_rfl⟩, ⟨⟨Tryz.func155, by kernel_rfl, by kernel_rfl⟩, ⟨⟨Tryz.func283, by kernel_rfl, by kernel_rfl⟩, ⟨⟨Tryz.func539, by kernel_rfl, by kernel_rfl⟩, trivial, trivial⟩, trivial⟩, ⟨⟨Tryz.func411, by kernel_rfl, by kernel_rfl⟩, trivial, trivial⟩⟩, ⟨⟨Tryz.func219, by kernel_rfl, by kernel_rfl⟩, ⟨⟨Tryz.func347, by kernel_rfl, by kernel_rfl⟩, trivial, trivial⟩, ⟨⟨Tryz.func475, by kernel_rfl, by kernel_rfl⟩, trivial, trivial⟩⟩⟩, ⟨⟨Tryz.func123, by kernel_rfl, by kernel_rfl⟩, ⟨⟨Tryz.func187, by kernel_rfl, by kernel_rfl⟩, ⟨⟨Tryz.func315, by kernel_rfl, by kernel_rfl⟩, ⟨⟨Tryz.func571, by kernel_rfl, by kernel_rfl⟩, trivial, trivial⟩, trivial⟩, ⟨⟨Tryz.func443, by kernel_rfl, by kernel_rfl⟩, trivial, trivial⟩⟩, ⟨⟨Tryz.func251, by kernel_rfl, by kernel_rfl⟩, ⟨⟨Tryz.func379, by kernel_rfl, by kernel_rfl⟩, trivial, trivial⟩, ⟨⟨Tryz.func507, by kernel_rfl, by kernel_rfl⟩, trivial, trivial⟩⟩⟩⟩⟩⟩⟩, ⟨⟨Tryz.func5, by kernel_rfl, by kernel_rfl⟩, ⟨⟨Tryz.func9, by kernel_rfl, by kernel_rfl⟩, ⟨⟨Tryz.func17, by kernel_rfl, by kernel_rfl⟩, ⟨⟨Tryz.func33, by kernel_rfl, by kernel_rfl⟩, ⟨⟨Tryz.func65, by kernel_rfl, by kernel_rfl⟩, ⟨⟨Tryz.func129, by kernel_rfl, by kernel_rfl⟩, ⟨⟨Tryz.func257, by kernel_rfl, by kernel_rfl⟩, ⟨⟨Tryz.func513, by kernel_rfl, by kernel_rfl⟩, trivial, trivial⟩, trivial⟩, ⟨⟨Tryz.func385, by kernel_rfl, by kernel_rfl⟩, trivial, trivial⟩⟩, ⟨⟨Tryz.func193, by kernel_rfl, by kernel_rfl⟩, ⟨⟨Tryz.func321, by kernel_rfl, by kernel_rfl⟩, ⟨⟨Tryz.func577, by kernel_rfl, by kernel_rfl⟩, trivial, trivial⟩, trivial⟩, ⟨⟨Tryz.func449, by kernel_rfl, by kernel_rfl⟩, trivial, trivial⟩⟩⟩, ⟨⟨Tryz.func97, by kernel_rfl, by kernel_rfl⟩, ⟨⟨Tryz.func161, by kernel_rfl, by kernel_rfl⟩, ⟨⟨Tryz.func289, by kernel_rfl, by kernel_rfl⟩, ⟨⟨Tryz.func545, by kernel_rfl, by kernel_rfl⟩, trivial, trivial⟩, trivial⟩, ⟨⟨Tryz.func417, by kernel_rfl, by kernel_rfl⟩, trivial, trivial⟩⟩, ⟨⟨Tryz.func225, by kernel_rfl, by kernel_rfl⟩, ⟨⟨Tryz.func353, by kernel_rfl, by kernel_rfl⟩, trivial, trivial⟩, ⟨⟨Tryz.func481, by kernel_rfl, by kernel_rfl⟩, trivial, trivial⟩⟩⟩⟩, ⟨⟨Tryz.func49, by kernel_rfl, by kernel_rfl⟩, ⟨⟨Tryz.func81, by kernel_rfl, by kernel_rfl⟩, ⟨⟨Tryz.func145, by kernel_rfl, by kernel_rfl⟩, ⟨⟨Tryz.func273, by kernel_rfl, by kernel_rfl⟩, ⟨⟨Tryz.func529, by kernel_rfl, by kernel_rfl⟩, trivial, trivial⟩, trivial⟩, ⟨⟨Tryz.func401, by kernel_rfl, by kernel_rfl⟩, trivial, trivial⟩⟩, ⟨⟨Tryz.func209, by kernel_rfl, by kernel_rfl⟩, ⟨⟨Tryz.func337, by kernel_rfl, by kernel_rfl⟩, trivial, trivial⟩, ⟨⟨Tryz.func465, by kernel_rfl, by kernel_rfl⟩, trivial, trivial⟩⟩⟩, ⟨⟨Tryz.func113, by kernel_rfl, by kernel_rfl⟩, ⟨⟨Tryz.func177, by kernel_rfl, by kernel_rfl⟩, ⟨⟨Tryz.func305, by kernel_rfl, by kernel_rfl⟩, ⟨⟨Tryz.func561, by kernel_rfl, by kernel_rfl⟩, trivial, trivial⟩, trivial⟩, ⟨⟨Tryz.func433, by kernel_rfl, by kernel_rfl⟩, trivial, trivial⟩⟩, ⟨⟨Tryz.func241, by kernel_rfl, by kernel_rfl⟩, ⟨⟨Tryz.func369, by kernel_rfl, by kernel_rfl⟩, trivial, trivial⟩, ⟨⟨Tryz.func497, by kernel_rfl, by kernel_rfl⟩, trivial, trivial⟩⟩⟩⟩⟩, ⟨⟨Tryz.func25, by kernel_rfl, by kernel_rfl⟩, ⟨⟨Tryz.func41, by kernel_rfl, by kernel_rfl⟩, ⟨⟨Tryz.func73, by kernel_rfl, by kernel_rfl⟩, ⟨⟨Tryz.func137, by kernel_rfl, by kernel_rfl⟩, ⟨⟨Tryz.func265, by kernel_rfl, by kernel_rfl⟩, ⟨⟨Tryz.func521, by kernel_rfl, by kernel_rfl⟩, trivial, trivial⟩, trivial⟩, ⟨⟨Tryz.func393, by kernel_rfl, by kernel_rfl⟩, trivial, trivial⟩⟩, ⟨⟨Tryz.func201, by kernel_rfl, by kernel_rfl⟩, ⟨⟨Tryz.func329, by kernel_rfl, by kernel_rfl⟩, ⟨⟨Tryz.func585, by kernel_rfl, by kernel_rfl⟩, trivial, trivial⟩, trivial⟩, ⟨⟨Tryz.func457, by kernel_rfl, by kernel_rfl⟩, trivial, trivial⟩⟩⟩, ⟨⟨Tryz.func105, by kernel_rfl, by kernel_rfl⟩, ⟨⟨Tryz.func169, by kernel_rfl, by kernel_rfl⟩, ⟨⟨Tryz.func297, by kernel_rfl, by kernel_rfl⟩, ⟨⟨Tryz.func553, by kernel_rfl, by kernel_rfl⟩, trivial, trivial⟩, trivial⟩, ⟨⟨Tryz.func425, by kernel_rfl, by kernel_rfl⟩, trivial, trivial⟩⟩, ⟨⟨Tryz.func233, by kernel_rfl, by kernel_rfl⟩, ⟨⟨Tryz.func361, by kernel_rfl, by kernel_rfl⟩, ⟨⟨Tryz.func617, by kernel_rfl, by kernel_rfl⟩, trivial, trivial⟩, trivial⟩, ⟨⟨Tryz.func489, by kernel_rfl, by kernel_rfl⟩, trivial, trivial⟩⟩⟩⟩, ⟨⟨Tryz.func57, by kernel_rfl, by kernel_rfl⟩, ⟨⟨Tryz.func89, by kernel_rfl, by kernel_rfl⟩, ⟨⟨Tryz.func153, by kernel_rfl, by kernel_rfl⟩, ⟨⟨Tryz.func281, by kernel_rfl, by kernel_rfl⟩, ⟨⟨Tryz.func537, by kernel_rfl, by kernel_rfl⟩, trivial, trivial⟩, trivial⟩, ⟨⟨Tryz.func409, by kernel_rfl, by kernel_rfl⟩, trivial, trivial⟩⟩, ⟨⟨Tryz.func217, by kernel_rfl, by kernel_rfl⟩, ⟨⟨Tryz.func345, by kernel_rfl, by kernel_rfl⟩, trivial, trivial⟩, ⟨⟨Tryz.func473, by kernel_rfl, by kernel_rfl⟩, trivial, trivial⟩⟩⟩, ⟨⟨Tryz.func121, by kernel_rfl, by kernel_rfl⟩, ⟨⟨Tryz.func185, by kernel_rfl, by kernel_rfl⟩, ⟨⟨Tryz.func313, by kernel_rfl, by kernel_rfl⟩, ⟨⟨Tryz.func569, by kernel_rfl, by kernel_rfl⟩, trivial, trivial⟩, trivial⟩, ⟨⟨Tryz.func441, by kernel_rfl, by kernel_rfl⟩, trivial, trivial⟩⟩, ⟨⟨Tryz.func249, by kernel_rfl, by kernel_rfl⟩, ⟨⟨Tryz.func377, by kernel_rfl, by kernel_rfl⟩, trivial, trivial⟩, ⟨⟨Tryz.func505, by kernel_rfl, by kernel_rfl⟩, trivial, trivial⟩⟩⟩⟩⟩⟩, ⟨⟨Tryz.func13, by kernel_rfl, by kernel_rfl⟩, ⟨⟨Tryz.func21, by kernel_rfl, by kernel_rfl⟩, ⟨⟨Tryz.func37, by kernel_rfl, by kernel_rfl⟩, ⟨⟨Tryz.func69, by kernel_rfl, by kernel_rfl⟩, ⟨⟨Tryz.func133, by kernel_rfl, by kernel_rfl⟩, ⟨⟨Tryz.func261, by kernel_rfl, by kernel_rfl⟩, ⟨⟨Tryz.func517, by kernel_rfl, by kernel_rfl⟩, trivial, trivial⟩, trivial⟩, ⟨⟨Tryz.func389, by kernel_rfl, by kernel_rfl⟩, trivial, trivial⟩⟩, ⟨⟨Tryz.func197, by kernel_rfl, by kernel_rfl⟩, ⟨⟨Tryz.func325, by kernel_rfl, by kernel_rfl⟩, ⟨⟨Tryz.func581, by kernel_rfl, by kernel_rfl⟩, trivial, trivial⟩, trivial⟩, ⟨⟨Tryz.func453, by kernel_rfl, by kernel_rfl⟩, trivial, trivial⟩⟩⟩, ⟨⟨Tryz.func101, by kernel_rfl, by kernel_rfl⟩, ⟨⟨Tryz.func165, by kernel_rfl, by kernel_rfl⟩, ⟨⟨Tryz.func293, by kernel_rfl, by kernel_rfl⟩, ⟨⟨Tryz.func549, by kernel_rfl, by kernel_rfl⟩, trivial, trivial⟩, trivial⟩, ⟨⟨Tryz.func421, by kernel_rfl, by kernel_rfl⟩, trivial, trivial⟩⟩, ⟨⟨Tryz.func229, by kernel_rfl, by kernel_rfl⟩, ⟨⟨Tryz.func357, by kernel_rfl, by kernel_rfl⟩, ⟨⟨Tryz.func613, by kernel_rfl, by kernel_rfl⟩, trivial, trivial⟩, trivial⟩, ⟨⟨Tryz.func485, by kernel_rfl, by kernel_rfl⟩, trivial, trivial⟩⟩⟩⟩, ⟨⟨Tryz.func53, by kernel_rfl, by kernel_rfl⟩, ⟨⟨Tryz.func85, by kernel_rfl, by kernel_rfl⟩, ⟨⟨Tryz.func149, by kernel_rfl, by kernel_rfl⟩, ⟨⟨Tryz.func277, by kernel_rfl, by kernel_rfl⟩, ⟨⟨Tryz.func533, by kernel_rfl, by kernel_rfl⟩, trivial, trivial⟩, trivial⟩, ⟨⟨Tryz.func405, by kernel_rfl, by kernel_rfl⟩, trivial, trivial⟩⟩, ⟨⟨Tryz.func213, by kernel_rfl, by kernel_rfl⟩, ⟨⟨Tryz.func341, by kernel_rfl, by kernel_rfl⟩, trivial, trivial⟩, ⟨⟨Tryz.func469, by kernel_rfl, by kernel_rfl⟩, trivial, trivial⟩⟩⟩, ⟨⟨Tryz.func117, by kernel_rfl, by kernel_rfl⟩, ⟨⟨Tryz.func181, by kernel_rfl, by kernel_rfl⟩, ⟨⟨Tryz.func309, by kernel_rfl, by kernel_rfl⟩, ⟨⟨Tryz.func565, by kernel_rfl, by kernel_rfl⟩, trivial, trivial⟩, trivial⟩, ⟨⟨Tryz.func437, by kernel_rfl, by kernel_rfl⟩, trivial, trivial⟩⟩, ⟨⟨Tryz.func245, by kernel_rfl, by kernel_rfl⟩, ⟨⟨Tryz.func373, by kernel_rfl, by kernel_rfl⟩, trivial, trivial⟩, ⟨⟨Tryz.func501, by kernel_rfl, by kernel_rfl⟩, trivial, trivial⟩⟩⟩⟩⟩, ⟨⟨Tryz.func29, by kernel_rfl, by kernel_rfl⟩, ⟨⟨Tryz.func45, by kernel_rfl, by kernel_rfl⟩, ⟨⟨Tryz.func77, by kernel_rfl, by kernel_rfl⟩, ⟨⟨Tryz.func141, by kernel_rfl, by kernel_rfl⟩, ⟨⟨Tryz.func269, by kernel_rfl, by kernel_rfl⟩, ⟨⟨Tryz.func525, by kernel_rfl, by kernel_rfl⟩, trivial, trivial⟩, trivial⟩, ⟨⟨Tryz.func397, by kernel_rfl, by kernel_rfl⟩, trivial, trivial⟩⟩, ⟨⟨Tryz.func205, by kernel_rfl, by kernel_rfl⟩, ⟨⟨Tryz.func333, by kernel_rfl, by kernel_rfl⟩, ⟨⟨Tryz.func589, by kernel_rfl, by kernel_rfl⟩, trivial, trivial⟩, trivial⟩, ⟨⟨Tryz.func461, by kernel_rfl, by kernel_rfl⟩, trivial, trivial⟩⟩⟩, ⟨⟨Tryz.func109, by kernel_rfl, by kernel_rfl⟩, ⟨⟨Tryz.func173, by kernel_rfl, by kernel_rfl⟩, ⟨⟨Tryz.func301, by kernel_rfl, by kernel_rfl⟩, ⟨⟨Tryz.func557, by kernel_rfl, by kernel_rfl⟩, trivial, trivial⟩, trivial⟩, ⟨⟨Tryz.func429, by kernel_rfl, by kernel_rfl⟩, trivial, trivial⟩⟩, ⟨⟨Tryz.func237, by kernel_rfl, by kernel_rfl⟩, ⟨⟨Tryz.func365, by kernel_rfl, by kernel_rfl⟩, trivial, trivial⟩, ⟨⟨Tryz.func493, by kernel_rfl, by kernel_rfl⟩, trivial, trivial⟩⟩⟩⟩, ⟨⟨Tryz.func61, by kernel_rfl, by kernel_rfl⟩, ⟨⟨Tryz.func93, by kernel_rfl, by kernel_rfl⟩, ⟨⟨Tryz.func157, by kernel_rfl, by kernel_rfl⟩, ⟨⟨Tryz.func285, by kernel_rfl, by kernel_rfl⟩, ⟨⟨Tryz.func541, by kernel_rfl, by kernel_rfl⟩, trivial, trivial⟩, trivial⟩, ⟨⟨Tryz.func413, by kernel_rfl, by kernel_rfl⟩, trivial, trivial⟩⟩, ⟨⟨Tryz.func221, by kernel_rfl, by kernel_rfl⟩, ⟨⟨Tryz.func349, by kernel_rfl, by kernel_rfl⟩, trivial, trivial⟩, ⟨⟨Tryz.func477, by kernel_rfl, by kernel_rfl⟩, trivial, trivial⟩⟩⟩, ⟨⟨Tryz.func125, by kernel_rfl, by kernel_rfl⟩, ⟨⟨Tryz.func189, by kernel_rfl, by kernel_rfl⟩, ⟨⟨Tryz.func317, by kernel_rfl, by kernel_rfl⟩, ⟨⟨Tryz.func573, by kernel_rfl, by kernel_rfl⟩, trivial, trivial⟩, trivial⟩, ⟨⟨Tryz.func445, by kernel_rfl, by kernel_rfl⟩, trivial, trivial⟩⟩, ⟨⟨Tryz.func253, by kernel_rfl, by kernel_rfl⟩, ⟨⟨Tryz.func381, by kernel_rfl, by kernel_rfl⟩, trivial, trivial⟩, ⟨⟨Tryz.func509, by kernel_rfl, by kernel_rfl⟩, trivial, trivial⟩⟩⟩⟩⟩⟩⟩⟩, ⟨⟨Tryz.func2, by kernel_rfl, by kernel_rfl⟩, ⟨⟨Tryz.func4, by kernel_rfl, by kernel_rfl⟩, ⟨⟨Tryz.func8, by kernel_rfl, by kernel_rfl⟩, ⟨⟨Tryz.func16, by kernel_rfl, by kernel_rfl⟩, ⟨⟨Tryz.func32, by kernel_rfl, by kernel_rfl⟩, ⟨⟨Tryz.func64, by kernel_rfl, by kernel_rfl⟩, ⟨⟨Tryz.func128, by kernel_rfl, by kernel_rfl⟩, ⟨⟨Tryz.func256, by kernel_rfl, by kernel_rfl⟩, ⟨⟨Tryz.func512, by kernel_rfl, by kernel_rfl⟩, trivial, trivial⟩, trivial⟩, ⟨⟨Tryz.func384, by kernel_rfl, by kernel_rfl⟩, trivial, trivial⟩⟩, ⟨⟨Tryz.func192, by kernel_rfl, by kernel_rfl⟩, ⟨⟨Tryz.func320, by kernel_rfl, by kernel_rfl⟩, ⟨⟨Tryz.func576, by kernel_rfl, by kernel_rfl⟩, trivial, trivial⟩, trivial⟩, ⟨⟨Tryz.func448, by kernel_rfl, by kernel_rfl⟩, trivial, trivial⟩⟩⟩, ⟨⟨Tryz.func96, by kernel_rfl, by kernel_rfl⟩, ⟨⟨Tryz.func160, by kernel_rfl, by kernel_rfl⟩, ⟨⟨Tryz.func288, by kernel_rfl, by kernel_rfl⟩, ⟨⟨Tryz.func544, by kernel_rfl, by kernel_rfl⟩, trivial, trivial⟩, trivial⟩, ⟨⟨Tryz.func416, by kernel_rfl, by kernel_rfl⟩, trivial, trivial⟩⟩, ⟨⟨Tryz.func224, by kernel_rfl, by kernel_rfl⟩, ⟨⟨Tryz.func352, by kernel_rfl, by kernel_rfl⟩, trivial, trivial⟩, ⟨⟨Tryz.func480, by kernel_rfl, by kernel_rfl⟩, trivial, trivial⟩⟩⟩⟩, ⟨⟨Tryz.func48, by kernel_rfl, by kernel_rfl⟩, ⟨⟨Tryz.func80, by kernel_rfl, by kernel_rfl⟩, ⟨⟨Tryz.func144, by kernel_rfl, by kernel_rfl⟩, ⟨⟨Tryz.func272, by kernel_rfl, by kernel_rfl⟩, ⟨⟨Tryz.func528, by kernel_rfl, by kernel_rfl⟩, trivial, trivial⟩, trivial⟩, ⟨⟨Tryz.func400, by kernel_rfl, by kernel_rfl⟩, trivial, trivial⟩⟩, ⟨⟨Tryz.func208, by kernel_rfl, by kernel_rfl⟩, ⟨⟨Tryz.func336, by kernel_rfl, by kernel_rfl⟩, trivial, trivial⟩, ⟨⟨Tryz.func464, by kernel_rfl, by kernel_rfl⟩, trivial, trivial⟩⟩⟩, ⟨⟨Tryz.func112, by kernel_rfl, by kernel_rfl⟩, ⟨⟨Tryz.func176, by kernel_rfl, by kernel_rfl⟩, ⟨⟨Tryz.func304, by kernel_rfl, by kernel_rfl⟩, ⟨⟨Tryz.func560, by kernel_rfl, by kernel_rfl⟩, trivial, trivial⟩, trivial⟩, ⟨⟨Tryz.func432, by kernel_rfl, by kernel_rfl⟩, trivial, trivial⟩⟩, ⟨⟨Tryz.func240, by kernel_rfl, by kernel_rfl⟩, ⟨⟨Tryz.func368, by kernel_rfl, by kernel_rfl⟩, trivial, trivial⟩, ⟨⟨Tryz.func496, by kernel_rfl, by kernel_rfl⟩, trivial, trivial⟩⟩⟩⟩⟩, ⟨⟨Tryz.func24, by kernel_rfl, by kernel_rfl⟩, ⟨⟨Tryz.func40, by kernel_rfl, by kernel_rfl⟩, ⟨⟨Tryz.func72, by kernel_rfl, by kernel_rfl⟩, ⟨⟨Tryz.func136, by kernel_rfl, by kernel_rfl⟩, ⟨⟨Tryz.func264, by kernel_rfl, by kernel_rfl⟩, ⟨⟨Tryz.func520, by kernel_rfl, by kernel_rfl⟩, trivial, trivial⟩, trivial⟩, ⟨⟨Tryz.func392, by kernel_rfl, by kernel_rfl⟩, trivial, trivial⟩⟩, ⟨⟨Tryz.func200, by kernel_rfl, by kernel_rfl⟩, ⟨⟨Tryz.func328, by kernel_rfl, by kernel_rfl⟩, ⟨⟨Tryz.func584, by kernel_rfl, by kernel_rfl⟩, trivial, trivial⟩, trivial⟩, ⟨⟨Tryz.func456, by kernel_rfl, by kernel_rfl⟩, trivial, trivial⟩⟩⟩, ⟨⟨Tryz.func104, by kernel_rfl, by kernel_rfl⟩, ⟨⟨Tryz.func168, by kernel_rfl, by kernel_rfl⟩, ⟨⟨Tryz.func296, by kernel_rfl, by kernel_rfl⟩, ⟨⟨Tryz.func552, by kernel_rfl, by kernel_rfl⟩, trivial, trivial⟩, trivial⟩, ⟨⟨Tryz.func424, by kernel_rfl, by kernel_rfl⟩, trivial, trivial⟩⟩, ⟨⟨Tryz.func232, by kernel_rfl, by kernel_rfl⟩, ⟨⟨Tryz.func360, by kernel_rfl, by kernel_rfl⟩, ⟨⟨Tryz.func616, by kernel_rfl, by kernel_rfl⟩, trivial, trivial⟩, trivial⟩, ⟨⟨Tryz.func488, by kernel_rfl, by kernel_rfl⟩, trivial, trivial⟩⟩⟩⟩, ⟨⟨Tryz.func56, by kernel_rfl, by kernel_rfl⟩, ⟨⟨Tryz.func88, by kernel_rfl, by kernel_rfl⟩, ⟨⟨Tryz.func152, by kernel_rfl, by kernel_rfl⟩, ⟨⟨Tryz.func280, by kernel_rfl, by kernel_rfl⟩, ⟨⟨Tryz.func536, by kernel_rfl, by kernel_rfl⟩, trivial, trivial⟩, trivial⟩, ⟨⟨Tryz.func408, by kernel_rfl, by kernel_rfl⟩, trivial, trivial⟩⟩, ⟨⟨Tryz.func216, by kernel_rfl, by kernel_rfl⟩, ⟨⟨Tryz.func344, by kernel_rfl, by kernel_rfl⟩, trivial, trivial⟩, ⟨⟨Tryz.func472, by kernel_rfl, by kernel_rfl⟩, trivial, trivial⟩⟩⟩, ⟨⟨Tryz.func120, by kernel_rfl, by kernel_rfl⟩, ⟨⟨Tryz.func184, by kernel_rfl, by kernel_rfl⟩, ⟨⟨Tryz.func312, by kernel_rfl, by kernel_rfl⟩, trivial, trivial⟩, ⟨⟨Tryz.func440, by kernel_rfl, by kernel_rfl⟩, trivial, trivial⟩⟩, ⟨⟨Tryz.func248, by kernel_rfl, by kernel_rfl⟩, ⟨⟨Tryz.func376, by kernel_rfl, by kernel_rfl⟩, trivial, trivial⟩, ⟨⟨Tryz.func504, by kernel_rfl, by kernel_rfl⟩, trivial, trivial⟩⟩⟩⟩⟩⟩, ⟨⟨Tryz.func12, by kernel_rfl, by kernel_rfl⟩, ⟨⟨Tryz.func20, by kernel_rfl, by kernel_rfl⟩, ⟨⟨Tryz.func36, by kernel_rfl, by kernel_rfl⟩, ⟨⟨Tryz.func68, by kernel_rfl, by kernel_rfl⟩, ⟨⟨Tryz.func132, by kernel_rfl, by kernel_rfl⟩, ⟨⟨Tryz.func260, by kernel_rfl, by kernel_rfl⟩, ⟨⟨Tryz.func516, by kernel_rfl, by kernel_rfl⟩, trivial, trivial⟩, trivial⟩, ⟨⟨Tryz.func388, by kernel_rfl, by kernel_rfl⟩, trivial, trivial⟩⟩, ⟨⟨Tryz.func196, by kernel_rfl, by kernel_rfl⟩, ⟨⟨Tryz.func324, by kernel_rfl, by kernel_rfl⟩, ⟨⟨Tryz.func580, by kernel_rfl, by kernel_rfl⟩, trivial, trivial⟩, trivial⟩, ⟨⟨Tryz.func452, by kernel_rfl, by kernel_rfl⟩, trivial, trivial⟩⟩⟩, ⟨⟨Tryz.func100, by kernel_rfl, by kernel_rfl⟩, ⟨⟨Tryz.func164, by kernel_rfl, by kernel_rfl⟩, ⟨⟨Tryz.func292, by kernel_rfl, by kernel_rfl⟩, ⟨⟨Tryz.func548, by kernel_rfl, by kernel_rfl⟩, trivial, trivial⟩, trivial⟩, ⟨⟨Tryz.func420, by kernel_rfl, by kernel_rfl⟩, trivial, trivial⟩⟩, ⟨⟨Tryz.func228, by kernel_rfl, by kernel_rfl⟩, ⟨⟨Tryz.func356, by kernel_rfl, by kernel_rfl⟩, trivial, trivial⟩, ⟨⟨Tryz.func484, by kernel_rfl, by kernel_rfl⟩, trivial, trivial⟩⟩⟩⟩, ⟨⟨Tryz.func52, by kernel_rfl, by kernel_rfl⟩, ⟨⟨Tryz.func84, by kernel_rfl, by kernel_rfl⟩, ⟨⟨Tryz.func148, by kernel_rfl, by kernel_rfl⟩, ⟨⟨Tryz.func276, by kernel_rfl, by kernel_rfl⟩, ⟨⟨Tryz.func532, by kernel_rfl, by kernel_rfl⟩, trivial, trivial⟩, trivial⟩, ⟨⟨Tryz.func404, by kernel_rfl, by kernel_rfl⟩, trivial, trivial⟩⟩, ⟨⟨Tryz.func212, by kernel_rfl, by kernel_rfl⟩, ⟨⟨Tryz.func340, by kernel_rfl, by kernel_rfl⟩, trivial, trivial⟩, ⟨⟨Tryz.func468, by kernel_rfl, by kernel_rfl⟩, trivial, trivial⟩⟩⟩, ⟨⟨Tryz.func116, by kernel_rfl, by kernel_rfl⟩, ⟨⟨Tryz.func180, by kernel_rfl, by kernel_rfl⟩, ⟨⟨Tryz.func308, by kernel_rfl, by kernel_rfl⟩, ⟨⟨Tryz.func564, by kernel_rfl, by kernel_rfl⟩, trivial, trivial⟩, trivial⟩, ⟨⟨Tryz.func436, by kernel_rfl, by kernel_rfl⟩, trivial, trivial⟩⟩, ⟨⟨Tryz.func244, by kernel_rfl, by kernel_rfl⟩, ⟨⟨Tryz.func372, by kernel_rfl, by kernel_rfl⟩, trivial, trivial⟩, ⟨⟨Tryz.func500, by kernel_rfl, by kernel_rfl⟩, trivial, trivial⟩⟩⟩⟩⟩, ⟨⟨Tryz.func28, by kernel_rfl, by kernel_rfl⟩, ⟨⟨Tryz.func44, by kernel_rfl, by kernel_rfl⟩, ⟨⟨Tryz.func76, by kernel_rfl, by kernel_rfl⟩, ⟨⟨Tryz.func140, by kernel_rfl, by kernel_rfl⟩, ⟨⟨Tryz.func268, by kernel_rfl, by kernel_rfl⟩, ⟨⟨Tryz.func524, by kernel_rfl, by kernel_rfl⟩, trivial, trivial⟩, trivial⟩, ⟨⟨Tryz.func396, by kernel_rfl, by kernel_rfl⟩, trivial, trivial⟩⟩, ⟨⟨Tryz.func204, by kernel_rfl, by kernel_rfl⟩, ⟨⟨Tryz.func332, by kernel_rfl, by kernel_rfl⟩, ⟨⟨Tryz.func588, by kernel_rfl, by kernel_rfl⟩, trivial, trivial⟩, trivial⟩, trivial⟩⟩, ⟨⟨Tryz.func108, by kernel_rfl, by kernel_rfl⟩, ⟨⟨Tryz.func172, by kernel_rfl, by kernel_rfl⟩, ⟨⟨Tryz.func300, by kernel_rfl, by kernel_rfl⟩, ⟨⟨Tryz.func556, by kernel_rfl, by kernel_rfl⟩, trivial, trivial⟩, trivial⟩, ⟨⟨Tryz.func428, by kernel_rfl, by kernel_rfl⟩, trivial, trivial⟩⟩, ⟨⟨Tryz.func236, by kernel_rfl, by kernel_rfl⟩, ⟨⟨Tryz.func364, by kernel_rfl, by kernel_rfl⟩, trivial, trivial⟩, ⟨⟨Tryz.func492, by kernel_rfl, by kernel_rfl⟩, trivial, trivial⟩⟩⟩⟩, ⟨⟨Tryz.func60, by kernel_rfl, by kernel_rfl⟩, ⟨⟨Tryz.func92, by kernel_rfl, by kernel_rfl⟩, ⟨⟨Tryz.func156, by kernel_rfl, by kernel_rfl⟩, ⟨⟨Tryz.func284, by kernel_rfl, by kernel_rfl⟩, ⟨⟨Tryz.func540, by kernel_rfl, by kernel_rfl⟩, trivial, trivial⟩, trivial⟩, ⟨⟨Tryz.func412, by kernel_rfl, by kernel_rfl⟩, trivial, trivial⟩⟩, ⟨⟨Tryz.func220, by kernel_rfl, by kernel_rfl⟩, ⟨⟨Tryz.func348, by kernel_rfl, by kernel_rfl⟩, trivial, trivial⟩, ⟨⟨Tryz.func476, by kernel_rfl, by kernel_rfl⟩, trivial, trivial⟩⟩⟩, ⟨⟨Tryz.func124, by kernel_rfl, by kernel_rfl⟩, ⟨⟨Tryz.func188, by kernel_rfl, by kernel_rfl⟩, ⟨⟨Tryz.func316, by kernel_rfl, by kernel_rfl⟩, ⟨⟨Tryz.func572, by kernel_rfl, by kernel_rfl⟩, trivial, trivial⟩, trivial⟩, ⟨⟨Tryz.func444, by kernel_rfl, by kernel_rfl⟩, trivial, trivial⟩⟩, ⟨⟨Tryz.func252, by kernel_rfl, by kernel_rfl⟩, ⟨⟨Tryz.func380, by kernel_rfl, by kernel_rfl⟩, trivial, trivial⟩, ⟨⟨Tryz.func508, by kernel_rfl, by kernel_rfl⟩, trivial, trivial⟩⟩⟩⟩⟩⟩⟩, ⟨⟨Tryz.func6, by kernel_rfl, by kernel_rfl⟩, ⟨⟨Tryz.func10, by kernel_rfl, by kernel_rfl⟩, ⟨⟨Tryz.func18, by kernel_rfl, by kernel_rfl⟩, ⟨⟨Tryz.func34, by kernel_rfl, by kernel_rfl⟩, ⟨⟨Tryz.func66, by kernel_rfl, by kernel_rfl⟩, ⟨⟨Tryz.func130, by kernel_rfl, by kernel_rfl⟩, ⟨⟨Tryz.func258, by kernel_rfl, by kernel_rfl⟩, ⟨⟨Tryz.func514, by kernel_rfl, by kernel_rfl⟩, trivial, trivial⟩, trivial⟩, ⟨⟨Tryz.func386, by kernel_rfl, by kernel_rfl⟩, trivial, trivial⟩⟩, ⟨⟨Tryz.func194, by kernel_rfl, by kernel_rfl⟩, ⟨⟨Tryz.func322, by kernel_rfl, by kernel_rfl⟩, ⟨⟨Tryz.func578, by kernel_rfl, by kernel_rfl⟩, trivial, trivial⟩, trivial⟩, ⟨⟨Tryz.func450, by kernel_rfl, by kernel_rfl⟩, trivial, trivial⟩⟩⟩, ⟨⟨Tryz.func98, by kernel_rfl, by kernel_rfl⟩, ⟨⟨Tryz.func162, by kernel_rfl, by kernel_rfl⟩, ⟨⟨Tryz.func290, by kernel_rfl, by kernel_rfl⟩, ⟨⟨Tryz.func546, by kernel_rfl, by kernel_rfl⟩, trivial, trivial⟩, trivial⟩, ⟨⟨Tryz.func418, by kernel_rfl, by kernel_rfl⟩, trivial, trivial⟩⟩, ⟨⟨Tryz.func226, by kernel_rfl, by kernel_rfl⟩, ⟨⟨Tryz.func354, by kernel_rfl, by kernel_rfl⟩, trivial, trivial⟩, ⟨⟨Tryz.func482, by kernel_rfl, by kernel_rfl⟩, trivial, trivial⟩⟩⟩⟩, ⟨⟨Tryz.func50, by kernel_rfl, by kernel_rfl⟩, ⟨⟨Tryz.func82, by kernel_rfl, by kernel_rfl⟩, ⟨⟨Tryz.func146, by kernel_rfl, by kernel_rfl⟩, ⟨⟨Tryz.func274, by kernel_rfl, by kernel_rfl⟩, trivial, trivial⟩, ⟨⟨Tryz.func402, by kernel_rfl, by kernel_rfl⟩, trivial, trivial⟩⟩, ⟨⟨Tryz.func210, by kernel_rfl, by kernel_rfl⟩, ⟨⟨Tryz.func338, by kernel_rfl, by kernel_rfl⟩, trivial, trivial⟩, ⟨⟨Tryz.func466, by kernel_rfl, by kernel_rfl⟩, trivial, trivial⟩⟩⟩, ⟨⟨Tryz.func114, by kernel_rfl, by kernel_rfl⟩, ⟨⟨Tryz.func178, by kernel_rfl, by kernel_rfl⟩, ⟨⟨Tryz.func306, by kernel_rfl, by kernel_rfl⟩, ⟨⟨Tryz.func562, by kernel_rfl, by kernel_rfl⟩, trivial, trivial⟩, trivial⟩, ⟨⟨Tryz.func434, by kernel_rfl, by kernel_rfl⟩, trivial, trivial⟩⟩, ⟨⟨Tryz.func242, by kernel_rfl, by kernel_rfl⟩, trivial, ⟨⟨Tryz.func498, by kernel_rfl, by kernel_rfl⟩, trivial, trivial⟩⟩⟩⟩⟩, ⟨⟨Tryz.func26, by kernel_rfl, by kernel_rfl⟩, ⟨⟨Tryz.func42, by kernel_rfl, by kernel_rfl⟩, ⟨⟨Tryz.func74, by kernel_rfl, by kernel_rfl⟩, ⟨⟨Tryz.func138, by kernel_rfl, by kernel_rfl⟩, ⟨⟨Tryz.func266, by kernel_rfl, by kernel_rfl⟩, ⟨⟨Tryz.func522, by kernel_rfl, by kernel_rfl⟩, trivial, trivial⟩, trivial⟩, ⟨⟨Tryz.func394, by kernel_rfl, by kernel_rfl⟩, trivial, trivial⟩⟩, ⟨⟨Tryz.func202, by kernel_rfl, by kernel_rfl⟩, ⟨⟨Tryz.func330, by kernel_rfl, by kernel_rfl⟩, ⟨⟨Tryz.func586, by kernel_rfl, by kernel_rfl⟩, trivial, trivial⟩, trivial⟩, ⟨⟨Tryz.func458, by kernel_rfl, by kernel_rfl⟩, trivial, trivial⟩⟩⟩, ⟨⟨Tryz.func106, by kernel_rfl, by kernel_rfl⟩, ⟨⟨Tryz.func170, by kernel_rfl, by kernel_rfl⟩, ⟨⟨Tryz.func298, by kernel_rfl, by kernel_rfl⟩, ⟨⟨Tryz.func554, by kernel_rfl, by kernel_rfl⟩, trivial, trivial⟩, trivial⟩, ⟨⟨Tryz.func426, by kernel_rfl, by kernel_rfl⟩, trivial, trivial⟩⟩, ⟨⟨Tryz.func234, by kernel_rfl, by kernel_rfl⟩, ⟨⟨Tryz.func362, by kernel_rfl, by kernel_rfl⟩, trivial, trivial⟩, ⟨⟨Tryz.func490, by kernel_rfl, by kernel_rfl⟩, trivial, trivial⟩⟩⟩⟩, ⟨⟨Tryz.func58, by kernel_rfl, by kernel_rfl⟩, ⟨⟨Tryz.func90, by kernel_rfl, by kernel_rfl⟩, ⟨⟨Tryz.func154, by kernel_rfl, by kernel_rfl⟩, ⟨⟨Tryz.func282, by kernel_rfl, by kernel_rfl⟩, ⟨⟨Tryz.func538, by kernel_rfl, by kernel_rfl⟩, trivial, trivial⟩, trivial⟩, ⟨⟨Tryz.func410, by kernel_rfl, by kernel_rfl⟩, trivial, trivial⟩⟩, ⟨⟨Tryz.func218, by kernel_rfl, by kernel_rfl⟩, ⟨⟨Tryz.func346, by kernel_rfl, by kernel_rfl⟩, trivial, trivial⟩, ⟨⟨Tryz.func474, by kernel_rfl, by kernel_rfl⟩, trivial, trivial⟩⟩⟩, ⟨⟨Tryz.func122, by kernel_rfl, by kernel_rfl⟩, ⟨⟨Tryz.func186, by kernel_rfl, by kernel_rfl⟩, ⟨⟨Tryz.func314, by kernel_rfl, by kernel_rfl⟩, ⟨⟨Tryz.func570, by kernel_rfl, by kernel_rfl⟩, trivial, trivial⟩, trivial⟩, ⟨⟨Tryz.func442, by kernel_rfl, by kernel_rfl⟩, trivial, trivial⟩⟩, ⟨⟨Tryz.func250, by kernel_rfl, by kernel_rfl⟩, ⟨⟨Tryz.func378, by kernel_rfl, by kernel_rfl⟩, trivial, trivial⟩, ⟨⟨Tryz.func506, by kernel_rfl, by kernel_rfl⟩, trivial, trivial⟩⟩⟩⟩⟩⟩, ⟨⟨Tryz.func14, by kernel_rfl, by kernel_rfl⟩, ⟨⟨Tryz.func22, by kernel_rfl, by kernel_rfl⟩, ⟨⟨Tryz.func38, by kernel_rfl, by kernel_rfl⟩, ⟨⟨Tryz.func70, by kernel_rfl, by kernel_rfl⟩, ⟨⟨Tryz.func134, by kernel_rfl, by kernel_rfl⟩, ⟨⟨Tryz.func262, by kernel_rfl, by kernel_rfl⟩, ⟨⟨Tryz.func518, by kernel_rfl, by kernel_rfl⟩, trivial, trivial⟩, trivial⟩, ⟨⟨Tryz.func390, by kernel_rfl, by kernel_rfl⟩, trivial, trivial⟩⟩, ⟨⟨Tryz.func198, by kernel_rfl, by kernel_rfl⟩, ⟨⟨Tryz.func326, by kernel_rfl, by kernel_rfl⟩, ⟨⟨Tryz.func582, by kernel_rfl, by kernel_rfl⟩, trivial, trivial⟩, trivial⟩, ⟨⟨Tryz.func454, by kernel_rfl, by kernel_rfl⟩, trivial, trivial⟩⟩⟩, ⟨⟨Tryz.func102, by kernel_rfl, by kernel_rfl⟩, ⟨⟨Tryz.func166, by kernel_rfl, by kernel_rfl⟩, ⟨⟨Tryz.func294, by kernel_rfl, by kernel_rfl⟩, ⟨⟨Tryz.func550, by kernel_rfl, by kernel_rfl⟩, trivial, trivial⟩, trivial⟩, ⟨⟨Tryz.func422, by kernel_rfl, by kernel_rfl⟩, trivial, trivial⟩⟩, ⟨⟨Tryz.func230, by kernel_rfl, by kernel_rfl⟩, ⟨⟨Tryz.func358, by kernel_rfl, by kernel_rfl⟩, ⟨⟨Tryz.func614, by kernel_rfl, by kernel_rfl⟩, trivial, trivial⟩, trivial⟩, ⟨⟨Tryz.func486, by kernel_rfl, by kernel_rfl⟩, trivial, trivial⟩⟩⟩⟩, ⟨⟨Tryz.func54, by kernel_rfl, by kernel_rfl⟩, ⟨⟨Tryz.func86, by kernel_rfl, by kernel_rfl⟩, ⟨⟨Tryz.func150, by kernel_rfl, by kernel_rfl⟩, ⟨⟨Tryz.func278, by kernel_rfl, by kernel_rfl⟩, ⟨⟨Tryz.func534, by kernel_rfl, by kernel_rfl⟩, trivial, trivial⟩, trivial⟩, ⟨⟨Tryz.func406, by kernel_rfl, by kernel_rfl⟩, trivial, trivial⟩⟩, ⟨⟨Tryz.func214, by kernel_rfl, by kernel_rfl⟩, ⟨⟨Tryz.func342, by kernel_rfl, by kernel_rfl⟩, trivial, trivial⟩, ⟨⟨Tryz.func470, by kernel_rfl, by kernel_rfl⟩, trivial, trivial⟩⟩⟩, ⟨⟨Tryz.func118, by kernel_rfl, by kernel_rfl⟩, ⟨⟨Tryz.func182, by kernel_rfl, by kernel_rfl⟩, ⟨⟨Tryz.func310, by kernel_rfl, by kernel_rfl⟩, ⟨⟨Tryz.func566, by kernel_rfl, by kernel_rfl⟩, trivial, trivial⟩, trivial⟩, ⟨⟨Tryz.func438, by kernel_rfl, by kernel_rfl⟩, trivial, trivial⟩⟩, ⟨⟨Tryz.func246, by kernel_rfl, by kernel_rfl⟩, ⟨⟨Tryz.func374, by kernel_rfl, by kernel_rfl⟩, trivial, trivial⟩, ⟨⟨Tryz.func502, by kernel_rfl, by kernel_rfl⟩, trivial, trivial⟩⟩⟩⟩⟩, ⟨⟨Tryz.func30, by kernel_rfl, by kernel_rfl⟩, ⟨⟨Tryz.func46, by kernel_rfl, by kernel_rfl⟩, ⟨⟨Tryz.func78, by kernel_rfl, by kernel_rfl⟩, ⟨⟨Tryz.func142, by kernel_rfl, by kernel_rfl⟩, ⟨⟨Tryz.func270, by kernel_rfl, by kernel_rfl⟩, ⟨⟨Tryz.func526, by kernel_rfl, by kernel_rfl⟩, trivial, trivial⟩, trivial⟩, ⟨⟨Tryz.func398, by kernel_rfl, by kernel_rfl⟩, trivial, trivial⟩⟩, ⟨⟨Tryz.func206, by kernel_rfl, by kernel_rfl⟩, ⟨⟨Tryz.func334, by kernel_rfl, by kernel_rfl⟩, ⟨⟨Tryz.func590, by kernel_rfl, by kernel_rfl⟩, trivial, trivial⟩, trivial⟩, ⟨⟨Tryz.func462, by kernel_rfl, by kernel_rfl⟩, trivial, trivial⟩⟩⟩, ⟨⟨Tryz.func110, by kernel_rfl, by kernel_rfl⟩, ⟨⟨Tryz.func174, by kernel_rfl, by kernel_rfl⟩, ⟨⟨Tryz.func302, by kernel_rfl, by kernel_rfl⟩, ⟨⟨Tryz.func558, by kernel_rfl, by kernel_rfl⟩, trivial, trivial⟩, trivial⟩, ⟨⟨Tryz.func430, by kernel_rfl, by kernel_rfl⟩, trivial, trivial⟩⟩, ⟨⟨Tryz.func238, by kernel_rfl, by kernel_rfl⟩, ⟨⟨Tryz.func366, by kernel_rfl, by kernel_rfl⟩, trivial, trivial⟩, ⟨⟨Tryz.func494, by kernel_rfl, by kernel_rfl⟩, trivial, trivial⟩⟩⟩⟩, ⟨⟨Tryz.func62, by kernel_rfl, by kernel_rfl⟩, ⟨⟨Tryz.func94, by kernel_rfl, by kernel_rfl⟩, ⟨⟨Tryz.func158, by kernel_rfl, by kernel_rfl⟩, ⟨⟨Tryz.func286, by kernel_rfl, by kernel_rfl⟩, ⟨⟨Tryz.func542, by kernel_rfl, by kernel_rfl⟩, trivial, trivial⟩, trivial⟩, ⟨⟨Tryz.func414, by kernel_rfl, by kernel_rfl⟩, trivial, trivial⟩⟩, ⟨⟨Tryz.func222, by kernel_rfl, by kernel_rfl⟩, ⟨⟨Tryz.func350, by kernel_rfl, by kernel_rfl⟩, trivial, trivial⟩, ⟨⟨Tryz.func478, by kernel_rfl, by kernel_rfl⟩, trivial, trivial⟩⟩⟩, ⟨⟨Tryz.func126, by kernel_rfl, by kernel_rfl⟩, ⟨⟨Tryz.func190, by kernel_rfl, by kernel_rfl⟩, ⟨⟨Tryz.func318, by kernel_rfl, by kernel_rfl⟩, ⟨⟨Tryz.func574, by kernel_rfl, by kernel_rfl⟩, trivial, trivial⟩, trivial⟩, ⟨⟨Tryz.func446, by kernel_rfl, by kernel_rfl⟩, trivial, trivial⟩⟩, ⟨⟨Tryz.func254, by kernel_rfl, by kernel_rfl⟩, ⟨⟨Tryz.func382, by kernel_rfl, by kernel_rfl⟩, trivial, trivial⟩, ⟨⟨Tryz.func510, by kernel_rfl, by kernel_rfl⟩, trivial, trivial⟩⟩⟩⟩⟩⟩⟩⟩⟩
end Go.Proofs
