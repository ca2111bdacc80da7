/- The tables of the load: its functions, its types. -/
import Derived.Test.YtndhfcdmgjkmjaaGreatProg
import Derived.Test.YtndhfcdmgjkmjaaGreatEe
namespace Go.Proofs
open Go.Ex
noncomputable def Tryz.ty0 : Ty := ⟨Tryz.t0.desc, 1, 0, false, Tryz.t0.zero, [], true, Tryz.t0.methods⟩
theorem Tryz.ty0_ok : tyOf Tryz.prog 0 = some Tryz.ty0 := by kernel_rfl
noncomputable def Tryz.ty1 : Ty := ⟨Tryz.t1.desc, 1, 8, false, Tryz.t1.zero, [], true, Tryz.t1.methods⟩
theorem Tryz.ty1_ok : tyOf Tryz.prog 1 = some Tryz.ty1 := by kernel_rfl
noncomputable def Tryz.ty2 : Ty := ⟨Tryz.t2.desc, 1, 8, false, Tryz.t2.zero, [], true, Tryz.t2.methods⟩
theorem Tryz.ty2_ok : tyOf Tryz.prog 2 = some Tryz.ty2 := by kernel_rfl
noncomputable def Tryz.ty3 : Ty := ⟨Tryz.t3.desc, 1, 8, false, Tryz.t3.zero, [], true, Tryz.t3.methods⟩
theorem Tryz.ty3_ok : tyOf Tryz.prog 3 = some Tryz.ty3 := by kernel_rfl
noncomputable def Tryz.ty4 : Ty := ⟨Tryz.t4.desc, 1, 1, false, Tryz.t4.zero, [], true, Tryz.t4.methods⟩
theorem Tryz.ty4_ok : tyOf Tryz.prog 4 = some Tryz.ty4 := by kernel_rfl
noncomputable def Tryz.ty5 : Ty := ⟨Tryz.t5.desc, 1, 1, false, Tryz.t5.zero, [], true, Tryz.t5.methods⟩
theorem Tryz.ty5_ok : tyOf Tryz.prog 5 = some Tryz.ty5 := by kernel_rfl
noncomputable def Tryz.ty6 : Ty := ⟨Tryz.t5.desc, 1, 1, false, Tryz.t6.zero, [], true, Tryz.t6.methods⟩
theorem Tryz.ty6_ok : tyOf Tryz.prog 6 = some Tryz.ty6 := by kernel_rfl
noncomputable def Tryz.ty7 : Ty := ⟨Tryz.t7.desc, 4, 24, true, Tryz.t7.zero, [(0, 1), (1, 1), (2, 1), (3, 1)], true, Tryz.t7.methods⟩
theorem Tryz.ty7_ok : tyOf Tryz.prog 7 = some Tryz.ty7 := by kernel_rfl
noncomputable def Tryz.ty8 : Ty := ⟨Tryz.t7.desc, 4, 24, true, Tryz.t8.zero, [(0, 1), (1, 1), (2, 1), (3, 1)], true, Tryz.t8.methods⟩
theorem Tryz.ty8_ok : tyOf Tryz.prog 8 = some Tryz.ty8 := by kernel_rfl
noncomputable def Tryz.ty9 : Ty := ⟨Tryz.t9.desc, 1, 16, false, Tryz.t9.zero, [], true, Tryz.t9.methods⟩
theorem Tryz.ty9_ok : tyOf Tryz.prog 9 = some Tryz.ty9 := by kernel_rfl
noncomputable def Tryz.ty10 : Ty := ⟨Tryz.t9.desc, 1, 16, false, Tryz.t10.zero, [], true, Tryz.t10.methods⟩
theorem Tryz.ty10_ok : tyOf Tryz.prog 10 = some Tryz.ty10 := by kernel_rfl
noncomputable def Tryz.ty11 : Ty := ⟨Tryz.t9.desc, 1, 16, false, Tryz.t11.zero, [], true, Tryz.t11.methods⟩
theorem Tryz.ty11_ok : tyOf Tryz.prog 11 = some Tryz.ty11 := by kernel_rfl
noncomputable def Tryz.ty12 : Ty := ⟨Tryz.t12.desc, 1, 8, false, Tryz.t12.zero, [], true, Tryz.t12.methods⟩
theorem Tryz.ty12_ok : tyOf Tryz.prog 12 = some Tryz.ty12 := by kernel_rfl
noncomputable def Tryz.ty13 : Ty := ⟨Tryz.t13.desc, 2, 24, true, Tryz.t13.zero, [(0, 1), (1, 1)], false, Tryz.t13.methods⟩
theorem Tryz.ty13_ok : tyOf Tryz.prog 13 = some Tryz.ty13 := by kernel_rfl
noncomputable def Tryz.ty14 : Ty := ⟨Tryz.t13.desc, 2, 24, true, Tryz.t14.zero, [(0, 1), (1, 1)], false, Tryz.t14.methods⟩
theorem Tryz.ty14_ok : tyOf Tryz.prog 14 = some Tryz.ty14 := by kernel_rfl
noncomputable def Tryz.ty15 : Ty := ⟨Tryz.t15.desc, 1, 8, false, Tryz.t15.zero, [], true, Tryz.t15.methods⟩
theorem Tryz.ty15_ok : tyOf Tryz.prog 15 = some Tryz.ty15 := by kernel_rfl
noncomputable def Tryz.ty16 : Ty := ⟨Tryz.t16.desc, 1, 8, false, Tryz.t16.zero, [], true, Tryz.t16.methods⟩
theorem Tryz.ty16_ok : tyOf Tryz.prog 16 = some Tryz.ty16 := by kernel_rfl
noncomputable def Tryz.ty17 : Ty := ⟨Tryz.t17.desc, 1, 8, false, Tryz.t17.zero, [], true, Tryz.t17.methods⟩
theorem Tryz.ty17_ok : tyOf Tryz.prog 17 = some Tryz.ty17 := by kernel_rfl
noncomputable def Tryz.ty18 : Ty := ⟨Tryz.t18.desc, 1, 8, true, Tryz.t18.zero, [(0, 1)], false, Tryz.t18.methods⟩
theorem Tryz.ty18_ok : tyOf Tryz.prog 18 = some Tryz.ty18 := by kernel_rfl
noncomputable def Tryz.ty19 : Ty := ⟨Tryz.t18.desc, 1, 8, true, Tryz.t19.zero, [(0, 1)], false, Tryz.t19.methods⟩
theorem Tryz.ty19_ok : tyOf Tryz.prog 19 = some Tryz.ty19 := by kernel_rfl
noncomputable def Tryz.ty20 : Ty := ⟨Tryz.t20.desc, 1, 16, false, Tryz.t20.zero, [], true, Tryz.t20.methods⟩
theorem Tryz.ty20_ok : tyOf Tryz.prog 20 = some Tryz.ty20 := by kernel_rfl
noncomputable def Tryz.ty21 : Ty := ⟨Tryz.t21.desc, 1, 4, false, Tryz.t21.zero, [], true, Tryz.t21.methods⟩
theorem Tryz.ty21_ok : tyOf Tryz.prog 21 = some Tryz.ty21 := by kernel_rfl
noncomputable def Tryz.ty22 : Ty := ⟨Tryz.t22.desc, 3, 24, true, Tryz.t22.zero, [], true, Tryz.t22.methods⟩
theorem Tryz.ty22_ok : tyOf Tryz.prog 22 = some Tryz.ty22 := by kernel_rfl
noncomputable def Tryz.ty23 : Ty := ⟨Tryz.t23.desc, 1, 8, false, Tryz.t23.zero, [], true, Tryz.t23.methods⟩
theorem Tryz.ty23_ok : tyOf Tryz.prog 23 = some Tryz.ty23 := by kernel_rfl
noncomputable def Tryz.ty24 : Ty := ⟨Tryz.t24.desc, 1, 8, false, Tryz.t24.zero, [], true, Tryz.t24.methods⟩
theorem Tryz.ty24_ok : tyOf Tryz.prog 24 = some Tryz.ty24 := by kernel_rfl
noncomputable def Tryz.ty25 : Ty := ⟨Tryz.t3.desc, 1, 8, false, Tryz.t25.zero, [], true, Tryz.t25.methods⟩
theorem Tryz.ty25_ok : tyOf Tryz.prog 25 = some Tryz.ty25 := by kernel_rfl
noncomputable def Tryz.ty26 : Ty := ⟨Tryz.t26.desc, 1, 0, false, Tryz.t26.zero, [], true, Tryz.t26.methods⟩
theorem Tryz.ty26_ok : tyOf Tryz.prog 26 = some Tryz.ty26 := by kernel_rfl
noncomputable def Tryz.ty27 : Ty := ⟨Tryz.t27.desc, 1, 8, false, Tryz.t27.zero, [], true, Tryz.t27.methods⟩
theorem Tryz.ty27_ok : tyOf Tryz.prog 27 = some Tryz.ty27 := by kernel_rfl
noncomputable def Tryz.ty28 : Ty := ⟨Tryz.t28.desc, 1, 0, false, Tryz.t28.zero, [], true, Tryz.t28.methods⟩
theorem Tryz.ty28_ok : tyOf Tryz.prog 28 = some Tryz.ty28 := by kernel_rfl
noncomputable def Tryz.ty29 : Ty := ⟨Tryz.t29.desc, 1, 8, false, Tryz.t29.zero, [], true, Tryz.t29.methods⟩
theorem Tryz.ty29_ok : tyOf Tryz.prog 29 = some Tryz.ty29 := by kernel_rfl
noncomputable def Tryz.ty30 : Ty := ⟨Tryz.t30.desc, 1, 8, false, Tryz.t30.zero, [], true, Tryz.t30.methods⟩
theorem Tryz.ty30_ok : tyOf Tryz.prog 30 = some Tryz.ty30 := by kernel_rfl
noncomputable def Tryz.ty31 : Ty := ⟨Tryz.t31.desc, 1, 8, false, Tryz.t31.zero, [], true, Tryz.t31.methods⟩
theorem Tryz.ty31_ok : tyOf Tryz.prog 31 = some Tryz.ty31 := by kernel_rfl
noncomputable def Tryz.ty32 : Ty := ⟨Tryz.t32.desc, 1, 0, false, Tryz.t32.zero, [], true, Tryz.t32.methods⟩
theorem Tryz.ty32_ok : tyOf Tryz.prog 32 = some Tryz.ty32 := by kernel_rfl
noncomputable def Tryz.ty33 : Ty := ⟨Tryz.t33.desc, 1, 8, false, Tryz.t33.zero, [], true, Tryz.t33.methods⟩
theorem Tryz.ty33_ok : tyOf Tryz.prog 33 = some Tryz.ty33 := by kernel_rfl
noncomputable def Tryz.ty34 : Ty := ⟨Tryz.t34.desc, 1, 8, false, Tryz.t34.zero, [], true, Tryz.t34.methods⟩
theorem Tryz.ty34_ok : tyOf Tryz.prog 34 = some Tryz.ty34 := by kernel_rfl
noncomputable def Tryz.ty35 : Ty := ⟨Tryz.t35.desc, 1, 8, false, Tryz.t35.zero, [], true, Tryz.t35.methods⟩
theorem Tryz.ty35_ok : tyOf Tryz.prog 35 = some Tryz.ty35 := by kernel_rfl
noncomputable def Tryz.ty36 : Ty := ⟨Tryz.t36.desc, 1, 8, false, Tryz.t36.zero, [], true, Tryz.t36.methods⟩
theorem Tryz.ty36_ok : tyOf Tryz.prog 36 = some Tryz.ty36 := by kernel_rfl
noncomputable def Tryz.ty37 : Ty := ⟨Tryz.t37.desc, 1, 24, false, Tryz.t37.zero, [], true, Tryz.t37.methods⟩
theorem Tryz.ty37_ok : tyOf Tryz.prog 37 = some Tryz.ty37 := by kernel_rfl
noncomputable def Tryz.ty38 : Ty := ⟨Tryz.t38.desc, 1, 0, false, Tryz.t38.zero, [], true, Tryz.t38.methods⟩
theorem Tryz.ty38_ok : tyOf Tryz.prog 38 = some Tryz.ty38 := by kernel_rfl
noncomputable def Tryz.ty39 : Ty := ⟨Tryz.t39.desc, 1, 8, false, Tryz.t39.zero, [], true, Tryz.t39.methods⟩
theorem Tryz.ty39_ok : tyOf Tryz.prog 39 = some Tryz.ty39 := by kernel_rfl
noncomputable def Tryz.ty40 : Ty := ⟨Tryz.t40.desc, 1, 0, false, Tryz.t40.zero, [], true, Tryz.t40.methods⟩
theorem Tryz.ty40_ok : tyOf Tryz.prog 40 = some Tryz.ty40 := by kernel_rfl
noncomputable def Tryz.ty41 : Ty := ⟨Tryz.t41.desc, 1, 8, false, Tryz.t41.zero, [], true, Tryz.t41.methods⟩
theorem Tryz.ty41_ok : tyOf Tryz.prog 41 = some Tryz.ty41 := by kernel_rfl
noncomputable def Tryz.ty42 : Ty := ⟨Tryz.t42.desc, 1, 8, false, Tryz.t42.zero, [], true, Tryz.t42.methods⟩
theorem Tryz.ty42_ok : tyOf Tryz.prog 42 = some Tryz.ty42 := by kernel_rfl
noncomputable def Tryz.ty43 : Ty := ⟨Tryz.t43.desc, 1, 8, false, Tryz.t43.zero, [], true, Tryz.t43.methods⟩
theorem Tryz.ty43_ok : tyOf Tryz.prog 43 = some Tryz.ty43 := by kernel_rfl
noncomputable def Tryz.ty44 : Ty := ⟨Tryz.t44.desc, 2, 24, true, Tryz.t44.zero, [(0, 1), (1, 1)], true, Tryz.t44.methods⟩
theorem Tryz.ty44_ok : tyOf Tryz.prog 44 = some Tryz.ty44 := by kernel_rfl
noncomputable def Tryz.ty45 : Ty := ⟨Tryz.t44.desc, 2, 24, true, Tryz.t45.zero, [(0, 1), (1, 1)], true, Tryz.t45.methods⟩
theorem Tryz.ty45_ok : tyOf Tryz.prog 45 = some Tryz.ty45 := by kernel_rfl
noncomputable def Tryz.ty46 : Ty := ⟨Tryz.t46.desc, 1, 8, false, Tryz.t46.zero, [], true, Tryz.t46.methods⟩
theorem Tryz.ty46_ok : tyOf Tryz.prog 46 = some Tryz.ty46 := by kernel_rfl
noncomputable def Tryz.ty47 : Ty := ⟨Tryz.t47.desc, 1, 8, false, Tryz.t47.zero, [], true, Tryz.t47.methods⟩
theorem Tryz.ty47_ok : tyOf Tryz.prog 47 = some Tryz.ty47 := by kernel_rfl
noncomputable def Tryz.ty48 : Ty := ⟨Tryz.t48.desc, 1, 8, false, Tryz.t48.zero, [], true, Tryz.t48.methods⟩
theorem Tryz.ty48_ok : tyOf Tryz.prog 48 = some Tryz.ty48 := by kernel_rfl
noncomputable def Tryz.ty49 : Ty := ⟨Tryz.t49.desc, 9, 72, true, Tryz.t49.zero, [(0, 1), (1, 1), (2, 1), (3, 1), (4, 1), (5, 1), (6, 1), (7, 1), (8, 1)], true, Tryz.t49.methods⟩
theorem Tryz.ty49_ok : tyOf Tryz.prog 49 = some Tryz.ty49 := by kernel_rfl
noncomputable def Tryz.ty50 : Ty := ⟨Tryz.t49.desc, 9, 72, true, Tryz.t50.zero, [(0, 1), (1, 1), (2, 1), (3, 1), (4, 1), (5, 1), (6, 1), (7, 1), (8, 1)], true, Tryz.t50.methods⟩
theorem Tryz.ty50_ok : tyOf Tryz.prog 50 = some Tryz.ty50 := by kernel_rfl
noncomputable def Tryz.ty51 : Ty := ⟨Tryz.t51.desc, 1, 8, false, Tryz.t51.zero, [], true, Tryz.t51.methods⟩
theorem Tryz.ty51_ok : tyOf Tryz.prog 51 = some Tryz.ty51 := by kernel_rfl
noncomputable def Tryz.ty52 : Ty := ⟨Tryz.t52.desc, 1, 8, false, Tryz.t52.zero, [], true, Tryz.t52.methods⟩
theorem Tryz.ty52_ok : tyOf Tryz.prog 52 = some Tryz.ty52 := by kernel_rfl
noncomputable def Tryz.ty53 : Ty := ⟨Tryz.t53.desc, 1, 8, false, Tryz.t53.zero, [], true, Tryz.t53.methods⟩
theorem Tryz.ty53_ok : tyOf Tryz.prog 53 = some Tryz.ty53 := by kernel_rfl
noncomputable def Tryz.ty54 : Ty := ⟨Tryz.t54.desc, 1, 8, false, Tryz.t54.zero, [], true, Tryz.t54.methods⟩
theorem Tryz.ty54_ok : tyOf Tryz.prog 54 = some Tryz.ty54 := by kernel_rfl
noncomputable def Tryz.ty55 : Ty := ⟨Tryz.t55.desc, 3, 24, true, Tryz.t55.zero, [(0, 1), (1, 1), (2, 1)], true, Tryz.t55.methods⟩
theorem Tryz.ty55_ok : tyOf Tryz.prog 55 = some Tryz.ty55 := by kernel_rfl
noncomputable def Tryz.ty56 : Ty := ⟨Tryz.t55.desc, 3, 24, true, Tryz.t56.zero, [(0, 1), (1, 1), (2, 1)], true, Tryz.t56.methods⟩
theorem Tryz.ty56_ok : tyOf Tryz.prog 56 = some Tryz.ty56 := by kernel_rfl
noncomputable def Tryz.ty57 : Ty := ⟨Tryz.t57.desc, 1, 8, false, Tryz.t57.zero, [], true, Tryz.t57.methods⟩
theorem Tryz.ty57_ok : tyOf Tryz.prog 57 = some Tryz.ty57 := by kernel_rfl
noncomputable def Tryz.ty58 : Ty := ⟨Tryz.t58.desc, 17, 136, true, Tryz.t58.zero, [(0, 1), (1, 9), (10, 1), (11, 1), (12, 3), (15, 1), (16, 1)], true, Tryz.t58.methods⟩
theorem Tryz.ty58_ok : tyOf Tryz.prog 58 = some Tryz.ty58 := by kernel_rfl
noncomputable def Tryz.ty59 : Ty := ⟨Tryz.t58.desc, 17, 136, true, Tryz.t59.zero, [(0, 1), (1, 9), (10, 1), (11, 1), (12, 3), (15, 1), (16, 1)], true, Tryz.t59.methods⟩
theorem Tryz.ty59_ok : tyOf Tryz.prog 59 = some Tryz.ty59 := by kernel_rfl
noncomputable def Tryz.ty60 : Ty := ⟨Tryz.t60.desc, 1, 24, false, Tryz.t60.zero, [], true, Tryz.t60.methods⟩
theorem Tryz.ty60_ok : tyOf Tryz.prog 60 = some Tryz.ty60 := by kernel_rfl
noncomputable def Tryz.ty61 : Ty := ⟨Tryz.t61.desc, 1, 0, false, Tryz.t61.zero, [], true, Tryz.t61.methods⟩
theorem Tryz.ty61_ok : tyOf Tryz.prog 61 = some Tryz.ty61 := by kernel_rfl
noncomputable def Tryz.ty62 : Ty := ⟨Tryz.t62.desc, 1, 8, false, Tryz.t62.zero, [], true, Tryz.t62.methods⟩
theorem Tryz.ty62_ok : tyOf Tryz.prog 62 = some Tryz.ty62 := by kernel_rfl
noncomputable def Tryz.ty63 : Ty := ⟨Tryz.t63.desc, 1, 24, false, Tryz.t63.zero, [], true, Tryz.t63.methods⟩
theorem Tryz.ty63_ok : tyOf Tryz.prog 63 = some Tryz.ty63 := by kernel_rfl
noncomputable def Tryz.ty64 : Ty := ⟨Tryz.t64.desc, 1, 0, false, Tryz.t64.zero, [], true, Tryz.t64.methods⟩
theorem Tryz.ty64_ok : tyOf Tryz.prog 64 = some Tryz.ty64 := by kernel_rfl
noncomputable def Tryz.ty65 : Ty := ⟨Tryz.t65.desc, 1, 8, false, Tryz.t65.zero, [], true, Tryz.t65.methods⟩
theorem Tryz.ty65_ok : tyOf Tryz.prog 65 = some Tryz.ty65 := by kernel_rfl
noncomputable def Tryz.ty66 : Ty := ⟨Tryz.t66.desc, 1, 0, false, Tryz.t66.zero, [], true, Tryz.t66.methods⟩
theorem Tryz.ty66_ok : tyOf Tryz.prog 66 = some Tryz.ty66 := by kernel_rfl
noncomputable def Tryz.ty67 : Ty := ⟨Tryz.t67.desc, 1, 8, false, Tryz.t67.zero, [], true, Tryz.t67.methods⟩
theorem Tryz.ty67_ok : tyOf Tryz.prog 67 = some Tryz.ty67 := by kernel_rfl
noncomputable def Tryz.ty68 : Ty := ⟨Tryz.t68.desc, 1, 8, false, Tryz.t68.zero, [], true, Tryz.t68.methods⟩
theorem Tryz.ty68_ok : tyOf Tryz.prog 68 = some Tryz.ty68 := by kernel_rfl
noncomputable def Tryz.ty69 : Ty := ⟨Tryz.t69.desc, 1, 24, false, Tryz.t69.zero, [], true, Tryz.t69.methods⟩
theorem Tryz.ty69_ok : tyOf Tryz.prog 69 = some Tryz.ty69 := by kernel_rfl
noncomputable def Tryz.ty70 : Ty := ⟨Tryz.t70.desc, 6, 64, true, Tryz.t70.zero, [(0, 1), (1, 1), (2, 1), (3, 1), (4, 1), (5, 1)], true, Tryz.t70.methods⟩
theorem Tryz.ty70_ok : tyOf Tryz.prog 70 = some Tryz.ty70 := by kernel_rfl
noncomputable def Tryz.ty71 : Ty := ⟨Tryz.t70.desc, 6, 64, true, Tryz.t71.zero, [(0, 1), (1, 1), (2, 1), (3, 1), (4, 1), (5, 1)], true, Tryz.t71.methods⟩
theorem Tryz.ty71_ok : tyOf Tryz.prog 71 = some Tryz.ty71 := by kernel_rfl
noncomputable def Tryz.ty72 : Ty := ⟨Tryz.t72.desc, 1, 0, false, Tryz.t72.zero, [], true, Tryz.t72.methods⟩
theorem Tryz.ty72_ok : tyOf Tryz.prog 72 = some Tryz.ty72 := by kernel_rfl
noncomputable def Tryz.ty73 : Ty := ⟨Tryz.t73.desc, 1, 8, false, Tryz.t73.zero, [], true, Tryz.t73.methods⟩
theorem Tryz.ty73_ok : tyOf Tryz.prog 73 = some Tryz.ty73 := by kernel_rfl
noncomputable def Tryz.ty74 : Ty := ⟨Tryz.t74.desc, 1, 24, false, Tryz.t74.zero, [], true, Tryz.t74.methods⟩
theorem Tryz.ty74_ok : tyOf Tryz.prog 74 = some Tryz.ty74 := by kernel_rfl
noncomputable def Tryz.ty75 : Ty := ⟨Tryz.t75.desc, 1, 0, false, Tryz.t75.zero, [], true, Tryz.t75.methods⟩
theorem Tryz.ty75_ok : tyOf Tryz.prog 75 = some Tryz.ty75 := by kernel_rfl
noncomputable def Tryz.ty76 : Ty := ⟨Tryz.t76.desc, 1, 8, false, Tryz.t76.zero, [], true, Tryz.t76.methods⟩
theorem Tryz.ty76_ok : tyOf Tryz.prog 76 = some Tryz.ty76 := by kernel_rfl
noncomputable def Tryz.ty77 : Ty := ⟨Tryz.t77.desc, 1, 8, false, Tryz.t77.zero, [], true, Tryz.t77.methods⟩
theorem Tryz.ty77_ok : tyOf Tryz.prog 77 = some Tryz.ty77 := by kernel_rfl
noncomputable def Tryz.ty78 : Ty := ⟨Tryz.t78.desc, 1, 24, false, Tryz.t78.zero, [], true, Tryz.t78.methods⟩
theorem Tryz.ty78_ok : tyOf Tryz.prog 78 = some Tryz.ty78 := by kernel_rfl
noncomputable def Tryz.ty79 : Ty := ⟨Tryz.t79.desc, 2, 32, true, Tryz.t79.zero, [(0, 1), (1, 1)], true, Tryz.t79.methods⟩
theorem Tryz.ty79_ok : tyOf Tryz.prog 79 = some Tryz.ty79 := by kernel_rfl
noncomputable def Tryz.ty80 : Ty := ⟨Tryz.t79.desc, 2, 32, true, Tryz.t80.zero, [(0, 1), (1, 1)], true, Tryz.t80.methods⟩
theorem Tryz.ty80_ok : tyOf Tryz.prog 80 = some Tryz.ty80 := by kernel_rfl
noncomputable def Tryz.ty81 : Ty := ⟨Tryz.t81.desc, 1, 8, false, Tryz.t81.zero, [], true, Tryz.t81.methods⟩
theorem Tryz.ty81_ok : tyOf Tryz.prog 81 = some Tryz.ty81 := by kernel_rfl
noncomputable def Tryz.ty82 : Ty := ⟨Tryz.t82.desc, 1, 16, false, Tryz.t82.zero, [], false, Tryz.t82.methods⟩
theorem Tryz.ty82_ok : tyOf Tryz.prog 82 = some Tryz.ty82 := by kernel_rfl
noncomputable def Tryz.ty83 : Ty := ⟨Tryz.t82.desc, 1, 16, false, Tryz.t83.zero, [], false, Tryz.t83.methods⟩
theorem Tryz.ty83_ok : tyOf Tryz.prog 83 = some Tryz.ty83 := by kernel_rfl
noncomputable def Tryz.ty84 : Ty := ⟨Tryz.t84.desc, 1, 0, false, Tryz.t84.zero, [], true, Tryz.t84.methods⟩
theorem Tryz.ty84_ok : tyOf Tryz.prog 84 = some Tryz.ty84 := by kernel_rfl
noncomputable def Tryz.ty85 : Ty := ⟨Tryz.t85.desc, 1, 8, false, Tryz.t85.zero, [], true, Tryz.t85.methods⟩
theorem Tryz.ty85_ok : tyOf Tryz.prog 85 = some Tryz.ty85 := by kernel_rfl
noncomputable def Tryz.ty86 : Ty := ⟨Tryz.t86.desc, 1, 8, false, Tryz.t86.zero, [], true, Tryz.t86.methods⟩
theorem Tryz.ty86_ok : tyOf Tryz.prog 86 = some Tryz.ty86 := by kernel_rfl
noncomputable def Tryz.ty87 : Ty := ⟨Tryz.t87.desc, 1, 8, false, Tryz.t87.zero, [], true, Tryz.t87.methods⟩
theorem Tryz.ty87_ok : tyOf Tryz.prog 87 = some Tryz.ty87 := by kernel_rfl
noncomputable def Tryz.ty88 : Ty := ⟨Tryz.t88.desc, 2, 16, true, Tryz.t88.zero, [(0, 1), (1, 1)], true, Tryz.t88.methods⟩
theorem Tryz.ty88_ok : tyOf Tryz.prog 88 = some Tryz.ty88 := by kernel_rfl
noncomputable def Tryz.ty89 : Ty := ⟨Tryz.t88.desc, 2, 16, true, Tryz.t89.zero, [(0, 1), (1, 1)], true, Tryz.t89.methods⟩
theorem Tryz.ty89_ok : tyOf Tryz.prog 89 = some Tryz.ty89 := by kernel_rfl
noncomputable def Tryz.ty90 : Ty := ⟨Tryz.t90.desc, 1, 8, false, Tryz.t90.zero, [], true, Tryz.t90.methods⟩
theorem Tryz.ty90_ok : tyOf Tryz.prog 90 = some Tryz.ty90 := by kernel_rfl
noncomputable def Tryz.ty91 : Ty := ⟨Tryz.t91.desc, 1, 8, false, Tryz.t91.zero, [], true, Tryz.t91.methods⟩
theorem Tryz.ty91_ok : tyOf Tryz.prog 91 = some Tryz.ty91 := by kernel_rfl
noncomputable def Tryz.ty92 : Ty := ⟨Tryz.t92.desc, 1, 0, false, Tryz.t92.zero, [], true, Tryz.t92.methods⟩
theorem Tryz.ty92_ok : tyOf Tryz.prog 92 = some Tryz.ty92 := by kernel_rfl
noncomputable def Tryz.ty93 : Ty := ⟨Tryz.t93.desc, 1, 8, false, Tryz.t93.zero, [], true, Tryz.t93.methods⟩
theorem Tryz.ty93_ok : tyOf Tryz.prog 93 = some Tryz.ty93 := by kernel_rfl
noncomputable def Tryz.ty94 : Ty := ⟨Tryz.t94.desc, 1, 8, false, Tryz.t94.zero, [], true, Tryz.t94.methods⟩
theorem Tryz.ty94_ok : tyOf Tryz.prog 94 = some Tryz.ty94 := by kernel_rfl
noncomputable def Tryz.ty95 : Ty := ⟨Tryz.t95.desc, 1, 8, false, Tryz.t95.zero, [], true, Tryz.t95.methods⟩
theorem Tryz.ty95_ok : tyOf Tryz.prog 95 = some Tryz.ty95 := by kernel_rfl
noncomputable def Tryz.ty96 : Ty := ⟨Tryz.t96.desc, 1, 8, false, Tryz.t96.zero, [], true, Tryz.t96.methods⟩
theorem Tryz.ty96_ok : tyOf Tryz.prog 96 = some Tryz.ty96 := by kernel_rfl
noncomputable def Tryz.ty97 : Ty := ⟨Tryz.t97.desc, 1, 0, false, Tryz.t97.zero, [], true, Tryz.t97.methods⟩
theorem Tryz.ty97_ok : tyOf Tryz.prog 97 = some Tryz.ty97 := by kernel_rfl
noncomputable def Tryz.ty98 : Ty := ⟨Tryz.t98.desc, 1, 8, false, Tryz.t98.zero, [], true, Tryz.t98.methods⟩
theorem Tryz.ty98_ok : tyOf Tryz.prog 98 = some Tryz.ty98 := by kernel_rfl
noncomputable def Tryz.ty99 : Ty := ⟨Tryz.t99.desc, 1, 8, false, Tryz.t99.zero, [], true, Tryz.t99.methods⟩
theorem Tryz.ty99_ok : tyOf Tryz.prog 99 = some Tryz.ty99 := by kernel_rfl
noncomputable def Tryz.ty100 : Ty := ⟨Tryz.t100.desc, 1, 8, false, Tryz.t100.zero, [], true, Tryz.t100.methods⟩
theorem Tryz.ty100_ok : tyOf Tryz.prog 100 = some Tryz.ty100 := by kernel_rfl
noncomputable def Tryz.ty101 : Ty := ⟨Tryz.t101.desc, 1, 8, false, Tryz.t101.zero, [], true, Tryz.t101.methods⟩
theorem Tryz.ty101_ok : tyOf Tryz.prog 101 = some Tryz.ty101 := by kernel_rfl
noncomputable def Tryz.ty102 : Ty := ⟨Tryz.t102.desc, 1, 8, false, Tryz.t102.zero, [], true, Tryz.t102.methods⟩
theorem Tryz.ty102_ok : tyOf Tryz.prog 102 = some Tryz.ty102 := by kernel_rfl
noncomputable def Tryz.ty103 : Ty := ⟨Tryz.t103.desc, 1, 0, false, Tryz.t103.zero, [], true, Tryz.t103.methods⟩
theorem Tryz.ty103_ok : tyOf Tryz.prog 103 = some Tryz.ty103 := by kernel_rfl
noncomputable def Tryz.ty104 : Ty := ⟨Tryz.t104.desc, 1, 8, false, Tryz.t104.zero, [], true, Tryz.t104.methods⟩
theorem Tryz.ty104_ok : tyOf Tryz.prog 104 = some Tryz.ty104 := by kernel_rfl
noncomputable def Tryz.ty105 : Ty := ⟨Tryz.t105.desc, 1, 8, false, Tryz.t105.zero, [], true, Tryz.t105.methods⟩
theorem Tryz.ty105_ok : tyOf Tryz.prog 105 = some Tryz.ty105 := by kernel_rfl
noncomputable def Tryz.ty106 : Ty := ⟨Tryz.t106.desc, 1, 8, false, Tryz.t106.zero, [], true, Tryz.t106.methods⟩
theorem Tryz.ty106_ok : tyOf Tryz.prog 106 = some Tryz.ty106 := by kernel_rfl
noncomputable def Tryz.ty107 : Ty := ⟨Tryz.t107.desc, 1, 8, false, Tryz.t107.zero, [], true, Tryz.t107.methods⟩
theorem Tryz.ty107_ok : tyOf Tryz.prog 107 = some Tryz.ty107 := by kernel_rfl
noncomputable def Tryz.ty108 : Ty := ⟨Tryz.t108.desc, 1, 8, false, Tryz.t108.zero, [], true, Tryz.t108.methods⟩
theorem Tryz.ty108_ok : tyOf Tryz.prog 108 = some Tryz.ty108 := by kernel_rfl
noncomputable def Tryz.ty109 : Ty := ⟨Tryz.t109.desc, 1, 8, false, Tryz.t109.zero, [], true, Tryz.t109.methods⟩
theorem Tryz.ty109_ok : tyOf Tryz.prog 109 = some Tryz.ty109 := by kernel_rfl
noncomputable def Tryz.ty110 : Ty := ⟨Tryz.t110.desc, 1, 8, false, Tryz.t110.zero, [], true, Tryz.t110.methods⟩
theorem Tryz.ty110_ok : tyOf Tryz.prog 110 = some Tryz.ty110 := by kernel_rfl
noncomputable def Tryz.ty111 : Ty := ⟨Tryz.t111.desc, 1, 24, false, Tryz.t111.zero, [], true, Tryz.t111.methods⟩
theorem Tryz.ty111_ok : tyOf Tryz.prog 111 = some Tryz.ty111 := by kernel_rfl
noncomputable def Tryz.ty112 : Ty := ⟨Tryz.t112.desc, 1, 0, false, Tryz.t112.zero, [], true, Tryz.t112.methods⟩
theorem Tryz.ty112_ok : tyOf Tryz.prog 112 = some Tryz.ty112 := by kernel_rfl
noncomputable def Tryz.ty113 : Ty := ⟨Tryz.t113.desc, 1, 8, false, Tryz.t113.zero, [], true, Tryz.t113.methods⟩
theorem Tryz.ty113_ok : tyOf Tryz.prog 113 = some Tryz.ty113 := by kernel_rfl
noncomputable def Tryz.ty114 : Ty := ⟨Tryz.t114.desc, 2, 24, true, Tryz.t114.zero, [(0, 1), (1, 1)], true, Tryz.t114.methods⟩
theorem Tryz.ty114_ok : tyOf Tryz.prog 114 = some Tryz.ty114 := by kernel_rfl
noncomputable def Tryz.ty115 : Ty := ⟨Tryz.t114.desc, 2, 24, true, Tryz.t115.zero, [(0, 1), (1, 1)], true, Tryz.t115.methods⟩
theorem Tryz.ty115_ok : tyOf Tryz.prog 115 = some Tryz.ty115 := by kernel_rfl
noncomputable def Tryz.ty116 : Ty := ⟨Tryz.t116.desc, 1, 0, false, Tryz.t116.zero, [], true, Tryz.t116.methods⟩
theorem Tryz.ty116_ok : tyOf Tryz.prog 116 = some Tryz.ty116 := by kernel_rfl
noncomputable def Tryz.ty117 : Ty := ⟨Tryz.t117.desc, 1, 8, false, Tryz.t117.zero, [], true, Tryz.t117.methods⟩
theorem Tryz.ty117_ok : tyOf Tryz.prog 117 = some Tryz.ty117 := by kernel_rfl
noncomputable def Tryz.ty118 : Ty := ⟨Tryz.t118.desc, 1, 8, false, Tryz.t118.zero, [], true, Tryz.t118.methods⟩
theorem Tryz.ty118_ok : tyOf Tryz.prog 118 = some Tryz.ty118 := by kernel_rfl
noncomputable def Tryz.ty119 : Ty := ⟨Tryz.t119.desc, 1, 8, false, Tryz.t119.zero, [], true, Tryz.t119.methods⟩
theorem Tryz.ty119_ok : tyOf Tryz.prog 119 = some Tryz.ty119 := by kernel_rfl
noncomputable def Tryz.ty120 : Ty := ⟨Tryz.t120.desc, 1, 0, false, Tryz.t120.zero, [], true, Tryz.t120.methods⟩
theorem Tryz.ty120_ok : tyOf Tryz.prog 120 = some Tryz.ty120 := by kernel_rfl
noncomputable def Tryz.ty121 : Ty := ⟨Tryz.t121.desc, 1, 8, false, Tryz.t121.zero, [], true, Tryz.t121.methods⟩
theorem Tryz.ty121_ok : tyOf Tryz.prog 121 = some Tryz.ty121 := by kernel_rfl
noncomputable def Tryz.ty122 : Ty := ⟨Tryz.t122.desc, 1, 8, false, Tryz.t122.zero, [], true, Tryz.t122.methods⟩
theorem Tryz.ty122_ok : tyOf Tryz.prog 122 = some Tryz.ty122 := by kernel_rfl
noncomputable def Tryz.ty123 : Ty := ⟨Tryz.t123.desc, 1, 8, false, Tryz.t123.zero, [], true, Tryz.t123.methods⟩
theorem Tryz.ty123_ok : tyOf Tryz.prog 123 = some Tryz.ty123 := by kernel_rfl
noncomputable def Tryz.ty124 : Ty := ⟨Tryz.t124.desc, 1, 8, false, Tryz.t124.zero, [], true, Tryz.t124.methods⟩
theorem Tryz.ty124_ok : tyOf Tryz.prog 124 = some Tryz.ty124 := by kernel_rfl
noncomputable def Tryz.ty125 : Ty := ⟨Tryz.t125.desc, 1, 8, false, Tryz.t125.zero, [], true, Tryz.t125.methods⟩
theorem Tryz.ty125_ok : tyOf Tryz.prog 125 = some Tryz.ty125 := by kernel_rfl
noncomputable def Tryz.ty126 : Ty := ⟨Tryz.t126.desc, 1, 0, false, Tryz.t126.zero, [], true, Tryz.t126.methods⟩
theorem Tryz.ty126_ok : tyOf Tryz.prog 126 = some Tryz.ty126 := by kernel_rfl
noncomputable def Tryz.ty127 : Ty := ⟨Tryz.t127.desc, 1, 8, false, Tryz.t127.zero, [], true, Tryz.t127.methods⟩
theorem Tryz.ty127_ok : tyOf Tryz.prog 127 = some Tryz.ty127 := by kernel_rfl
noncomputable def Tryz.ty128 : Ty := ⟨Tryz.t128.desc, 1, 8, false, Tryz.t128.zero, [], true, Tryz.t128.methods⟩
theorem Tryz.ty128_ok : tyOf Tryz.prog 128 = some Tryz.ty128 := by kernel_rfl
noncomputable def Tryz.ty129 : Ty := ⟨Tryz.t129.desc, 1, 0, false, Tryz.t129.zero, [], true, Tryz.t129.methods⟩
theorem Tryz.ty129_ok : tyOf Tryz.prog 129 = some Tryz.ty129 := by kernel_rfl
noncomputable def Tryz.ty130 : Ty := ⟨Tryz.t130.desc, 1, 8, false, Tryz.t130.zero, [], true, Tryz.t130.methods⟩
theorem Tryz.ty130_ok : tyOf Tryz.prog 130 = some Tryz.ty130 := by kernel_rfl
noncomputable def Tryz.ty131 : Ty := ⟨Tryz.t131.desc, 1, 8, false, Tryz.t131.zero, [], true, Tryz.t131.methods⟩
theorem Tryz.ty131_ok : tyOf Tryz.prog 131 = some Tryz.ty131 := by kernel_rfl
noncomputable def Tryz.ty132 : Ty := ⟨Tryz.t132.desc, 1, 0, false, Tryz.t132.zero, [], true, Tryz.t132.methods⟩
theorem Tryz.ty132_ok : tyOf Tryz.prog 132 = some Tryz.ty132 := by kernel_rfl
noncomputable def Tryz.ty133 : Ty := ⟨Tryz.t133.desc, 1, 8, false, Tryz.t133.zero, [], true, Tryz.t133.methods⟩
theorem Tryz.ty133_ok : tyOf Tryz.prog 133 = some Tryz.ty133 := by kernel_rfl
noncomputable def Tryz.ty134 : Ty := ⟨Tryz.t134.desc, 1, 8, false, Tryz.t134.zero, [], true, Tryz.t134.methods⟩
theorem Tryz.ty134_ok : tyOf Tryz.prog 134 = some Tryz.ty134 := by kernel_rfl
noncomputable def Tryz.ty135 : Ty := ⟨Tryz.t135.desc, 3, 24, true, Tryz.t135.zero, [(0, 1), (1, 1), (2, 1)], true, Tryz.t135.methods⟩
theorem Tryz.ty135_ok : tyOf Tryz.prog 135 = some Tryz.ty135 := by kernel_rfl
noncomputable def Tryz.ty136 : Ty := ⟨Tryz.t135.desc, 3, 24, true, Tryz.t136.zero, [(0, 1), (1, 1), (2, 1)], true, Tryz.t136.methods⟩
theorem Tryz.ty136_ok : tyOf Tryz.prog 136 = some Tryz.ty136 := by kernel_rfl
noncomputable def Tryz.ty137 : Ty := ⟨Tryz.t137.desc, 1, 8, false, Tryz.t137.zero, [], true, Tryz.t137.methods⟩
theorem Tryz.ty137_ok : tyOf Tryz.prog 137 = some Tryz.ty137 := by kernel_rfl
noncomputable def Tryz.ty138 : Ty := ⟨Tryz.t138.desc, 1, 8, false, Tryz.t138.zero, [], true, Tryz.t138.methods⟩
theorem Tryz.ty138_ok : tyOf Tryz.prog 138 = some Tryz.ty138 := by kernel_rfl
noncomputable def Tryz.ty139 : Ty := ⟨Tryz.t139.desc, 1, 8, false, Tryz.t139.zero, [], true, Tryz.t139.methods⟩
theorem Tryz.ty139_ok : tyOf Tryz.prog 139 = some Tryz.ty139 := by kernel_rfl
noncomputable def Tryz.ty140 : Ty := ⟨Tryz.t140.desc, 1, 8, false, Tryz.t140.zero, [], true, Tryz.t140.methods⟩
theorem Tryz.ty140_ok : tyOf Tryz.prog 140 = some Tryz.ty140 := by kernel_rfl
noncomputable def Tryz.ty141 : Ty := ⟨Tryz.t141.desc, 1, 8, false, Tryz.t141.zero, [], true, Tryz.t141.methods⟩
theorem Tryz.ty141_ok : tyOf Tryz.prog 141 = some Tryz.ty141 := by kernel_rfl
noncomputable def Tryz.ty142 : Ty := ⟨Tryz.t142.desc, 1, 8, false, Tryz.t142.zero, [], true, Tryz.t142.methods⟩
theorem Tryz.ty142_ok : tyOf Tryz.prog 142 = some Tryz.ty142 := by kernel_rfl
noncomputable def Tryz.ty143 : Ty := ⟨Tryz.t143.desc, 1, 8, false, Tryz.t143.zero, [], true, Tryz.t143.methods⟩
theorem Tryz.ty143_ok : tyOf Tryz.prog 143 = some Tryz.ty143 := by kernel_rfl
noncomputable def Tryz.ty144 : Ty := ⟨Tryz.t144.desc, 1, 8, false, Tryz.t144.zero, [], true, Tryz.t144.methods⟩
theorem Tryz.ty144_ok : tyOf Tryz.prog 144 = some Tryz.ty144 := by kernel_rfl
noncomputable def Tryz.ty145 : Ty := ⟨Tryz.t145.desc, 1, 8, false, Tryz.t145.zero, [], true, Tryz.t145.methods⟩
theorem Tryz.ty145_ok : tyOf Tryz.prog 145 = some Tryz.ty145 := by kernel_rfl
noncomputable def Tryz.ty146 : Ty := ⟨Tryz.t146.desc, 1, 8, false, Tryz.t146.zero, [], true, Tryz.t146.methods⟩
theorem Tryz.ty146_ok : tyOf Tryz.prog 146 = some Tryz.ty146 := by kernel_rfl
noncomputable def Tryz.ty147 : Ty := ⟨Tryz.t147.desc, 1, 8, false, Tryz.t147.zero, [], true, Tryz.t147.methods⟩
theorem Tryz.ty147_ok : tyOf Tryz.prog 147 = some Tryz.ty147 := by kernel_rfl
noncomputable def Tryz.ty148 : Ty := ⟨Tryz.t148.desc, 1, 8, false, Tryz.t148.zero, [], true, Tryz.t148.methods⟩
theorem Tryz.ty148_ok : tyOf Tryz.prog 148 = some Tryz.ty148 := by kernel_rfl
noncomputable def Tryz.ty149 : Ty := ⟨Tryz.t149.desc, 10, 80, true, Tryz.t149.zero, [(0, 1), (1, 1), (2, 1), (3, 1), (4, 1), (5, 1), (6, 1), (7, 1), (8, 1), (9, 1)], true, Tryz.t149.methods⟩
theorem Tryz.ty149_ok : tyOf Tryz.prog 149 = some Tryz.ty149 := by kernel_rfl
noncomputable def Tryz.ty150 : Ty := ⟨Tryz.t149.desc, 10, 80, true, Tryz.t150.zero, [(0, 1), (1, 1), (2, 1), (3, 1), (4, 1), (5, 1), (6, 1), (7, 1), (8, 1), (9, 1)], true, Tryz.t150.methods⟩
theorem Tryz.ty150_ok : tyOf Tryz.prog 150 = some Tryz.ty150 := by kernel_rfl
noncomputable def Tryz.ty151 : Ty := ⟨Tryz.t151.desc, 1, 0, false, Tryz.t151.zero, [], true, Tryz.t151.methods⟩
theorem Tryz.ty151_ok : tyOf Tryz.prog 151 = some Tryz.ty151 := by kernel_rfl
noncomputable def Tryz.ty152 : Ty := ⟨Tryz.t152.desc, 1, 8, false, Tryz.t152.zero, [], true, Tryz.t152.methods⟩
theorem Tryz.ty152_ok : tyOf Tryz.prog 152 = some Tryz.ty152 := by kernel_rfl
noncomputable def Tryz.ty153 : Ty := ⟨Tryz.t153.desc, 1, 8, false, Tryz.t153.zero, [], true, Tryz.t153.methods⟩
theorem Tryz.ty153_ok : tyOf Tryz.prog 153 = some Tryz.ty153 := by kernel_rfl
noncomputable def Tryz.ty154 : Ty := ⟨Tryz.t154.desc, 1, 8, false, Tryz.t154.zero, [], true, Tryz.t154.methods⟩
theorem Tryz.ty154_ok : tyOf Tryz.prog 154 = some Tryz.ty154 := by kernel_rfl
noncomputable def Tryz.ty155 : Ty := ⟨Tryz.t155.desc, 1, 8, false, Tryz.t155.zero, [], true, Tryz.t155.methods⟩
theorem Tryz.ty155_ok : tyOf Tryz.prog 155 = some Tryz.ty155 := by kernel_rfl
noncomputable def Tryz.ty156 : Ty := ⟨Tryz.t156.desc, 1, 8, false, Tryz.t156.zero, [], true, Tryz.t156.methods⟩
theorem Tryz.ty156_ok : tyOf Tryz.prog 156 = some Tryz.ty156 := by kernel_rfl
noncomputable def Tryz.ty157 : Ty := ⟨Tryz.t157.desc, 1, 8, false, Tryz.t157.zero, [], true, Tryz.t157.methods⟩
theorem Tryz.ty157_ok : tyOf Tryz.prog 157 = some Tryz.ty157 := by kernel_rfl
noncomputable def Tryz.ty158 : Ty := ⟨Tryz.t158.desc, 1, 8, false, Tryz.t158.zero, [], true, Tryz.t158.methods⟩
theorem Tryz.ty158_ok : tyOf Tryz.prog 158 = some Tryz.ty158 := by kernel_rfl
noncomputable def Tryz.ty159 : Ty := ⟨Tryz.t159.desc, 1, 8, false, Tryz.t159.zero, [], true, Tryz.t159.methods⟩
theorem Tryz.ty159_ok : tyOf Tryz.prog 159 = some Tryz.ty159 := by kernel_rfl
noncomputable def Tryz.ty160 : Ty := ⟨Tryz.t160.desc, 1, 8, false, Tryz.t160.zero, [], true, Tryz.t160.methods⟩
theorem Tryz.ty160_ok : tyOf Tryz.prog 160 = some Tryz.ty160 := by kernel_rfl
noncomputable def Tryz.ty161 : Ty := ⟨Tryz.t161.desc, 1, 8, false, Tryz.t161.zero, [], true, Tryz.t161.methods⟩
theorem Tryz.ty161_ok : tyOf Tryz.prog 161 = some Tryz.ty161 := by kernel_rfl
noncomputable def Tryz.ty162 : Ty := ⟨Tryz.t162.desc, 1, 8, false, Tryz.t162.zero, [], true, Tryz.t162.methods⟩
theorem Tryz.ty162_ok : tyOf Tryz.prog 162 = some Tryz.ty162 := by kernel_rfl
noncomputable def Tryz.ty163 : Ty := ⟨Tryz.t163.desc, 1, 8, false, Tryz.t163.zero, [], true, Tryz.t163.methods⟩
theorem Tryz.ty163_ok : tyOf Tryz.prog 163 = some Tryz.ty163 := by kernel_rfl
noncomputable def Tryz.ty164 : Ty := ⟨Tryz.t164.desc, 1, 8, false, Tryz.t164.zero, [], true, Tryz.t164.methods⟩
theorem Tryz.ty164_ok : tyOf Tryz.prog 164 = some Tryz.ty164 := by kernel_rfl
noncomputable def Tryz.ty165 : Ty := ⟨Tryz.t165.desc, 1, 8, false, Tryz.t165.zero, [], true, Tryz.t165.methods⟩
theorem Tryz.ty165_ok : tyOf Tryz.prog 165 = some Tryz.ty165 := by kernel_rfl
noncomputable def Tryz.ty166 : Ty := ⟨Tryz.t166.desc, 1, 8, false, Tryz.t166.zero, [], true, Tryz.t166.methods⟩
theorem Tryz.ty166_ok : tyOf Tryz.prog 166 = some Tryz.ty166 := by kernel_rfl
noncomputable def Tryz.ty167 : Ty := ⟨Tryz.t167.desc, 1, 8, false, Tryz.t167.zero, [], true, Tryz.t167.methods⟩
theorem Tryz.ty167_ok : tyOf Tryz.prog 167 = some Tryz.ty167 := by kernel_rfl
noncomputable def Tryz.ty168 : Ty := ⟨Tryz.t168.desc, 1, 8, false, Tryz.t168.zero, [], true, Tryz.t168.methods⟩
theorem Tryz.ty168_ok : tyOf Tryz.prog 168 = some Tryz.ty168 := by kernel_rfl
noncomputable def Tryz.ty169 : Ty := ⟨Tryz.t169.desc, 1, 8, false, Tryz.t169.zero, [], true, Tryz.t169.methods⟩
theorem Tryz.ty169_ok : tyOf Tryz.prog 169 = some Tryz.ty169 := by kernel_rfl
noncomputable def Tryz.ty170 : Ty := ⟨Tryz.t170.desc, 3, 24, true, Tryz.t170.zero, [(0, 1), (1, 1), (2, 1)], true, Tryz.t170.methods⟩
theorem Tryz.ty170_ok : tyOf Tryz.prog 170 = some Tryz.ty170 := by kernel_rfl
noncomputable def Tryz.ty171 : Ty := ⟨Tryz.t171.desc, 18, 144, true, Tryz.t171.zero, [], true, Tryz.t171.methods⟩
theorem Tryz.ty171_ok : tyOf Tryz.prog 171 = some Tryz.ty171 := by kernel_rfl
noncomputable def Tryz.ty172 : Ty := ⟨Tryz.t172.desc, 1, 8, false, Tryz.t172.zero, [], true, Tryz.t172.methods⟩
theorem Tryz.ty172_ok : tyOf Tryz.prog 172 = some Tryz.ty172 := by kernel_rfl
noncomputable def Tryz.ty173 : Ty := ⟨Tryz.t173.desc, 1, 8, false, Tryz.t173.zero, [], true, Tryz.t173.methods⟩
theorem Tryz.ty173_ok : tyOf Tryz.prog 173 = some Tryz.ty173 := by kernel_rfl
noncomputable def Tryz.ty174 : Ty := ⟨Tryz.t174.desc, 1, 0, false, Tryz.t174.zero, [], true, Tryz.t174.methods⟩
theorem Tryz.ty174_ok : tyOf Tryz.prog 174 = some Tryz.ty174 := by kernel_rfl
noncomputable def Tryz.ty175 : Ty := ⟨Tryz.t175.desc, 1, 8, false, Tryz.t175.zero, [], true, Tryz.t175.methods⟩
theorem Tryz.ty175_ok : tyOf Tryz.prog 175 = some Tryz.ty175 := by kernel_rfl
noncomputable def Tryz.ty176 : Ty := ⟨Tryz.t176.desc, 1, 8, false, Tryz.t176.zero, [], true, Tryz.t176.methods⟩
theorem Tryz.ty176_ok : tyOf Tryz.prog 176 = some Tryz.ty176 := by kernel_rfl
noncomputable def Tryz.ty177 : Ty := ⟨Tryz.t177.desc, 2, 32, true, Tryz.t177.zero, [(0, 1), (1, 1)], true, Tryz.t177.methods⟩
theorem Tryz.ty177_ok : tyOf Tryz.prog 177 = some Tryz.ty177 := by kernel_rfl
noncomputable def Tryz.ty178 : Ty := ⟨Tryz.t177.desc, 2, 32, true, Tryz.t178.zero, [(0, 1), (1, 1)], true, Tryz.t178.methods⟩
theorem Tryz.ty178_ok : tyOf Tryz.prog 178 = some Tryz.ty178 := by kernel_rfl
noncomputable def Tryz.ty179 : Ty := ⟨Tryz.t179.desc, 1, 8, false, Tryz.t179.zero, [], true, Tryz.t179.methods⟩
theorem Tryz.ty179_ok : tyOf Tryz.prog 179 = some Tryz.ty179 := by kernel_rfl
noncomputable def Tryz.ty180 : Ty := ⟨Tryz.t180.desc, 1, 8, false, Tryz.t180.zero, [], true, Tryz.t180.methods⟩
theorem Tryz.ty180_ok : tyOf Tryz.prog 180 = some Tryz.ty180 := by kernel_rfl
noncomputable def Tryz.ty181 : Ty := ⟨Tryz.t181.desc, 1, 8, false, Tryz.t181.zero, [], true, Tryz.t181.methods⟩
theorem Tryz.ty181_ok : tyOf Tryz.prog 181 = some Tryz.ty181 := by kernel_rfl
noncomputable def Tryz.ty182 : Ty := ⟨Tryz.t182.desc, 1, 8, false, Tryz.t182.zero, [], true, Tryz.t182.methods⟩
theorem Tryz.ty182_ok : tyOf Tryz.prog 182 = some Tryz.ty182 := by kernel_rfl
noncomputable def Tryz.ty183 : Ty := ⟨Tryz.t183.desc, 1, 8, false, Tryz.t183.zero, [], true, Tryz.t183.methods⟩
theorem Tryz.ty183_ok : tyOf Tryz.prog 183 = some Tryz.ty183 := by kernel_rfl
noncomputable def Tryz.ty184 : Ty := ⟨Tryz.t184.desc, 1, 8, false, Tryz.t184.zero, [], true, Tryz.t184.methods⟩
theorem Tryz.ty184_ok : tyOf Tryz.prog 184 = some Tryz.ty184 := by kernel_rfl
noncomputable def Tryz.ty185 : Ty := ⟨Tryz.t185.desc, 1, 8, false, Tryz.t185.zero, [], true, Tryz.t185.methods⟩
theorem Tryz.ty185_ok : tyOf Tryz.prog 185 = some Tryz.ty185 := by kernel_rfl
noncomputable def Tryz.ty186 : Ty := ⟨Tryz.t186.desc, 1, 8, false, Tryz.t186.zero, [], true, Tryz.t186.methods⟩
theorem Tryz.ty186_ok : tyOf Tryz.prog 186 = some Tryz.ty186 := by kernel_rfl
noncomputable def Tryz.ty187 : Ty := ⟨Tryz.t187.desc, 1, 8, false, Tryz.t187.zero, [], true, Tryz.t187.methods⟩
theorem Tryz.ty187_ok : tyOf Tryz.prog 187 = some Tryz.ty187 := by kernel_rfl
noncomputable def Tryz.ty188 : Ty := ⟨Tryz.t188.desc, 1, 8, false, Tryz.t188.zero, [], true, Tryz.t188.methods⟩
theorem Tryz.ty188_ok : tyOf Tryz.prog 188 = some Tryz.ty188 := by kernel_rfl
noncomputable def Tryz.ty189 : Ty := ⟨Tryz.t189.desc, 1, 24, false, Tryz.t189.zero, [], true, Tryz.t189.methods⟩
theorem Tryz.ty189_ok : tyOf Tryz.prog 189 = some Tryz.ty189 := by kernel_rfl
noncomputable def Tryz.ty190 : Ty := ⟨Tryz.t190.desc, 1, 24, false, Tryz.t190.zero, [], true, Tryz.t190.methods⟩
theorem Tryz.ty190_ok : tyOf Tryz.prog 190 = some Tryz.ty190 := by kernel_rfl
noncomputable def Tryz.ty191 : Ty := ⟨Tryz.t191.desc, 6, 96, true, Tryz.t191.zero, [(0, 1), (1, 1), (2, 1), (3, 1), (4, 1), (5, 1)], true, Tryz.t191.methods⟩
theorem Tryz.ty191_ok : tyOf Tryz.prog 191 = some Tryz.ty191 := by kernel_rfl
noncomputable def Tryz.ty192 : Ty := ⟨Tryz.t191.desc, 6, 96, true, Tryz.t192.zero, [(0, 1), (1, 1), (2, 1), (3, 1), (4, 1), (5, 1)], true, Tryz.t192.methods⟩
theorem Tryz.ty192_ok : tyOf Tryz.prog 192 = some Tryz.ty192 := by kernel_rfl
noncomputable def Tryz.ty193 : Ty := ⟨Tryz.t193.desc, 1, 8, false, Tryz.t193.zero, [], true, Tryz.t193.methods⟩
theorem Tryz.ty193_ok : tyOf Tryz.prog 193 = some Tryz.ty193 := by kernel_rfl
noncomputable def Tryz.ty194 : Ty := ⟨Tryz.t194.desc, 1, 8, false, Tryz.t194.zero, [], true, Tryz.t194.methods⟩
theorem Tryz.ty194_ok : tyOf Tryz.prog 194 = some Tryz.ty194 := by kernel_rfl
noncomputable def Tryz.ty195 : Ty := ⟨Tryz.t195.desc, 1, 8, false, Tryz.t195.zero, [], true, Tryz.t195.methods⟩
theorem Tryz.ty195_ok : tyOf Tryz.prog 195 = some Tryz.ty195 := by kernel_rfl
noncomputable def Tryz.ty196 : Ty := ⟨Tryz.t196.desc, 3, 24, true, Tryz.t196.zero, [(0, 1), (1, 1), (2, 1)], true, Tryz.t196.methods⟩
theorem Tryz.ty196_ok : tyOf Tryz.prog 196 = some Tryz.ty196 := by kernel_rfl
noncomputable def Tryz.ty197 : Ty := ⟨Tryz.t197.desc, 1, 8, false, Tryz.t197.zero, [], true, Tryz.t197.methods⟩
theorem Tryz.ty197_ok : tyOf Tryz.prog 197 = some Tryz.ty197 := by kernel_rfl
noncomputable def Tryz.ty198 : Ty := ⟨Tryz.t198.desc, 18, 144, true, Tryz.t198.zero, [], true, Tryz.t198.methods⟩
theorem Tryz.ty198_ok : tyOf Tryz.prog 198 = some Tryz.ty198 := by kernel_rfl
noncomputable def Tryz.ty199 : Ty := ⟨Tryz.t199.desc, 1, 8, false, Tryz.t199.zero, [], true, Tryz.t199.methods⟩
theorem Tryz.ty199_ok : tyOf Tryz.prog 199 = some Tryz.ty199 := by kernel_rfl
noncomputable def Tryz.ty200 : Ty := ⟨Tryz.t200.desc, 1, 8, false, Tryz.t200.zero, [], true, Tryz.t200.methods⟩
theorem Tryz.ty200_ok : tyOf Tryz.prog 200 = some Tryz.ty200 := by kernel_rfl
noncomputable def Tryz.ty201 : Ty := ⟨Tryz.t74.desc, 1, 24, false, Tryz.t201.zero, [], true, Tryz.t201.methods⟩
theorem Tryz.ty201_ok : tyOf Tryz.prog 201 = some Tryz.ty201 := by kernel_rfl
noncomputable def Tryz.ty202 : Ty := ⟨Tryz.t202.desc, 1, 8, false, Tryz.t202.zero, [], true, Tryz.t202.methods⟩
theorem Tryz.ty202_ok : tyOf Tryz.prog 202 = some Tryz.ty202 := by kernel_rfl
noncomputable def Tryz.ty203 : Ty := ⟨Tryz.t203.desc, 1, 8, false, Tryz.t203.zero, [], true, Tryz.t203.methods⟩
theorem Tryz.ty203_ok : tyOf Tryz.prog 203 = some Tryz.ty203 := by kernel_rfl
noncomputable def Tryz.ty204 : Ty := ⟨Tryz.t204.desc, 1, 8, false, Tryz.t204.zero, [], true, Tryz.t204.methods⟩
theorem Tryz.ty204_ok : tyOf Tryz.prog 204 = some Tryz.ty204 := by kernel_rfl
noncomputable def Tryz.ty205 : Ty := ⟨Tryz.t205.desc, 1, 8, false, Tryz.t205.zero, [], true, Tryz.t205.methods⟩
theorem Tryz.ty205_ok : tyOf Tryz.prog 205 = some Tryz.ty205 := by kernel_rfl
noncomputable def Tryz.ty206 : Ty := ⟨Tryz.t206.desc, 1, 8, false, Tryz.t206.zero, [], true, Tryz.t206.methods⟩
theorem Tryz.ty206_ok : tyOf Tryz.prog 206 = some Tryz.ty206 := by kernel_rfl
noncomputable def Tryz.ty207 : Ty := ⟨Tryz.t207.desc, 1, 8, false, Tryz.t207.zero, [], true, Tryz.t207.methods⟩
theorem Tryz.ty207_ok : tyOf Tryz.prog 207 = some Tryz.ty207 := by kernel_rfl
noncomputable def Tryz.ty208 : Ty := ⟨Tryz.t208.desc, 1, 8, false, Tryz.t208.zero, [], true, Tryz.t208.methods⟩
theorem Tryz.ty208_ok : tyOf Tryz.prog 208 = some Tryz.ty208 := by kernel_rfl
noncomputable def Tryz.ty209 : Ty := ⟨Tryz.t209.desc, 1, 24, false, Tryz.t209.zero, [], true, Tryz.t209.methods⟩
theorem Tryz.ty209_ok : tyOf Tryz.prog 209 = some Tryz.ty209 := by kernel_rfl
noncomputable def Tryz.ty210 : Ty := ⟨Tryz.t210.desc, 4, 80, true, Tryz.t210.zero, [(0, 2), (2, 1), (3, 1)], true, Tryz.t210.methods⟩
theorem Tryz.ty210_ok : tyOf Tryz.prog 210 = some Tryz.ty210 := by kernel_rfl
noncomputable def Tryz.ty211 : Ty := ⟨Tryz.t210.desc, 4, 80, true, Tryz.t211.zero, [(0, 2), (2, 1), (3, 1)], true, Tryz.t211.methods⟩
theorem Tryz.ty211_ok : tyOf Tryz.prog 211 = some Tryz.ty211 := by kernel_rfl
noncomputable def Tryz.ty212 : Ty := ⟨Tryz.t212.desc, 1, 0, false, Tryz.t212.zero, [], true, Tryz.t212.methods⟩
theorem Tryz.ty212_ok : tyOf Tryz.prog 212 = some Tryz.ty212 := by kernel_rfl
noncomputable def Tryz.ty213 : Ty := ⟨Tryz.t213.desc, 1, 8, false, Tryz.t213.zero, [], true, Tryz.t213.methods⟩
theorem Tryz.ty213_ok : tyOf Tryz.prog 213 = some Tryz.ty213 := by kernel_rfl
noncomputable def Tryz.ty214 : Ty := ⟨Tryz.t214.desc, 1, 8, false, Tryz.t214.zero, [], true, Tryz.t214.methods⟩
theorem Tryz.ty214_ok : tyOf Tryz.prog 214 = some Tryz.ty214 := by kernel_rfl
noncomputable def Tryz.ty215 : Ty := ⟨Tryz.t215.desc, 1, 0, false, Tryz.t215.zero, [], true, Tryz.t215.methods⟩
theorem Tryz.ty215_ok : tyOf Tryz.prog 215 = some Tryz.ty215 := by kernel_rfl
noncomputable def Tryz.ty216 : Ty := ⟨Tryz.t216.desc, 1, 8, false, Tryz.t216.zero, [], true, Tryz.t216.methods⟩
theorem Tryz.ty216_ok : tyOf Tryz.prog 216 = some Tryz.ty216 := by kernel_rfl
noncomputable def Tryz.ty217 : Ty := ⟨Tryz.t217.desc, 1, 0, false, Tryz.t217.zero, [], true, Tryz.t217.methods⟩
theorem Tryz.ty217_ok : tyOf Tryz.prog 217 = some Tryz.ty217 := by kernel_rfl
noncomputable def Tryz.ty218 : Ty := ⟨Tryz.t218.desc, 1, 8, false, Tryz.t218.zero, [], true, Tryz.t218.methods⟩
theorem Tryz.ty218_ok : tyOf Tryz.prog 218 = some Tryz.ty218 := by kernel_rfl
noncomputable def Tryz.ty219 : Ty := ⟨Tryz.t219.desc, 1, 8, false, Tryz.t219.zero, [], true, Tryz.t219.methods⟩
theorem Tryz.ty219_ok : tyOf Tryz.prog 219 = some Tryz.ty219 := by kernel_rfl
noncomputable def Tryz.ty220 : Ty := ⟨Tryz.t220.desc, 1, 0, false, Tryz.t220.zero, [], true, Tryz.t220.methods⟩
theorem Tryz.ty220_ok : tyOf Tryz.prog 220 = some Tryz.ty220 := by kernel_rfl
noncomputable def Tryz.ty221 : Ty := ⟨Tryz.t221.desc, 1, 8, false, Tryz.t221.zero, [], true, Tryz.t221.methods⟩
theorem Tryz.ty221_ok : tyOf Tryz.prog 221 = some Tryz.ty221 := by kernel_rfl
noncomputable def Tryz.ty222 : Ty := ⟨Tryz.t222.desc, 1, 8, false, Tryz.t222.zero, [], true, Tryz.t222.methods⟩
theorem Tryz.ty222_ok : tyOf Tryz.prog 222 = some Tryz.ty222 := by kernel_rfl
noncomputable def Tryz.ty223 : Ty := ⟨Tryz.t223.desc, 1, 8, false, Tryz.t223.zero, [], true, Tryz.t223.methods⟩
theorem Tryz.ty223_ok : tyOf Tryz.prog 223 = some Tryz.ty223 := by kernel_rfl
noncomputable def Tryz.ty224 : Ty := ⟨Tryz.t3.desc, 1, 8, false, Tryz.t224.zero, [], true, Tryz.t224.methods⟩
theorem Tryz.ty224_ok : tyOf Tryz.prog 224 = some Tryz.ty224 := by kernel_rfl
noncomputable def Tryz.ty225 : Ty := ⟨Tryz.t225.desc, 1, 0, false, Tryz.t225.zero, [], true, Tryz.t225.methods⟩
theorem Tryz.ty225_ok : tyOf Tryz.prog 225 = some Tryz.ty225 := by kernel_rfl
noncomputable def Tryz.ty226 : Ty := ⟨Tryz.t226.desc, 1, 8, false, Tryz.t226.zero, [], true, Tryz.t226.methods⟩
theorem Tryz.ty226_ok : tyOf Tryz.prog 226 = some Tryz.ty226 := by kernel_rfl
noncomputable def Tryz.ty227 : Ty := ⟨Tryz.t227.desc, 1, 8, false, Tryz.t227.zero, [], true, Tryz.t227.methods⟩
theorem Tryz.ty227_ok : tyOf Tryz.prog 227 = some Tryz.ty227 := by kernel_rfl
noncomputable def Tryz.ty228 : Ty := ⟨Tryz.t228.desc, 1, 8, false, Tryz.t228.zero, [], true, Tryz.t228.methods⟩
theorem Tryz.ty228_ok : tyOf Tryz.prog 228 = some Tryz.ty228 := by kernel_rfl
noncomputable def Tryz.ty229 : Ty := ⟨Tryz.t229.desc, 1, 8, false, Tryz.t229.zero, [], true, Tryz.t229.methods⟩
theorem Tryz.ty229_ok : tyOf Tryz.prog 229 = some Tryz.ty229 := by kernel_rfl
noncomputable def Tryz.ty230 : Ty := ⟨Tryz.t230.desc, 1, 8, false, Tryz.t230.zero, [], true, Tryz.t230.methods⟩
theorem Tryz.ty230_ok : tyOf Tryz.prog 230 = some Tryz.ty230 := by kernel_rfl
noncomputable def Tryz.ty231 : Ty := ⟨Tryz.t231.desc, 1, 4, false, Tryz.t231.zero, [], true, Tryz.t231.methods⟩
theorem Tryz.ty231_ok : tyOf Tryz.prog 231 = some Tryz.ty231 := by kernel_rfl
noncomputable def Tryz.ty232 : Ty := ⟨Tryz.t232.desc, 1, 8, false, Tryz.t232.zero, [], true, Tryz.t232.methods⟩
theorem Tryz.ty232_ok : tyOf Tryz.prog 232 = some Tryz.ty232 := by kernel_rfl
noncomputable def Tryz.ty233 : Ty := ⟨Tryz.t233.desc, 1, 8, false, Tryz.t233.zero, [], true, Tryz.t233.methods⟩
theorem Tryz.ty233_ok : tyOf Tryz.prog 233 = some Tryz.ty233 := by kernel_rfl
noncomputable def Tryz.ty234 : Ty := ⟨Tryz.t234.desc, 2, 16, true, Tryz.t234.zero, [], true, Tryz.t234.methods⟩
theorem Tryz.ty234_ok : tyOf Tryz.prog 234 = some Tryz.ty234 := by kernel_rfl
noncomputable def Tryz.ty235 : Ty := ⟨Tryz.t235.desc, 1, 8, false, Tryz.t235.zero, [], true, Tryz.t235.methods⟩
theorem Tryz.ty235_ok : tyOf Tryz.prog 235 = some Tryz.ty235 := by kernel_rfl
noncomputable def Tryz.ty236 : Ty := ⟨Tryz.t236.desc, 1, 8, false, Tryz.t236.zero, [], true, Tryz.t236.methods⟩
theorem Tryz.ty236_ok : tyOf Tryz.prog 236 = some Tryz.ty236 := by kernel_rfl
noncomputable def Tryz.ty237 : Ty := ⟨Tryz.t237.desc, 1, 8, false, Tryz.t237.zero, [], true, Tryz.t237.methods⟩
theorem Tryz.ty237_ok : tyOf Tryz.prog 237 = some Tryz.ty237 := by kernel_rfl
noncomputable def Tryz.ty238 : Ty := ⟨Tryz.t238.desc, 1, 8, false, Tryz.t238.zero, [], true, Tryz.t238.methods⟩
theorem Tryz.ty238_ok : tyOf Tryz.prog 238 = some Tryz.ty238 := by kernel_rfl
noncomputable def Tryz.ty239 : Ty := ⟨Tryz.t239.desc, 1, 8, false, Tryz.t239.zero, [], true, Tryz.t239.methods⟩
theorem Tryz.ty239_ok : tyOf Tryz.prog 239 = some Tryz.ty239 := by kernel_rfl
noncomputable def Tryz.ty240 : Ty := ⟨Tryz.t240.desc, 1, 8, false, Tryz.t240.zero, [], true, Tryz.t240.methods⟩
theorem Tryz.ty240_ok : tyOf Tryz.prog 240 = some Tryz.ty240 := by kernel_rfl
noncomputable def Tryz.ty241 : Ty := ⟨Tryz.t241.desc, 1, 8, false, Tryz.t241.zero, [], true, Tryz.t241.methods⟩
theorem Tryz.ty241_ok : tyOf Tryz.prog 241 = some Tryz.ty241 := by kernel_rfl
noncomputable def Tryz.ty242 : Ty := ⟨Tryz.t242.desc, 1, 8, false, Tryz.t242.zero, [], true, Tryz.t242.methods⟩
theorem Tryz.ty242_ok : tyOf Tryz.prog 242 = some Tryz.ty242 := by kernel_rfl
noncomputable def Tryz.ty243 : Ty := ⟨Tryz.t243.desc, 1, 8, false, Tryz.t243.zero, [], true, Tryz.t243.methods⟩
theorem Tryz.ty243_ok : tyOf Tryz.prog 243 = some Tryz.ty243 := by kernel_rfl
noncomputable def Tryz.ty244 : Ty := ⟨Tryz.t244.desc, 1, 8, false, Tryz.t244.zero, [], true, Tryz.t244.methods⟩
theorem Tryz.ty244_ok : tyOf Tryz.prog 244 = some Tryz.ty244 := by kernel_rfl
noncomputable def Tryz.ty245 : Ty := ⟨Tryz.t245.desc, 1, 8, false, Tryz.t245.zero, [], true, Tryz.t245.methods⟩
theorem Tryz.ty245_ok : tyOf Tryz.prog 245 = some Tryz.ty245 := by kernel_rfl
noncomputable def Tryz.ty246 : Ty := ⟨Tryz.t246.desc, 1, 8, false, Tryz.t246.zero, [], true, Tryz.t246.methods⟩
theorem Tryz.ty246_ok : tyOf Tryz.prog 246 = some Tryz.ty246 := by kernel_rfl
noncomputable def Tryz.ty247 : Ty := ⟨Tryz.t247.desc, 1, 8, false, Tryz.t247.zero, [], true, Tryz.t247.methods⟩
theorem Tryz.ty247_ok : tyOf Tryz.prog 247 = some Tryz.ty247 := by kernel_rfl
noncomputable def Tryz.ty248 : Ty := ⟨Tryz.t248.desc, 1, 8, false, Tryz.t248.zero, [], true, Tryz.t248.methods⟩
theorem Tryz.ty248_ok : tyOf Tryz.prog 248 = some Tryz.ty248 := by kernel_rfl
noncomputable def Tryz.ty249 : Ty := ⟨Tryz.t249.desc, 1, 0, false, Tryz.t249.zero, [], true, Tryz.t249.methods⟩
theorem Tryz.ty249_ok : tyOf Tryz.prog 249 = some Tryz.ty249 := by kernel_rfl
noncomputable def Tryz.ty250 : Ty := ⟨Tryz.t250.desc, 1, 8, false, Tryz.t250.zero, [], true, Tryz.t250.methods⟩
theorem Tryz.ty250_ok : tyOf Tryz.prog 250 = some Tryz.ty250 := by kernel_rfl
noncomputable def Tryz.ty251 : Ty := ⟨Tryz.t135.desc, 3, 24, true, Tryz.t251.zero, [(0, 1), (1, 1), (2, 1)], true, Tryz.t251.methods⟩
theorem Tryz.ty251_ok : tyOf Tryz.prog 251 = some Tryz.ty251 := by kernel_rfl
noncomputable def Tryz.ty252 : Ty := ⟨Tryz.t252.desc, 3, 24, true, Tryz.t252.zero, [], true, Tryz.t252.methods⟩
theorem Tryz.ty252_ok : tyOf Tryz.prog 252 = some Tryz.ty252 := by kernel_rfl
noncomputable def Tryz.ty253 : Ty := ⟨Tryz.t253.desc, 1, 8, false, Tryz.t253.zero, [], true, Tryz.t253.methods⟩
theorem Tryz.ty253_ok : tyOf Tryz.prog 253 = some Tryz.ty253 := by kernel_rfl
noncomputable def Tryz.ty254 : Ty := ⟨Tryz.t94.desc, 1, 8, false, Tryz.t254.zero, [], true, Tryz.t254.methods⟩
theorem Tryz.ty254_ok : tyOf Tryz.prog 254 = some Tryz.ty254 := by kernel_rfl
noncomputable def Tryz.ty255 : Ty := ⟨Tryz.t255.desc, 1, 8, false, Tryz.t255.zero, [], true, Tryz.t255.methods⟩
theorem Tryz.ty255_ok : tyOf Tryz.prog 255 = some Tryz.ty255 := by kernel_rfl
noncomputable def Tryz.ty256 : Ty := ⟨Tryz.t256.desc, 1, 0, false, Tryz.t256.zero, [], true, Tryz.t256.methods⟩
theorem Tryz.ty256_ok : tyOf Tryz.prog 256 = some Tryz.ty256 := by kernel_rfl
noncomputable def Tryz.ty257 : Ty := ⟨Tryz.t257.desc, 1, 8, false, Tryz.t257.zero, [], true, Tryz.t257.methods⟩
theorem Tryz.ty257_ok : tyOf Tryz.prog 257 = some Tryz.ty257 := by kernel_rfl
noncomputable def Tryz.ty258 : Ty := ⟨Tryz.t258.desc, 1, 24, false, Tryz.t258.zero, [], true, Tryz.t258.methods⟩
theorem Tryz.ty258_ok : tyOf Tryz.prog 258 = some Tryz.ty258 := by kernel_rfl
noncomputable def Tryz.ty259 : Ty := ⟨Tryz.t259.desc, 4, 80, true, Tryz.t259.zero, [(0, 1), (1, 1), (2, 1), (3, 1)], true, Tryz.t259.methods⟩
theorem Tryz.ty259_ok : tyOf Tryz.prog 259 = some Tryz.ty259 := by kernel_rfl
noncomputable def Tryz.ty260 : Ty := ⟨Tryz.t259.desc, 4, 80, true, Tryz.t260.zero, [(0, 1), (1, 1), (2, 1), (3, 1)], true, Tryz.t260.methods⟩
theorem Tryz.ty260_ok : tyOf Tryz.prog 260 = some Tryz.ty260 := by kernel_rfl
noncomputable def Tryz.ty261 : Ty := ⟨Tryz.t261.desc, 1, 8, false, Tryz.t261.zero, [], true, Tryz.t261.methods⟩
theorem Tryz.ty261_ok : tyOf Tryz.prog 261 = some Tryz.ty261 := by kernel_rfl
noncomputable def Tryz.ty262 : Ty := ⟨Tryz.t262.desc, 1, 24, false, Tryz.t262.zero, [], true, Tryz.t262.methods⟩
theorem Tryz.ty262_ok : tyOf Tryz.prog 262 = some Tryz.ty262 := by kernel_rfl
noncomputable def Tryz.ty263 : Ty := ⟨Tryz.t263.desc, 1, 8, false, Tryz.t263.zero, [], true, Tryz.t263.methods⟩
theorem Tryz.ty263_ok : tyOf Tryz.prog 263 = some Tryz.ty263 := by kernel_rfl
noncomputable def Tryz.ty264 : Ty := ⟨Tryz.t264.desc, 4, 32, true, Tryz.t264.zero, [], true, Tryz.t264.methods⟩
theorem Tryz.ty264_ok : tyOf Tryz.prog 264 = some Tryz.ty264 := by kernel_rfl
noncomputable def Tryz.ty265 : Ty := ⟨Tryz.t265.desc, 1, 8, false, Tryz.t265.zero, [], true, Tryz.t265.methods⟩
theorem Tryz.ty265_ok : tyOf Tryz.prog 265 = some Tryz.ty265 := by kernel_rfl
noncomputable def Tryz.ty266 : Ty := ⟨Tryz.t266.desc, 1, 0, false, Tryz.t266.zero, [], true, Tryz.t266.methods⟩
theorem Tryz.ty266_ok : tyOf Tryz.prog 266 = some Tryz.ty266 := by kernel_rfl
noncomputable def Tryz.ty267 : Ty := ⟨Tryz.t267.desc, 1, 8, false, Tryz.t267.zero, [], true, Tryz.t267.methods⟩
theorem Tryz.ty267_ok : tyOf Tryz.prog 267 = some Tryz.ty267 := by kernel_rfl
noncomputable def Tryz.ty268 : Ty := ⟨Tryz.t268.desc, 1, 0, false, Tryz.t268.zero, [], true, Tryz.t268.methods⟩
theorem Tryz.ty268_ok : tyOf Tryz.prog 268 = some Tryz.ty268 := by kernel_rfl
noncomputable def Tryz.ty269 : Ty := ⟨Tryz.t269.desc, 1, 8, false, Tryz.t269.zero, [], true, Tryz.t269.methods⟩
theorem Tryz.ty269_ok : tyOf Tryz.prog 269 = some Tryz.ty269 := by kernel_rfl
noncomputable def Tryz.ty270 : Ty := ⟨Tryz.t270.desc, 1, 8, false, Tryz.t270.zero, [], true, Tryz.t270.methods⟩
theorem Tryz.ty270_ok : tyOf Tryz.prog 270 = some Tryz.ty270 := by kernel_rfl
noncomputable def Tryz.ty271 : Ty := ⟨Tryz.t271.desc, 1, 8, false, Tryz.t271.zero, [], true, Tryz.t271.methods⟩
theorem Tryz.ty271_ok : tyOf Tryz.prog 271 = some Tryz.ty271 := by kernel_rfl
noncomputable def Tryz.ty272 : Ty := ⟨Tryz.t272.desc, 1, 8, false, Tryz.t272.zero, [], true, Tryz.t272.methods⟩
theorem Tryz.ty272_ok : tyOf Tryz.prog 272 = some Tryz.ty272 := by kernel_rfl
noncomputable def Tryz.ty273 : Ty := ⟨Tryz.t273.desc, 1, 8, false, Tryz.t273.zero, [], true, Tryz.t273.methods⟩
theorem Tryz.ty273_ok : tyOf Tryz.prog 273 = some Tryz.ty273 := by kernel_rfl
noncomputable def Tryz.ty274 : Ty := ⟨Tryz.t208.desc, 1, 8, false, Tryz.t274.zero, [], true, Tryz.t274.methods⟩
theorem Tryz.ty274_ok : tyOf Tryz.prog 274 = some Tryz.ty274 := by kernel_rfl
noncomputable def Tryz.ty275 : Ty := ⟨Tryz.t275.desc, 1, 8, false, Tryz.t275.zero, [], true, Tryz.t275.methods⟩
theorem Tryz.ty275_ok : tyOf Tryz.prog 275 = some Tryz.ty275 := by kernel_rfl
noncomputable def Tryz.ty276 : Ty := ⟨Tryz.t276.desc, 1, 0, false, Tryz.t276.zero, [], true, Tryz.t276.methods⟩
theorem Tryz.ty276_ok : tyOf Tryz.prog 276 = some Tryz.ty276 := by kernel_rfl
noncomputable def Tryz.ty277 : Ty := ⟨Tryz.t277.desc, 1, 8, false, Tryz.t277.zero, [], true, Tryz.t277.methods⟩
theorem Tryz.ty277_ok : tyOf Tryz.prog 277 = some Tryz.ty277 := by kernel_rfl
noncomputable def Tryz.ty278 : Ty := ⟨Tryz.t278.desc, 1, 8, false, Tryz.t278.zero, [], true, Tryz.t278.methods⟩
theorem Tryz.ty278_ok : tyOf Tryz.prog 278 = some Tryz.ty278 := by kernel_rfl
noncomputable def Tryz.ty279 : Ty := ⟨Tryz.t279.desc, 1, 8, true, Tryz.t279.zero, [(0, 1)], true, Tryz.t279.methods⟩
theorem Tryz.ty279_ok : tyOf Tryz.prog 279 = some Tryz.ty279 := by kernel_rfl
noncomputable def Tryz.ty280 : Ty := ⟨Tryz.t279.desc, 1, 8, true, Tryz.t280.zero, [(0, 1)], true, Tryz.t280.methods⟩
theorem Tryz.ty280_ok : tyOf Tryz.prog 280 = some Tryz.ty280 := by kernel_rfl
noncomputable def Tryz.ty281 : Ty := ⟨Tryz.t281.desc, 2, 48, true, Tryz.t281.zero, [(0, 1), (1, 1)], true, Tryz.t281.methods⟩
theorem Tryz.ty281_ok : tyOf Tryz.prog 281 = some Tryz.ty281 := by kernel_rfl
noncomputable def Tryz.ty282 : Ty := ⟨Tryz.t281.desc, 2, 48, true, Tryz.t282.zero, [(0, 1), (1, 1)], true, Tryz.t282.methods⟩
theorem Tryz.ty282_ok : tyOf Tryz.prog 282 = some Tryz.ty282 := by kernel_rfl
noncomputable def Tryz.ty283 : Ty := ⟨Tryz.t283.desc, 1, 8, false, Tryz.t283.zero, [], true, Tryz.t283.methods⟩
theorem Tryz.ty283_ok : tyOf Tryz.prog 283 = some Tryz.ty283 := by kernel_rfl
noncomputable def Tryz.ty284 : Ty := ⟨Tryz.t284.desc, 1, 8, false, Tryz.t284.zero, [], true, Tryz.t284.methods⟩
theorem Tryz.ty284_ok : tyOf Tryz.prog 284 = some Tryz.ty284 := by kernel_rfl
noncomputable def Tryz.ty285 : Ty := ⟨Tryz.t285.desc, 4, 64, true, Tryz.t285.zero, [(0, 1), (1, 1), (2, 1), (3, 1)], true, Tryz.t285.methods⟩
theorem Tryz.ty285_ok : tyOf Tryz.prog 285 = some Tryz.ty285 := by kernel_rfl
noncomputable def Tryz.ty286 : Ty := ⟨Tryz.t285.desc, 4, 64, true, Tryz.t286.zero, [(0, 1), (1, 1), (2, 1), (3, 1)], true, Tryz.t286.methods⟩
theorem Tryz.ty286_ok : tyOf Tryz.prog 286 = some Tryz.ty286 := by kernel_rfl
noncomputable def Tryz.ty287 : Ty := ⟨Tryz.t287.desc, 1, 8, false, Tryz.t287.zero, [], true, Tryz.t287.methods⟩
theorem Tryz.ty287_ok : tyOf Tryz.prog 287 = some Tryz.ty287 := by kernel_rfl
noncomputable def Tryz.ty288 : Ty := ⟨Tryz.t288.desc, 1, 8, false, Tryz.t288.zero, [], true, Tryz.t288.methods⟩
theorem Tryz.ty288_ok : tyOf Tryz.prog 288 = some Tryz.ty288 := by kernel_rfl
noncomputable def Tryz.ty289 : Ty := ⟨Tryz.t289.desc, 2, 24, true, Tryz.t289.zero, [(0, 1), (1, 1)], true, Tryz.t289.methods⟩
theorem Tryz.ty289_ok : tyOf Tryz.prog 289 = some Tryz.ty289 := by kernel_rfl
noncomputable def Tryz.ty290 : Ty := ⟨Tryz.t289.desc, 2, 24, true, Tryz.t290.zero, [(0, 1), (1, 1)], true, Tryz.t290.methods⟩
theorem Tryz.ty290_ok : tyOf Tryz.prog 290 = some Tryz.ty290 := by kernel_rfl
noncomputable def Tryz.ty291 : Ty := ⟨Tryz.t291.desc, 1, 8, false, Tryz.t291.zero, [], true, Tryz.t291.methods⟩
theorem Tryz.ty291_ok : tyOf Tryz.prog 291 = some Tryz.ty291 := by kernel_rfl
noncomputable def Tryz.ty292 : Ty := ⟨Tryz.t292.desc, 1, 8, false, Tryz.t292.zero, [], true, Tryz.t292.methods⟩
theorem Tryz.ty292_ok : tyOf Tryz.prog 292 = some Tryz.ty292 := by kernel_rfl
noncomputable def Tryz.ty293 : Ty := ⟨Tryz.t293.desc, 10, 80, true, Tryz.t293.zero, [(0, 1), (1, 9)], true, Tryz.t293.methods⟩
theorem Tryz.ty293_ok : tyOf Tryz.prog 293 = some Tryz.ty293 := by kernel_rfl
noncomputable def Tryz.ty294 : Ty := ⟨Tryz.t293.desc, 10, 80, true, Tryz.t294.zero, [(0, 1), (1, 9)], true, Tryz.t294.methods⟩
theorem Tryz.ty294_ok : tyOf Tryz.prog 294 = some Tryz.ty294 := by kernel_rfl
noncomputable def Tryz.ty295 : Ty := ⟨Tryz.t295.desc, 1, 0, false, Tryz.t295.zero, [], true, Tryz.t295.methods⟩
theorem Tryz.ty295_ok : tyOf Tryz.prog 295 = some Tryz.ty295 := by kernel_rfl
noncomputable def Tryz.ty296 : Ty := ⟨Tryz.t296.desc, 1, 8, false, Tryz.t296.zero, [], true, Tryz.t296.methods⟩
theorem Tryz.ty296_ok : tyOf Tryz.prog 296 = some Tryz.ty296 := by kernel_rfl
noncomputable def Tryz.ty297 : Ty := ⟨Tryz.t297.desc, 1, 24, false, Tryz.t297.zero, [], true, Tryz.t297.methods⟩
theorem Tryz.ty297_ok : tyOf Tryz.prog 297 = some Tryz.ty297 := by kernel_rfl
noncomputable def Tryz.ty298 : Ty := ⟨Tryz.t187.desc, 1, 8, false, Tryz.t298.zero, [], true, Tryz.t298.methods⟩
theorem Tryz.ty298_ok : tyOf Tryz.prog 298 = some Tryz.ty298 := by kernel_rfl
noncomputable def Tryz.ty299 : Ty := ⟨Tryz.t299.desc, 1, 8, false, Tryz.t299.zero, [], true, Tryz.t299.methods⟩
theorem Tryz.ty299_ok : tyOf Tryz.prog 299 = some Tryz.ty299 := by kernel_rfl
noncomputable def Tryz.ty300 : Ty := ⟨Tryz.t300.desc, 1, 8, false, Tryz.t300.zero, [], true, Tryz.t300.methods⟩
theorem Tryz.ty300_ok : tyOf Tryz.prog 300 = some Tryz.ty300 := by kernel_rfl
noncomputable def Tryz.ty301 : Ty := ⟨Tryz.t301.desc, 1, 8, false, Tryz.t301.zero, [], true, Tryz.t301.methods⟩
theorem Tryz.ty301_ok : tyOf Tryz.prog 301 = some Tryz.ty301 := by kernel_rfl
noncomputable def Tryz.ty302 : Ty := ⟨Tryz.t302.desc, 1, 8, false, Tryz.t302.zero, [], true, Tryz.t302.methods⟩
theorem Tryz.ty302_ok : tyOf Tryz.prog 302 = some Tryz.ty302 := by kernel_rfl
noncomputable def Tryz.ty303 : Ty := ⟨Tryz.t303.desc, 1, 0, false, Tryz.t303.zero, [], true, Tryz.t303.methods⟩
theorem Tryz.ty303_ok : tyOf Tryz.prog 303 = some Tryz.ty303 := by kernel_rfl
noncomputable def Tryz.ty304 : Ty := ⟨Tryz.t304.desc, 1, 8, false, Tryz.t304.zero, [], true, Tryz.t304.methods⟩
theorem Tryz.ty304_ok : tyOf Tryz.prog 304 = some Tryz.ty304 := by kernel_rfl
noncomputable def Tryz.ty305 : Ty := ⟨Tryz.t305.desc, 1, 0, false, Tryz.t305.zero, [], true, Tryz.t305.methods⟩
theorem Tryz.ty305_ok : tyOf Tryz.prog 305 = some Tryz.ty305 := by kernel_rfl
noncomputable def Tryz.ty306 : Ty := ⟨Tryz.t306.desc, 1, 8, false, Tryz.t306.zero, [], true, Tryz.t306.methods⟩
theorem Tryz.ty306_ok : tyOf Tryz.prog 306 = some Tryz.ty306 := by kernel_rfl
noncomputable def Tryz.ty307 : Ty := ⟨Tryz.t307.desc, 1, 8, false, Tryz.t307.zero, [], true, Tryz.t307.methods⟩
theorem Tryz.ty307_ok : tyOf Tryz.prog 307 = some Tryz.ty307 := by kernel_rfl
noncomputable def Tryz.ty308 : Ty := ⟨Tryz.t308.desc, 1, 8, false, Tryz.t308.zero, [], true, Tryz.t308.methods⟩
theorem Tryz.ty308_ok : tyOf Tryz.prog 308 = some Tryz.ty308 := by kernel_rfl
noncomputable def Tryz.ty309 : Ty := ⟨Tryz.t309.desc, 10, 80, true, Tryz.t309.zero, [], true, Tryz.t309.methods⟩
theorem Tryz.ty309_ok : tyOf Tryz.prog 309 = some Tryz.ty309 := by kernel_rfl
noncomputable def Tryz.ty310 : Ty := ⟨Tryz.t310.desc, 1, 0, false, Tryz.t310.zero, [], true, Tryz.t310.methods⟩
theorem Tryz.ty310_ok : tyOf Tryz.prog 310 = some Tryz.ty310 := by kernel_rfl
noncomputable def Tryz.ty311 : Ty := ⟨Tryz.t311.desc, 1, 8, false, Tryz.t311.zero, [], true, Tryz.t311.methods⟩
theorem Tryz.ty311_ok : tyOf Tryz.prog 311 = some Tryz.ty311 := by kernel_rfl
noncomputable def Tryz.ty312 : Ty := ⟨Tryz.t312.desc, 1, 8, false, Tryz.t312.zero, [], true, Tryz.t312.methods⟩
theorem Tryz.ty312_ok : tyOf Tryz.prog 312 = some Tryz.ty312 := by kernel_rfl
noncomputable def Tryz.ty313 : Ty := ⟨Tryz.t313.desc, 1, 8, false, Tryz.t313.zero, [], true, Tryz.t313.methods⟩
theorem Tryz.ty313_ok : tyOf Tryz.prog 313 = some Tryz.ty313 := by kernel_rfl
noncomputable def Tryz.ty314 : Ty := ⟨Tryz.t313.desc, 1, 8, false, Tryz.t314.zero, [], true, Tryz.t314.methods⟩
theorem Tryz.ty314_ok : tyOf Tryz.prog 314 = some Tryz.ty314 := by kernel_rfl
noncomputable def Tryz.ty315 : Ty := ⟨Tryz.t315.desc, 1, 8, false, Tryz.t315.zero, [], true, Tryz.t315.methods⟩
theorem Tryz.ty315_ok : tyOf Tryz.prog 315 = some Tryz.ty315 := by kernel_rfl
noncomputable def Tryz.ty316 : Ty := ⟨Tryz.t316.desc, 1, 8, false, Tryz.t316.zero, [], true, Tryz.t316.methods⟩
theorem Tryz.ty316_ok : tyOf Tryz.prog 316 = some Tryz.ty316 := by kernel_rfl
noncomputable def Tryz.ty317 : Ty := ⟨Tryz.t317.desc, 1, 8, false, Tryz.t317.zero, [], true, Tryz.t317.methods⟩
theorem Tryz.ty317_ok : tyOf Tryz.prog 317 = some Tryz.ty317 := by kernel_rfl
noncomputable def Tryz.ty318 : Ty := ⟨Tryz.t318.desc, 1, 8, false, Tryz.t318.zero, [], true, Tryz.t318.methods⟩
theorem Tryz.ty318_ok : tyOf Tryz.prog 318 = some Tryz.ty318 := by kernel_rfl
noncomputable def Tryz.ty319 : Ty := ⟨Tryz.t319.desc, 2, 48, true, Tryz.t319.zero, [(0, 1), (1, 1)], true, Tryz.t319.methods⟩
theorem Tryz.ty319_ok : tyOf Tryz.prog 319 = some Tryz.ty319 := by kernel_rfl
noncomputable def Tryz.ty320 : Ty := ⟨Tryz.t319.desc, 2, 48, true, Tryz.t320.zero, [(0, 1), (1, 1)], true, Tryz.t320.methods⟩
theorem Tryz.ty320_ok : tyOf Tryz.prog 320 = some Tryz.ty320 := by kernel_rfl
noncomputable def Tryz.ty321 : Ty := ⟨Tryz.t321.desc, 1, 0, false, Tryz.t321.zero, [], true, Tryz.t321.methods⟩
theorem Tryz.ty321_ok : tyOf Tryz.prog 321 = some Tryz.ty321 := by kernel_rfl
noncomputable def Tryz.ty322 : Ty := ⟨Tryz.t322.desc, 1, 8, false, Tryz.t322.zero, [], true, Tryz.t322.methods⟩
theorem Tryz.ty322_ok : tyOf Tryz.prog 322 = some Tryz.ty322 := by kernel_rfl
noncomputable def Tryz.ty323 : Ty := ⟨Tryz.t323.desc, 1, 8, false, Tryz.t323.zero, [], true, Tryz.t323.methods⟩
theorem Tryz.ty323_ok : tyOf Tryz.prog 323 = some Tryz.ty323 := by kernel_rfl
noncomputable def Tryz.ty324 : Ty := ⟨Tryz.t324.desc, 1, 8, false, Tryz.t324.zero, [], true, Tryz.t324.methods⟩
theorem Tryz.ty324_ok : tyOf Tryz.prog 324 = some Tryz.ty324 := by kernel_rfl
noncomputable def Tryz.ty325 : Ty := ⟨Tryz.t233.desc, 1, 8, false, Tryz.t325.zero, [], true, Tryz.t325.methods⟩
theorem Tryz.ty325_ok : tyOf Tryz.prog 325 = some Tryz.ty325 := by kernel_rfl
noncomputable def Tryz.ty326 : Ty := ⟨Tryz.t326.desc, 1, 8, false, Tryz.t326.zero, [], true, Tryz.t326.methods⟩
theorem Tryz.ty326_ok : tyOf Tryz.prog 326 = some Tryz.ty326 := by kernel_rfl
noncomputable def Tryz.ty327 : Ty := ⟨Tryz.t327.desc, 1, 8, false, Tryz.t327.zero, [], true, Tryz.t327.methods⟩
theorem Tryz.ty327_ok : tyOf Tryz.prog 327 = some Tryz.ty327 := by kernel_rfl
noncomputable def Tryz.ty328 : Ty := ⟨Tryz.t328.desc, 1, 8, false, Tryz.t328.zero, [], true, Tryz.t328.methods⟩
theorem Tryz.ty328_ok : tyOf Tryz.prog 328 = some Tryz.ty328 := by kernel_rfl
noncomputable def Tryz.ty329 : Ty := ⟨Tryz.t329.desc, 1, 8, false, Tryz.t329.zero, [], true, Tryz.t329.methods⟩
theorem Tryz.ty329_ok : tyOf Tryz.prog 329 = some Tryz.ty329 := by kernel_rfl
noncomputable def Tryz.ty330 : Ty := ⟨Tryz.t330.desc, 1, 8, false, Tryz.t330.zero, [], true, Tryz.t330.methods⟩
theorem Tryz.ty330_ok : tyOf Tryz.prog 330 = some Tryz.ty330 := by kernel_rfl
noncomputable def Tryz.ty331 : Ty := ⟨Tryz.t331.desc, 1, 0, false, Tryz.t331.zero, [], true, Tryz.t331.methods⟩
theorem Tryz.ty331_ok : tyOf Tryz.prog 331 = some Tryz.ty331 := by kernel_rfl
noncomputable def Tryz.ty332 : Ty := ⟨Tryz.t332.desc, 1, 8, false, Tryz.t332.zero, [], true, Tryz.t332.methods⟩
theorem Tryz.ty332_ok : tyOf Tryz.prog 332 = some Tryz.ty332 := by kernel_rfl
noncomputable def Tryz.ty333 : Ty := ⟨Tryz.t333.desc, 1, 24, false, Tryz.t333.zero, [], true, Tryz.t333.methods⟩
theorem Tryz.ty333_ok : tyOf Tryz.prog 333 = some Tryz.ty333 := by kernel_rfl
noncomputable def Tryz.ty334 : Ty := ⟨Tryz.t333.desc, 1, 24, false, Tryz.t334.zero, [], true, Tryz.t334.methods⟩
theorem Tryz.ty334_ok : tyOf Tryz.prog 334 = some Tryz.ty334 := by kernel_rfl
noncomputable def Tryz.ty335 : Ty := ⟨Tryz.t335.desc, 6, 80, true, Tryz.t335.zero, [(0, 1), (1, 1), (2, 1), (3, 1), (4, 1), (5, 1)], true, Tryz.t335.methods⟩
theorem Tryz.ty335_ok : tyOf Tryz.prog 335 = some Tryz.ty335 := by kernel_rfl
noncomputable def Tryz.ty336 : Ty := ⟨Tryz.t335.desc, 6, 80, true, Tryz.t336.zero, [(0, 1), (1, 1), (2, 1), (3, 1), (4, 1), (5, 1)], true, Tryz.t336.methods⟩
theorem Tryz.ty336_ok : tyOf Tryz.prog 336 = some Tryz.ty336 := by kernel_rfl
noncomputable def Tryz.ty337 : Ty := ⟨Tryz.t337.desc, 1, 8, false, Tryz.t337.zero, [], true, Tryz.t337.methods⟩
theorem Tryz.ty337_ok : tyOf Tryz.prog 337 = some Tryz.ty337 := by kernel_rfl
noncomputable def Tryz.ty338 : Ty := ⟨Tryz.t338.desc, 6, 48, true, Tryz.t338.zero, [(0, 1), (1, 1), (2, 1), (3, 1), (4, 1), (5, 1)], true, Tryz.t338.methods⟩
theorem Tryz.ty338_ok : tyOf Tryz.prog 338 = some Tryz.ty338 := by kernel_rfl
noncomputable def Tryz.ty339 : Ty := ⟨Tryz.t338.desc, 6, 48, true, Tryz.t339.zero, [(0, 1), (1, 1), (2, 1), (3, 1), (4, 1), (5, 1)], true, Tryz.t339.methods⟩
theorem Tryz.ty339_ok : tyOf Tryz.prog 339 = some Tryz.ty339 := by kernel_rfl
noncomputable def Tryz.ty340 : Ty := ⟨Tryz.t340.desc, 1, 8, false, Tryz.t340.zero, [], true, Tryz.t340.methods⟩
theorem Tryz.ty340_ok : tyOf Tryz.prog 340 = some Tryz.ty340 := by kernel_rfl
noncomputable def Tryz.ty341 : Ty := ⟨Tryz.t341.desc, 1, 8, false, Tryz.t341.zero, [], true, Tryz.t341.methods⟩
theorem Tryz.ty341_ok : tyOf Tryz.prog 341 = some Tryz.ty341 := by kernel_rfl
noncomputable def Tryz.ty342 : Ty := ⟨Tryz.t342.desc, 1, 8, false, Tryz.t342.zero, [], true, Tryz.t342.methods⟩
theorem Tryz.ty342_ok : tyOf Tryz.prog 342 = some Tryz.ty342 := by kernel_rfl
noncomputable def Tryz.ty343 : Ty := ⟨Tryz.t343.desc, 1, 8, false, Tryz.t343.zero, [], true, Tryz.t343.methods⟩
theorem Tryz.ty343_ok : tyOf Tryz.prog 343 = some Tryz.ty343 := by kernel_rfl
noncomputable def Tryz.ty344 : Ty := ⟨Tryz.t344.desc, 1, 8, false, Tryz.t344.zero, [], true, Tryz.t344.methods⟩
theorem Tryz.ty344_ok : tyOf Tryz.prog 344 = some Tryz.ty344 := by kernel_rfl
noncomputable def Tryz.ty345 : Ty := ⟨Tryz.t345.desc, 1, 8, false, Tryz.t345.zero, [], true, Tryz.t345.methods⟩
theorem Tryz.ty345_ok : tyOf Tryz.prog 345 = some Tryz.ty345 := by kernel_rfl
noncomputable def Tryz.ty346 : Ty := ⟨Tryz.t346.desc, 1, 8, false, Tryz.t346.zero, [], true, Tryz.t346.methods⟩
theorem Tryz.ty346_ok : tyOf Tryz.prog 346 = some Tryz.ty346 := by kernel_rfl
noncomputable def Tryz.ty347 : Ty := ⟨Tryz.t347.desc, 1, 8, false, Tryz.t347.zero, [], true, Tryz.t347.methods⟩
theorem Tryz.ty347_ok : tyOf Tryz.prog 347 = some Tryz.ty347 := by kernel_rfl
noncomputable def Tryz.ty348 : Ty := ⟨Tryz.t348.desc, 1, 8, false, Tryz.t348.zero, [], true, Tryz.t348.methods⟩
theorem Tryz.ty348_ok : tyOf Tryz.prog 348 = some Tryz.ty348 := by kernel_rfl
noncomputable def Tryz.ty349 : Ty := ⟨Tryz.t349.desc, 10, 80, true, Tryz.t349.zero, [], true, Tryz.t349.methods⟩
theorem Tryz.ty349_ok : tyOf Tryz.prog 349 = some Tryz.ty349 := by kernel_rfl
noncomputable def Tryz.ty350 : Ty := ⟨Tryz.t350.desc, 1, 8, false, Tryz.t350.zero, [], true, Tryz.t350.methods⟩
theorem Tryz.ty350_ok : tyOf Tryz.prog 350 = some Tryz.ty350 := by kernel_rfl
noncomputable def Tryz.ty351 : Ty := ⟨Tryz.t351.desc, 1, 8, false, Tryz.t351.zero, [], true, Tryz.t351.methods⟩
theorem Tryz.ty351_ok : tyOf Tryz.prog 351 = some Tryz.ty351 := by kernel_rfl
noncomputable def Tryz.ty352 : Ty := ⟨Tryz.t352.desc, 1, 8, false, Tryz.t352.zero, [], true, Tryz.t352.methods⟩
theorem Tryz.ty352_ok : tyOf Tryz.prog 352 = some Tryz.ty352 := by kernel_rfl
noncomputable def Tryz.ty353 : Ty := ⟨Tryz.t353.desc, 1, 0, false, Tryz.t353.zero, [], true, Tryz.t353.methods⟩
theorem Tryz.ty353_ok : tyOf Tryz.prog 353 = some Tryz.ty353 := by kernel_rfl
noncomputable def Tryz.ty354 : Ty := ⟨Tryz.t354.desc, 1, 8, false, Tryz.t354.zero, [], true, Tryz.t354.methods⟩
theorem Tryz.ty354_ok : tyOf Tryz.prog 354 = some Tryz.ty354 := by kernel_rfl
noncomputable def Tryz.ty355 : Ty := ⟨Tryz.t355.desc, 1, 0, false, Tryz.t355.zero, [], true, Tryz.t355.methods⟩
theorem Tryz.ty355_ok : tyOf Tryz.prog 355 = some Tryz.ty355 := by kernel_rfl
noncomputable def Tryz.ty356 : Ty := ⟨Tryz.t356.desc, 1, 8, false, Tryz.t356.zero, [], true, Tryz.t356.methods⟩
theorem Tryz.ty356_ok : tyOf Tryz.prog 356 = some Tryz.ty356 := by kernel_rfl
noncomputable def Tryz.ty357 : Ty := ⟨Tryz.t357.desc, 1, 8, false, Tryz.t357.zero, [], true, Tryz.t357.methods⟩
theorem Tryz.ty357_ok : tyOf Tryz.prog 357 = some Tryz.ty357 := by kernel_rfl
noncomputable def Tryz.ty358 : Ty := ⟨Tryz.t358.desc, 1, 8, false, Tryz.t358.zero, [], true, Tryz.t358.methods⟩
theorem Tryz.ty358_ok : tyOf Tryz.prog 358 = some Tryz.ty358 := by kernel_rfl
noncomputable def Tryz.ty359 : Ty := ⟨Tryz.t359.desc, 1, 8, false, Tryz.t359.zero, [], true, Tryz.t359.methods⟩
theorem Tryz.ty359_ok : tyOf Tryz.prog 359 = some Tryz.ty359 := by kernel_rfl
noncomputable def Tryz.ty360 : Ty := ⟨Tryz.t360.desc, 1, 24, false, Tryz.t360.zero, [], true, Tryz.t360.methods⟩
theorem Tryz.ty360_ok : tyOf Tryz.prog 360 = some Tryz.ty360 := by kernel_rfl
noncomputable def Tryz.ty361 : Ty := ⟨Tryz.t361.desc, 1, 8, false, Tryz.t361.zero, [], true, Tryz.t361.methods⟩
theorem Tryz.ty361_ok : tyOf Tryz.prog 361 = some Tryz.ty361 := by kernel_rfl
noncomputable def Tryz.ty362 : Ty := ⟨Tryz.t362.desc, 1, 8, false, Tryz.t362.zero, [], true, Tryz.t362.methods⟩
theorem Tryz.ty362_ok : tyOf Tryz.prog 362 = some Tryz.ty362 := by kernel_rfl
noncomputable def Tryz.ty363 : Ty := ⟨Tryz.t363.desc, 2, 32, true, Tryz.t363.zero, [(0, 1), (1, 1)], true, Tryz.t363.methods⟩
theorem Tryz.ty363_ok : tyOf Tryz.prog 363 = some Tryz.ty363 := by kernel_rfl
noncomputable def Tryz.ty364 : Ty := ⟨Tryz.t363.desc, 2, 32, true, Tryz.t364.zero, [(0, 1), (1, 1)], true, Tryz.t364.methods⟩
theorem Tryz.ty364_ok : tyOf Tryz.prog 364 = some Tryz.ty364 := by kernel_rfl
noncomputable def Tryz.ty365 : Ty := ⟨Tryz.t365.desc, 1, 8, false, Tryz.t365.zero, [], true, Tryz.t365.methods⟩
theorem Tryz.ty365_ok : tyOf Tryz.prog 365 = some Tryz.ty365 := by kernel_rfl
noncomputable def Tryz.ty366 : Ty := ⟨Tryz.t366.desc, 1, 8, false, Tryz.t366.zero, [], true, Tryz.t366.methods⟩
theorem Tryz.ty366_ok : tyOf Tryz.prog 366 = some Tryz.ty366 := by kernel_rfl
noncomputable def Tryz.ty367 : Ty := ⟨Tryz.t367.desc, 1, 8, false, Tryz.t367.zero, [], true, Tryz.t367.methods⟩
theorem Tryz.ty367_ok : tyOf Tryz.prog 367 = some Tryz.ty367 := by kernel_rfl
noncomputable def Tryz.ty368 : Ty := ⟨Tryz.t368.desc, 1, 8, false, Tryz.t368.zero, [], true, Tryz.t368.methods⟩
theorem Tryz.ty368_ok : tyOf Tryz.prog 368 = some Tryz.ty368 := by kernel_rfl
noncomputable def Tryz.ty369 : Ty := ⟨Tryz.t369.desc, 1, 8, false, Tryz.t369.zero, [], true, Tryz.t369.methods⟩
theorem Tryz.ty369_ok : tyOf Tryz.prog 369 = some Tryz.ty369 := by kernel_rfl
noncomputable def Tryz.ty370 : Ty := ⟨Tryz.t370.desc, 1, 8, false, Tryz.t370.zero, [], true, Tryz.t370.methods⟩
theorem Tryz.ty370_ok : tyOf Tryz.prog 370 = some Tryz.ty370 := by kernel_rfl
noncomputable def Tryz.ty371 : Ty := ⟨Tryz.t371.desc, 6, 80, true, Tryz.t371.zero, [(0, 1), (1, 1), (2, 1), (3, 1), (4, 1), (5, 1)], true, Tryz.t371.methods⟩
theorem Tryz.ty371_ok : tyOf Tryz.prog 371 = some Tryz.ty371 := by kernel_rfl
noncomputable def Tryz.ty372 : Ty := ⟨Tryz.t371.desc, 6, 80, true, Tryz.t372.zero, [(0, 1), (1, 1), (2, 1), (3, 1), (4, 1), (5, 1)], true, Tryz.t372.methods⟩
theorem Tryz.ty372_ok : tyOf Tryz.prog 372 = some Tryz.ty372 := by kernel_rfl
noncomputable def Tryz.ty373 : Ty := ⟨Tryz.t373.desc, 1, 24, false, Tryz.t373.zero, [], true, Tryz.t373.methods⟩
theorem Tryz.ty373_ok : tyOf Tryz.prog 373 = some Tryz.ty373 := by kernel_rfl
noncomputable def Tryz.ty374 : Ty := ⟨Tryz.t374.desc, 4, 48, true, Tryz.t374.zero, [(0, 1), (1, 1), (2, 1), (3, 1)], true, Tryz.t374.methods⟩
theorem Tryz.ty374_ok : tyOf Tryz.prog 374 = some Tryz.ty374 := by kernel_rfl
noncomputable def Tryz.ty375 : Ty := ⟨Tryz.t374.desc, 4, 48, true, Tryz.t375.zero, [(0, 1), (1, 1), (2, 1), (3, 1)], true, Tryz.t375.methods⟩
theorem Tryz.ty375_ok : tyOf Tryz.prog 375 = some Tryz.ty375 := by kernel_rfl
noncomputable def Tryz.ty376 : Ty := ⟨Tryz.t376.desc, 1, 0, false, Tryz.t376.zero, [], true, Tryz.t376.methods⟩
theorem Tryz.ty376_ok : tyOf Tryz.prog 376 = some Tryz.ty376 := by kernel_rfl
noncomputable def Tryz.ty377 : Ty := ⟨Tryz.t377.desc, 1, 8, false, Tryz.t377.zero, [], true, Tryz.t377.methods⟩
theorem Tryz.ty377_ok : tyOf Tryz.prog 377 = some Tryz.ty377 := by kernel_rfl
noncomputable def Tryz.ty378 : Ty := ⟨Tryz.t378.desc, 15, 120, true, Tryz.t378.zero, [(0, 1), (1, 10), (11, 1), (12, 1), (13, 1), (14, 1)], true, Tryz.t378.methods⟩
theorem Tryz.ty378_ok : tyOf Tryz.prog 378 = some Tryz.ty378 := by kernel_rfl
noncomputable def Tryz.ty379 : Ty := ⟨Tryz.t378.desc, 15, 120, true, Tryz.t379.zero, [(0, 1), (1, 10), (11, 1), (12, 1), (13, 1), (14, 1)], true, Tryz.t379.methods⟩
theorem Tryz.ty379_ok : tyOf Tryz.prog 379 = some Tryz.ty379 := by kernel_rfl
noncomputable def Tryz.ty380 : Ty := ⟨Tryz.t380.desc, 1, 8, false, Tryz.t380.zero, [], true, Tryz.t380.methods⟩
theorem Tryz.ty380_ok : tyOf Tryz.prog 380 = some Tryz.ty380 := by kernel_rfl
noncomputable def Tryz.ty381 : Ty := ⟨Tryz.t381.desc, 1, 8, false, Tryz.t381.zero, [], true, Tryz.t381.methods⟩
theorem Tryz.ty381_ok : tyOf Tryz.prog 381 = some Tryz.ty381 := by kernel_rfl
noncomputable def Tryz.ty382 : Ty := ⟨Tryz.t382.desc, 1, 8, false, Tryz.t382.zero, [], true, Tryz.t382.methods⟩
theorem Tryz.ty382_ok : tyOf Tryz.prog 382 = some Tryz.ty382 := by kernel_rfl
noncomputable def Tryz.ty383 : Ty := ⟨Tryz.t383.desc, 1, 8, false, Tryz.t383.zero, [], true, Tryz.t383.methods⟩
theorem Tryz.ty383_ok : tyOf Tryz.prog 383 = some Tryz.ty383 := by kernel_rfl
noncomputable def Tryz.ty384 : Ty := ⟨Tryz.t384.desc, 1, 8, false, Tryz.t384.zero, [], true, Tryz.t384.methods⟩
theorem Tryz.ty384_ok : tyOf Tryz.prog 384 = some Tryz.ty384 := by kernel_rfl
noncomputable def Tryz.ty385 : Ty := ⟨Tryz.t385.desc, 1, 8, false, Tryz.t385.zero, [], true, Tryz.t385.methods⟩
theorem Tryz.ty385_ok : tyOf Tryz.prog 385 = some Tryz.ty385 := by kernel_rfl
noncomputable def Tryz.ty386 : Ty := ⟨Tryz.t386.desc, 1, 8, false, Tryz.t386.zero, [], true, Tryz.t386.methods⟩
theorem Tryz.ty386_ok : tyOf Tryz.prog 386 = some Tryz.ty386 := by kernel_rfl
noncomputable def Tryz.ty387 : Ty := ⟨Tryz.t387.desc, 1, 8, false, Tryz.t387.zero, [], true, Tryz.t387.methods⟩
theorem Tryz.ty387_ok : tyOf Tryz.prog 387 = some Tryz.ty387 := by kernel_rfl
noncomputable def Tryz.ty388 : Ty := ⟨Tryz.t388.desc, 1, 0, false, Tryz.t388.zero, [], true, Tryz.t388.methods⟩
theorem Tryz.ty388_ok : tyOf Tryz.prog 388 = some Tryz.ty388 := by kernel_rfl
noncomputable def Tryz.ty389 : Ty := ⟨Tryz.t389.desc, 1, 8, false, Tryz.t389.zero, [], true, Tryz.t389.methods⟩
theorem Tryz.ty389_ok : tyOf Tryz.prog 389 = some Tryz.ty389 := by kernel_rfl
noncomputable def Tryz.ty390 : Ty := ⟨Tryz.t390.desc, 1, 8, false, Tryz.t390.zero, [], true, Tryz.t390.methods⟩
theorem Tryz.ty390_ok : tyOf Tryz.prog 390 = some Tryz.ty390 := by kernel_rfl
noncomputable def Tryz.ty391 : Ty := ⟨Tryz.t391.desc, 1, 8, false, Tryz.t391.zero, [], true, Tryz.t391.methods⟩
theorem Tryz.ty391_ok : tyOf Tryz.prog 391 = some Tryz.ty391 := by kernel_rfl
noncomputable def Tryz.ty392 : Ty := ⟨Tryz.t392.desc, 1, 8, false, Tryz.t392.zero, [], true, Tryz.t392.methods⟩
theorem Tryz.ty392_ok : tyOf Tryz.prog 392 = some Tryz.ty392 := by kernel_rfl
noncomputable def Tryz.ty393 : Ty := ⟨Tryz.t393.desc, 256, 256, true, Tryz.t393.zero, [], true, Tryz.t393.methods⟩
theorem Tryz.ty393_ok : tyOf Tryz.prog 393 = some Tryz.ty393 := by kernel_rfl
noncomputable def Tryz.ty394 : Ty := ⟨Tryz.t393.desc, 256, 256, true, Tryz.t394.zero, [], true, Tryz.t394.methods⟩
theorem Tryz.ty394_ok : tyOf Tryz.prog 394 = some Tryz.ty394 := by kernel_rfl
noncomputable def Tryz.ty395 : Ty := ⟨Tryz.t395.desc, 1, 0, false, Tryz.t395.zero, [], true, Tryz.t395.methods⟩
theorem Tryz.ty395_ok : tyOf Tryz.prog 395 = some Tryz.ty395 := by kernel_rfl
noncomputable def Tryz.ty396 : Ty := ⟨Tryz.t396.desc, 1, 8, false, Tryz.t396.zero, [], true, Tryz.t396.methods⟩
theorem Tryz.ty396_ok : tyOf Tryz.prog 396 = some Tryz.ty396 := by kernel_rfl
noncomputable def Tryz.ty397 : Ty := ⟨Tryz.t397.desc, 1, 8, false, Tryz.t397.zero, [], true, Tryz.t397.methods⟩
theorem Tryz.ty397_ok : tyOf Tryz.prog 397 = some Tryz.ty397 := by kernel_rfl
noncomputable def Tryz.ty398 : Ty := ⟨Tryz.t398.desc, 1, 8, false, Tryz.t398.zero, [], true, Tryz.t398.methods⟩
theorem Tryz.ty398_ok : tyOf Tryz.prog 398 = some Tryz.ty398 := by kernel_rfl
noncomputable def Tryz.ty399 : Ty := ⟨Tryz.t399.desc, 1, 8, false, Tryz.t399.zero, [], true, Tryz.t399.methods⟩
theorem Tryz.ty399_ok : tyOf Tryz.prog 399 = some Tryz.ty399 := by kernel_rfl
noncomputable def Tryz.ty400 : Ty := ⟨Tryz.t400.desc, 1, 8, false, Tryz.t400.zero, [], true, Tryz.t400.methods⟩
theorem Tryz.ty400_ok : tyOf Tryz.prog 400 = some Tryz.ty400 := by kernel_rfl
noncomputable def Tryz.ty401 : Ty := ⟨Tryz.t401.desc, 1, 8, false, Tryz.t401.zero, [], true, Tryz.t401.methods⟩
theorem Tryz.ty401_ok : tyOf Tryz.prog 401 = some Tryz.ty401 := by kernel_rfl
noncomputable def Tryz.ty402 : Ty := ⟨Tryz.t402.desc, 1, 8, false, Tryz.t402.zero, [], true, Tryz.t402.methods⟩
theorem Tryz.ty402_ok : tyOf Tryz.prog 402 = some Tryz.ty402 := by kernel_rfl
noncomputable def Tryz.ty403 : Ty := ⟨Tryz.t403.desc, 1, 8, false, Tryz.t403.zero, [], true, Tryz.t403.methods⟩
theorem Tryz.ty403_ok : tyOf Tryz.prog 403 = some Tryz.ty403 := by kernel_rfl
noncomputable def Tryz.ty404 : Ty := ⟨Tryz.t404.desc, 1, 8, false, Tryz.t404.zero, [], true, Tryz.t404.methods⟩
theorem Tryz.ty404_ok : tyOf Tryz.prog 404 = some Tryz.ty404 := by kernel_rfl
noncomputable def Tryz.ty405 : Ty := ⟨Tryz.t405.desc, 1, 8, false, Tryz.t405.zero, [], true, Tryz.t405.methods⟩
theorem Tryz.ty405_ok : tyOf Tryz.prog 405 = some Tryz.ty405 := by kernel_rfl
noncomputable def Tryz.ty406 : Ty := ⟨Tryz.t406.desc, 1, 8, false, Tryz.t406.zero, [], true, Tryz.t406.methods⟩
theorem Tryz.ty406_ok : tyOf Tryz.prog 406 = some Tryz.ty406 := by kernel_rfl
noncomputable def Tryz.ty407 : Ty := ⟨Tryz.t407.desc, 1, 8, false, Tryz.t407.zero, [], true, Tryz.t407.methods⟩
theorem Tryz.ty407_ok : tyOf Tryz.prog 407 = some Tryz.ty407 := by kernel_rfl
noncomputable def Tryz.ty408 : Ty := ⟨Tryz.t408.desc, 1, 8, false, Tryz.t408.zero, [], true, Tryz.t408.methods⟩
theorem Tryz.ty408_ok : tyOf Tryz.prog 408 = some Tryz.ty408 := by kernel_rfl
noncomputable def Tryz.ty409 : Ty := ⟨Tryz.t409.desc, 1, 8, false, Tryz.t409.zero, [], true, Tryz.t409.methods⟩
theorem Tryz.ty409_ok : tyOf Tryz.prog 409 = some Tryz.ty409 := by kernel_rfl
noncomputable def Tryz.ty410 : Ty := ⟨Tryz.t410.desc, 1, 8, false, Tryz.t410.zero, [], true, Tryz.t410.methods⟩
theorem Tryz.ty410_ok : tyOf Tryz.prog 410 = some Tryz.ty410 := by kernel_rfl
noncomputable def Tryz.ty411 : Ty := ⟨Tryz.t411.desc, 1, 8, false, Tryz.t411.zero, [], true, Tryz.t411.methods⟩
theorem Tryz.ty411_ok : tyOf Tryz.prog 411 = some Tryz.ty411 := by kernel_rfl
noncomputable def Tryz.ty412 : Ty := ⟨Tryz.t412.desc, 1, 24, false, Tryz.t412.zero, [], true, Tryz.t412.methods⟩
theorem Tryz.ty412_ok : tyOf Tryz.prog 412 = some Tryz.ty412 := by kernel_rfl
noncomputable def Tryz.ty413 : Ty := ⟨Tryz.t413.desc, 1, 8, false, Tryz.t413.zero, [], true, Tryz.t413.methods⟩
theorem Tryz.ty413_ok : tyOf Tryz.prog 413 = some Tryz.ty413 := by kernel_rfl
noncomputable def Tryz.ty414 : Ty := ⟨Tryz.t414.desc, 1, 8, false, Tryz.t414.zero, [], true, Tryz.t414.methods⟩
theorem Tryz.ty414_ok : tyOf Tryz.prog 414 = some Tryz.ty414 := by kernel_rfl
noncomputable def Tryz.ty415 : Ty := ⟨Tryz.t415.desc, 1, 8, false, Tryz.t415.zero, [], true, Tryz.t415.methods⟩
theorem Tryz.ty415_ok : tyOf Tryz.prog 415 = some Tryz.ty415 := by kernel_rfl
noncomputable def Tryz.ty416 : Ty := ⟨Tryz.t416.desc, 1, 8, false, Tryz.t416.zero, [], true, Tryz.t416.methods⟩
theorem Tryz.ty416_ok : tyOf Tryz.prog 416 = some Tryz.ty416 := by kernel_rfl
noncomputable def Tryz.ty417 : Ty := ⟨Tryz.t417.desc, 1, 8, false, Tryz.t417.zero, [], true, Tryz.t417.methods⟩
theorem Tryz.ty417_ok : tyOf Tryz.prog 417 = some Tryz.ty417 := by kernel_rfl
noncomputable def Tryz.ty418 : Ty := ⟨Tryz.t418.desc, 1, 0, false, Tryz.t418.zero, [], true, Tryz.t418.methods⟩
theorem Tryz.ty418_ok : tyOf Tryz.prog 418 = some Tryz.ty418 := by kernel_rfl
noncomputable def Tryz.ty419 : Ty := ⟨Tryz.t419.desc, 1, 8, false, Tryz.t419.zero, [], true, Tryz.t419.methods⟩
theorem Tryz.ty419_ok : tyOf Tryz.prog 419 = some Tryz.ty419 := by kernel_rfl
noncomputable def Tryz.ty420 : Ty := ⟨Tryz.t420.desc, 1, 8, false, Tryz.t420.zero, [], true, Tryz.t420.methods⟩
theorem Tryz.ty420_ok : tyOf Tryz.prog 420 = some Tryz.ty420 := by kernel_rfl
noncomputable def Tryz.ty421 : Ty := ⟨Tryz.t421.desc, 16, 160, true, Tryz.t421.zero, [(0, 10), (10, 1), (11, 1), (12, 1), (13, 1), (14, 2)], true, Tryz.t421.methods⟩
theorem Tryz.ty421_ok : tyOf Tryz.prog 421 = some Tryz.ty421 := by kernel_rfl
noncomputable def Tryz.ty422 : Ty := ⟨Tryz.t421.desc, 16, 160, true, Tryz.t422.zero, [(0, 10), (10, 1), (11, 1), (12, 1), (13, 1), (14, 2)], true, Tryz.t422.methods⟩
theorem Tryz.ty422_ok : tyOf Tryz.prog 422 = some Tryz.ty422 := by kernel_rfl
noncomputable def Tryz.ty423 : Ty := ⟨Tryz.t423.desc, 1, 8, false, Tryz.t423.zero, [], true, Tryz.t423.methods⟩
theorem Tryz.ty423_ok : tyOf Tryz.prog 423 = some Tryz.ty423 := by kernel_rfl
noncomputable def Tryz.ty424 : Ty := ⟨Tryz.t424.desc, 1, 8, false, Tryz.t424.zero, [], true, Tryz.t424.methods⟩
theorem Tryz.ty424_ok : tyOf Tryz.prog 424 = some Tryz.ty424 := by kernel_rfl
noncomputable def Tryz.ty425 : Ty := ⟨Tryz.t425.desc, 1, 0, false, Tryz.t425.zero, [], true, Tryz.t425.methods⟩
theorem Tryz.ty425_ok : tyOf Tryz.prog 425 = some Tryz.ty425 := by kernel_rfl
noncomputable def Tryz.ty426 : Ty := ⟨Tryz.t426.desc, 1, 8, false, Tryz.t426.zero, [], true, Tryz.t426.methods⟩
theorem Tryz.ty426_ok : tyOf Tryz.prog 426 = some Tryz.ty426 := by kernel_rfl
noncomputable def Tryz.ty427 : Ty := ⟨Tryz.t427.desc, 1, 8, false, Tryz.t427.zero, [], true, Tryz.t427.methods⟩
theorem Tryz.ty427_ok : tyOf Tryz.prog 427 = some Tryz.ty427 := by kernel_rfl
noncomputable def Tryz.ty428 : Ty := ⟨Tryz.t428.desc, 1, 8, false, Tryz.t428.zero, [], true, Tryz.t428.methods⟩
theorem Tryz.ty428_ok : tyOf Tryz.prog 428 = some Tryz.ty428 := by kernel_rfl
noncomputable def Tryz.ty429 : Ty := ⟨Tryz.t428.desc, 1, 8, false, Tryz.t429.zero, [], true, Tryz.t429.methods⟩
theorem Tryz.ty429_ok : tyOf Tryz.prog 429 = some Tryz.ty429 := by kernel_rfl
noncomputable def Tryz.ty430 : Ty := ⟨Tryz.t430.desc, 1, 8, false, Tryz.t430.zero, [], true, Tryz.t430.methods⟩
theorem Tryz.ty430_ok : tyOf Tryz.prog 430 = some Tryz.ty430 := by kernel_rfl
noncomputable def Tryz.ty431 : Ty := ⟨Tryz.t431.desc, 1, 8, false, Tryz.t431.zero, [], true, Tryz.t431.methods⟩
theorem Tryz.ty431_ok : tyOf Tryz.prog 431 = some Tryz.ty431 := by kernel_rfl
noncomputable def Tryz.ty432 : Ty := ⟨Tryz.t431.desc, 1, 8, false, Tryz.t432.zero, [], true, Tryz.t432.methods⟩
theorem Tryz.ty432_ok : tyOf Tryz.prog 432 = some Tryz.ty432 := by kernel_rfl
noncomputable def Tryz.ty433 : Ty := ⟨Tryz.t433.desc, 1, 8, false, Tryz.t433.zero, [], true, Tryz.t433.methods⟩
theorem Tryz.ty433_ok : tyOf Tryz.prog 433 = some Tryz.ty433 := by kernel_rfl
noncomputable def Tryz.ty434 : Ty := ⟨Tryz.t434.desc, 1, 8, false, Tryz.t434.zero, [], true, Tryz.t434.methods⟩
theorem Tryz.ty434_ok : tyOf Tryz.prog 434 = some Tryz.ty434 := by kernel_rfl
noncomputable def Tryz.ty435 : Ty := ⟨Tryz.t435.desc, 1, 8, false, Tryz.t435.zero, [], true, Tryz.t435.methods⟩
theorem Tryz.ty435_ok : tyOf Tryz.prog 435 = some Tryz.ty435 := by kernel_rfl
noncomputable def Tryz.ty436 : Ty := ⟨Tryz.t436.desc, 1, 8, false, Tryz.t436.zero, [], true, Tryz.t436.methods⟩
theorem Tryz.ty436_ok : tyOf Tryz.prog 436 = some Tryz.ty436 := by kernel_rfl
noncomputable def Tryz.ty437 : Ty := ⟨Tryz.t437.desc, 1, 8, false, Tryz.t437.zero, [], true, Tryz.t437.methods⟩
theorem Tryz.ty437_ok : tyOf Tryz.prog 437 = some Tryz.ty437 := by kernel_rfl
noncomputable def Tryz.ty438 : Ty := ⟨Tryz.t438.desc, 1, 16, false, Tryz.t438.zero, [], false, Tryz.t438.methods⟩
theorem Tryz.ty438_ok : tyOf Tryz.prog 438 = some Tryz.ty438 := by kernel_rfl
noncomputable def Tryz.ty439 : Ty := ⟨Tryz.t438.desc, 1, 16, false, Tryz.t439.zero, [], false, Tryz.t439.methods⟩
theorem Tryz.ty439_ok : tyOf Tryz.prog 439 = some Tryz.ty439 := by kernel_rfl
noncomputable def Tryz.ty440 : Ty := ⟨Tryz.t440.desc, 1, 8, false, Tryz.t440.zero, [], true, Tryz.t440.methods⟩
theorem Tryz.ty440_ok : tyOf Tryz.prog 440 = some Tryz.ty440 := by kernel_rfl
noncomputable def Tryz.ty441 : Ty := ⟨Tryz.t441.desc, 1, 8, false, Tryz.t441.zero, [], true, Tryz.t441.methods⟩
theorem Tryz.ty441_ok : tyOf Tryz.prog 441 = some Tryz.ty441 := by kernel_rfl
noncomputable def Tryz.ty442 : Ty := ⟨Tryz.t442.desc, 1, 8, false, Tryz.t442.zero, [], true, Tryz.t442.methods⟩
theorem Tryz.ty442_ok : tyOf Tryz.prog 442 = some Tryz.ty442 := by kernel_rfl
noncomputable def Tryz.ty443 : Ty := ⟨Tryz.t443.desc, 1, 8, false, Tryz.t443.zero, [], true, Tryz.t443.methods⟩
theorem Tryz.ty443_ok : tyOf Tryz.prog 443 = some Tryz.ty443 := by kernel_rfl
noncomputable def Tryz.ty444 : Ty := ⟨Tryz.t444.desc, 1, 8, false, Tryz.t444.zero, [], true, Tryz.t444.methods⟩
theorem Tryz.ty444_ok : tyOf Tryz.prog 444 = some Tryz.ty444 := by kernel_rfl
noncomputable def Tryz.ty445 : Ty := ⟨Tryz.t445.desc, 1, 8, false, Tryz.t445.zero, [], true, Tryz.t445.methods⟩
theorem Tryz.ty445_ok : tyOf Tryz.prog 445 = some Tryz.ty445 := by kernel_rfl
noncomputable def Tryz.ty446 : Ty := ⟨Tryz.t446.desc, 1, 8, false, Tryz.t446.zero, [], true, Tryz.t446.methods⟩
theorem Tryz.ty446_ok : tyOf Tryz.prog 446 = some Tryz.ty446 := by kernel_rfl
noncomputable def Tryz.ty447 : Ty := ⟨Tryz.t447.desc, 1, 0, false, Tryz.t447.zero, [], true, Tryz.t447.methods⟩
theorem Tryz.ty447_ok : tyOf Tryz.prog 447 = some Tryz.ty447 := by kernel_rfl
noncomputable def Tryz.ty448 : Ty := ⟨Tryz.t448.desc, 1, 8, false, Tryz.t448.zero, [], true, Tryz.t448.methods⟩
theorem Tryz.ty448_ok : tyOf Tryz.prog 448 = some Tryz.ty448 := by kernel_rfl
noncomputable def Tryz.ty449 : Ty := ⟨Tryz.t449.desc, 1, 8, false, Tryz.t449.zero, [], true, Tryz.t449.methods⟩
theorem Tryz.ty449_ok : tyOf Tryz.prog 449 = some Tryz.ty449 := by kernel_rfl
noncomputable def Tryz.ty450 : Ty := ⟨Tryz.t450.desc, 1, 8, false, Tryz.t450.zero, [], true, Tryz.t450.methods⟩
theorem Tryz.ty450_ok : tyOf Tryz.prog 450 = some Tryz.ty450 := by kernel_rfl
noncomputable def Tryz.ty451 : Ty := ⟨Tryz.t451.desc, 1, 8, false, Tryz.t451.zero, [], true, Tryz.t451.methods⟩
theorem Tryz.ty451_ok : tyOf Tryz.prog 451 = some Tryz.ty451 := by kernel_rfl
noncomputable def Tryz.ty452 : Ty := ⟨Tryz.t452.desc, 2, 24, true, Tryz.t452.zero, [(0, 1), (1, 1)], true, Tryz.t452.methods⟩
theorem Tryz.ty452_ok : tyOf Tryz.prog 452 = some Tryz.ty452 := by kernel_rfl
noncomputable def Tryz.ty453 : Ty := ⟨Tryz.t452.desc, 2, 24, true, Tryz.t453.zero, [(0, 1), (1, 1)], true, Tryz.t453.methods⟩
theorem Tryz.ty453_ok : tyOf Tryz.prog 453 = some Tryz.ty453 := by kernel_rfl
noncomputable def Tryz.ty454 : Ty := ⟨Tryz.t454.desc, 1, 8, false, Tryz.t454.zero, [], true, Tryz.t454.methods⟩
theorem Tryz.ty454_ok : tyOf Tryz.prog 454 = some Tryz.ty454 := by kernel_rfl
noncomputable def Tryz.ty455 : Ty := ⟨Tryz.t455.desc, 1, 8, false, Tryz.t455.zero, [], true, Tryz.t455.methods⟩
theorem Tryz.ty455_ok : tyOf Tryz.prog 455 = some Tryz.ty455 := by kernel_rfl
noncomputable def Tryz.ty456 : Ty := ⟨Tryz.t456.desc, 3, 32, true, Tryz.t456.zero, [(0, 1), (1, 1), (2, 1)], true, Tryz.t456.methods⟩
theorem Tryz.ty456_ok : tyOf Tryz.prog 456 = some Tryz.ty456 := by kernel_rfl
noncomputable def Tryz.ty457 : Ty := ⟨Tryz.t456.desc, 3, 32, true, Tryz.t457.zero, [(0, 1), (1, 1), (2, 1)], true, Tryz.t457.methods⟩
theorem Tryz.ty457_ok : tyOf Tryz.prog 457 = some Tryz.ty457 := by kernel_rfl
noncomputable def Tryz.ty458 : Ty := ⟨Tryz.t458.desc, 1, 8, false, Tryz.t458.zero, [], true, Tryz.t458.methods⟩
theorem Tryz.ty458_ok : tyOf Tryz.prog 458 = some Tryz.ty458 := by kernel_rfl
noncomputable def Tryz.ty459 : Ty := ⟨Tryz.t459.desc, 1, 8, false, Tryz.t459.zero, [], true, Tryz.t459.methods⟩
theorem Tryz.ty459_ok : tyOf Tryz.prog 459 = some Tryz.ty459 := by kernel_rfl
noncomputable def Tryz.ty460 : Ty := ⟨Tryz.t460.desc, 1, 8, false, Tryz.t460.zero, [], true, Tryz.t460.methods⟩
theorem Tryz.ty460_ok : tyOf Tryz.prog 460 = some Tryz.ty460 := by kernel_rfl
noncomputable def Tryz.ty461 : Ty := ⟨Tryz.t461.desc, 1, 8, false, Tryz.t461.zero, [], true, Tryz.t461.methods⟩
theorem Tryz.ty461_ok : tyOf Tryz.prog 461 = some Tryz.ty461 := by kernel_rfl
noncomputable def Tryz.ty462 : Ty := ⟨Tryz.t462.desc, 1, 8, false, Tryz.t462.zero, [], true, Tryz.t462.methods⟩
theorem Tryz.ty462_ok : tyOf Tryz.prog 462 = some Tryz.ty462 := by kernel_rfl
noncomputable def Tryz.ty463 : Ty := ⟨Tryz.t463.desc, 1, 8, false, Tryz.t463.zero, [], true, Tryz.t463.methods⟩
theorem Tryz.ty463_ok : tyOf Tryz.prog 463 = some Tryz.ty463 := by kernel_rfl
noncomputable def Tryz.ty464 : Ty := ⟨Tryz.t464.desc, 4, 40, true, Tryz.t464.zero, [(0, 1), (1, 1), (2, 1), (3, 1)], false, Tryz.t464.methods⟩
theorem Tryz.ty464_ok : tyOf Tryz.prog 464 = some Tryz.ty464 := by kernel_rfl
noncomputable def Tryz.ty465 : Ty := ⟨Tryz.t464.desc, 4, 40, true, Tryz.t465.zero, [(0, 1), (1, 1), (2, 1), (3, 1)], false, Tryz.t465.methods⟩
theorem Tryz.ty465_ok : tyOf Tryz.prog 465 = some Tryz.ty465 := by kernel_rfl
noncomputable def Tryz.ty466 : Ty := ⟨Tryz.t466.desc, 0, 0, true, Tryz.t466.zero, [], true, Tryz.t466.methods⟩
theorem Tryz.ty466_ok : tyOf Tryz.prog 466 = some Tryz.ty466 := by kernel_rfl
noncomputable def Tryz.ty467 : Ty := ⟨Tryz.t467.desc, 0, 0, true, Tryz.t467.zero, [(0, 0)], false, Tryz.t467.methods⟩
theorem Tryz.ty467_ok : tyOf Tryz.prog 467 = some Tryz.ty467 := by kernel_rfl
noncomputable def Tryz.ty468 : Ty := ⟨Tryz.t467.desc, 0, 0, true, Tryz.t468.zero, [(0, 0)], false, Tryz.t468.methods⟩
theorem Tryz.ty468_ok : tyOf Tryz.prog 468 = some Tryz.ty468 := by kernel_rfl
noncomputable def Tryz.ty469 : Ty := ⟨Tryz.t5.desc, 1, 1, false, Tryz.t469.zero, [], true, Tryz.t469.methods⟩
theorem Tryz.ty469_ok : tyOf Tryz.prog 469 = some Tryz.ty469 := by kernel_rfl
noncomputable def Tryz.ty470 : Ty := ⟨Tryz.t5.desc, 1, 1, false, Tryz.t470.zero, [], true, Tryz.t470.methods⟩
theorem Tryz.ty470_ok : tyOf Tryz.prog 470 = some Tryz.ty470 := by kernel_rfl
noncomputable def Tryz.ty471 : Ty := ⟨Tryz.t471.desc, 1, 8, false, Tryz.t471.zero, [], true, Tryz.t471.methods⟩
theorem Tryz.ty471_ok : tyOf Tryz.prog 471 = some Tryz.ty471 := by kernel_rfl
noncomputable def Tryz.ty472 : Ty := ⟨Tryz.t21.desc, 1, 4, false, Tryz.t472.zero, [], true, Tryz.t472.methods⟩
theorem Tryz.ty472_ok : tyOf Tryz.prog 472 = some Tryz.ty472 := by kernel_rfl
noncomputable def Tryz.ty473 : Ty := ⟨Tryz.t21.desc, 1, 4, false, Tryz.t473.zero, [], true, Tryz.t473.methods⟩
theorem Tryz.ty473_ok : tyOf Tryz.prog 473 = some Tryz.ty473 := by kernel_rfl
noncomputable def Tryz.ty474 : Ty := ⟨Tryz.t474.desc, 11, 48, true, Tryz.t474.zero, [(0, 1), (1, 1), (2, 1), (3, 1), (4, 1), (5, 1), (6, 1), (7, 1), (8, 1), (9, 1), (10, 1)], false, Tryz.t474.methods⟩
theorem Tryz.ty474_ok : tyOf Tryz.prog 474 = some Tryz.ty474 := by kernel_rfl
noncomputable def Tryz.ty475 : Ty := ⟨Tryz.t474.desc, 11, 48, true, Tryz.t475.zero, [(0, 1), (1, 1), (2, 1), (3, 1), (4, 1), (5, 1), (6, 1), (7, 1), (8, 1), (9, 1), (10, 1)], false, Tryz.t475.methods⟩
theorem Tryz.ty475_ok : tyOf Tryz.prog 475 = some Tryz.ty475 := by kernel_rfl
noncomputable def Tryz.ty476 : Ty := ⟨Tryz.t476.desc, 1, 0, false, Tryz.t476.zero, [], true, Tryz.t476.methods⟩
theorem Tryz.ty476_ok : tyOf Tryz.prog 476 = some Tryz.ty476 := by kernel_rfl
noncomputable def Tryz.T : Tr Ty := (.nd (.nd (.nd (.nd (.nd (.nd (.nd (.nd (.nd .lf (some Tryz.ty255) .lf) (some Tryz.ty127) (.nd .lf (some Tryz.ty383) .lf)) (some Tryz.ty63) (.nd (.nd .lf (some Tryz.ty319) .lf) (some Tryz.ty191) (.nd .lf (some Tryz.ty447) .lf))) (some Tryz.ty31) (.nd (.nd (.nd .lf (some Tryz.ty287) .lf) (some Tryz.ty159) (.nd .lf (some Tryz.ty415) .lf)) (some Tryz.ty95) (.nd (.nd .lf (some Tryz.ty351) .lf) (some Tryz.ty223) .lf))) (some Tryz.ty15) (.nd (.nd (.nd (.nd .lf (some Tryz.ty271) .lf) (some Tryz.ty143) (.nd .lf (some Tryz.ty399) .lf)) (some Tryz.ty79) (.nd (.nd .lf (some Tryz.ty335) .lf) (some Tryz.ty207) (.nd .lf (some Tryz.ty463) .lf))) (some Tryz.ty47) (.nd (.nd (.nd .lf (some Tryz.ty303) .lf) (some Tryz.ty175) (.nd .lf (some Tryz.ty431) .lf)) (some Tryz.ty111) (.nd (.nd .lf (some Tryz.ty367) .lf) (some Tryz.ty239) .lf)))) (some Tryz.ty7) (.nd (.nd (.nd (.nd (.nd .lf (some Tryz.ty263) .lf) (some Tryz.ty135) (.nd .lf (some Tryz.ty391) .lf)) (some Tryz.ty71) (.nd (.nd .lf (some Tryz.ty327) .lf) (some Tryz.ty199) (.nd .lf (some Tryz.ty455) .lf))) (some Tryz.ty39) (.nd (.nd (.nd .lf (some Tryz.ty295) .lf) (some Tryz.ty167) (.nd .lf (some Tryz.ty423) .lf)) (some Tryz.ty103) (.nd (.nd .lf (some Tryz.ty359) .lf) (some Tryz.ty231) .lf))) (some Tryz.ty23) (.nd (.nd (.nd (.nd .lf (some Tryz.ty279) .lf) (some Tryz.ty151) (.nd .lf (some Tryz.ty407) .lf)) (some Tryz.ty87) (.nd (.nd .lf (some Tryz.ty343) .lf) (some Tryz.ty215) (.nd .lf (some Tryz.ty471) .lf))) (some Tryz.ty55) (.nd (.nd (.nd .lf (some Tryz.ty311) .lf) (some Tryz.ty183) (.nd .lf (some Tryz.ty439) .lf)) (some Tryz.ty119) (.nd (.nd .lf (some Tryz.ty375) .lf) (some Tryz.ty247) .lf))))) (some Tryz.ty3) (.nd (.nd (.nd (.nd (.nd (.nd .lf (some Tryz.ty259) .lf) (some Tryz.ty131) (.nd .lf (some Tryz.ty387) .lf)) (some Tryz.ty67) (.nd (.nd .lf (some Tryz.ty323) .lf) (some Tryz.ty195) (.nd .lf (some Tryz.ty451) .lf))) (some Tryz.ty35) (.nd (.nd (.nd .lf (some Tryz.ty291) .lf) (some Tryz.ty163) (.nd .lf (some Tryz.ty419) .lf)) (some Tryz.ty99) (.nd (.nd .lf (some Tryz.ty355) .lf) (some Tryz.ty227) .lf))) (some Tryz.ty19) (.nd (.nd (.nd (.nd .lf (some Tryz.ty275) .lf) (some Tryz.ty147) (.nd .lf (some Tryz.ty403) .lf)) (some Tryz.ty83) (.nd (.nd .lf (some Tryz.ty339) .lf) (some Tryz.ty211) (.nd .lf (some Tryz.ty467) .lf))) (some Tryz.ty51) (.nd (.nd (.nd .lf (some Tryz.ty307) .lf) (some Tryz.ty179) (.nd .lf (some Tryz.ty435) .lf)) (some Tryz.ty115) (.nd (.nd .lf (some Tryz.ty371) .lf) (some Tryz.ty243) .lf)))) (some Tryz.ty11) (.nd (.nd (.nd (.nd (.nd .lf (some Tryz.ty267) .lf) (some Tryz.ty139) (.nd .lf (some Tryz.ty395) .lf)) (some Tryz.ty75) (.nd (.nd .lf (some Tryz.ty331) .lf) (some Tryz.ty203) (.nd .lf (some Tryz.ty459) .lf))) (some Tryz.ty43) (.nd (.nd (.nd .lf (some Tryz.ty299) .lf) (some Tryz.ty171) (.nd .lf (some Tryz.ty427) .lf)) (some Tryz.ty107) (.nd (.nd .lf (some Tryz.ty363) .lf) (some Tryz.ty235) .lf))) (some Tryz.ty27) (.nd (.nd (.nd (.nd .lf (some Tryz.ty283) .lf) (some Tryz.ty155) (.nd .lf (some Tryz.ty411) .lf)) (some Tryz.ty91) (.nd (.nd .lf (some Tryz.ty347) .lf) (some Tryz.ty219) (.nd .lf (some Tryz.ty475) .lf))) (some Tryz.ty59) (.nd (.nd (.nd .lf (some Tryz.ty315) .lf) (some Tryz.ty187) (.nd .lf (some Tryz.ty443) .lf)) (some Tryz.ty123) (.nd (.nd .lf (some Tryz.ty379) .lf) (some Tryz.ty251) .lf)))))) (some Tryz.ty1) (.nd (.nd (.nd (.nd (.nd (.nd (.nd .lf (some Tryz.ty257) .lf) (some Tryz.ty129) (.nd .lf (some Tryz.ty385) .lf)) (some Tryz.ty65) (.nd (.nd .lf (some Tryz.ty321) .lf) (some Tryz.ty193) (.nd .lf (some Tryz.ty449) .lf))) (some Tryz.ty33) (.nd (.nd (.nd .lf (some Tryz.ty289) .lf) (some Tryz.ty161) (.nd .lf (some Tryz.ty417) .lf)) (some Tryz.ty97) (.nd (.nd .lf (some Tryz.ty353) .lf) (some Tryz.ty225) .lf))) (some Tryz.ty17) (.nd (.nd (.nd (.nd .lf (some Tryz.ty273) .lf) (some Tryz.ty145) (.nd .lf (some Tryz.ty401) .lf)) (some Tryz.ty81) (.nd (.nd .lf (some Tryz.ty337) .lf) (some Tryz.ty209) (.nd .lf (some Tryz.ty465) .lf))) (some Tryz.ty49) (.nd (.nd (.nd .lf (some Tryz.ty305) .lf) (some Tryz.ty177) (.nd .lf (some Tryz.ty433) .lf)) (some Tryz.ty113) (.nd (.nd .lf (some Tryz.ty369) .lf) (some Tryz.ty241) .lf)))) (some Tryz.ty9) (.nd (.nd (.nd (.nd (.nd .lf (some Tryz.ty265) .lf) (some Tryz.ty137) (.nd .lf (some Tryz.ty393) .lf)) (some Tryz.ty73) (.nd (.nd .lf (some Tryz.ty329) .lf) (some Tryz.ty201) (.nd .lf (some Tryz.ty457) .lf))) (some Tryz.ty41) (.nd (.nd (.nd .lf (some Tryz.ty297) .lf) (some Tryz.ty169) (.nd .lf (some Tryz.ty425) .lf)) (some Tryz.ty105) (.nd (.nd .lf (some Tryz.ty361) .lf) (some Tryz.ty233) .lf))) (some Tryz.ty25) (.nd (.nd (.nd (.nd .lf (some Tryz.ty281) .lf) (some Tryz.ty153) (.nd .lf (some Tryz.ty409) .lf)) (some Tryz.ty89) (.nd (.nd .lf (some Tryz.ty345) .lf) (some Tryz.ty217) (.nd .lf (some Tryz.ty473) .lf))) (some Tryz.ty57) (.nd (.nd (.nd .lf (some Tryz.ty313) .lf) (some Tryz.ty185) (.nd .lf (some Tryz.ty441) .lf)) (some Tryz.ty121) (.nd (.nd .lf (some Tryz.ty377) .lf) (some Tryz.ty249) .lf))))) (some Tryz.ty5) (.nd (.nd (.nd (.nd (.nd (.nd .lf (some Tryz.ty261) .lf) (some Tryz.ty133) (.nd .lf (some Tryz.ty389) .lf)) (some Tryz.ty69) (.nd (.nd .lf (some Tryz.ty325) .lf) (some Tryz.ty197) (.nd .lf (some Tryz.ty453) .lf))) (some Tryz.ty37) (.nd (.nd (.nd .lf (some Tryz.ty293) .lf) (some Tryz.ty165) (.nd .lf (some Tryz.ty421) .lf)) (some Tryz.ty101) (.nd (.nd .lf (some Tryz.ty357) .lf) (some Tryz.ty229) .lf))) (some Tryz.ty21) (.nd (.nd (.nd (.nd .lf (some Tryz.ty277) .lf) (some Tryz.ty149) (.nd .lf (some Tryz.ty405) .lf)) (some Tryz.ty85) (.nd (.nd .lf (some Tryz.ty341) .lf) (some Tryz.ty213) (.nd .lf (some Tryz.ty469) .lf))) (some Tryz.ty53) (.nd (.nd (.nd .lf (some Tryz.ty309) .lf) (some Tryz.ty181) (.nd .lf (some Tryz.ty437) .lf)) (some Tryz.ty117) (.nd (.nd .lf (some Tryz.ty373) .lf) (some Tryz.ty245) .lf)))) (some Tryz.ty13) (.nd (.nd (.nd (.nd (.nd .lf (some Tryz.ty269) .lf) (some Tryz.ty141) (.nd .lf (some Tryz.ty397) .lf)) (some Tryz.ty77) (.nd (.nd .lf (some Tryz.ty333) .lf) (some Tryz.ty205) (.nd .lf (some Tryz.ty461) .lf))) (some Tryz.ty45) (.nd (.nd (.nd .lf (some Tryz.ty301) .lf) (some Tryz.ty173) (.nd .lf (some Tryz.ty429) .lf)) (some Tryz.ty109) (.nd (.nd .lf (some Tryz.ty365) .lf) (some Tryz.ty237) .lf))) (some Tryz.ty29) (.nd (.nd (.nd (.nd .lf (some Tryz.ty285) .lf) (some Tryz.ty157) (.nd .lf (some Tryz.ty413) .lf)) (some Tryz.ty93) (.nd (.nd .lf (some Tryz.ty349) .lf) (some Tryz.ty221) .lf)) (some Tryz.ty61) (.nd (.nd (.nd .lf (some Tryz.ty317) .lf) (some Tryz.ty189) (.nd .lf (some Tryz.ty445) .lf)) (some Tryz.ty125) (.nd (.nd .lf (some Tryz.ty381) .lf) (some Tryz.ty253) .lf))))))) (some Tryz.ty0) (.nd (.nd (.nd (.nd (.nd (.nd (.nd (.nd .lf (some Tryz.ty256) .lf) (some Tryz.ty128) (.nd .lf (some Tryz.ty384) .lf)) (some Tryz.ty64) (.nd (.nd .lf (some Tryz.ty320) .lf) (some Tryz.ty192) (.nd .lf (some Tryz.ty448) .lf))) (some Tryz.ty32) (.nd (.nd (.nd .lf (some Tryz.ty288) .lf) (some Tryz.ty160) (.nd .lf (some Tryz.ty416) .lf)) (some Tryz.ty96) (.nd (.nd .lf (some Tryz.ty352) .lf) (some Tryz.ty224) .lf))) (some Tryz.ty16) (.nd (.nd (.nd (.nd .lf (some Tryz.ty272) .lf) (some Tryz.ty144) (.nd .lf (some Tryz.ty400) .lf)) (some Tryz.ty80) (.nd (.nd .lf (some Tryz.ty336) .lf) (some Tryz.ty208) (.nd .lf (some Tryz.ty464) .lf))) (some Tryz.ty48) (.nd (.nd (.nd .lf (some Tryz.ty304) .lf) (some Tryz.ty176) (.nd .lf (some Tryz.ty432) .lf)) (some Tryz.ty112) (.nd (.nd .lf (some Tryz.ty368) .lf) (some Tryz.ty240) .lf)))) (some Tryz.ty8) (.nd (.nd (.nd (.nd (.nd .lf (some Tryz.ty264) .lf) (some Tryz.ty136) (.nd .lf (some Tryz.ty392) .lf)) (some Tryz.ty72) (.nd (.nd .lf (some Tryz.ty328) .lf) (some Tryz.ty200) (.nd .lf (some Tryz.ty456) .lf))) (some Tryz.ty40) (.nd (.nd (.nd .lf (some Tryz.ty296) .lf) (some Tryz.ty168) (.nd .lf (some Tryz.ty424) .lf)) (some Tryz.ty104) (.nd (.nd .lf (some Tryz.ty360) .lf) (some Tryz.ty232) .lf))) (some Tryz.ty24) (.nd (.nd (.nd (.nd .lf (some Tryz.ty280) .lf) (some Tryz.ty152) (.nd .lf (some Tryz.ty408) .lf)) (some Tryz.ty88) (.nd (.nd .lf (some Tryz.ty344) .lf) (some Tryz.ty216) (.nd .lf (some Tryz.ty472) .lf))) (some Tryz.ty56) (.nd (.nd (.nd .lf (some Tryz.ty312) .lf) (some Tryz.ty184) (.nd .lf (some Tryz.ty440) .lf)) (some Tryz.ty120) (.nd (.nd .lf (some Tryz.ty376) .lf) (some Tryz.ty248) .lf))))) (some Tryz.ty4) (.nd (.nd (.nd (.nd (.nd (.nd .lf (some Tryz.ty260) .lf) (some Tryz.ty132) (.nd .lf (some Tryz.ty388) .lf)) (some Tryz.ty68) (.nd (.nd .lf (some Tryz.ty324) .lf) (some Tryz.ty196) (.nd .lf (some Tryz.ty452) .lf))) (some Tryz.ty36) (.nd (.nd (.nd .lf (some Tryz.ty292) .lf) (some Tryz.ty164) (.nd .lf (some Tryz.ty420) .lf)) (some Tryz.ty100) (.nd (.nd .lf (some Tryz.ty356) .lf) (some Tryz.ty228) .lf))) (some Tryz.ty20) (.nd (.nd (.nd (.nd .lf (some Tryz.ty276) .lf) (some Tryz.ty148) (.nd .lf (some Tryz.ty404) .lf)) (some Tryz.ty84) (.nd (.nd .lf (some Tryz.ty340) .lf) (some Tryz.ty212) (.nd .lf (some Tryz.ty468) .lf))) (some Tryz.ty52) (.nd (.nd (.nd .lf (some Tryz.ty308) .lf) (some Tryz.ty180) (.nd .lf (some Tryz.ty436) .lf)) (some Tryz.ty116) (.nd (.nd .lf (some Tryz.ty372) .lf) (some Tryz.ty244) .lf)))) (some Tryz.ty12) (.nd (.nd (.nd (.nd (.nd .lf (some Tryz.ty268) .lf) (some Tryz.ty140) (.nd .lf (some Tryz.ty396) .lf)) (some Tryz.ty76) (.nd (.nd .lf (some Tryz.ty332) .lf) (some Tryz.ty204) (.nd .lf (some Tryz.ty460) .lf))) (some Tryz.ty44) (.nd (.nd (.nd .lf (some Tryz.ty300) .lf) (some Tryz.ty172) (.nd .lf (some Tryz.ty428) .lf)) (some Tryz.ty108) (.nd (.nd .lf (some Tryz.ty364) .lf) (some Tryz.ty236) .lf))) (some Tryz.ty28) (.nd (.nd (.nd (.nd .lf (some Tryz.ty284) .lf) (some Tryz.ty156) (.nd .lf (some Tryz.ty412) .lf)) (some Tryz.ty92) (.nd (.nd .lf (some Tryz.ty348) .lf) (some Tryz.ty220) (.nd .lf (some Tryz.ty476) .lf))) (some Tryz.ty60) (.nd (.nd (.nd .lf (some Tryz.ty316) .lf) (some Tryz.ty188) (.nd .lf (some Tryz.ty444) .lf)) (some Tryz.ty124) (.nd (.nd .lf (some Tryz.ty380) .lf) (some Tryz.ty252) .lf)))))) (some Tryz.ty2) (.nd (.nd (.nd (.nd (.nd (.nd (.nd .lf (some Tryz.ty258) .lf) (some Tryz.ty130) (.nd .lf (some Tryz.ty386) .lf)) (some Tryz.ty66) (.nd (.nd .lf (some Tryz.ty322) .lf) (some Tryz.ty194) (.nd .lf (some Tryz.ty450) .lf))) (some Tryz.ty34) (.nd (.nd (.nd .lf (some Tryz.ty290) .lf) (some Tryz.ty162) (.nd .lf (some Tryz.ty418) .lf)) (some Tryz.ty98) (.nd (.nd .lf (some Tryz.ty354) .lf) (some Tryz.ty226) .lf))) (some Tryz.ty18) (.nd (.nd (.nd (.nd .lf (some Tryz.ty274) .lf) (some Tryz.ty146) (.nd .lf (some Tryz.ty402) .lf)) (some Tryz.ty82) (.nd (.nd .lf (some Tryz.ty338) .lf) (some Tryz.ty210) (.nd .lf (some Tryz.ty466) .lf))) (some Tryz.ty50) (.nd (.nd (.nd .lf (some Tryz.ty306) .lf) (some Tryz.ty178) (.nd .lf (some Tryz.ty434) .lf)) (some Tryz.ty114) (.nd (.nd .lf (some Tryz.ty370) .lf) (some Tryz.ty242) .lf)))) (some Tryz.ty10) (.nd (.nd (.nd (.nd (.nd .lf (some Tryz.ty266) .lf) (some Tryz.ty138) (.nd .lf (some Tryz.ty394) .lf)) (some Tryz.ty74) (.nd (.nd .lf (some Tryz.ty330) .lf) (some Tryz.ty202) (.nd .lf (some Tryz.ty458) .lf))) (some Tryz.ty42) (.nd (.nd (.nd .lf (some Tryz.ty298) .lf) (some Tryz.ty170) (.nd .lf (some Tryz.ty426) .lf)) (some Tryz.ty106) (.nd (.nd .lf (some Tryz.ty362) .lf) (some Tryz.ty234) .lf))) (some Tryz.ty26) (.nd (.nd (.nd (.nd .lf (some Tryz.ty282) .lf) (some Tryz.ty154) (.nd .lf (some Tryz.ty410) .lf)) (some Tryz.ty90) (.nd (.nd .lf (some Tryz.ty346) .lf) (some Tryz.ty218) (.nd .lf (some Tryz.ty474) .lf))) (some Tryz.ty58) (.nd (.nd (.nd .lf (some Tryz.ty314) .lf) (some Tryz.ty186) (.nd .lf (some Tryz.ty442) .lf)) (some Tryz.ty122) (.nd (.nd .lf (some Tryz.ty378) .lf) (some Tryz.ty250) .lf))))) (some Tryz.ty6) (.nd (.nd (.nd (.nd (.nd (.nd .lf (some Tryz.ty262) .lf) (some Tryz.ty134) (.nd .lf (some Tryz.ty390) .lf)) (some Tryz.ty70) (.nd (.nd .lf (some Tryz.ty326) .lf) (some Tryz.ty198) (.nd .lf (some Tryz.ty454) .lf))) (some Tryz.ty38) (.nd (.nd (.nd .lf (some Tryz.ty294) .lf) (some Tryz.ty166) (.nd .lf (some Tryz.ty422) .lf)) (some Tryz.ty102) (.nd (.nd .lf (some Tryz.ty358) .lf) (some Tryz.ty230) .lf))) (some Tryz.ty22) (.nd (.nd (.nd (.nd .lf (some Tryz.ty278) .lf) (some Tryz.ty150) (.nd .lf (some Tryz.ty406) .lf)) (some Tryz.ty86) (.nd (.nd .lf (some Tryz.ty342) .lf) (some Tryz.ty214) (.nd .lf (some Tryz.ty470) .lf))) (some Tryz.ty54) (.nd (.nd (.nd .lf (some Tryz.ty310) .lf) (some Tryz.ty182) (.nd .lf (some Tryz.ty438) .lf)) (some Tryz.ty118) (.nd (.nd .lf (some Tryz.ty374) .lf) (some Tryz.ty246) .lf)))) (some Tryz.ty14) (.nd (.nd (.nd (.nd (.nd .lf (some Tryz.ty270) .lf) (some Tryz.ty142) (.nd .lf (some Tryz.ty398) .lf)) (some Tryz.ty78) (.nd (.nd .lf (some Tryz.ty334) .lf) (some Tryz.ty206) (.nd .lf (some Tryz.ty462) .lf))) (some Tryz.ty46) (.nd (.nd (.nd .lf (some Tryz.ty302) .lf) (some Tryz.ty174) (.nd .lf (some Tryz.ty430) .lf)) (some Tryz.ty110) (.nd (.nd .lf (some Tryz.ty366) .lf) (some Tryz.ty238) .lf))) (some Tryz.ty30) (.nd (.nd (.nd (.nd .lf (some Tryz.ty286) .lf) (some Tryz.ty158) (.nd .lf (some Tryz.ty414) .lf)) (some Tryz.ty94) (.nd (.nd .lf (some Tryz.ty350) .lf) (some Tryz.ty222) .lf)) (some Tryz.ty62) (.nd (.nd (.nd .lf (some Tryz.ty318) .lf) (some Tryz.ty190) (.nd .lf (some Tryz.ty446) .lf)) (some Tryz.ty126) (.nd (.nd .lf (some Tryz.ty382) .lf) (some Tryz.ty254) .lf))))))))
noncomputable def Tryz.F : Tr Func := (.nd (.nd (.nd (.nd (.nd (.nd (.nd (.nd (.nd .lf (some Tryz.f255) .lf) (some Tryz.f127) .lf) (some Tryz.f63) (.nd (.nd .lf (some Tryz.f319) .lf) (some Tryz.f191) .lf)) (some Tryz.f31) (.nd (.nd (.nd .lf (some Tryz.f287) .lf) (some Tryz.f159) .lf) (some Tryz.f95) (.nd (.nd .lf (some Tryz.f351) .lf) (some Tryz.f223) .lf))) (some Tryz.f15) (.nd (.nd (.nd (.nd .lf (some Tryz.f271) .lf) (some Tryz.f143) .lf) (some Tryz.f79) (.nd (.nd .lf (some Tryz.f335) .lf) (some Tryz.f207) .lf)) (some Tryz.f47) (.nd (.nd (.nd .lf (some Tryz.f303) .lf) (some Tryz.f175) .lf) (some Tryz.f111) (.nd .lf (some Tryz.f239) .lf)))) (some Tryz.f7) (.nd (.nd (.nd (.nd (.nd .lf (some Tryz.f263) .lf) (some Tryz.f135) .lf) (some Tryz.f71) (.nd (.nd .lf (some Tryz.f327) .lf) (some Tryz.f199) .lf)) (some Tryz.f39) (.nd (.nd (.nd .lf (some Tryz.f295) .lf) (some Tryz.f167) .lf) (some Tryz.f103) (.nd (.nd .lf (some Tryz.f359) .lf) (some Tryz.f231) .lf))) (some Tryz.f23) (.nd (.nd (.nd (.nd .lf (some Tryz.f279) .lf) (some Tryz.f151) .lf) (some Tryz.f87) (.nd (.nd .lf (some Tryz.f343) .lf) (some Tryz.f215) .lf)) (some Tryz.f55) (.nd (.nd (.nd .lf (some Tryz.f311) .lf) (some Tryz.f183) .lf) (some Tryz.f119) (.nd .lf (some Tryz.f247) .lf))))) (some Tryz.f3) (.nd (.nd (.nd (.nd (.nd (.nd .lf (some Tryz.f259) .lf) (some Tryz.f131) (.nd .lf (some Tryz.f387) .lf)) (some Tryz.f67) (.nd (.nd .lf (some Tryz.f323) .lf) (some Tryz.f195) .lf)) (some Tryz.f35) (.nd (.nd (.nd .lf (some Tryz.f291) .lf) (some Tryz.f163) .lf) (some Tryz.f99) (.nd (.nd .lf (some Tryz.f355) .lf) (some Tryz.f227) .lf))) (some Tryz.f19) (.nd (.nd (.nd (.nd .lf (some Tryz.f275) .lf) (some Tryz.f147) .lf) (some Tryz.f83) (.nd (.nd .lf (some Tryz.f339) .lf) (some Tryz.f211) .lf)) (some Tryz.f51) (.nd (.nd (.nd .lf (some Tryz.f307) .lf) (some Tryz.f179) .lf) (some Tryz.f115) (.nd .lf (some Tryz.f243) .lf)))) (some Tryz.f11) (.nd (.nd (.nd (.nd (.nd .lf (some Tryz.f267) .lf) (some Tryz.f139) .lf) (some Tryz.f75) (.nd (.nd .lf (some Tryz.f331) .lf) (some Tryz.f203) .lf)) (some Tryz.f43) (.nd (.nd (.nd .lf (some Tryz.f299) .lf) (some Tryz.f171) .lf) (some Tryz.f107) (.nd .lf (some Tryz.f235) .lf))) (some Tryz.f27) (.nd (.nd (.nd (.nd .lf (some Tryz.f283) .lf) (some Tryz.f155) .lf) (some Tryz.f91) (.nd (.nd .lf (some Tryz.f347) .lf) (some Tryz.f219) .lf)) (some Tryz.f59) (.nd (.nd (.nd .lf (some Tryz.f315) .lf) (some Tryz.f187) .lf) (some Tryz.f123) (.nd .lf (some Tryz.f251) .lf)))))) none (.nd (.nd (.nd (.nd (.nd (.nd (.nd .lf (some Tryz.f257) .lf) (some Tryz.f129) (.nd .lf (some Tryz.f385) .lf)) (some Tryz.f65) (.nd (.nd .lf (some Tryz.f321) .lf) (some Tryz.f193) .lf)) (some Tryz.f33) (.nd (.nd (.nd .lf (some Tryz.f289) .lf) (some Tryz.f161) .lf) (some Tryz.f97) (.nd (.nd .lf (some Tryz.f353) .lf) (some Tryz.f225) .lf))) (some Tryz.f17) (.nd (.nd (.nd (.nd .lf (some Tryz.f273) .lf) (some Tryz.f145) .lf) (some Tryz.f81) (.nd (.nd .lf (some Tryz.f337) .lf) (some Tryz.f209) .lf)) (some Tryz.f49) (.nd (.nd .lf (some Tryz.f177) .lf) (some Tryz.f113) (.nd .lf (some Tryz.f241) .lf)))) (some Tryz.f9) (.nd (.nd (.nd (.nd (.nd .lf (some Tryz.f265) .lf) (some Tryz.f137) .lf) (some Tryz.f73) (.nd (.nd .lf (some Tryz.f329) .lf) (some Tryz.f201) .lf)) (some Tryz.f41) (.nd (.nd (.nd .lf (some Tryz.f297) .lf) (some Tryz.f169) .lf) (some Tryz.f105) (.nd (.nd .lf (some Tryz.f361) .lf) (some Tryz.f233) .lf))) (some Tryz.f25) (.nd (.nd (.nd (.nd .lf (some Tryz.f281) .lf) (some Tryz.f153) .lf) (some Tryz.f89) (.nd (.nd .lf (some Tryz.f345) .lf) (some Tryz.f217) .lf)) (some Tryz.f57) (.nd (.nd (.nd .lf (some Tryz.f313) .lf) (some Tryz.f185) .lf) (some Tryz.f121) (.nd .lf (some Tryz.f249) .lf))))) (some Tryz.f5) (.nd (.nd (.nd (.nd (.nd (.nd .lf (some Tryz.f261) .lf) (some Tryz.f133) (.nd .lf (some Tryz.f389) .lf)) (some Tryz.f69) (.nd (.nd .lf (some Tryz.f325) .lf) (some Tryz.f197) .lf)) (some Tryz.f37) (.nd (.nd (.nd .lf (some Tryz.f293) .lf) (some Tryz.f165) .lf) (some Tryz.f101) (.nd (.nd .lf (some Tryz.f357) .lf) (some Tryz.f229) .lf))) (some Tryz.f21) (.nd (.nd (.nd (.nd .lf (some Tryz.f277) .lf) (some Tryz.f149) .lf) (some Tryz.f85) (.nd (.nd .lf (some Tryz.f341) .lf) (some Tryz.f213) .lf)) (some Tryz.f53) (.nd (.nd (.nd .lf (some Tryz.f309) .lf) (some Tryz.f181) .lf) (some Tryz.f117) (.nd .lf (some Tryz.f245) .lf)))) (some Tryz.f13) (.nd (.nd (.nd (.nd (.nd .lf (some Tryz.f269) .lf) (some Tryz.f141) .lf) (some Tryz.f77) (.nd (.nd .lf (some Tryz.f333) .lf) (some Tryz.f205) .lf)) (some Tryz.f45) (.nd (.nd (.nd .lf (some Tryz.f301) .lf) (some Tryz.f173) .lf) (some Tryz.f109) (.nd .lf (some Tryz.f237) .lf))) (some Tryz.f29) (.nd (.nd (.nd (.nd .lf (some Tryz.f285) .lf) (some Tryz.f157) .lf) (some Tryz.f93) (.nd (.nd .lf (some Tryz.f349) .lf) (some Tryz.f221) .lf)) (some Tryz.f61) (.nd (.nd (.nd .lf (some Tryz.f317) .lf) (some Tryz.f189) .lf) (some Tryz.f125) (.nd .lf (some Tryz.f253) .lf))))))) none (.nd (.nd (.nd (.nd (.nd (.nd (.nd (.nd .lf (some Tryz.f256) .lf) (some Tryz.f128) .lf) (some Tryz.f64) (.nd (.nd .lf (some Tryz.f320) .lf) (some Tryz.f192) .lf)) (some Tryz.f32) (.nd (.nd (.nd .lf (some Tryz.f288) .lf) (some Tryz.f160) .lf) (some Tryz.f96) (.nd (.nd .lf (some Tryz.f352) .lf) (some Tryz.f224) .lf))) (some Tryz.f16) (.nd (.nd (.nd (.nd .lf (some Tryz.f272) .lf) (some Tryz.f144) .lf) (some Tryz.f80) (.nd (.nd .lf (some Tryz.f336) .lf) (some Tryz.f208) .lf)) (some Tryz.f48) (.nd (.nd (.nd .lf (some Tryz.f304) .lf) (some Tryz.f176) .lf) none (.nd .lf (some Tryz.f240) .lf)))) (some Tryz.f8) (.nd (.nd (.nd (.nd (.nd .lf (some Tryz.f264) .lf) (some Tryz.f136) .lf) (some Tryz.f72) (.nd (.nd .lf (some Tryz.f328) .lf) (some Tryz.f200) .lf)) (some Tryz.f40) (.nd (.nd (.nd .lf (some Tryz.f296) .lf) (some Tryz.f168) .lf) (some Tryz.f104) (.nd (.nd .lf (some Tryz.f360) .lf) (some Tryz.f232) .lf))) (some Tryz.f24) (.nd (.nd (.nd (.nd .lf (some Tryz.f280) .lf) (some Tryz.f152) .lf) (some Tryz.f88) (.nd (.nd .lf (some Tryz.f344) .lf) (some Tryz.f216) .lf)) (some Tryz.f56) (.nd (.nd (.nd .lf (some Tryz.f312) .lf) (some Tryz.f184) .lf) (some Tryz.f120) (.nd .lf (some Tryz.f248) .lf))))) (some Tryz.f4) (.nd (.nd (.nd (.nd (.nd (.nd .lf (some Tryz.f260) .lf) (some Tryz.f132) (.nd .lf (some Tryz.f388) .lf)) (some Tryz.f68) (.nd (.nd .lf (some Tryz.f324) .lf) (some Tryz.f196) .lf)) (some Tryz.f36) (.nd (.nd (.nd .lf (some Tryz.f292) .lf) (some Tryz.f164) .lf) (some Tryz.f100) (.nd (.nd .lf (some Tryz.f356) .lf) (some Tryz.f228) .lf))) (some Tryz.f20) (.nd (.nd (.nd (.nd .lf (some Tryz.f276) .lf) (some Tryz.f148) .lf) (some Tryz.f84) (.nd (.nd .lf (some Tryz.f340) .lf) (some Tryz.f212) .lf)) (some Tryz.f52) (.nd (.nd (.nd .lf (some Tryz.f308) .lf) (some Tryz.f180) .lf) (some Tryz.f116) (.nd .lf (some Tryz.f244) .lf)))) (some Tryz.f12) (.nd (.nd (.nd (.nd (.nd .lf (some Tryz.f268) .lf) (some Tryz.f140) .lf) (some Tryz.f76) (.nd (.nd .lf (some Tryz.f332) .lf) (some Tryz.f204) .lf)) (some Tryz.f44) (.nd (.nd (.nd .lf (some Tryz.f300) .lf) (some Tryz.f172) .lf) (some Tryz.f108) (.nd .lf (some Tryz.f236) .lf))) (some Tryz.f28) (.nd (.nd (.nd (.nd .lf (some Tryz.f284) .lf) (some Tryz.f156) .lf) (some Tryz.f92) (.nd (.nd .lf (some Tryz.f348) .lf) (some Tryz.f220) .lf)) (some Tryz.f60) (.nd (.nd (.nd .lf (some Tryz.f316) .lf) (some Tryz.f188) .lf) (some Tryz.f124) (.nd .lf (some Tryz.f252) .lf)))))) (some Tryz.f2) (.nd (.nd (.nd (.nd (.nd (.nd (.nd .lf (some Tryz.f258) .lf) (some Tryz.f130) (.nd .lf (some Tryz.f386) .lf)) (some Tryz.f66) (.nd (.nd .lf (some Tryz.f322) .lf) (some Tryz.f194) .lf)) (some Tryz.f34) (.nd (.nd (.nd .lf (some Tryz.f290) .lf) (some Tryz.f162) .lf) (some Tryz.f98) (.nd (.nd .lf (some Tryz.f354) .lf) (some Tryz.f226) .lf))) (some Tryz.f18) (.nd (.nd (.nd (.nd .lf (some Tryz.f274) .lf) (some Tryz.f146) .lf) (some Tryz.f82) (.nd .lf (some Tryz.f210) .lf)) (some Tryz.f50) (.nd (.nd (.nd .lf (some Tryz.f306) .lf) (some Tryz.f178) .lf) (some Tryz.f114) (.nd .lf (some Tryz.f242) .lf)))) (some Tryz.f10) (.nd (.nd (.nd (.nd (.nd .lf (some Tryz.f266) .lf) (some Tryz.f138) .lf) (some Tryz.f74) (.nd (.nd .lf (some Tryz.f330) .lf) (some Tryz.f202) .lf)) (some Tryz.f42) (.nd (.nd (.nd .lf (some Tryz.f298) .lf) (some Tryz.f170) .lf) (some Tryz.f106) (.nd .lf (some Tryz.f234) .lf))) (some Tryz.f26) (.nd (.nd (.nd (.nd .lf (some Tryz.f282) .lf) (some Tryz.f154) .lf) (some Tryz.f90) (.nd (.nd .lf (some Tryz.f346) .lf) (some Tryz.f218) .lf)) (some Tryz.f58) (.nd (.nd (.nd .lf (some Tryz.f314) .lf) (some Tryz.f186) .lf) (some Tryz.f122) (.nd .lf (some Tryz.f250) .lf))))) (some Tryz.f6) (.nd (.nd (.nd (.nd (.nd (.nd .lf (some Tryz.f262) .lf) (some Tryz.f134) .lf) (some Tryz.f70) (.nd (.nd .lf (some Tryz.f326) .lf) (some Tryz.f198) .lf)) (some Tryz.f38) (.nd (.nd (.nd .lf (some Tryz.f294) .lf) (some Tryz.f166) .lf) (some Tryz.f102) (.nd (.nd .lf (some Tryz.f358) .lf) (some Tryz.f230) .lf))) (some Tryz.f22) (.nd (.nd (.nd (.nd .lf (some Tryz.f278) .lf) (some Tryz.f150) .lf) (some Tryz.f86) (.nd (.nd .lf (some Tryz.f342) .lf) (some Tryz.f214) .lf)) (some Tryz.f54) (.nd (.nd (.nd .lf (some Tryz.f310) .lf) (some Tryz.f182) .lf) (some Tryz.f118) (.nd .lf (some Tryz.f246) .lf)))) (some Tryz.f14) (.nd (.nd (.nd (.nd (.nd .lf (some Tryz.f270) .lf) (some Tryz.f142) .lf) (some Tryz.f78) (.nd (.nd .lf (some Tryz.f334) .lf) (some Tryz.f206) .lf)) (some Tryz.f46) (.nd (.nd (.nd .lf (some Tryz.f302) .lf) (some Tryz.f174) .lf) (some Tryz.f110) (.nd .lf (some Tryz.f238) .lf))) (some Tryz.f30) (.nd (.nd (.nd (.nd .lf (some Tryz.f286) .lf) (some Tryz.f158) .lf) (some Tryz.f94) (.nd (.nd .lf (some Tryz.f350) .lf) (some Tryz.f222) .lf)) (some Tryz.f62) (.nd (.nd (.nd .lf (some Tryz.f318) .lf) (some Tryz.f190) .lf) (some Tryz.f126) (.nd .lf (some Tryz.f254) .lf))))))))
set_option maxRecDepth 100000 in
theorem Tryz.T_ok : TabOK Tryz.prog Tryz.T := tab_of_all ⟨Tryz.ty0_ok, ⟨Tryz.ty1_ok, ⟨Tryz.ty3_ok, ⟨Tryz.ty7_ok, ⟨Tryz.ty15_ok, ⟨Tryz.ty31_ok, ⟨Tryz.ty63_ok, ⟨Tryz.ty127_ok, ⟨Tryz.ty255_ok, trivial, trivial⟩, ⟨Tryz.ty383_ok, trivial, trivial⟩⟩, ⟨Tryz.ty191_ok, ⟨Tryz.ty319_ok, trivial, trivial⟩, ⟨Tryz.ty447_ok, trivial, trivial⟩⟩⟩, ⟨Tryz.ty95_ok, ⟨Tryz.ty159_ok, ⟨Tryz.ty287_ok, trivial, trivial⟩, ⟨Tryz.ty415_ok, trivial, trivial⟩⟩, ⟨Tryz.ty223_ok, ⟨Tryz.ty351_ok, trivial, trivial⟩, trivial⟩⟩⟩, ⟨Tryz.ty47_ok, ⟨Tryz.ty79_ok, ⟨Tryz.ty143_ok, ⟨Tryz.ty271_ok, trivial, trivial⟩, ⟨Tryz.ty399_ok, trivial, trivial⟩⟩, ⟨Tryz.ty207_ok, ⟨Tryz.ty335_ok, trivial, trivial⟩, ⟨Tryz.ty463_ok, trivial, trivial⟩⟩⟩, ⟨Tryz.ty111_ok, ⟨Tryz.ty175_ok, ⟨Tryz.ty303_ok, trivial, trivial⟩, ⟨Tryz.ty431_ok, trivial, trivial⟩⟩, ⟨Tryz.ty239_ok, ⟨Tryz.ty367_ok, trivial, trivial⟩, trivial⟩⟩⟩⟩, ⟨Tryz.ty23_ok, ⟨Tryz.ty39_ok, ⟨Tryz.ty71_ok, ⟨Tryz.ty135_ok, ⟨Tryz.ty263_ok, trivial, trivial⟩, ⟨Tryz.ty391_ok, trivial, trivial⟩⟩, ⟨Tryz.ty199_ok, ⟨Tryz.ty327_ok, trivial, trivial⟩, ⟨Tryz.ty455_ok, trivial, trivial⟩⟩⟩, ⟨Tryz.ty103_ok, ⟨Tryz.ty167_ok, ⟨Tryz.ty295_ok, trivial, trivial⟩, ⟨Tryz.ty423_ok, trivial, trivial⟩⟩, ⟨Tryz.ty231_ok, ⟨Tryz.ty359_ok, trivial, trivial⟩, trivial⟩⟩⟩, ⟨Tryz.ty55_ok, ⟨Tryz.ty87_ok, ⟨Tryz.ty151_ok, ⟨Tryz.ty279_ok, trivial, trivial⟩, ⟨Tryz.ty407_ok, trivial, trivial⟩⟩, ⟨Tryz.ty215_ok, ⟨Tryz.ty343_ok, trivial, trivial⟩, ⟨Tryz.ty471_ok, trivial, trivial⟩⟩⟩, ⟨Tryz.ty119_ok, ⟨Tryz.ty183_ok, ⟨Tryz.ty311_ok, trivial, trivial⟩, ⟨Tryz.ty439_ok, trivial, trivial⟩⟩, ⟨Tryz.ty247_ok, ⟨Tryz.ty375_ok, trivial, trivial⟩, trivial⟩⟩⟩⟩⟩, ⟨Tryz.ty11_ok, ⟨Tryz.ty19_ok, ⟨Tryz.ty35_ok, ⟨Tryz.ty67_ok, ⟨Tryz.ty131_ok, ⟨Tryz.ty259_ok, trivial, trivial⟩, ⟨Tryz.ty387_ok, trivial, trivial⟩⟩, ⟨Tryz.ty195_ok, ⟨Tryz.ty323_ok, trivial, trivial⟩, ⟨Tryz.ty451_ok, trivial, trivial⟩⟩⟩, ⟨Tryz.ty99_ok, ⟨Tryz.ty163_ok, ⟨Tryz.ty291_ok, trivial, trivial⟩, ⟨Tryz.ty419_ok, trivial, trivial⟩⟩, ⟨Tryz.ty227_ok, ⟨Tryz.ty355_ok, trivial, trivial⟩, trivial⟩⟩⟩, ⟨Tryz.ty51_ok, ⟨Tryz.ty83_ok, ⟨Tryz.ty147_ok, ⟨Tryz.ty275_ok, trivial, trivial⟩, ⟨Tryz.ty403_ok, trivial, trivial⟩⟩, ⟨Tryz.ty211_ok, ⟨Tryz.ty339_ok, trivial, trivial⟩, ⟨Tryz.ty467_ok, trivial, trivial⟩⟩⟩, ⟨Tryz.ty115_ok, ⟨Tryz.ty179_ok, ⟨Tryz.ty307_ok, trivial, trivial⟩, ⟨Tryz.ty435_ok, trivial, trivial⟩⟩, ⟨Tryz.ty243_ok, ⟨Tryz.ty371_ok, trivial, trivial⟩, trivial⟩⟩⟩⟩, ⟨Tryz.ty27_ok, ⟨Tryz.ty43_ok, ⟨Tryz.ty75_ok, ⟨Tryz.ty139_ok, ⟨Tryz.ty267_ok, trivial, trivial⟩, ⟨Tryz.ty395_ok, trivial, trivial⟩⟩, ⟨Tryz.ty203_ok, ⟨Tryz.ty331_ok, trivial, trivial⟩, ⟨Tryz.ty459_ok, trivial, trivial⟩⟩⟩, ⟨Tryz.ty107_ok, ⟨Tryz.ty171_ok, ⟨Tryz.ty299_ok, trivial, trivial⟩, ⟨Tryz.ty427_ok, trivial, trivial⟩⟩, ⟨Tryz.ty235_ok, ⟨Tryz.ty363_ok, trivial, trivial⟩, trivial⟩⟩⟩, ⟨Tryz.ty59_ok, ⟨Tryz.ty91_ok, ⟨Tryz.ty155_ok, ⟨Tryz.ty283_ok, trivial, trivial⟩, ⟨Tryz.ty411_ok, trivial, trivial⟩⟩, ⟨Tryz.ty219_ok, ⟨Tryz.ty347_ok, trivial, trivial⟩, ⟨Tryz.ty475_ok, trivial, trivial⟩⟩⟩, ⟨Tryz.ty123_ok, ⟨Tryz.ty187_ok, ⟨Tryz.ty315_ok, trivial, trivial⟩, ⟨Tryz.ty443_ok, trivial, trivial⟩⟩, ⟨Tryz.ty251_ok, ⟨Tryz.ty379_ok, trivial, trivial⟩, trivial⟩⟩⟩⟩⟩⟩, ⟨Tryz.ty5_ok, ⟨Tryz.ty9_ok, ⟨Tryz.ty17_ok, ⟨Tryz.ty33_ok, ⟨Tryz.ty65_ok, ⟨Tryz.ty129_ok, ⟨Tryz.ty257_ok, trivial, trivial⟩, ⟨Tryz.ty385_ok, trivial, trivial⟩⟩, ⟨Tryz.ty193_ok, ⟨Tryz.ty321_ok, trivial, trivial⟩, ⟨Tryz.ty449_ok, trivial, trivial⟩⟩⟩, ⟨Tryz.ty97_ok, ⟨Tryz.ty161_ok, ⟨Tryz.ty289_ok, trivial, trivial⟩, ⟨Tryz.ty417_ok, trivial, trivial⟩⟩, ⟨Tryz.ty225_ok, ⟨Tryz.ty353_ok, trivial, trivial⟩, trivial⟩⟩⟩, ⟨Tryz.ty49_ok, ⟨Tryz.ty81_ok, ⟨Tryz.ty145_ok, ⟨Tryz.ty273_ok, trivial, trivial⟩, ⟨Tryz.ty401_ok, trivial, trivial⟩⟩, ⟨Tryz.ty209_ok, ⟨Tryz.ty337_ok, trivial, trivial⟩, ⟨Tryz.ty465_ok, trivial, trivial⟩⟩⟩, ⟨Tryz.ty113_ok, ⟨Tryz.ty177_ok, ⟨Tryz.ty305_ok, trivial, trivial⟩, ⟨Tryz.ty433_ok, trivial, trivial⟩⟩, ⟨Tryz.ty241_ok, ⟨Tryz.ty369_ok, trivial, trivial⟩, trivial⟩⟩⟩⟩, ⟨Tryz.ty25_ok, ⟨Tryz.ty41_ok, ⟨Tryz.ty73_ok, ⟨Tryz.ty137_ok, ⟨Tryz.ty265_ok, trivial, trivial⟩, ⟨Tryz.ty393_ok, trivial, trivial⟩⟩, ⟨Tryz.ty201_ok, ⟨Tryz.ty329_ok, trivial, trivial⟩, ⟨Tryz.ty457_ok, trivial, trivial⟩⟩⟩, ⟨Tryz.ty105_ok, ⟨Tryz.ty169_ok, ⟨Tryz.ty297_ok, trivial, trivial⟩, ⟨Tryz.ty425_ok, trivial, trivial⟩⟩, ⟨Tryz.ty233_ok, ⟨Tryz.ty361_ok, trivial, trivial⟩, trivial⟩⟩⟩, ⟨Tryz.ty57_ok, ⟨Tryz.ty89_ok, ⟨Tryz.ty153_ok, ⟨Tryz.ty281_ok, trivial, trivial⟩, ⟨Tryz.ty409_ok, trivial, trivial⟩⟩, ⟨Tryz.ty217_ok, ⟨Tryz.ty345_ok, trivial, trivial⟩, ⟨Tryz.ty473_ok, trivial, trivial⟩⟩⟩, ⟨Tryz.ty121_ok, ⟨Tryz.ty185_ok, ⟨Tryz.ty313_ok, trivial, trivial⟩, ⟨Tryz.ty441_ok, trivial, trivial⟩⟩, ⟨Tryz.ty249_ok, ⟨Tryz.ty377_ok, trivial, trivial⟩, trivial⟩⟩⟩⟩⟩, ⟨Tryz.ty13_ok, ⟨Tryz.ty21_ok, ⟨Tryz.ty37_ok, ⟨Tryz.ty69_ok, ⟨Tryz.ty133_ok, ⟨Tryz.ty261_ok, trivial, trivial⟩, ⟨Tryz.ty389_ok, trivial, trivial⟩⟩, ⟨Tryz.ty197_ok, ⟨Tryz.ty325_ok, trivial, trivial⟩, ⟨Tryz.ty453_ok, trivial, trivial⟩⟩⟩, ⟨Tryz.ty101_ok, ⟨Tryz.ty165_ok, ⟨Tryz.ty293_ok, trivial, trivial⟩, ⟨Tryz.ty421_ok, trivial, trivial⟩⟩, ⟨Tryz.ty229_ok, ⟨Tryz.ty357_ok, trivial, trivial⟩, trivial⟩⟩⟩, ⟨Tryz.ty53_ok, ⟨Tryz.ty85_ok, ⟨Tryz.ty149_ok, ⟨Tryz.ty277_ok, trivial, trivial⟩, ⟨Tryz.ty405_ok, trivial, trivial⟩⟩, ⟨Tryz.ty213_ok, ⟨Tryz.ty341_ok, trivial, trivial⟩, ⟨Tryz.ty469_ok, trivial, trivial⟩⟩⟩, ⟨Tryz.ty117_ok, ⟨Tryz.ty181_ok, ⟨Tryz.ty309_ok, trivial, trivial⟩, ⟨Tryz.ty437_ok, trivial, trivial⟩⟩, ⟨Tryz.ty245_ok, ⟨Tryz.ty373_ok, trivial, trivial⟩, trivial⟩⟩⟩⟩, ⟨Tryz.ty29_ok, ⟨Tryz.ty45_ok, ⟨Tryz.ty77_ok, ⟨Tryz.ty141_ok, ⟨Tryz.ty269_ok, trivial, trivial⟩, ⟨Tryz.ty397_ok, trivial, trivial⟩⟩, ⟨Tryz.ty205_ok, ⟨Tryz.ty333_ok, trivial, trivial⟩, ⟨Tryz.ty461_ok, trivial, trivial⟩⟩⟩, ⟨Tryz.ty109_ok, ⟨Tryz.ty173_ok, ⟨Tryz.ty301_ok, trivial, trivial⟩, ⟨Tryz.ty429_ok, trivial, trivial⟩⟩, ⟨Tryz.ty237_ok, ⟨Tryz.ty365_ok, trivial, trivial⟩, trivial⟩⟩⟩, ⟨Tryz.ty61_ok, ⟨Tryz.ty93_ok, ⟨Tryz.ty157_ok, ⟨Tryz.ty285_ok, trivial, trivial⟩, ⟨Tryz.ty413_ok, trivial, trivial⟩⟩, ⟨Tryz.ty221_ok, ⟨Tryz.ty349_ok, trivial, trivial⟩, trivial⟩⟩, ⟨Tryz.ty125_ok, ⟨Tryz.ty189_ok, ⟨Tryz.ty317_ok, trivial, trivial⟩, ⟨Tryz.ty445_ok, trivial, trivial⟩⟩, ⟨Tryz.ty253_ok, ⟨Tryz.ty381_ok, trivial, trivial⟩, trivial⟩⟩⟩⟩⟩⟩⟩, ⟨Tryz.ty2_ok, ⟨Tryz.ty4_ok, ⟨Tryz.ty8_ok, ⟨Tryz.ty16_ok, ⟨Tryz.ty32_ok, ⟨Tryz.ty64_ok, ⟨Tryz.ty128_ok, ⟨Tryz.ty256_ok, trivial, trivial⟩, ⟨Tryz.ty384_ok, trivial, trivial⟩⟩, ⟨Tryz.ty192_ok, ⟨Tryz.ty320_ok, trivial, trivial⟩, ⟨Tryz.ty448_ok, trivial, trivial⟩⟩⟩, ⟨Tryz.ty96_ok, ⟨Tryz.ty160_ok, ⟨Tryz.ty288_ok, trivial, trivial⟩, ⟨Tryz.ty416_ok, trivial, trivial⟩⟩, ⟨Tryz.ty224_ok, ⟨Tryz.ty352_ok, trivial, trivial⟩, trivial⟩⟩⟩, ⟨Tryz.ty48_ok, ⟨Tryz.ty80_ok, ⟨Tryz.ty144_ok, ⟨Tryz.ty272_ok, trivial, trivial⟩, ⟨Tryz.ty400_ok, trivial, trivial⟩⟩, ⟨Tryz.ty208_ok, ⟨Tryz.ty336_ok, trivial, trivial⟩, ⟨Tryz.ty464_ok, trivial, trivial⟩⟩⟩, ⟨Tryz.ty112_ok, ⟨Tryz.ty176_ok, ⟨Tryz.ty304_ok, trivial, trivial⟩, ⟨Tryz.ty432_ok, trivial, trivial⟩⟩, ⟨Tryz.ty240_ok, ⟨Tryz.ty368_ok, trivial, trivial⟩, trivial⟩⟩⟩⟩, ⟨Tryz.ty24_ok, ⟨Tryz.ty40_ok, ⟨Tryz.ty72_ok, ⟨Tryz.ty136_ok, ⟨Tryz.ty264_ok, trivial, trivial⟩, ⟨Tryz.ty392_ok, trivial, trivial⟩⟩, ⟨Tryz.ty200_ok, ⟨Tryz.ty328_ok, trivial, trivial⟩, ⟨Tryz.ty456_ok, trivial, trivial⟩⟩⟩, ⟨Tryz.ty104_ok, ⟨Tryz.ty168_ok, ⟨Tryz.ty296_ok, trivial, trivial⟩, ⟨Tryz.ty424_ok, trivial, trivial⟩⟩, ⟨Tryz.ty232_ok, ⟨Tryz.ty360_ok, trivial, trivial⟩, trivial⟩⟩⟩, ⟨Tryz.ty56_ok, ⟨Tryz.ty88_ok, ⟨Tryz.ty152_ok, ⟨Tryz.ty280_ok, trivial, trivial⟩, ⟨Tryz.ty408_ok, trivial, trivial⟩⟩, ⟨Tryz.ty216_ok, ⟨Tryz.ty344_ok, trivial, trivial⟩, ⟨Tryz.ty472_ok, trivial, trivial⟩⟩⟩, ⟨Tryz.ty120_ok, ⟨Tryz.ty184_ok, ⟨Tryz.ty312_ok, trivial, trivial⟩, ⟨Tryz.ty440_ok, trivial, trivial⟩⟩, ⟨Tryz.ty248_ok, ⟨Tryz.ty376_ok, trivial, trivial⟩, trivial⟩⟩⟩⟩⟩, ⟨Tryz.ty12_ok, ⟨Tryz.ty20_ok, ⟨Tryz.ty36_ok, ⟨Tryz.ty68_ok, ⟨Tryz.ty132_ok, ⟨Tryz.ty260_ok, trivial, trivial⟩, ⟨Tryz.ty388_ok, trivial, trivial⟩⟩, ⟨Tryz.ty196_ok, ⟨Tryz.ty324_ok, trivial, trivial⟩, ⟨Tryz.ty452_ok, trivial, trivial⟩⟩⟩, ⟨Tryz.ty100_ok, ⟨Tryz.ty164_ok, ⟨Tryz.ty292_ok, trivial, trivial⟩, ⟨Tryz.ty420_ok, trivial, trivial⟩⟩, ⟨Tryz.ty228_ok, ⟨Tryz.ty356_ok, trivial, trivial⟩, trivial⟩⟩⟩, ⟨Tryz.ty52_ok, ⟨Tryz.ty84_ok, ⟨Tryz.ty148_ok, ⟨Tryz.ty276_ok, trivial, trivial⟩, ⟨Tryz.ty404_ok, trivial, trivial⟩⟩, ⟨Tryz.ty212_ok, ⟨Tryz.ty340_ok, trivial, trivial⟩, ⟨Tryz.ty468_ok, trivial, trivial⟩⟩⟩, ⟨Tryz.ty116_ok, ⟨Tryz.ty180_ok, ⟨Tryz.ty308_ok, trivial, trivial⟩, ⟨Tryz.ty436_ok, trivial, trivial⟩⟩, ⟨Tryz.ty244_ok, ⟨Tryz.ty372_ok, trivial, trivial⟩, trivial⟩⟩⟩⟩, ⟨Tryz.ty28_ok, ⟨Tryz.ty44_ok, ⟨Tryz.ty76_ok, ⟨Tryz.ty140_ok, ⟨Tryz.ty268_ok, trivial, trivial⟩, ⟨Tryz.ty396_ok, trivial, trivial⟩⟩, ⟨Tryz.ty204_ok, ⟨Tryz.ty332_ok, trivial, trivial⟩, ⟨Tryz.ty460_ok, trivial, trivial⟩⟩⟩, ⟨Tryz.ty108_ok, ⟨Tryz.ty172_ok, ⟨Tryz.ty300_ok, trivial, trivial⟩, ⟨Tryz.ty428_ok, trivial, trivial⟩⟩, ⟨Tryz.ty236_ok, ⟨Tryz.ty364_ok, trivial, trivial⟩, trivial⟩⟩⟩, ⟨Tryz.ty60_ok, ⟨Tryz.ty92_ok, ⟨Tryz.ty156_ok, ⟨Tryz.ty284_ok, trivial, trivial⟩, ⟨Tryz.ty412_ok, trivial, trivial⟩⟩, ⟨Tryz.ty220_ok, ⟨Tryz.ty348_ok, trivial, trivial⟩, ⟨Tryz.ty476_ok, trivial, trivial⟩⟩⟩, ⟨Tryz.ty124_ok, ⟨Tryz.ty188_ok, ⟨Tryz.ty316_ok, trivial, trivial⟩, ⟨Tryz.ty444_ok, trivial, trivial⟩⟩, ⟨Tryz.ty252_ok, ⟨Tryz.ty380_ok, trivial, trivial⟩, trivial⟩⟩⟩⟩⟩⟩, ⟨Tryz.ty6_ok, ⟨Tryz.ty10_ok, ⟨Tryz.ty18_ok, ⟨Tryz.ty34_ok, ⟨Tryz.ty66_ok, ⟨Tryz.ty130_ok, ⟨Tryz.ty258_ok, trivial, trivial⟩, ⟨Tryz.ty386_ok, trivial, trivial⟩⟩, ⟨Tryz.ty194_ok, ⟨Tryz.ty322_ok, trivial, trivial⟩, ⟨Tryz.ty450_ok, trivial, trivial⟩⟩⟩, ⟨Tryz.ty98_ok, ⟨Tryz.ty162_ok, ⟨Tryz.ty290_ok, trivial, trivial⟩, ⟨Tryz.ty418_ok, trivial, trivial⟩⟩, ⟨Tryz.ty226_ok, ⟨Tryz.ty354_ok, trivial, trivial⟩, trivial⟩⟩⟩, ⟨Tryz.ty50_ok, ⟨Tryz.ty82_ok, ⟨Tryz.ty146_ok, ⟨Tryz.ty274_ok, trivial, trivial⟩, ⟨Tryz.ty402_ok, trivial, trivial⟩⟩, ⟨Tryz.ty210_ok, ⟨Tryz.ty338_ok, trivial, trivial⟩, ⟨Tryz.ty466_ok, trivial, trivial⟩⟩⟩, ⟨Tryz.ty114_ok, ⟨Tryz.ty178_ok, ⟨Tryz.ty306_ok, trivial, trivial⟩, ⟨Tryz.ty434_ok, trivial, trivial⟩⟩, ⟨Tryz.ty242_ok, ⟨Tryz.ty370_ok, trivial, trivial⟩, trivial⟩⟩⟩⟩, ⟨Tryz.ty26_ok, ⟨Tryz.ty42_ok, ⟨Tryz.ty74_ok, ⟨Tryz.ty138_ok, ⟨Tryz.ty266_ok, trivial, trivial⟩, ⟨Tryz.ty394_ok, trivial, trivial⟩⟩, ⟨Tryz.ty202_ok, ⟨Tryz.ty330_ok, trivial, trivial⟩, ⟨Tryz.ty458_ok, trivial, trivial⟩⟩⟩, ⟨Tryz.ty106_ok, ⟨Tryz.ty170_ok, ⟨Tryz.ty298_ok, trivial, trivial⟩, ⟨Tryz.ty426_ok, trivial, trivial⟩⟩, ⟨Tryz.ty234_ok, ⟨Tryz.ty362_ok, trivial, trivial⟩, trivial⟩⟩⟩, ⟨Tryz.ty58_ok, ⟨Tryz.ty90_ok, ⟨Tryz.ty154_ok, ⟨Tryz.ty282_ok, trivial, trivial⟩, ⟨Tryz.ty410_ok, trivial, trivial⟩⟩, ⟨Tryz.ty218_ok, ⟨Tryz.ty346_ok, trivial, trivial⟩, ⟨Tryz.ty474_ok, trivial, trivial⟩⟩⟩, ⟨Tryz.ty122_ok, ⟨Tryz.ty186_ok, ⟨Tryz.ty314_ok, trivial, trivial⟩, ⟨Tryz.ty442_ok, trivial, trivial⟩⟩, ⟨Tryz.ty250_ok, ⟨Tryz.ty378_ok, trivial, trivial⟩, trivial⟩⟩⟩⟩⟩, ⟨Tryz.ty14_ok, ⟨Tryz.ty22_ok, ⟨Tryz.ty38_ok, ⟨Tryz.ty70_ok, ⟨Tryz.ty134_ok, ⟨Tryz.ty262_ok, trivial, trivial⟩, ⟨Tryz.ty390_ok, trivial, trivial⟩⟩, ⟨Tryz.ty198_ok, ⟨Tryz.ty326_ok, trivial, trivial⟩, ⟨Tryz.ty454_ok, trivial, trivial⟩⟩⟩, ⟨Tryz.ty102_ok, ⟨Tryz.ty166_ok, ⟨Tryz.ty294_ok, trivial, trivial⟩, ⟨Tryz.ty422_ok, trivial, trivial⟩⟩, ⟨Tryz.ty230_ok, ⟨Tryz.ty358_ok, trivial, trivial⟩, trivial⟩⟩⟩, ⟨Tryz.ty54_ok, ⟨Tryz.ty86_ok, ⟨Tryz.ty150_ok, ⟨Tryz.ty278_ok, trivial, trivial⟩, ⟨Tryz.ty406_ok, trivial, trivial⟩⟩, ⟨Tryz.ty214_ok, ⟨Tryz.ty342_ok, trivial, trivial⟩, ⟨Tryz.ty470_ok, trivial, trivial⟩⟩⟩, ⟨Tryz.ty118_ok, ⟨Tryz.ty182_ok, ⟨Tryz.ty310_ok, trivial, trivial⟩, ⟨Tryz.ty438_ok, trivial, trivial⟩⟩, ⟨Tryz.ty246_ok, ⟨Tryz.ty374_ok, trivial, trivial⟩, trivial⟩⟩⟩⟩, ⟨Tryz.ty30_ok, ⟨Tryz.ty46_ok, ⟨Tryz.ty78_ok, ⟨Tryz.ty142_ok, ⟨Tryz.ty270_ok, trivial, trivial⟩, ⟨Tryz.ty398_ok, trivial, trivial⟩⟩, ⟨Tryz.ty206_ok, ⟨Tryz.ty334_ok, trivial, trivial⟩, ⟨Tryz.ty462_ok, trivial, trivial⟩⟩⟩, ⟨Tryz.ty110_ok, ⟨Tryz.ty174_ok, ⟨Tryz.ty302_ok, trivial, trivial⟩, ⟨Tryz.ty430_ok, trivial, trivial⟩⟩, ⟨Tryz.ty238_ok, ⟨Tryz.ty366_ok, trivial, trivial⟩, trivial⟩⟩⟩, ⟨Tryz.ty62_ok, ⟨Tryz.ty94_ok, ⟨Tryz.ty158_ok, ⟨Tryz.ty286_ok, trivial, trivial⟩, ⟨Tryz.ty414_ok, trivial, trivial⟩⟩, ⟨Tryz.ty222_ok, ⟨Tryz.ty350_ok, trivial, trivial⟩, trivial⟩⟩, ⟨Tryz.ty126_ok, ⟨Tryz.ty190_ok, ⟨Tryz.ty318_ok, trivial, trivial⟩, ⟨Tryz.ty446_ok, trivial, trivial⟩⟩, ⟨Tryz.ty254_ok, ⟨Tryz.ty382_ok, trivial, trivial⟩, trivial⟩⟩⟩⟩⟩⟩⟩⟩
set_option maxRecDepth 100000 in
theorem Tryz.F_ok : FnsOK Tryz.prog Tryz.F := fns_of_all ⟨trivial, ⟨trivial, ⟨⟨Tryz.func3, by kernel_rfl, by kernel_rfl⟩, ⟨⟨Tryz.func7, by kernel_rfl, by kernel_rfl⟩, ⟨⟨Tryz.func15, by kernel_rfl, by kernel_rfl⟩, ⟨⟨Tryz.func31, by kernel_rfl, by kernel_rfl⟩, ⟨⟨Tryz.func63, by kernel_rfl, by kernel_rfl⟩, ⟨⟨Tryz.func127, by kernel_rfl, by kernel_rfl⟩, ⟨⟨Tryz.func255, by kernel_rfl, by kernel_rfl⟩, trivial, trivial⟩, trivial⟩, ⟨⟨Tryz.func191, by kernel_rfl, by kernel_rfl⟩, ⟨⟨Tryz.func319, by kernel_rfl, by kernel_rfl⟩, trivial, trivial⟩, trivial⟩⟩, ⟨⟨Tryz.func95, by kernel_rfl, by kernel_rfl⟩, ⟨⟨Tryz.func159, by kernel_rfl, by kernel_rfl⟩, ⟨⟨Tryz.func287, by kernel_rfl, by kernel_rfl⟩, trivial, trivial⟩, trivial⟩, ⟨⟨Tryz.func223, by kernel_rfl, by kernel_rfl⟩, ⟨⟨Tryz.func351, by kernel_rfl, by kernel_rfl⟩, trivial, trivial⟩, trivial⟩⟩⟩, ⟨⟨Tryz.func47, by kernel_rfl, by kernel_rfl⟩, ⟨⟨Tryz.func79, by kernel_rfl, by kernel_rfl⟩, ⟨⟨Tryz.func143, by kernel_rfl, by kernel_rfl⟩, ⟨⟨Tryz.func271, by kernel_rfl, by kernel_rfl⟩, trivial, trivial⟩, trivial⟩, ⟨⟨Tryz.func207, by kernel_rfl, by kernel_rfl⟩, ⟨⟨Tryz.func335, by kernel_rfl, by kernel_rfl⟩, trivial, trivial⟩, trivial⟩⟩, ⟨⟨Tryz.func111, by kernel_rfl, by kernel_rfl⟩, ⟨⟨Tryz.func175, by kernel_rfl, by kernel_rfl⟩, ⟨⟨Tryz.func303, by kernel_rfl, by kernel_rfl⟩, trivial, trivial⟩, trivial⟩, ⟨⟨Tryz.func239, by kernel_rfl, by kernel_rfl⟩, trivial, trivial⟩⟩⟩⟩, ⟨⟨Tryz.func23, by kernel_rfl, by kernel_rfl⟩, ⟨⟨Tryz.func39, by kernel_rfl, by kernel_rfl⟩, ⟨⟨Tryz.func71, by kernel_rfl, by kernel_rfl⟩, ⟨⟨Tryz.func135, by kernel_rfl, by kernel_rfl⟩, ⟨⟨Tryz.func263, by kernel_rfl, by kernel_rfl⟩, trivial, trivial⟩, trivial⟩, ⟨⟨Tryz.func199, by kernel_rfl, by kernel_rfl⟩, ⟨⟨Tryz.func327, by kernel_rfl, by kernel_rfl⟩, trivial, trivial⟩, trivial⟩⟩, ⟨⟨Tryz.func103, by kernel_rfl, by kernel_rfl⟩, ⟨⟨Tryz.func167, by kernel_rfl, by kernel_rfl⟩, ⟨⟨Tryz.func295, by kernel_rfl, by kernel_rfl⟩, trivial, trivial⟩, trivial⟩, ⟨⟨Tryz.func231, by kernel_rfl, by kernel_rfl⟩, ⟨⟨Tryz.func359, by kernel_rfl, by kernel_rfl⟩, trivial, trivial⟩, trivial⟩⟩⟩, ⟨⟨Tryz.func55, by kernel_rfl, by kernel_rfl⟩, ⟨⟨Tryz.func87, by kernel_rfl, by kernel_rfl⟩, ⟨⟨Tryz.func151, by kernel_rfl, by kernel_rfl⟩, ⟨⟨Tryz.func279, by kernel_rfl, by kernel_rfl⟩, trivial, trivial⟩, trivial⟩, ⟨⟨Tryz.func215, by kernel_rfl, by kernel_rfl⟩, ⟨⟨Tryz.func343, by kernel_rfl, by kernel_rfl⟩, trivial, trivial⟩, trivial⟩⟩, ⟨⟨Tryz.func119, by kernel_rfl, by kernel_rfl⟩, ⟨⟨Tryz.func183, by kernel_rfl, by kernel_rfl⟩, ⟨⟨Tryz.func311, by kernel_rfl, by kernel_rfl⟩, trivial, trivial⟩, trivial⟩, ⟨⟨Tryz.func247, by kernel_rfl, by kernel_rfl⟩, trivial, trivial⟩⟩⟩⟩⟩, ⟨⟨Tryz.func11, by kernel_rfl, by kernel_rfl⟩, ⟨⟨Tryz.func19, by kernel_rfl, by kernel_rfl⟩, ⟨⟨Tryz.func35, by kernel_rfl, by kernel_rfl⟩, ⟨⟨Tryz.func67, by kernel_rfl, by kernel_rfl⟩, ⟨⟨Tryz.func131, by kernel_rfl, by kernel_rfl⟩, ⟨⟨Tryz.func259, by kernel_rfl, by kernel_rfl⟩, trivial, trivial⟩, ⟨⟨Tryz.func387, by kernel_rfl, by kernel_rfl⟩, trivial, trivial⟩⟩, ⟨⟨Tryz.func195, by kernel_rfl, by kernel_rfl⟩, ⟨⟨Tryz.func323, by kernel_rfl, by kernel_rfl⟩, trivial, trivial⟩, trivial⟩⟩, ⟨⟨Tryz.func99, by kernel_rfl, by kernel_rfl⟩, ⟨⟨Tryz.func163, by kernel_rfl, by kernel_rfl⟩, ⟨⟨Tryz.func291, by kernel_rfl, by kernel_rfl⟩, trivial, trivial⟩, trivial⟩, ⟨⟨Tryz.func227, by kernel_rfl, by kernel_rfl⟩, ⟨⟨Tryz.func355, by kernel_rfl, by kernel_rfl⟩, trivial, trivial⟩, trivial⟩⟩⟩, ⟨⟨Tryz.func51, by kernel_rfl, by kernel_rfl⟩, ⟨⟨Tryz.func83, by kernel_rfl, by kernel_rfl⟩, ⟨⟨Tryz.func147, by kernel_rfl, by kernel_rfl⟩, ⟨⟨Tryz.func275, by kernel_rfl, by kernel_rfl⟩, trivial, trivial⟩, trivial⟩, ⟨⟨Tryz.func211, by kernel_rfl, by kernel_rfl⟩, ⟨⟨Tryz.func339, by kernel_rfl, by kernel_rfl⟩, trivial, trivial⟩, trivial⟩⟩, ⟨⟨Tryz.func115, by kernel_rfl, by kernel_rfl⟩, ⟨⟨Tryz.func179, by kernel_rfl, by kernel_rfl⟩, ⟨⟨Tryz.func307, by kernel_rfl, by kernel_rfl⟩, trivial, trivial⟩, trivial⟩, ⟨⟨Tryz.func243, by kernel_rfl, by kernel_rfl⟩, trivial, trivial⟩⟩⟩⟩, ⟨⟨Tryz.func27, by kernel_rfl, by kernel_rfl⟩, ⟨⟨Tryz.func43, by kernel_rfl, by kernel_rfl⟩, ⟨⟨Tryz.func75, by kernel_rfl, by kernel_rfl⟩, ⟨⟨Tryz.func139, by kernel_rfl, by kernel_rfl⟩, ⟨⟨Tryz.func267, by kernel_rfl, by kernel_rfl⟩, trivial, trivial⟩, trivial⟩, ⟨⟨Tryz.func203, by kernel_rfl, by kernel_rfl⟩, ⟨⟨Tryz.func331, by kernel_rfl, by kernel_rfl⟩, trivial, trivial⟩, trivial⟩⟩, ⟨⟨Tryz.func107, by kernel_rfl, by kernel_rfl⟩, ⟨⟨Tryz.func171, by kernel_rfl, by kernel_rfl⟩, ⟨⟨Tryz.func299, by kernel_rfl, by kernel_rfl⟩, trivial, trivial⟩, trivial⟩, ⟨⟨Tryz.func235, by kernel_rfl, by kernel_rfl⟩, trivial, trivial⟩⟩⟩, ⟨⟨Tryz.func59, by kernel_rfl, by kernel_rfl⟩, ⟨⟨Tryz.func91, by kernel_rfl, by kernel_rfl⟩, ⟨⟨Tryz.func155, by kernel_rfl, by kernel_rfl⟩, ⟨⟨Tryz.func283, by kernel_rfl, by kernel_rfl⟩, trivial, trivial⟩, trivial⟩, ⟨⟨Tryz.func219, by kernel_rfl, by kernel_rfl⟩, ⟨⟨Tryz.func347, by kernel_rfl, by kernel_rfl⟩, trivial, trivial⟩, trivial⟩⟩, ⟨⟨Tryz.func123, by kernel_rfl, by kernel_rfl⟩, ⟨⟨Tryz.func187, by kernel_rfl, by kernel_rfl⟩, ⟨⟨Tryz.func315, by kernel_rfl, by kernel_rfl⟩, trivial, trivial⟩, trivial⟩, ⟨⟨Tryz.func251, by kernel_rfl, by kernel_rfl⟩, trivial, trivial⟩⟩⟩⟩⟩⟩, ⟨⟨Tryz.func5, by kernel_rfl, by kernel_rfl⟩, ⟨⟨Tryz.func9, by kernel_rfl, by kernel_rfl⟩, ⟨⟨Tryz.func17, by kernel_rfl, by kernel_rfl⟩, ⟨⟨Tryz.func33, by kernel_rfl, by kernel_rfl⟩, ⟨⟨Tryz.func65, by kernel_rfl, by kernel_rfl⟩, ⟨⟨Tryz.func129, by kernel_rfl, by kernel_rfl⟩, ⟨⟨Tryz.func257, by kernel_rfl, by kernel_rfl⟩, trivial, trivial⟩, ⟨⟨Tryz.func385, by kernel_rfl, by kernel_rfl⟩, trivial, trivial⟩⟩, ⟨⟨Tryz.func193, by kernel_rfl, by kernel_rfl⟩, ⟨⟨Tryz.func321, by kernel_rfl, by kernel_rfl⟩, trivial, trivial⟩, trivial⟩⟩, ⟨⟨Tryz.func97, by kernel_rfl, by kernel_rfl⟩, ⟨⟨Tryz.func161, by kernel_rfl, by kernel_rfl⟩, ⟨⟨Tryz.func289, by kernel_rfl, by kernel_rfl⟩, trivial, trivial⟩, trivial⟩, ⟨⟨Tryz.func225, by kernel_rfl, by kernel_rfl⟩, ⟨⟨Tryz.func353, by kernel_rfl, by kernel_rfl⟩, trivial, trivial⟩, trivial⟩⟩⟩, ⟨⟨Tryz.func49, by kernel_rfl, by kernel_rfl⟩, ⟨⟨Tryz.func81, by kernel_rfl, by kernel_rfl⟩, ⟨⟨Tryz.func145, by kernel_rfl, by kernel_rfl⟩, ⟨⟨Tryz.func273, by kernel_rfl, by kernel_rfl⟩, trivial, trivial⟩, trivial⟩, ⟨⟨Tryz.func209, by kernel_rfl, by kernel_rfl⟩, ⟨⟨Tryz.func337, by kernel_rfl, by kernel_rfl⟩, trivial, trivial⟩, trivial⟩⟩, ⟨⟨Tryz.func113, by kernel_rfl, by kernel_rfl⟩, ⟨⟨Tryz.func177, by kernel_rfl, by kernel_rfl⟩, trivial, trivial⟩, ⟨⟨Tryz.func241, by kernel_rfl, by kernel_rfl⟩, trivial, trivial⟩⟩⟩⟩, ⟨⟨Tryz.func25, by kernel_rfl, by kernel_rfl⟩, ⟨⟨Tryz.func41, by kernel_rfl, by kernel_rfl⟩, ⟨⟨Tryz.func73, by kernel_rfl, by kernel_rfl⟩, ⟨⟨Tryz.func137, by kernel_rfl, by kernel_rfl⟩, ⟨⟨Tryz.func265, by kernel_rfl, by kernel_rfl⟩, trivial, trivial⟩, trivial⟩, ⟨⟨Tryz.func201, by kernel_rfl, by kernel_rfl⟩, ⟨⟨Tryz.func329, by kernel_rfl, by kernel_rfl⟩, trivial, trivial⟩, trivial⟩⟩, ⟨⟨Tryz.func105, by kernel_rfl, by kernel_rfl⟩, ⟨⟨Tryz.func169, by kernel_rfl, by kernel_rfl⟩, ⟨⟨Tryz.func297, by kernel_rfl, by kernel_rfl⟩, trivial, trivial⟩, trivial⟩, ⟨⟨Tryz.func233, by kernel_rfl, by kernel_rfl⟩, ⟨⟨Tryz.func361, by kernel_rfl, by kernel_rfl⟩, trivial, trivial⟩, trivial⟩⟩⟩, ⟨⟨Tryz.func57, by kernel_rfl, by kernel_rfl⟩, ⟨⟨Tryz.func89, by kernel_rfl, by kernel_rfl⟩, ⟨⟨Tryz.func153, by kernel_rfl, by kernel_rfl⟩, ⟨⟨Tryz.func281, by kernel_rfl, by kernel_rfl⟩, trivial, trivial⟩, trivial⟩, ⟨⟨Tryz.func217, by kernel_rfl, by kernel_rfl⟩, ⟨⟨Tryz.func345, by kernel_rfl, by kernel_rfl⟩, trivial, trivial⟩, trivial⟩⟩, ⟨⟨Tryz.func121, by kernel_rfl, by kernel_rfl⟩, ⟨⟨Tryz.func185, by kernel_rfl, by kernel_rfl⟩, ⟨⟨Tryz.func313, by kernel_rfl, by kernel_rfl⟩, trivial, trivial⟩, trivial⟩, ⟨⟨Tryz.func249, by kernel_rfl, by kernel_rfl⟩, trivial, trivial⟩⟩⟩⟩⟩, ⟨⟨Tryz.func13, by kernel_rfl, by kernel_rfl⟩, ⟨⟨Tryz.func21, by kernel_rfl, by kernel_rfl⟩, ⟨⟨Tryz.func37, by kernel_rfl, by kernel_rfl⟩, ⟨⟨Tryz.func69, by kernel_rfl, by kernel_rfl⟩, ⟨⟨Tryz.func133, by kernel_rfl, by kernel_rfl⟩, ⟨⟨Tryz.func261, by kernel_rfl, by kernel_rfl⟩, trivial, trivial⟩, ⟨⟨Tryz.func389, by kernel_rfl, by kernel_rfl⟩, trivial, trivial⟩⟩, ⟨⟨Tryz.func197, by kernel_rfl, by kernel_rfl⟩, ⟨⟨Tryz.func325, by kernel_rfl, by kernel_rfl⟩, trivial, trivial⟩, trivial⟩⟩, ⟨⟨Tryz.func101, by kernel_rfl, by kernel_rfl⟩, ⟨⟨Tryz.func165, by kernel_rfl, by kernel_rfl⟩, ⟨⟨Tryz.func293, by kernel_rfl, by kernel_rfl⟩, trivial, trivial⟩, trivial⟩, ⟨⟨Tryz.func229, by kernel_rfl, by kernel_rfl⟩, ⟨⟨Tryz.func357, by kernel_rfl, by kernel_rfl⟩, trivial, trivial⟩, trivial⟩⟩⟩, ⟨⟨Tryz.func53, by kernel_rfl, by kernel_rfl⟩, ⟨⟨Tryz.func85, by kernel_rfl, by kernel_rfl⟩, ⟨⟨Tryz.func149, by kernel_rfl, by kernel_rfl⟩, ⟨⟨Tryz.func277, by kernel_rfl, by kernel_rfl⟩, trivial, trivial⟩, trivial⟩, ⟨⟨Tryz.func213, by kernel_rfl, by kernel_rfl⟩, ⟨⟨Tryz.func341, by kernel_rfl, by kernel_rfl⟩, trivial, trivial⟩, trivial⟩⟩, ⟨⟨Tryz.func117, by kernel_rfl, by kernel_rfl⟩, ⟨⟨Tryz.func181, by kernel_rfl, by kernel_rfl⟩, ⟨⟨Tryz.func309, by kernel_rfl, by kernel_rfl⟩, trivial, trivial⟩, trivial⟩, ⟨⟨Tryz.func245, by kernel_rfl, by kernel_rfl⟩, trivial, trivial⟩⟩⟩⟩, ⟨⟨Tryz.func29, by kernel_rfl, by kernel_rfl⟩, ⟨⟨Tryz.func45, by kernel_rfl, by kernel_rfl⟩, ⟨⟨Tryz.func77, by kernel_rfl, by kernel_rfl⟩, ⟨⟨Tryz.func141, by kernel_rfl, by kernel_rfl⟩, ⟨⟨Tryz.func269, by kernel_rfl, by kernel_rfl⟩, trivial, trivial⟩, trivial⟩, ⟨⟨Tryz.func205, by kernel_rfl, by kernel_rfl⟩, ⟨⟨Tryz.func333, by kernel_rfl, by kernel_rfl⟩, trivial, trivial⟩, trivial⟩⟩, ⟨⟨Tryz.func109, by kernel_rfl, by kernel_rfl⟩, ⟨⟨Tryz.func173, by kernel_rfl, by kernel_rfl⟩, ⟨⟨Tryz.func301, by kernel_rfl, by kernel_rfl⟩, trivial, trivial⟩, trivial⟩, ⟨⟨Tryz.func237, by kernel_rfl, by kernel_rfl⟩, trivial, trivial⟩⟩⟩, ⟨⟨Tryz.func61, by kernel_rfl, by kernel_rfl⟩, ⟨⟨Tryz.func93, by kernel_rfl, by kernel_rfl⟩, ⟨⟨Tryz.func157, by kernel_rfl, by kernel_rfl⟩, ⟨⟨Tryz.func285, by kernel_rfl, by kernel_rfl⟩, trivial, trivial⟩, trivial⟩, ⟨⟨Tryz.func221, by kernel_rfl, by kernel_rfl⟩, ⟨⟨Tryz.func349, by kernel_rfl, by kernel_rfl⟩, trivial, trivial⟩, trivial⟩⟩, ⟨⟨Tryz.func125, by kernel_rfl, by kernel_rfl⟩, ⟨⟨Tryz.func189, by kernel_rfl, by kernel_rfl⟩, ⟨⟨Tryz.func317, by kernel_rfl, by kernel_rfl⟩, trivial, trivial⟩, trivial⟩, ⟨⟨Tryz.func253, by kernel_rfl, by kernel_rfl⟩, trivial, trivial⟩⟩⟩⟩⟩⟩⟩, ⟨⟨Tryz.func2, by kernel_rfl, by kernel_rfl⟩, ⟨⟨Tryz.func4, by kernel_rfl, by kernel_rfl⟩, ⟨⟨Tryz.func8, by kernel_rfl, by kernel_rfl⟩, ⟨⟨Tryz.func16, by kernel_rfl, by kernel_rfl⟩, ⟨⟨Tryz.func32, by kernel_rfl, by kernel_rfl⟩, ⟨⟨Tryz.func64, by kernel_rfl, by kernel_rfl⟩, ⟨⟨Tryz.func128, by kernel_rfl, by kernel_rfl⟩, ⟨⟨Tryz.func256, by kernel_rfl, by kernel_rfl⟩, trivial, trivial⟩, trivial⟩, ⟨⟨Tryz.func192, by kernel_rfl, by kernel_rfl⟩, ⟨⟨Tryz.func320, by kernel_rfl, by kernel_rfl⟩, trivial, trivial⟩, trivial⟩⟩, ⟨⟨Tryz.func96, by kernel_rfl, by kernel_rfl⟩, ⟨⟨Tryz.func160, by kernel_rfl, by kernel_rfl⟩, ⟨⟨Tryz.func288, by kernel_rfl, by kernel_rfl⟩, trivial, trivial⟩, trivial⟩, ⟨⟨Tryz.func224, by kernel_rfl, by kernel_rfl⟩, ⟨⟨Tryz.func352, by kernel_rfl, by kernel_rfl⟩, trivial, trivial⟩, trivial⟩⟩⟩, ⟨⟨Tryz.func48, by kernel_rfl, by kernel_rfl⟩, ⟨⟨Tryz.func80, by kernel_rfl, by kernel_rfl⟩, ⟨⟨Tryz.func144, by kernel_rfl, by kernel_rfl⟩, ⟨⟨Tryz.func272, by kernel_rfl, by kernel_rfl⟩, trivial, trivial⟩, trivial⟩, ⟨⟨Tryz.func208, by kernel_rfl, by kernel_rfl⟩, ⟨⟨Tryz.func336, by kernel_rfl, by kernel_rfl⟩, trivial, trivial⟩, trivial⟩⟩, ⟨trivial, ⟨⟨Tryz.func176, by kernel_rfl, by kernel_rfl⟩, ⟨⟨Tryz.func304, by kernel_rfl, by kernel_rfl⟩, trivial, trivial⟩, trivial⟩, ⟨⟨Tryz.func240, by kernel_rfl, by kernel_rfl⟩, trivial, trivial⟩⟩⟩⟩, ⟨⟨Tryz.func24, by kernel_rfl, by kernel_rfl⟩, ⟨⟨Tryz.func40, by kernel_rfl, by kernel_rfl⟩, ⟨⟨Tryz.func72, by kernel_rfl, by kernel_rfl⟩, ⟨⟨Tryz.func136, by kernel_rfl, by kernel_rfl⟩, ⟨⟨Tryz.func264, by kernel_rfl, by kernel_rfl⟩, trivial, trivial⟩, trivial⟩, ⟨⟨Tryz.func200, by kernel_rfl, by kernel_rfl⟩, ⟨⟨Tryz.func328, by kernel_rfl, by kernel_rfl⟩, trivial, trivial⟩, trivial⟩⟩, ⟨⟨Tryz.func104, by kernel_rfl, by kernel_rfl⟩, ⟨⟨Tryz.func168, by kernel_rfl, by kernel_rfl⟩, ⟨⟨Tryz.func296, by kernel_rfl, by kernel_rfl⟩, trivial, trivial⟩, trivial⟩, ⟨⟨Tryz.func232, by kernel_rfl, by kernel_rfl⟩, ⟨⟨Tryz.func360, by kernel_rfl, by kernel_rfl⟩, trivial, trivial⟩, trivial⟩⟩⟩, ⟨⟨Tryz.func56, by kernel_rfl, by kernel_rfl⟩, ⟨⟨Tryz.func88, by kernel_rfl, by kernel_rfl⟩, ⟨⟨Tryz.func152, by kernel_rfl, by kernel_rfl⟩, ⟨⟨Tryz.func280, by kernel_rfl, by kernel_rfl⟩, trivial, trivial⟩, trivial⟩, ⟨⟨Tryz.func216, by kernel_rfl, by kernel_rfl⟩, ⟨⟨Tryz.func344, by kernel_rfl, by kernel_rfl⟩, trivial, trivial⟩, trivial⟩⟩, ⟨⟨Tryz.func120, by kernel_rfl, by kernel_rfl⟩, ⟨⟨Tryz.func184, by kernel_rfl, by kernel_rfl⟩, ⟨⟨Tryz.func312, by kernel_rfl, by kernel_rfl⟩, trivial, trivial⟩, trivial⟩, ⟨⟨Tryz.func248, by kernel_rfl, by kernel_rfl⟩, trivial, trivial⟩⟩⟩⟩⟩, ⟨⟨Tryz.func12, by kernel_rfl, by kernel_rfl⟩, ⟨⟨Tryz.func20, by kernel_rfl, by kernel_rfl⟩, ⟨⟨Tryz.func36, by kernel_rfl, by kernel_rfl⟩, ⟨⟨Tryz.func68, by kernel_rfl, by kernel_rfl⟩, ⟨⟨Tryz.func132, by kernel_rfl, by kernel_rfl⟩, ⟨⟨Tryz.func260, by kernel_rfl, by kernel_rfl⟩, trivial, trivial⟩, ⟨⟨Tryz.func388, by kernel_rfl, by kernel_rfl⟩, trivial, trivial⟩⟩, ⟨⟨Tryz.func196, by kernel_rfl, by kernel_rfl⟩, ⟨⟨Tryz.func324, by kernel_rfl, by kernel_rfl⟩, trivial, trivial⟩, trivial⟩⟩, ⟨⟨Tryz.func100, by kernel_rfl, by kernel_rfl⟩, ⟨⟨Tryz.func164, by kernel_rfl, by kernel_rfl⟩, ⟨⟨Tryz.func292, by kernel_rfl, by kernel_rfl⟩, trivial, trivial⟩, trivial⟩, ⟨⟨Tryz.func228, by kernel_rfl, by kernel_rfl⟩, ⟨⟨Tryz.func356, by kernel_rfl, by kernel_rfl⟩, trivial, trivial⟩, trivial⟩⟩⟩, ⟨⟨Tryz.func52, by kernel_rfl, by kernel_rfl⟩, ⟨⟨Tryz.func84, by kernel_rfl, by kernel_rfl⟩, ⟨⟨Tryz.func148, by kernel_rfl, by kernel_rfl⟩, ⟨⟨Tryz.func276, by kernel_rfl, by kernel_rfl⟩, trivial, trivial⟩, trivial⟩, ⟨⟨Tryz.func212, by kernel_rfl, by kernel_rfl⟩, ⟨⟨Tryz.func340, by kernel_rfl, by kernel_rfl⟩, trivial, trivial⟩, trivial⟩⟩, ⟨⟨Tryz.func116, by kernel_rfl, by kernel_rfl⟩, ⟨⟨Tryz.func180, by kernel_rfl, by kernel_rfl⟩, ⟨⟨Tryz.func308, by kernel_rfl, by kernel_rfl⟩, trivial, trivial⟩, trivial⟩, ⟨⟨Tryz.func244, by kernel_rfl, by kernel_rfl⟩, trivial, trivial⟩⟩⟩⟩, ⟨⟨Tryz.func28, by kernel_rfl, by kernel_rfl⟩, ⟨⟨Tryz.func44, by kernel_rfl, by kernel_rfl⟩, ⟨⟨Tryz.func76, by kernel_rfl, by kernel_rfl⟩, ⟨⟨Tryz.func140, by kernel_rfl, by kernel_rfl⟩, ⟨⟨Tryz.func268, by kernel_rfl, by kernel_rfl⟩, trivial, trivial⟩, trivial⟩, ⟨⟨Tryz.func204, by kernel_rfl, by kernel_rfl⟩, ⟨⟨Tryz.func332, by kernel_rfl, by kernel_rfl⟩, trivial, trivial⟩, trivial⟩⟩, ⟨⟨Tryz.func108, by kernel_rfl, by kernel_rfl⟩, ⟨⟨Tryz.func172, by kernel_rfl, by kernel_rfl⟩, ⟨⟨Tryz.func300, by kernel_rfl, by kernel_rfl⟩, trivial, trivial⟩, trivial⟩, ⟨⟨Tryz.func236, by kernel_rfl, by kernel_rfl⟩, trivial, trivial⟩⟩⟩, ⟨⟨Tryz.func60, by kernel_rfl, by kernel_rfl⟩, ⟨⟨Tryz.func92, by kernel_rfl, by kernel_rfl⟩, ⟨⟨Tryz.func156, by kernel_rfl, by kernel_rfl⟩, ⟨⟨Tryz.func284, by kernel_rfl, by kernel_rfl⟩, trivial, trivial⟩, trivial⟩, ⟨⟨Tryz.func220, by kernel_rfl, by kernel_rfl⟩, ⟨⟨Tryz.func348, by kernel_rfl, by kernel_rfl⟩, trivial, trivial⟩, trivial⟩⟩, ⟨⟨Tryz.func124, by kernel_rfl, by kernel_rfl⟩, ⟨⟨Tryz.func188, by kernel_rfl, by kernel_rfl⟩, ⟨⟨Tryz.func316, by kernel_rfl, by kernel_rfl⟩, trivial, trivial⟩, trivial⟩, ⟨⟨Tryz.func252, by kernel_rfl, by kernel_rfl⟩, trivial, trivial⟩⟩⟩⟩⟩⟩, ⟨⟨Tryz.func6, by kernel_rfl, by kernel_rfl⟩, ⟨⟨Tryz.func10, by kernel_rfl, by kernel_rfl⟩, ⟨⟨Tryz.func18, by kernel_rfl, by kernel_rfl⟩, ⟨⟨Tryz.func34, by kernel_rfl, by kernel_rfl⟩, ⟨⟨Tryz.func66, by kernel_rfl, by kernel_rfl⟩, ⟨⟨Tryz.func130, by kernel_rfl, by kernel_rfl⟩, ⟨⟨Tryz.func258, by kernel_rfl, by kernel_rfl⟩, trivial, trivial⟩, ⟨⟨Tryz.func386, by kernel_rfl, by kernel_rfl⟩, trivial, trivial⟩⟩, ⟨⟨Tryz.func194, by kernel_rfl, by kernel_rfl⟩, ⟨⟨Tryz.func322, by kernel_rfl, by kernel_rfl⟩, trivial, trivial⟩, trivial⟩⟩, ⟨⟨Tryz.func98, by kernel_rfl, by kernel_rfl⟩, ⟨⟨Tryz.func162, by kernel_rfl, by kernel_rfl⟩, ⟨⟨Tryz.func290, by kernel_rfl, by kernel_rfl⟩, trivial, trivial⟩, trivial⟩, ⟨⟨Tryz.func226, by kernel_rfl, by kernel_rfl⟩, ⟨⟨Tryz.func354, by kernel_rfl, by kernel_rfl⟩, trivial, trivial⟩, trivial⟩⟩⟩, ⟨⟨Tryz.func50, by kernel_rfl, by kernel_rfl⟩, ⟨⟨Tryz.func82, by kernel_rfl, by kernel_rfl⟩, ⟨⟨Tryz.func146, by kernel_rfl, by kernel_rfl⟩, ⟨⟨Tryz.func274, by kernel_rfl, by kernel_rfl⟩, trivial, trivial⟩, trivial⟩, ⟨⟨Tryz.func210, by kernel_rfl, by kernel_rfl⟩, trivial, trivial⟩⟩, ⟨⟨Tryz.func114, by kernel_rfl, by kernel_rfl⟩, ⟨⟨Tryz.func178, by kernel_rfl, by kernel_rfl⟩, ⟨⟨Tryz.func306, by kernel_rfl, by kernel_rfl⟩, trivial, trivial⟩, trivial⟩, ⟨⟨Tryz.func242, by kernel_rfl, by kernel_rfl⟩, trivial, trivial⟩⟩⟩⟩, ⟨⟨Tryz.func26, by kernel_rfl, by kernel_rfl⟩, ⟨⟨Tryz.func42, by kernel_rfl, by kernel_rfl⟩, ⟨⟨Tryz.func74, by kernel_rfl, by kernel_rfl⟩, ⟨⟨Tryz.func138, by kernel_rfl, by kernel_rfl⟩, ⟨⟨Tryz.func266, by kernel_rfl, by kernel_rfl⟩, trivial, trivial⟩, trivial⟩, ⟨⟨Tryz.func202, by kernel_rfl, by kernel_rfl⟩, ⟨⟨Tryz.func330, by kernel_rfl, by kernel_rfl⟩, trivial, trivial⟩, trivial⟩⟩, ⟨⟨Tryz.func106, by kernel_rfl, by kernel_rfl⟩, ⟨⟨Tryz.func170, by kernel_rfl, by kernel_rfl⟩, ⟨⟨Tryz.func298, by kernel_rfl, by kernel_rfl⟩, trivial, trivial⟩, trivial⟩, ⟨⟨Tryz.func234, by kernel_rfl, by kernel_rfl⟩, trivial, trivial⟩⟩⟩, ⟨⟨Tryz.func58, by kernel_rfl, by kernel_rfl⟩, ⟨⟨Tryz.func90, by kernel_rfl, by kernel_rfl⟩, ⟨⟨Tryz.func154, by kernel_rfl, by kernel_rfl⟩, ⟨⟨Tryz.func282, by kernel_rfl, by kernel_rfl⟩, trivial, trivial⟩, trivial⟩, ⟨⟨Tryz.func218, by kernel_rfl, by kernel_rfl⟩, ⟨⟨Tryz.func346, by kernel_rfl, by kernel_rfl⟩, trivial, trivial⟩, trivial⟩⟩, ⟨⟨Tryz.func122, by kernel_rfl, by kernel_rfl⟩, ⟨⟨Tryz.func186, by kernel_rfl, by kernel_rfl⟩, ⟨⟨Tryz.func314, by kernel_rfl, by kernel_rfl⟩, trivial, trivial⟩, trivial⟩, ⟨⟨Tryz.func250, by kernel_rfl, by kernel_rfl⟩, trivial, trivial⟩⟩⟩⟩⟩, ⟨⟨Tryz.func14, by kernel_rfl, by kernel_rfl⟩, ⟨⟨Tryz.func22, by kernel_rfl, by kernel_rfl⟩, ⟨⟨Tryz.func38, by kernel_rfl, by kernel_rfl⟩, ⟨⟨Tryz.func70, by kernel_rfl, by kernel_rfl⟩, ⟨⟨Tryz.func134, by kernel_rfl, by kernel_rfl⟩, ⟨⟨Tryz.func262, by kernel_rfl, by kernel_rfl⟩, trivial, trivial⟩, trivial⟩, ⟨⟨Tryz.func198, by kernel_rfl, by kernel_rfl⟩, ⟨⟨Tryz.func326, by kernel_rfl, by kernel_rfl⟩, trivial, trivial⟩, trivial⟩⟩, ⟨⟨Tryz.func102, by kernel_rfl, by kernel_rfl⟩, ⟨⟨Tryz.func166, by kernel_rfl, by kernel_rfl⟩, ⟨⟨Tryz.func294, by kernel_rfl, by kernel_rfl⟩, trivial, trivial⟩, trivial⟩, ⟨⟨Tryz.func230, by kernel_rfl, by kernel_rfl⟩, ⟨⟨Tryz.func358, by kernel_rfl, by kernel_rfl⟩, trivial, trivial⟩, trivial⟩⟩⟩, ⟨⟨Tryz.func54, by kernel_rfl, by kernel_rfl⟩, ⟨⟨Tryz.func86, by kernel_rfl, by kernel_rfl⟩, ⟨⟨Tryz.func150, by kernel_rfl, by kernel_rfl⟩, ⟨⟨Tryz.func278, by kernel_rfl, by kernel_rfl⟩, trivial, trivial⟩, trivial⟩, ⟨⟨Tryz.func214, by kernel_rfl, by kernel_rfl⟩, ⟨⟨Tryz.func342, by kernel_rfl, by kernel_rfl⟩, trivial, trivial⟩, trivial⟩⟩, ⟨⟨Tryz.func118, by kernel_rfl, by kernel_rfl⟩, ⟨⟨Tryz.func182, by kernel_rfl, by kernel_rfl⟩, ⟨⟨Tryz.func310, by kernel_rfl, by kernel_rfl⟩, trivial, trivial⟩, trivial⟩, ⟨⟨Tryz.func246, by kernel_rfl, by kernel_rfl⟩, trivial, trivial⟩⟩⟩⟩, ⟨⟨Tryz.func30, by kernel_rfl, by kernel_rfl⟩, ⟨⟨Tryz.func46, by kernel_rfl, by kernel_rfl⟩, ⟨⟨Tryz.func78, by kernel_rfl, by kernel_rfl⟩, ⟨⟨Tryz.func142, by kernel_rfl, by kernel_rfl⟩, ⟨⟨Tryz.func270, by kernel_rfl, by kernel_rfl⟩, trivial, trivial⟩, trivial⟩, ⟨⟨Tryz.func206, by kernel_rfl, by kernel_rfl⟩, ⟨⟨Tryz.func334, by kernel_rfl, by kernel_rfl⟩, trivial, trivial⟩, trivial⟩⟩, ⟨⟨Tryz.func110, by kernel_rfl, by kernel_rfl⟩, ⟨⟨Tryz.func174, by kernel_rfl, by kernel_rfl⟩, ⟨⟨Tryz.func302, by kernel_rfl, by kernel_rfl⟩, trivial, trivial⟩, trivial⟩, ⟨⟨Tryz.func238, by kernel_rfl, by kernel_rfl⟩, trivial, trivial⟩⟩⟩, ⟨⟨Tryz.func62, by kernel_rfl, by kernel_rfl⟩, ⟨⟨Tryz.func94, by kernel_rfl, by kernel_rfl⟩, ⟨⟨Tryz.func158, by kernel_rfl, by kernel_rfl⟩, ⟨⟨Tryz.func286, by kernel_rfl, by kernel_rfl⟩, trivial, trivial⟩, trivial⟩, ⟨⟨Tryz.func222, by kernel_rfl, by kernel_rfl⟩, ⟨⟨Tryz.func350, by kernel_rfl, by kernel_rfl⟩, trivial, trivial⟩, trivial⟩⟩, ⟨⟨Tryz.func126, by kernel_rfl, by kernel_rfl⟩, ⟨⟨Tryz.func190, by kernel_rfl, by kernel_rfl⟩, ⟨⟨Tryz.func318, by kernel_rfl, by kernel_rfl⟩, trivial, trivial⟩, trivial⟩, ⟨⟨Tryz.func254, by kernel_rfl, by kernel_rfl⟩, trivial, trivial⟩⟩⟩⟩⟩⟩⟩⟩
end Go.Proofs
