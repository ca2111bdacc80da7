/- The tables of the load: its functions, its types. -/
import Derived.Test.YtkjdlganghbgaaaGreatDoorProg
import Derived.Test.YtkjdlganghbgaaaGreatDoorEe
namespace Go.Proofs.Tryz
open Go.Ex
noncomputable def ty0 : Ty := ⟨t0.desc, 1, 0, false, t0.zero, [], true, t0.methods⟩
theorem ty0_ok : tyOf prog 0 = some ty0 := by kernel_rfl
noncomputable def ty1 : Ty := ⟨t1.desc, 1, 8, false, t1.zero, [], true, t1.methods⟩
theorem ty1_ok : tyOf prog 1 = some ty1 := by kernel_rfl
noncomputable def ty2 : Ty := ⟨t2.desc, 1, 8, false, t2.zero, [], true, t2.methods⟩
theorem ty2_ok : tyOf prog 2 = some ty2 := by kernel_rfl
noncomputable def ty3 : Ty := ⟨t3.desc, 1, 8, false, t3.zero, [], true, t3.methods⟩
theorem ty3_ok : tyOf prog 3 = some ty3 := by kernel_rfl
noncomputable def ty4 : Ty := ⟨t4.desc, 1, 1, false, t4.zero, [], true, t4.methods⟩
theorem ty4_ok : tyOf prog 4 = some ty4 := by kernel_rfl
noncomputable def ty5 : Ty := ⟨t5.desc, 1, 1, false, t5.zero, [], true, t5.methods⟩
theorem ty5_ok : tyOf prog 5 = some ty5 := by kernel_rfl
noncomputable def ty6 : Ty := ⟨t5.desc, 1, 1, false, t6.zero, [], true, t6.methods⟩
theorem ty6_ok : tyOf prog 6 = some ty6 := by kernel_rfl
noncomputable def ty7 : Ty := ⟨t7.desc, 4, 24, true, t7.zero, [(0, 1), (1, 1), (2, 1), (3, 1)], true, t7.methods⟩
theorem ty7_ok : tyOf prog 7 = some ty7 := by kernel_rfl
noncomputable def ty8 : Ty := ⟨t7.desc, 4, 24, true, t8.zero, [(0, 1), (1, 1), (2, 1), (3, 1)], true, t8.methods⟩
theorem ty8_ok : tyOf prog 8 = some ty8 := by kernel_rfl
noncomputable def ty9 : Ty := ⟨t9.desc, 1, 16, false, t9.zero, [], true, t9.methods⟩
theorem ty9_ok : tyOf prog 9 = some ty9 := by kernel_rfl
noncomputable def ty10 : Ty := ⟨t9.desc, 1, 16, false, t10.zero, [], true, t10.methods⟩
theorem ty10_ok : tyOf prog 10 = some ty10 := by kernel_rfl
noncomputable def ty11 : Ty := ⟨t9.desc, 1, 16, false, t11.zero, [], true, t11.methods⟩
theorem ty11_ok : tyOf prog 11 = some ty11 := by kernel_rfl
noncomputable def ty12 : Ty := ⟨t12.desc, 1, 8, false, t12.zero, [], true, t12.methods⟩
theorem ty12_ok : tyOf prog 12 = some ty12 := by kernel_rfl
noncomputable def ty13 : Ty := ⟨t13.desc, 2, 24, true, t13.zero, [(0, 1), (1, 1)], false, t13.methods⟩
theorem ty13_ok : tyOf prog 13 = some ty13 := by kernel_rfl
noncomputable def ty14 : Ty := ⟨t13.desc, 2, 24, true, t14.zero, [(0, 1), (1, 1)], false, t14.methods⟩
theorem ty14_ok : tyOf prog 14 = some ty14 := by kernel_rfl
noncomputable def ty15 : Ty := ⟨t15.desc, 1, 8, false, t15.zero, [], true, t15.methods⟩
theorem ty15_ok : tyOf prog 15 = some ty15 := by kernel_rfl
noncomputable def ty16 : Ty := ⟨t16.desc, 1, 8, false, t16.zero, [], true, t16.methods⟩
theorem ty16_ok : tyOf prog 16 = some ty16 := by kernel_rfl
noncomputable def ty17 : Ty := ⟨t17.desc, 1, 8, false, t17.zero, [], true, t17.methods⟩
theorem ty17_ok : tyOf prog 17 = some ty17 := by kernel_rfl
noncomputable def ty18 : Ty := ⟨t18.desc, 1, 8, true, t18.zero, [(0, 1)], false, t18.methods⟩
theorem ty18_ok : tyOf prog 18 = some ty18 := by kernel_rfl
noncomputable def ty19 : Ty := ⟨t18.desc, 1, 8, true, t19.zero, [(0, 1)], false, t19.methods⟩
theorem ty19_ok : tyOf prog 19 = some ty19 := by kernel_rfl
noncomputable def ty20 : Ty := ⟨t20.desc, 1, 16, false, t20.zero, [], true, t20.methods⟩
theorem ty20_ok : tyOf prog 20 = some ty20 := by kernel_rfl
noncomputable def ty21 : Ty := ⟨t21.desc, 1, 4, false, t21.zero, [], true, t21.methods⟩
theorem ty21_ok : tyOf prog 21 = some ty21 := by kernel_rfl
noncomputable def ty22 : Ty := ⟨t22.desc, 1, 8, false, t22.zero, [], true, t22.methods⟩
theorem ty22_ok : tyOf prog 22 = some ty22 := by kernel_rfl
noncomputable def ty23 : Ty := ⟨t23.desc, 1, 8, false, t23.zero, [], true, t23.methods⟩
theorem ty23_ok : tyOf prog 23 = some ty23 := by kernel_rfl
noncomputable def ty24 : Ty := ⟨t3.desc, 1, 8, false, t24.zero, [], true, t24.methods⟩
theorem ty24_ok : tyOf prog 24 = some ty24 := by kernel_rfl
noncomputable def ty25 : Ty := ⟨t25.desc, 1, 0, false, t25.zero, [], true, t25.methods⟩
theorem ty25_ok : tyOf prog 25 = some ty25 := by kernel_rfl
noncomputable def ty26 : Ty := ⟨t26.desc, 1, 8, false, t26.zero, [], true, t26.methods⟩
theorem ty26_ok : tyOf prog 26 = some ty26 := by kernel_rfl
noncomputable def ty27 : Ty := ⟨t27.desc, 1, 8, false, t27.zero, [], true, t27.methods⟩
theorem ty27_ok : tyOf prog 27 = some ty27 := by kernel_rfl
noncomputable def ty28 : Ty := ⟨t28.desc, 2, 16, true, t28.zero, [(0, 1), (1, 1)], true, t28.methods⟩
theorem ty28_ok : tyOf prog 28 = some ty28 := by kernel_rfl
noncomputable def ty29 : Ty := ⟨t28.desc, 2, 16, true, t29.zero, [(0, 1), (1, 1)], true, t29.methods⟩
theorem ty29_ok : tyOf prog 29 = some ty29 := by kernel_rfl
noncomputable def ty30 : Ty := ⟨t30.desc, 1, 8, false, t30.zero, [], true, t30.methods⟩
theorem ty30_ok : tyOf prog 30 = some ty30 := by kernel_rfl
noncomputable def ty31 : Ty := ⟨t31.desc, 1, 24, false, t31.zero, [], true, t31.methods⟩
theorem ty31_ok : tyOf prog 31 = some ty31 := by kernel_rfl
noncomputable def ty32 : Ty := ⟨t32.desc, 1, 8, false, t32.zero, [], true, t32.methods⟩
theorem ty32_ok : tyOf prog 32 = some ty32 := by kernel_rfl
noncomputable def ty33 : Ty := ⟨t33.desc, 7, 80, true, t33.zero, [(0, 1), (1, 1), (2, 1), (3, 1), (4, 1), (5, 1), (6, 1)], true, t33.methods⟩
theorem ty33_ok : tyOf prog 33 = some ty33 := by kernel_rfl
noncomputable def ty34 : Ty := ⟨t33.desc, 7, 80, true, t34.zero, [(0, 1), (1, 1), (2, 1), (3, 1), (4, 1), (5, 1), (6, 1)], true, t34.methods⟩
theorem ty34_ok : tyOf prog 34 = some ty34 := by kernel_rfl
noncomputable def ty35 : Ty := ⟨t35.desc, 1, 8, false, t35.zero, [], true, t35.methods⟩
theorem ty35_ok : tyOf prog 35 = some ty35 := by kernel_rfl
noncomputable def ty36 : Ty := ⟨t36.desc, 1, 24, false, t36.zero, [], true, t36.methods⟩
theorem ty36_ok : tyOf prog 36 = some ty36 := by kernel_rfl
noncomputable def ty37 : Ty := ⟨t37.desc, 1, 0, false, t37.zero, [], true, t37.methods⟩
theorem ty37_ok : tyOf prog 37 = some ty37 := by kernel_rfl
noncomputable def ty38 : Ty := ⟨t38.desc, 1, 8, false, t38.zero, [], true, t38.methods⟩
theorem ty38_ok : tyOf prog 38 = some ty38 := by kernel_rfl
noncomputable def ty39 : Ty := ⟨t39.desc, 1, 0, false, t39.zero, [], true, t39.methods⟩
theorem ty39_ok : tyOf prog 39 = some ty39 := by kernel_rfl
noncomputable def ty40 : Ty := ⟨t40.desc, 1, 8, false, t40.zero, [], true, t40.methods⟩
theorem ty40_ok : tyOf prog 40 = some ty40 := by kernel_rfl
noncomputable def ty41 : Ty := ⟨t41.desc, 1, 8, false, t41.zero, [], true, t41.methods⟩
theorem ty41_ok : tyOf prog 41 = some ty41 := by kernel_rfl
noncomputable def ty42 : Ty := ⟨t42.desc, 1, 8, false, t42.zero, [], true, t42.methods⟩
theorem ty42_ok : tyOf prog 42 = some ty42 := by kernel_rfl
noncomputable def ty43 : Ty := ⟨t43.desc, 1, 24, false, t43.zero, [], true, t43.methods⟩
theorem ty43_ok : tyOf prog 43 = some ty43 := by kernel_rfl
noncomputable def ty44 : Ty := ⟨t44.desc, 1, 8, false, t44.zero, [], true, t44.methods⟩
theorem ty44_ok : tyOf prog 44 = some ty44 := by kernel_rfl
noncomputable def ty45 : Ty := ⟨t45.desc, 1, 8, false, t45.zero, [], true, t45.methods⟩
theorem ty45_ok : tyOf prog 45 = some ty45 := by kernel_rfl
noncomputable def ty46 : Ty := ⟨t46.desc, 1, 8, false, t46.zero, [], true, t46.methods⟩
theorem ty46_ok : tyOf prog 46 = some ty46 := by kernel_rfl
noncomputable def ty47 : Ty := ⟨t47.desc, 1, 24, false, t47.zero, [], true, t47.methods⟩
theorem ty47_ok : tyOf prog 47 = some ty47 := by kernel_rfl
noncomputable def ty48 : Ty := ⟨t48.desc, 11, 120, true, t48.zero, [(0, 7), (7, 1), (8, 1), (9, 1), (10, 1)], true, t48.methods⟩
theorem ty48_ok : tyOf prog 48 = some ty48 := by kernel_rfl
noncomputable def ty49 : Ty := ⟨t48.desc, 11, 120, true, t49.zero, [(0, 7), (7, 1), (8, 1), (9, 1), (10, 1)], true, t49.methods⟩
theorem ty49_ok : tyOf prog 49 = some ty49 := by kernel_rfl
noncomputable def ty50 : Ty := ⟨t50.desc, 1, 8, false, t50.zero, [], true, t50.methods⟩
theorem ty50_ok : tyOf prog 50 = some ty50 := by kernel_rfl
noncomputable def ty51 : Ty := ⟨t51.desc, 1, 24, false, t51.zero, [], true, t51.methods⟩
theorem ty51_ok : tyOf prog 51 = some ty51 := by kernel_rfl
noncomputable def ty52 : Ty := ⟨t52.desc, 1, 8, false, t52.zero, [], true, t52.methods⟩
theorem ty52_ok : tyOf prog 52 = some ty52 := by kernel_rfl
noncomputable def ty53 : Ty := ⟨t53.desc, 3, 40, true, t53.zero, [(0, 1), (1, 1), (2, 1)], true, t53.methods⟩
theorem ty53_ok : tyOf prog 53 = some ty53 := by kernel_rfl
noncomputable def ty54 : Ty := ⟨t53.desc, 3, 40, true, t54.zero, [(0, 1), (1, 1), (2, 1)], true, t54.methods⟩
theorem ty54_ok : tyOf prog 54 = some ty54 := by kernel_rfl
noncomputable def ty55 : Ty := ⟨t55.desc, 1, 8, false, t55.zero, [], true, t55.methods⟩
theorem ty55_ok : tyOf prog 55 = some ty55 := by kernel_rfl
noncomputable def ty56 : Ty := ⟨t56.desc, 1, 8, false, t56.zero, [], true, t56.methods⟩
theorem ty56_ok : tyOf prog 56 = some ty56 := by kernel_rfl
noncomputable def ty57 : Ty := ⟨t57.desc, 1, 8, false, t57.zero, [], true, t57.methods⟩
theorem ty57_ok : tyOf prog 57 = some ty57 := by kernel_rfl
noncomputable def ty58 : Ty := ⟨t58.desc, 1, 8, false, t58.zero, [], true, t58.methods⟩
theorem ty58_ok : tyOf prog 58 = some ty58 := by kernel_rfl
noncomputable def ty59 : Ty := ⟨t59.desc, 1, 0, false, t59.zero, [], true, t59.methods⟩
theorem ty59_ok : tyOf prog 59 = some ty59 := by kernel_rfl
noncomputable def ty60 : Ty := ⟨t60.desc, 1, 8, false, t60.zero, [], true, t60.methods⟩
theorem ty60_ok : tyOf prog 60 = some ty60 := by kernel_rfl
noncomputable def ty61 : Ty := ⟨t61.desc, 1, 0, false, t61.zero, [], true, t61.methods⟩
theorem ty61_ok : tyOf prog 61 = some ty61 := by kernel_rfl
noncomputable def ty62 : Ty := ⟨t62.desc, 1, 8, false, t62.zero, [], true, t62.methods⟩
theorem ty62_ok : tyOf prog 62 = some ty62 := by kernel_rfl
noncomputable def ty63 : Ty := ⟨t63.desc, 1, 8, false, t63.zero, [], true, t63.methods⟩
theorem ty63_ok : tyOf prog 63 = some ty63 := by kernel_rfl
noncomputable def ty64 : Ty := ⟨t64.desc, 1, 8, false, t64.zero, [], true, t64.methods⟩
theorem ty64_ok : tyOf prog 64 = some ty64 := by kernel_rfl
noncomputable def ty65 : Ty := ⟨t65.desc, 1, 8, false, t65.zero, [], true, t65.methods⟩
theorem ty65_ok : tyOf prog 65 = some ty65 := by kernel_rfl
noncomputable def ty66 : Ty := ⟨t66.desc, 2, 32, true, t66.zero, [(0, 1), (1, 1)], true, t66.methods⟩
theorem ty66_ok : tyOf prog 66 = some ty66 := by kernel_rfl
noncomputable def ty67 : Ty := ⟨t66.desc, 2, 32, true, t67.zero, [(0, 1), (1, 1)], true, t67.methods⟩
theorem ty67_ok : tyOf prog 67 = some ty67 := by kernel_rfl
noncomputable def ty68 : Ty := ⟨t68.desc, 1, 8, false, t68.zero, [], true, t68.methods⟩
theorem ty68_ok : tyOf prog 68 = some ty68 := by kernel_rfl
noncomputable def ty69 : Ty := ⟨t68.desc, 1, 8, false, t69.zero, [], true, t69.methods⟩
theorem ty69_ok : tyOf prog 69 = some ty69 := by kernel_rfl
noncomputable def ty70 : Ty := ⟨t70.desc, 1, 8, false, t70.zero, [], true, t70.methods⟩
theorem ty70_ok : tyOf prog 70 = some ty70 := by kernel_rfl
noncomputable def ty71 : Ty := ⟨t71.desc, 1, 8, false, t71.zero, [], true, t71.methods⟩
theorem ty71_ok : tyOf prog 71 = some ty71 := by kernel_rfl
noncomputable def ty72 : Ty := ⟨t72.desc, 1, 8, false, t72.zero, [], true, t72.methods⟩
theorem ty72_ok : tyOf prog 72 = some ty72 := by kernel_rfl
noncomputable def ty73 : Ty := ⟨t73.desc, 4, 32, true, t73.zero, [(0, 1), (1, 1), (2, 1), (3, 1)], true, t73.methods⟩
theorem ty73_ok : tyOf prog 73 = some ty73 := by kernel_rfl
noncomputable def ty74 : Ty := ⟨t73.desc, 4, 32, true, t74.zero, [(0, 1), (1, 1), (2, 1), (3, 1)], true, t74.methods⟩
theorem ty74_ok : tyOf prog 74 = some ty74 := by kernel_rfl
noncomputable def ty75 : Ty := ⟨t75.desc, 1, 24, false, t75.zero, [], true, t75.methods⟩
theorem ty75_ok : tyOf prog 75 = some ty75 := by kernel_rfl
noncomputable def ty76 : Ty := ⟨t76.desc, 10, 120, true, t76.zero, [(0, 1), (1, 1), (2, 1), (3, 1), (4, 4), (8, 1), (9, 1)], true, t76.methods⟩
theorem ty76_ok : tyOf prog 76 = some ty76 := by kernel_rfl
noncomputable def ty77 : Ty := ⟨t76.desc, 10, 120, true, t77.zero, [(0, 1), (1, 1), (2, 1), (3, 1), (4, 4), (8, 1), (9, 1)], true, t77.methods⟩
theorem ty77_ok : tyOf prog 77 = some ty77 := by kernel_rfl
noncomputable def ty78 : Ty := ⟨t78.desc, 1, 16, false, t78.zero, [], false, t78.methods⟩
theorem ty78_ok : tyOf prog 78 = some ty78 := by kernel_rfl
noncomputable def ty79 : Ty := ⟨t78.desc, 1, 16, false, t79.zero, [], false, t79.methods⟩
theorem ty79_ok : tyOf prog 79 = some ty79 := by kernel_rfl
noncomputable def ty80 : Ty := ⟨t80.desc, 1, 0, false, t80.zero, [], true, t80.methods⟩
theorem ty80_ok : tyOf prog 80 = some ty80 := by kernel_rfl
noncomputable def ty81 : Ty := ⟨t81.desc, 1, 8, false, t81.zero, [], true, t81.methods⟩
theorem ty81_ok : tyOf prog 81 = some ty81 := by kernel_rfl
noncomputable def ty82 : Ty := ⟨t82.desc, 1, 8, false, t82.zero, [], true, t82.methods⟩
theorem ty82_ok : tyOf prog 82 = some ty82 := by kernel_rfl
noncomputable def ty83 : Ty := ⟨t83.desc, 1, 8, false, t83.zero, [], true, t83.methods⟩
theorem ty83_ok : tyOf prog 83 = some ty83 := by kernel_rfl
noncomputable def ty84 : Ty := ⟨t84.desc, 1, 0, false, t84.zero, [], true, t84.methods⟩
theorem ty84_ok : tyOf prog 84 = some ty84 := by kernel_rfl
noncomputable def ty85 : Ty := ⟨t85.desc, 1, 8, false, t85.zero, [], true, t85.methods⟩
theorem ty85_ok : tyOf prog 85 = some ty85 := by kernel_rfl
noncomputable def ty86 : Ty := ⟨t86.desc, 1, 0, false, t86.zero, [], true, t86.methods⟩
theorem ty86_ok : tyOf prog 86 = some ty86 := by kernel_rfl
noncomputable def ty87 : Ty := ⟨t87.desc, 1, 8, false, t87.zero, [], true, t87.methods⟩
theorem ty87_ok : tyOf prog 87 = some ty87 := by kernel_rfl
noncomputable def ty88 : Ty := ⟨t88.desc, 1, 8, false, t88.zero, [], true, t88.methods⟩
theorem ty88_ok : tyOf prog 88 = some ty88 := by kernel_rfl
noncomputable def ty89 : Ty := ⟨t89.desc, 1, 0, false, t89.zero, [], true, t89.methods⟩
theorem ty89_ok : tyOf prog 89 = some ty89 := by kernel_rfl
noncomputable def ty90 : Ty := ⟨t90.desc, 1, 8, false, t90.zero, [], true, t90.methods⟩
theorem ty90_ok : tyOf prog 90 = some ty90 := by kernel_rfl
noncomputable def ty91 : Ty := ⟨t91.desc, 1, 24, false, t91.zero, [], true, t91.methods⟩
theorem ty91_ok : tyOf prog 91 = some ty91 := by kernel_rfl
noncomputable def ty92 : Ty := ⟨t92.desc, 1, 0, false, t92.zero, [], true, t92.methods⟩
theorem ty92_ok : tyOf prog 92 = some ty92 := by kernel_rfl
noncomputable def ty93 : Ty := ⟨t93.desc, 1, 8, false, t93.zero, [], true, t93.methods⟩
theorem ty93_ok : tyOf prog 93 = some ty93 := by kernel_rfl
noncomputable def ty94 : Ty := ⟨t94.desc, 1, 8, false, t94.zero, [], true, t94.methods⟩
theorem ty94_ok : tyOf prog 94 = some ty94 := by kernel_rfl
noncomputable def ty95 : Ty := ⟨t95.desc, 1, 8, false, t95.zero, [], true, t95.methods⟩
theorem ty95_ok : tyOf prog 95 = some ty95 := by kernel_rfl
noncomputable def ty96 : Ty := ⟨t96.desc, 7, 72, true, t96.zero, [(0, 1), (1, 1), (2, 4), (6, 1)], true, t96.methods⟩
theorem ty96_ok : tyOf prog 96 = some ty96 := by kernel_rfl
noncomputable def ty97 : Ty := ⟨t96.desc, 7, 72, true, t97.zero, [(0, 1), (1, 1), (2, 4), (6, 1)], true, t97.methods⟩
theorem ty97_ok : tyOf prog 97 = some ty97 := by kernel_rfl
noncomputable def ty98 : Ty := ⟨t98.desc, 1, 8, false, t98.zero, [], true, t98.methods⟩
theorem ty98_ok : tyOf prog 98 = some ty98 := by kernel_rfl
noncomputable def ty99 : Ty := ⟨t99.desc, 1, 8, false, t99.zero, [], true, t99.methods⟩
theorem ty99_ok : tyOf prog 99 = some ty99 := by kernel_rfl
noncomputable def ty100 : Ty := ⟨t100.desc, 1, 24, false, t100.zero, [], true, t100.methods⟩
theorem ty100_ok : tyOf prog 100 = some ty100 := by kernel_rfl
noncomputable def ty101 : Ty := ⟨t101.desc, 1, 8, false, t101.zero, [], true, t101.methods⟩
theorem ty101_ok : tyOf prog 101 = some ty101 := by kernel_rfl
noncomputable def ty102 : Ty := ⟨t102.desc, 1, 8, false, t102.zero, [], true, t102.methods⟩
theorem ty102_ok : tyOf prog 102 = some ty102 := by kernel_rfl
noncomputable def ty103 : Ty := ⟨t103.desc, 2, 16, true, t103.zero, [(0, 1), (1, 1)], true, t103.methods⟩
theorem ty103_ok : tyOf prog 103 = some ty103 := by kernel_rfl
noncomputable def ty104 : Ty := ⟨t103.desc, 2, 16, true, t104.zero, [(0, 1), (1, 1)], true, t104.methods⟩
theorem ty104_ok : tyOf prog 104 = some ty104 := by kernel_rfl
noncomputable def ty105 : Ty := ⟨t105.desc, 1, 8, false, t105.zero, [], true, t105.methods⟩
theorem ty105_ok : tyOf prog 105 = some ty105 := by kernel_rfl
noncomputable def ty106 : Ty := ⟨t106.desc, 1, 8, false, t106.zero, [], true, t106.methods⟩
theorem ty106_ok : tyOf prog 106 = some ty106 := by kernel_rfl
noncomputable def ty107 : Ty := ⟨t107.desc, 1, 8, false, t107.zero, [], true, t107.methods⟩
theorem ty107_ok : tyOf prog 107 = some ty107 := by kernel_rfl
noncomputable def ty108 : Ty := ⟨t108.desc, 1, 8, false, t108.zero, [], true, t108.methods⟩
theorem ty108_ok : tyOf prog 108 = some ty108 := by kernel_rfl
noncomputable def ty109 : Ty := ⟨t109.desc, 1, 8, false, t109.zero, [], true, t109.methods⟩
theorem ty109_ok : tyOf prog 109 = some ty109 := by kernel_rfl
noncomputable def ty110 : Ty := ⟨t110.desc, 1, 8, false, t110.zero, [], true, t110.methods⟩
theorem ty110_ok : tyOf prog 110 = some ty110 := by kernel_rfl
noncomputable def ty111 : Ty := ⟨t111.desc, 1, 8, false, t111.zero, [], true, t111.methods⟩
theorem ty111_ok : tyOf prog 111 = some ty111 := by kernel_rfl
noncomputable def ty112 : Ty := ⟨t112.desc, 1, 8, false, t112.zero, [], true, t112.methods⟩
theorem ty112_ok : tyOf prog 112 = some ty112 := by kernel_rfl
noncomputable def ty113 : Ty := ⟨t113.desc, 1, 0, false, t113.zero, [], true, t113.methods⟩
theorem ty113_ok : tyOf prog 113 = some ty113 := by kernel_rfl
noncomputable def ty114 : Ty := ⟨t114.desc, 1, 8, false, t114.zero, [], true, t114.methods⟩
theorem ty114_ok : tyOf prog 114 = some ty114 := by kernel_rfl
noncomputable def ty115 : Ty := ⟨t115.desc, 3, 24, true, t115.zero, [(0, 1), (1, 1), (2, 1)], true, t115.methods⟩
theorem ty115_ok : tyOf prog 115 = some ty115 := by kernel_rfl
noncomputable def ty116 : Ty := ⟨t115.desc, 3, 24, true, t116.zero, [(0, 1), (1, 1), (2, 1)], true, t116.methods⟩
theorem ty116_ok : tyOf prog 116 = some ty116 := by kernel_rfl
noncomputable def ty117 : Ty := ⟨t117.desc, 1, 8, false, t117.zero, [], true, t117.methods⟩
theorem ty117_ok : tyOf prog 117 = some ty117 := by kernel_rfl
noncomputable def ty118 : Ty := ⟨t118.desc, 1, 8, false, t118.zero, [], true, t118.methods⟩
theorem ty118_ok : tyOf prog 118 = some ty118 := by kernel_rfl
noncomputable def ty119 : Ty := ⟨t119.desc, 1, 8, false, t119.zero, [], true, t119.methods⟩
theorem ty119_ok : tyOf prog 119 = some ty119 := by kernel_rfl
noncomputable def ty120 : Ty := ⟨t120.desc, 256, 256, true, t120.zero, [], true, t120.methods⟩
theorem ty120_ok : tyOf prog 120 = some ty120 := by kernel_rfl
noncomputable def ty121 : Ty := ⟨t120.desc, 256, 256, true, t121.zero, [], true, t121.methods⟩
theorem ty121_ok : tyOf prog 121 = some ty121 := by kernel_rfl
noncomputable def ty122 : Ty := ⟨t122.desc, 1, 0, false, t122.zero, [], true, t122.methods⟩
theorem ty122_ok : tyOf prog 122 = some ty122 := by kernel_rfl
noncomputable def ty123 : Ty := ⟨t123.desc, 1, 8, false, t123.zero, [], true, t123.methods⟩
theorem ty123_ok : tyOf prog 123 = some ty123 := by kernel_rfl
noncomputable def ty124 : Ty := ⟨t124.desc, 1, 8, false, t124.zero, [], true, t124.methods⟩
theorem ty124_ok : tyOf prog 124 = some ty124 := by kernel_rfl
noncomputable def ty125 : Ty := ⟨t125.desc, 1, 8, false, t125.zero, [], true, t125.methods⟩
theorem ty125_ok : tyOf prog 125 = some ty125 := by kernel_rfl
noncomputable def ty126 : Ty := ⟨t126.desc, 1, 8, false, t126.zero, [], true, t126.methods⟩
theorem ty126_ok : tyOf prog 126 = some ty126 := by kernel_rfl
noncomputable def ty127 : Ty := ⟨t127.desc, 1, 8, false, t127.zero, [], true, t127.methods⟩
theorem ty127_ok : tyOf prog 127 = some ty127 := by kernel_rfl
noncomputable def ty128 : Ty := ⟨t128.desc, 1, 0, false, t128.zero, [], true, t128.methods⟩
theorem ty128_ok : tyOf prog 128 = some ty128 := by kernel_rfl
noncomputable def ty129 : Ty := ⟨t129.desc, 1, 8, false, t129.zero, [], true, t129.methods⟩
theorem ty129_ok : tyOf prog 129 = some ty129 := by kernel_rfl
noncomputable def ty130 : Ty := ⟨t130.desc, 1, 8, false, t130.zero, [], true, t130.methods⟩
theorem ty130_ok : tyOf prog 130 = some ty130 := by kernel_rfl
noncomputable def ty131 : Ty := ⟨t131.desc, 1, 8, false, t131.zero, [], true, t131.methods⟩
theorem ty131_ok : tyOf prog 131 = some ty131 := by kernel_rfl
noncomputable def ty132 : Ty := ⟨t132.desc, 3, 40, true, t132.zero, [(0, 1), (1, 1), (2, 1)], true, t132.methods⟩
theorem ty132_ok : tyOf prog 132 = some ty132 := by kernel_rfl
noncomputable def ty133 : Ty := ⟨t132.desc, 3, 40, true, t133.zero, [(0, 1), (1, 1), (2, 1)], true, t133.methods⟩
theorem ty133_ok : tyOf prog 133 = some ty133 := by kernel_rfl
noncomputable def ty134 : Ty := ⟨t134.desc, 1, 8, false, t134.zero, [], true, t134.methods⟩
theorem ty134_ok : tyOf prog 134 = some ty134 := by kernel_rfl
noncomputable def ty135 : Ty := ⟨t135.desc, 1, 8, false, t135.zero, [], true, t135.methods⟩
theorem ty135_ok : tyOf prog 135 = some ty135 := by kernel_rfl
noncomputable def ty136 : Ty := ⟨t136.desc, 1, 8, false, t136.zero, [], true, t136.methods⟩
theorem ty136_ok : tyOf prog 136 = some ty136 := by kernel_rfl
noncomputable def ty137 : Ty := ⟨t137.desc, 1, 8, false, t137.zero, [], true, t137.methods⟩
theorem ty137_ok : tyOf prog 137 = some ty137 := by kernel_rfl
noncomputable def ty138 : Ty := ⟨t138.desc, 10, 80, true, t138.zero, [(0, 1), (1, 1), (2, 1), (3, 1), (4, 1), (5, 1), (6, 1), (7, 1), (8, 1), (9, 1)], true, t138.methods⟩
theorem ty138_ok : tyOf prog 138 = some ty138 := by kernel_rfl
noncomputable def ty139 : Ty := ⟨t138.desc, 10, 80, true, t139.zero, [(0, 1), (1, 1), (2, 1), (3, 1), (4, 1), (5, 1), (6, 1), (7, 1), (8, 1), (9, 1)], true, t139.methods⟩
theorem ty139_ok : tyOf prog 139 = some ty139 := by kernel_rfl
noncomputable def ty140 : Ty := ⟨t140.desc, 1, 0, false, t140.zero, [], true, t140.methods⟩
theorem ty140_ok : tyOf prog 140 = some ty140 := by kernel_rfl
noncomputable def ty141 : Ty := ⟨t141.desc, 1, 8, false, t141.zero, [], true, t141.methods⟩
theorem ty141_ok : tyOf prog 141 = some ty141 := by kernel_rfl
noncomputable def ty142 : Ty := ⟨t142.desc, 1, 8, false, t142.zero, [], true, t142.methods⟩
theorem ty142_ok : tyOf prog 142 = some ty142 := by kernel_rfl
noncomputable def ty143 : Ty := ⟨t143.desc, 9, 72, true, t143.zero, [(0, 1), (1, 1), (2, 1), (3, 1), (4, 1), (5, 1), (6, 1), (7, 1), (8, 1)], true, t143.methods⟩
theorem ty143_ok : tyOf prog 143 = some ty143 := by kernel_rfl
noncomputable def ty144 : Ty := ⟨t143.desc, 9, 72, true, t144.zero, [(0, 1), (1, 1), (2, 1), (3, 1), (4, 1), (5, 1), (6, 1), (7, 1), (8, 1)], true, t144.methods⟩
theorem ty144_ok : tyOf prog 144 = some ty144 := by kernel_rfl
noncomputable def ty145 : Ty := ⟨t145.desc, 1, 0, false, t145.zero, [], true, t145.methods⟩
theorem ty145_ok : tyOf prog 145 = some ty145 := by kernel_rfl
noncomputable def ty146 : Ty := ⟨t146.desc, 1, 8, false, t146.zero, [], true, t146.methods⟩
theorem ty146_ok : tyOf prog 146 = some ty146 := by kernel_rfl
noncomputable def ty147 : Ty := ⟨t147.desc, 1, 24, false, t147.zero, [], true, t147.methods⟩
theorem ty147_ok : tyOf prog 147 = some ty147 := by kernel_rfl
noncomputable def ty148 : Ty := ⟨t148.desc, 1, 0, false, t148.zero, [], true, t148.methods⟩
theorem ty148_ok : tyOf prog 148 = some ty148 := by kernel_rfl
noncomputable def ty149 : Ty := ⟨t149.desc, 1, 8, false, t149.zero, [], true, t149.methods⟩
theorem ty149_ok : tyOf prog 149 = some ty149 := by kernel_rfl
noncomputable def ty150 : Ty := ⟨t150.desc, 1, 8, false, t150.zero, [], true, t150.methods⟩
theorem ty150_ok : tyOf prog 150 = some ty150 := by kernel_rfl
noncomputable def ty151 : Ty := ⟨t151.desc, 1, 8, false, t151.zero, [], true, t151.methods⟩
theorem ty151_ok : tyOf prog 151 = some ty151 := by kernel_rfl
noncomputable def ty152 : Ty := ⟨t152.desc, 1, 0, false, t152.zero, [], true, t152.methods⟩
theorem ty152_ok : tyOf prog 152 = some ty152 := by kernel_rfl
noncomputable def ty153 : Ty := ⟨t153.desc, 1, 8, false, t153.zero, [], true, t153.methods⟩
theorem ty153_ok : tyOf prog 153 = some ty153 := by kernel_rfl
noncomputable def ty154 : Ty := ⟨t154.desc, 1, 8, false, t154.zero, [], true, t154.methods⟩
theorem ty154_ok : tyOf prog 154 = some ty154 := by kernel_rfl
noncomputable def ty155 : Ty := ⟨t155.desc, 1, 8, false, t155.zero, [], true, t155.methods⟩
theorem ty155_ok : tyOf prog 155 = some ty155 := by kernel_rfl
noncomputable def ty156 : Ty := ⟨t156.desc, 1, 8, false, t156.zero, [], true, t156.methods⟩
theorem ty156_ok : tyOf prog 156 = some ty156 := by kernel_rfl
noncomputable def ty157 : Ty := ⟨t157.desc, 1, 8, false, t157.zero, [], true, t157.methods⟩
theorem ty157_ok : tyOf prog 157 = some ty157 := by kernel_rfl
noncomputable def ty158 : Ty := ⟨t158.desc, 1, 0, false, t158.zero, [], true, t158.methods⟩
theorem ty158_ok : tyOf prog 158 = some ty158 := by kernel_rfl
noncomputable def ty159 : Ty := ⟨t159.desc, 1, 8, false, t159.zero, [], true, t159.methods⟩
theorem ty159_ok : tyOf prog 159 = some ty159 := by kernel_rfl
noncomputable def ty160 : Ty := ⟨t160.desc, 1, 8, false, t160.zero, [], true, t160.methods⟩
theorem ty160_ok : tyOf prog 160 = some ty160 := by kernel_rfl
noncomputable def ty161 : Ty := ⟨t161.desc, 1, 8, false, t161.zero, [], true, t161.methods⟩
theorem ty161_ok : tyOf prog 161 = some ty161 := by kernel_rfl
noncomputable def ty162 : Ty := ⟨t162.desc, 1, 0, false, t162.zero, [], true, t162.methods⟩
theorem ty162_ok : tyOf prog 162 = some ty162 := by kernel_rfl
noncomputable def ty163 : Ty := ⟨t163.desc, 1, 8, false, t163.zero, [], true, t163.methods⟩
theorem ty163_ok : tyOf prog 163 = some ty163 := by kernel_rfl
noncomputable def ty164 : Ty := ⟨t164.desc, 1, 8, false, t164.zero, [], true, t164.methods⟩
theorem ty164_ok : tyOf prog 164 = some ty164 := by kernel_rfl
noncomputable def ty165 : Ty := ⟨t165.desc, 1, 8, false, t165.zero, [], true, t165.methods⟩
theorem ty165_ok : tyOf prog 165 = some ty165 := by kernel_rfl
noncomputable def ty166 : Ty := ⟨t166.desc, 1, 8, false, t166.zero, [], true, t166.methods⟩
theorem ty166_ok : tyOf prog 166 = some ty166 := by kernel_rfl
noncomputable def ty167 : Ty := ⟨t167.desc, 1, 0, false, t167.zero, [], true, t167.methods⟩
theorem ty167_ok : tyOf prog 167 = some ty167 := by kernel_rfl
noncomputable def ty168 : Ty := ⟨t168.desc, 1, 8, false, t168.zero, [], true, t168.methods⟩
theorem ty168_ok : tyOf prog 168 = some ty168 := by kernel_rfl
noncomputable def ty169 : Ty := ⟨t169.desc, 1, 8, false, t169.zero, [], true, t169.methods⟩
theorem ty169_ok : tyOf prog 169 = some ty169 := by kernel_rfl
noncomputable def ty170 : Ty := ⟨t170.desc, 1, 8, false, t170.zero, [], true, t170.methods⟩
theorem ty170_ok : tyOf prog 170 = some ty170 := by kernel_rfl
noncomputable def ty171 : Ty := ⟨t171.desc, 1, 8, false, t171.zero, [], true, t171.methods⟩
theorem ty171_ok : tyOf prog 171 = some ty171 := by kernel_rfl
noncomputable def ty172 : Ty := ⟨t172.desc, 1, 8, false, t172.zero, [], true, t172.methods⟩
theorem ty172_ok : tyOf prog 172 = some ty172 := by kernel_rfl
noncomputable def ty173 : Ty := ⟨t173.desc, 1, 0, false, t173.zero, [], true, t173.methods⟩
theorem ty173_ok : tyOf prog 173 = some ty173 := by kernel_rfl
noncomputable def ty174 : Ty := ⟨t174.desc, 1, 8, false, t174.zero, [], true, t174.methods⟩
theorem ty174_ok : tyOf prog 174 = some ty174 := by kernel_rfl
noncomputable def ty175 : Ty := ⟨t175.desc, 2, 16, true, t175.zero, [(0, 1), (1, 1)], true, t175.methods⟩
theorem ty175_ok : tyOf prog 175 = some ty175 := by kernel_rfl
noncomputable def ty176 : Ty := ⟨t175.desc, 2, 16, true, t176.zero, [(0, 1), (1, 1)], true, t176.methods⟩
theorem ty176_ok : tyOf prog 176 = some ty176 := by kernel_rfl
noncomputable def ty177 : Ty := ⟨t177.desc, 1, 8, false, t177.zero, [], true, t177.methods⟩
theorem ty177_ok : tyOf prog 177 = some ty177 := by kernel_rfl
noncomputable def ty178 : Ty := ⟨t178.desc, 1, 8, false, t178.zero, [], true, t178.methods⟩
theorem ty178_ok : tyOf prog 178 = some ty178 := by kernel_rfl
noncomputable def ty179 : Ty := ⟨t179.desc, 1, 0, false, t179.zero, [], true, t179.methods⟩
theorem ty179_ok : tyOf prog 179 = some ty179 := by kernel_rfl
noncomputable def ty180 : Ty := ⟨t180.desc, 1, 8, false, t180.zero, [], true, t180.methods⟩
theorem ty180_ok : tyOf prog 180 = some ty180 := by kernel_rfl
noncomputable def ty181 : Ty := ⟨t181.desc, 1, 8, false, t181.zero, [], true, t181.methods⟩
theorem ty181_ok : tyOf prog 181 = some ty181 := by kernel_rfl
noncomputable def ty182 : Ty := ⟨t182.desc, 1, 8, false, t182.zero, [], true, t182.methods⟩
theorem ty182_ok : tyOf prog 182 = some ty182 := by kernel_rfl
noncomputable def ty183 : Ty := ⟨t183.desc, 1, 8, false, t183.zero, [], true, t183.methods⟩
theorem ty183_ok : tyOf prog 183 = some ty183 := by kernel_rfl
noncomputable def ty184 : Ty := ⟨t184.desc, 1, 8, false, t184.zero, [], true, t184.methods⟩
theorem ty184_ok : tyOf prog 184 = some ty184 := by kernel_rfl
noncomputable def ty185 : Ty := ⟨t185.desc, 6, 96, true, t185.zero, [(0, 1), (1, 1), (2, 1), (3, 1), (4, 1), (5, 1)], true, t185.methods⟩
theorem ty185_ok : tyOf prog 185 = some ty185 := by kernel_rfl
noncomputable def ty186 : Ty := ⟨t185.desc, 6, 96, true, t186.zero, [(0, 1), (1, 1), (2, 1), (3, 1), (4, 1), (5, 1)], true, t186.methods⟩
theorem ty186_ok : tyOf prog 186 = some ty186 := by kernel_rfl
noncomputable def ty187 : Ty := ⟨t187.desc, 1, 8, false, t187.zero, [], true, t187.methods⟩
theorem ty187_ok : tyOf prog 187 = some ty187 := by kernel_rfl
noncomputable def ty188 : Ty := ⟨t188.desc, 10, 80, true, t188.zero, [], true, t188.methods⟩
theorem ty188_ok : tyOf prog 188 = some ty188 := by kernel_rfl
noncomputable def ty189 : Ty := ⟨t189.desc, 1, 8, false, t189.zero, [], true, t189.methods⟩
theorem ty189_ok : tyOf prog 189 = some ty189 := by kernel_rfl
noncomputable def ty190 : Ty := ⟨t190.desc, 1, 8, false, t190.zero, [], true, t190.methods⟩
theorem ty190_ok : tyOf prog 190 = some ty190 := by kernel_rfl
noncomputable def ty191 : Ty := ⟨t191.desc, 1, 8, false, t191.zero, [], true, t191.methods⟩
theorem ty191_ok : tyOf prog 191 = some ty191 := by kernel_rfl
noncomputable def ty192 : Ty := ⟨t192.desc, 10, 80, true, t192.zero, [(0, 1), (1, 9)], true, t192.methods⟩
theorem ty192_ok : tyOf prog 192 = some ty192 := by kernel_rfl
noncomputable def ty193 : Ty := ⟨t192.desc, 10, 80, true, t193.zero, [(0, 1), (1, 9)], true, t193.methods⟩
theorem ty193_ok : tyOf prog 193 = some ty193 := by kernel_rfl
noncomputable def ty194 : Ty := ⟨t194.desc, 1, 0, false, t194.zero, [], true, t194.methods⟩
theorem ty194_ok : tyOf prog 194 = some ty194 := by kernel_rfl
noncomputable def ty195 : Ty := ⟨t195.desc, 1, 8, false, t195.zero, [], true, t195.methods⟩
theorem ty195_ok : tyOf prog 195 = some ty195 := by kernel_rfl
noncomputable def ty196 : Ty := ⟨t196.desc, 4, 48, true, t196.zero, [(0, 1), (1, 1), (2, 1), (3, 1)], true, t196.methods⟩
theorem ty196_ok : tyOf prog 196 = some ty196 := by kernel_rfl
noncomputable def ty197 : Ty := ⟨t196.desc, 4, 48, true, t197.zero, [(0, 1), (1, 1), (2, 1), (3, 1)], true, t197.methods⟩
theorem ty197_ok : tyOf prog 197 = some ty197 := by kernel_rfl
noncomputable def ty198 : Ty := ⟨t198.desc, 1, 0, false, t198.zero, [], true, t198.methods⟩
theorem ty198_ok : tyOf prog 198 = some ty198 := by kernel_rfl
noncomputable def ty199 : Ty := ⟨t199.desc, 1, 8, false, t199.zero, [], true, t199.methods⟩
theorem ty199_ok : tyOf prog 199 = some ty199 := by kernel_rfl
noncomputable def ty200 : Ty := ⟨t200.desc, 1, 24, false, t200.zero, [], true, t200.methods⟩
theorem ty200_ok : tyOf prog 200 = some ty200 := by kernel_rfl
noncomputable def ty201 : Ty := ⟨t201.desc, 1, 8, false, t201.zero, [], true, t201.methods⟩
theorem ty201_ok : tyOf prog 201 = some ty201 := by kernel_rfl
noncomputable def ty202 : Ty := ⟨t202.desc, 1, 8, false, t202.zero, [], true, t202.methods⟩
theorem ty202_ok : tyOf prog 202 = some ty202 := by kernel_rfl
noncomputable def ty203 : Ty := ⟨t203.desc, 1, 8, false, t203.zero, [], true, t203.methods⟩
theorem ty203_ok : tyOf prog 203 = some ty203 := by kernel_rfl
noncomputable def ty204 : Ty := ⟨t204.desc, 1, 8, false, t204.zero, [], true, t204.methods⟩
theorem ty204_ok : tyOf prog 204 = some ty204 := by kernel_rfl
noncomputable def ty205 : Ty := ⟨t204.desc, 1, 8, false, t205.zero, [], true, t205.methods⟩
theorem ty205_ok : tyOf prog 205 = some ty205 := by kernel_rfl
noncomputable def ty206 : Ty := ⟨t206.desc, 1, 8, false, t206.zero, [], true, t206.methods⟩
theorem ty206_ok : tyOf prog 206 = some ty206 := by kernel_rfl
noncomputable def ty207 : Ty := ⟨t117.desc, 1, 8, false, t207.zero, [], true, t207.methods⟩
theorem ty207_ok : tyOf prog 207 = some ty207 := by kernel_rfl
noncomputable def ty208 : Ty := ⟨t208.desc, 1, 8, false, t208.zero, [], true, t208.methods⟩
theorem ty208_ok : tyOf prog 208 = some ty208 := by kernel_rfl
noncomputable def ty209 : Ty := ⟨t209.desc, 1, 8, false, t209.zero, [], true, t209.methods⟩
theorem ty209_ok : tyOf prog 209 = some ty209 := by kernel_rfl
noncomputable def ty210 : Ty := ⟨t210.desc, 1, 8, false, t210.zero, [], true, t210.methods⟩
theorem ty210_ok : tyOf prog 210 = some ty210 := by kernel_rfl
noncomputable def ty211 : Ty := ⟨t211.desc, 1, 8, false, t211.zero, [], true, t211.methods⟩
theorem ty211_ok : tyOf prog 211 = some ty211 := by kernel_rfl
noncomputable def ty212 : Ty := ⟨t212.desc, 1, 8, false, t212.zero, [], true, t212.methods⟩
theorem ty212_ok : tyOf prog 212 = some ty212 := by kernel_rfl
noncomputable def ty213 : Ty := ⟨t213.desc, 1, 8, false, t213.zero, [], true, t213.methods⟩
theorem ty213_ok : tyOf prog 213 = some ty213 := by kernel_rfl
noncomputable def ty214 : Ty := ⟨t214.desc, 1, 24, false, t214.zero, [], true, t214.methods⟩
theorem ty214_ok : tyOf prog 214 = some ty214 := by kernel_rfl
noncomputable def ty215 : Ty := ⟨t215.desc, 26, 240, true, t215.zero, [(0, 9), (9, 1), (10, 1), (11, 1), (12, 1), (13, 1), (14, 1), (15, 1), (16, 10)], true, t215.methods⟩
theorem ty215_ok : tyOf prog 215 = some ty215 := by kernel_rfl
noncomputable def ty216 : Ty := ⟨t215.desc, 26, 240, true, t216.zero, [(0, 9), (9, 1), (10, 1), (11, 1), (12, 1), (13, 1), (14, 1), (15, 1), (16, 10)], true, t216.methods⟩
theorem ty216_ok : tyOf prog 216 = some ty216 := by kernel_rfl
noncomputable def ty217 : Ty := ⟨t217.desc, 1, 8, false, t217.zero, [], true, t217.methods⟩
theorem ty217_ok : tyOf prog 217 = some ty217 := by kernel_rfl
noncomputable def ty218 : Ty := ⟨t218.desc, 1, 8, false, t218.zero, [], true, t218.methods⟩
theorem ty218_ok : tyOf prog 218 = some ty218 := by kernel_rfl
noncomputable def ty219 : Ty := ⟨t219.desc, 1, 8, false, t219.zero, [], true, t219.methods⟩
theorem ty219_ok : tyOf prog 219 = some ty219 := by kernel_rfl
noncomputable def ty220 : Ty := ⟨t220.desc, 1, 8, false, t220.zero, [], true, t220.methods⟩
theorem ty220_ok : tyOf prog 220 = some ty220 := by kernel_rfl
noncomputable def ty221 : Ty := ⟨t221.desc, 1, 8, false, t221.zero, [], true, t221.methods⟩
theorem ty221_ok : tyOf prog 221 = some ty221 := by kernel_rfl
noncomputable def ty222 : Ty := ⟨t222.desc, 1, 8, false, t222.zero, [], true, t222.methods⟩
theorem ty222_ok : tyOf prog 222 = some ty222 := by kernel_rfl
noncomputable def ty223 : Ty := ⟨t223.desc, 1, 8, false, t223.zero, [], true, t223.methods⟩
theorem ty223_ok : tyOf prog 223 = some ty223 := by kernel_rfl
noncomputable def ty224 : Ty := ⟨t224.desc, 1, 8, false, t224.zero, [], true, t224.methods⟩
theorem ty224_ok : tyOf prog 224 = some ty224 := by kernel_rfl
noncomputable def ty225 : Ty := ⟨t225.desc, 1, 8, false, t225.zero, [], true, t225.methods⟩
theorem ty225_ok : tyOf prog 225 = some ty225 := by kernel_rfl
noncomputable def ty226 : Ty := ⟨t226.desc, 1, 8, false, t226.zero, [], true, t226.methods⟩
theorem ty226_ok : tyOf prog 226 = some ty226 := by kernel_rfl
noncomputable def ty227 : Ty := ⟨t227.desc, 1, 8, false, t227.zero, [], true, t227.methods⟩
theorem ty227_ok : tyOf prog 227 = some ty227 := by kernel_rfl
noncomputable def ty228 : Ty := ⟨t228.desc, 1, 8, false, t228.zero, [], true, t228.methods⟩
theorem ty228_ok : tyOf prog 228 = some ty228 := by kernel_rfl
noncomputable def ty229 : Ty := ⟨t229.desc, 1, 8, false, t229.zero, [], true, t229.methods⟩
theorem ty229_ok : tyOf prog 229 = some ty229 := by kernel_rfl
noncomputable def ty230 : Ty := ⟨t230.desc, 1, 8, false, t230.zero, [], true, t230.methods⟩
theorem ty230_ok : tyOf prog 230 = some ty230 := by kernel_rfl
noncomputable def ty231 : Ty := ⟨t231.desc, 1, 0, false, t231.zero, [], true, t231.methods⟩
theorem ty231_ok : tyOf prog 231 = some ty231 := by kernel_rfl
noncomputable def ty232 : Ty := ⟨t232.desc, 1, 8, false, t232.zero, [], true, t232.methods⟩
theorem ty232_ok : tyOf prog 232 = some ty232 := by kernel_rfl
noncomputable def ty233 : Ty := ⟨t233.desc, 1, 8, false, t233.zero, [], true, t233.methods⟩
theorem ty233_ok : tyOf prog 233 = some ty233 := by kernel_rfl
noncomputable def ty234 : Ty := ⟨t234.desc, 1, 0, false, t234.zero, [], true, t234.methods⟩
theorem ty234_ok : tyOf prog 234 = some ty234 := by kernel_rfl
noncomputable def ty235 : Ty := ⟨t235.desc, 1, 8, false, t235.zero, [], true, t235.methods⟩
theorem ty235_ok : tyOf prog 235 = some ty235 := by kernel_rfl
noncomputable def ty236 : Ty := ⟨t236.desc, 1, 8, false, t236.zero, [], true, t236.methods⟩
theorem ty236_ok : tyOf prog 236 = some ty236 := by kernel_rfl
noncomputable def ty237 : Ty := ⟨t237.desc, 3, 24, true, t237.zero, [(0, 1), (1, 1), (2, 1)], true, t237.methods⟩
theorem ty237_ok : tyOf prog 237 = some ty237 := by kernel_rfl
noncomputable def ty238 : Ty := ⟨t237.desc, 3, 24, true, t238.zero, [(0, 1), (1, 1), (2, 1)], true, t238.methods⟩
theorem ty238_ok : tyOf prog 238 = some ty238 := by kernel_rfl
noncomputable def ty239 : Ty := ⟨t239.desc, 1, 8, false, t239.zero, [], true, t239.methods⟩
theorem ty239_ok : tyOf prog 239 = some ty239 := by kernel_rfl
noncomputable def ty240 : Ty := ⟨t240.desc, 1, 8, false, t240.zero, [], true, t240.methods⟩
theorem ty240_ok : tyOf prog 240 = some ty240 := by kernel_rfl
noncomputable def ty241 : Ty := ⟨t241.desc, 17, 136, true, t241.zero, [(0, 1), (1, 9), (10, 1), (11, 1), (12, 3), (15, 1), (16, 1)], true, t241.methods⟩
theorem ty241_ok : tyOf prog 241 = some ty241 := by kernel_rfl
noncomputable def ty242 : Ty := ⟨t241.desc, 17, 136, true, t242.zero, [(0, 1), (1, 9), (10, 1), (11, 1), (12, 3), (15, 1), (16, 1)], true, t242.methods⟩
theorem ty242_ok : tyOf prog 242 = some ty242 := by kernel_rfl
noncomputable def ty243 : Ty := ⟨t243.desc, 1, 24, false, t243.zero, [], true, t243.methods⟩
theorem ty243_ok : tyOf prog 243 = some ty243 := by kernel_rfl
noncomputable def ty244 : Ty := ⟨t244.desc, 1, 8, false, t244.zero, [], true, t244.methods⟩
theorem ty244_ok : tyOf prog 244 = some ty244 := by kernel_rfl
noncomputable def ty245 : Ty := ⟨t245.desc, 1, 8, false, t245.zero, [], true, t245.methods⟩
theorem ty245_ok : tyOf prog 245 = some ty245 := by kernel_rfl
noncomputable def ty246 : Ty := ⟨t246.desc, 1, 0, false, t246.zero, [], true, t246.methods⟩
theorem ty246_ok : tyOf prog 246 = some ty246 := by kernel_rfl
noncomputable def ty247 : Ty := ⟨t247.desc, 1, 8, false, t247.zero, [], true, t247.methods⟩
theorem ty247_ok : tyOf prog 247 = some ty247 := by kernel_rfl
noncomputable def ty248 : Ty := ⟨t248.desc, 1, 8, false, t248.zero, [], true, t248.methods⟩
theorem ty248_ok : tyOf prog 248 = some ty248 := by kernel_rfl
noncomputable def ty249 : Ty := ⟨t249.desc, 1, 8, false, t249.zero, [], true, t249.methods⟩
theorem ty249_ok : tyOf prog 249 = some ty249 := by kernel_rfl
noncomputable def ty250 : Ty := ⟨t250.desc, 1, 8, false, t250.zero, [], true, t250.methods⟩
theorem ty250_ok : tyOf prog 250 = some ty250 := by kernel_rfl
noncomputable def ty251 : Ty := ⟨t251.desc, 1, 8, false, t251.zero, [], true, t251.methods⟩
theorem ty251_ok : tyOf prog 251 = some ty251 := by kernel_rfl
noncomputable def ty252 : Ty := ⟨t3.desc, 1, 8, false, t252.zero, [], true, t252.methods⟩
theorem ty252_ok : tyOf prog 252 = some ty252 := by kernel_rfl
noncomputable def ty253 : Ty := ⟨t253.desc, 1, 0, false, t253.zero, [], true, t253.methods⟩
theorem ty253_ok : tyOf prog 253 = some ty253 := by kernel_rfl
noncomputable def ty254 : Ty := ⟨t254.desc, 1, 8, false, t254.zero, [], true, t254.methods⟩
theorem ty254_ok : tyOf prog 254 = some ty254 := by kernel_rfl
noncomputable def ty255 : Ty := ⟨t255.desc, 1, 8, false, t255.zero, [], true, t255.methods⟩
theorem ty255_ok : tyOf prog 255 = some ty255 := by kernel_rfl
noncomputable def ty256 : Ty := ⟨t256.desc, 1, 8, false, t256.zero, [], true, t256.methods⟩
theorem ty256_ok : tyOf prog 256 = some ty256 := by kernel_rfl
noncomputable def ty257 : Ty := ⟨t257.desc, 1, 8, false, t257.zero, [], true, t257.methods⟩
theorem ty257_ok : tyOf prog 257 = some ty257 := by kernel_rfl
noncomputable def ty258 : Ty := ⟨t258.desc, 1, 8, false, t258.zero, [], true, t258.methods⟩
theorem ty258_ok : tyOf prog 258 = some ty258 := by kernel_rfl
noncomputable def ty259 : Ty := ⟨t259.desc, 1, 8, false, t259.zero, [], true, t259.methods⟩
theorem ty259_ok : tyOf prog 259 = some ty259 := by kernel_rfl
noncomputable def ty260 : Ty := ⟨t260.desc, 1, 24, false, t260.zero, [], true, t260.methods⟩
theorem ty260_ok : tyOf prog 260 = some ty260 := by kernel_rfl
noncomputable def ty261 : Ty := ⟨t261.desc, 2, 48, true, t261.zero, [(0, 1), (1, 1)], true, t261.methods⟩
theorem ty261_ok : tyOf prog 261 = some ty261 := by kernel_rfl
noncomputable def ty262 : Ty := ⟨t261.desc, 2, 48, true, t262.zero, [(0, 1), (1, 1)], true, t262.methods⟩
theorem ty262_ok : tyOf prog 262 = some ty262 := by kernel_rfl
noncomputable def ty263 : Ty := ⟨t263.desc, 1, 0, false, t263.zero, [], true, t263.methods⟩
theorem ty263_ok : tyOf prog 263 = some ty263 := by kernel_rfl
noncomputable def ty264 : Ty := ⟨t264.desc, 1, 8, false, t264.zero, [], true, t264.methods⟩
theorem ty264_ok : tyOf prog 264 = some ty264 := by kernel_rfl
noncomputable def ty265 : Ty := ⟨t265.desc, 1, 8, false, t265.zero, [], true, t265.methods⟩
theorem ty265_ok : tyOf prog 265 = some ty265 := by kernel_rfl
noncomputable def ty266 : Ty := ⟨t266.desc, 1, 8, false, t266.zero, [], true, t266.methods⟩
theorem ty266_ok : tyOf prog 266 = some ty266 := by kernel_rfl
noncomputable def ty267 : Ty := ⟨t267.desc, 1, 0, false, t267.zero, [], true, t267.methods⟩
theorem ty267_ok : tyOf prog 267 = some ty267 := by kernel_rfl
noncomputable def ty268 : Ty := ⟨t268.desc, 1, 8, false, t268.zero, [], true, t268.methods⟩
theorem ty268_ok : tyOf prog 268 = some ty268 := by kernel_rfl
noncomputable def ty269 : Ty := ⟨t269.desc, 1, 24, false, t269.zero, [], true, t269.methods⟩
theorem ty269_ok : tyOf prog 269 = some ty269 := by kernel_rfl
noncomputable def ty270 : Ty := ⟨t270.desc, 6, 64, true, t270.zero, [(0, 1), (1, 1), (2, 1), (3, 1), (4, 1), (5, 1)], true, t270.methods⟩
theorem ty270_ok : tyOf prog 270 = some ty270 := by kernel_rfl
noncomputable def ty271 : Ty := ⟨t270.desc, 6, 64, true, t271.zero, [(0, 1), (1, 1), (2, 1), (3, 1), (4, 1), (5, 1)], true, t271.methods⟩
theorem ty271_ok : tyOf prog 271 = some ty271 := by kernel_rfl
noncomputable def ty272 : Ty := ⟨t272.desc, 1, 0, false, t272.zero, [], true, t272.methods⟩
theorem ty272_ok : tyOf prog 272 = some ty272 := by kernel_rfl
noncomputable def ty273 : Ty := ⟨t273.desc, 1, 8, false, t273.zero, [], true, t273.methods⟩
theorem ty273_ok : tyOf prog 273 = some ty273 := by kernel_rfl
noncomputable def ty274 : Ty := ⟨t274.desc, 1, 8, false, t274.zero, [], true, t274.methods⟩
theorem ty274_ok : tyOf prog 274 = some ty274 := by kernel_rfl
noncomputable def ty275 : Ty := ⟨t275.desc, 1, 8, false, t275.zero, [], true, t275.methods⟩
theorem ty275_ok : tyOf prog 275 = some ty275 := by kernel_rfl
noncomputable def ty276 : Ty := ⟨t276.desc, 1, 8, false, t276.zero, [], true, t276.methods⟩
theorem ty276_ok : tyOf prog 276 = some ty276 := by kernel_rfl
noncomputable def ty277 : Ty := ⟨t277.desc, 1, 0, false, t277.zero, [], true, t277.methods⟩
theorem ty277_ok : tyOf prog 277 = some ty277 := by kernel_rfl
noncomputable def ty278 : Ty := ⟨t278.desc, 1, 8, false, t278.zero, [], true, t278.methods⟩
theorem ty278_ok : tyOf prog 278 = some ty278 := by kernel_rfl
noncomputable def ty279 : Ty := ⟨t279.desc, 1, 0, false, t279.zero, [], true, t279.methods⟩
theorem ty279_ok : tyOf prog 279 = some ty279 := by kernel_rfl
noncomputable def ty280 : Ty := ⟨t280.desc, 1, 8, false, t280.zero, [], true, t280.methods⟩
theorem ty280_ok : tyOf prog 280 = some ty280 := by kernel_rfl
noncomputable def ty281 : Ty := ⟨t281.desc, 1, 0, false, t281.zero, [], true, t281.methods⟩
theorem ty281_ok : tyOf prog 281 = some ty281 := by kernel_rfl
noncomputable def ty282 : Ty := ⟨t282.desc, 1, 8, false, t282.zero, [], true, t282.methods⟩
theorem ty282_ok : tyOf prog 282 = some ty282 := by kernel_rfl
noncomputable def ty283 : Ty := ⟨t283.desc, 1, 8, false, t283.zero, [], true, t283.methods⟩
theorem ty283_ok : tyOf prog 283 = some ty283 := by kernel_rfl
noncomputable def ty284 : Ty := ⟨t284.desc, 1, 8, false, t284.zero, [], true, t284.methods⟩
theorem ty284_ok : tyOf prog 284 = some ty284 := by kernel_rfl
noncomputable def ty285 : Ty := ⟨t285.desc, 1, 8, false, t285.zero, [], true, t285.methods⟩
theorem ty285_ok : tyOf prog 285 = some ty285 := by kernel_rfl
noncomputable def ty286 : Ty := ⟨t286.desc, 15, 160, true, t286.zero, [(0, 1), (1, 1), (2, 1), (3, 6), (9, 6)], true, t286.methods⟩
theorem ty286_ok : tyOf prog 286 = some ty286 := by kernel_rfl
noncomputable def ty287 : Ty := ⟨t286.desc, 15, 160, true, t287.zero, [(0, 1), (1, 1), (2, 1), (3, 6), (9, 6)], true, t287.methods⟩
theorem ty287_ok : tyOf prog 287 = some ty287 := by kernel_rfl
noncomputable def ty288 : Ty := ⟨t288.desc, 1, 0, false, t288.zero, [], true, t288.methods⟩
theorem ty288_ok : tyOf prog 288 = some ty288 := by kernel_rfl
noncomputable def ty289 : Ty := ⟨t289.desc, 1, 8, false, t289.zero, [], true, t289.methods⟩
theorem ty289_ok : tyOf prog 289 = some ty289 := by kernel_rfl
noncomputable def ty290 : Ty := ⟨t290.desc, 1, 8, false, t290.zero, [], true, t290.methods⟩
theorem ty290_ok : tyOf prog 290 = some ty290 := by kernel_rfl
noncomputable def ty291 : Ty := ⟨t291.desc, 1, 0, false, t291.zero, [], true, t291.methods⟩
theorem ty291_ok : tyOf prog 291 = some ty291 := by kernel_rfl
noncomputable def ty292 : Ty := ⟨t292.desc, 1, 8, false, t292.zero, [], true, t292.methods⟩
theorem ty292_ok : tyOf prog 292 = some ty292 := by kernel_rfl
noncomputable def ty293 : Ty := ⟨t293.desc, 1, 8, false, t293.zero, [], true, t293.methods⟩
theorem ty293_ok : tyOf prog 293 = some ty293 := by kernel_rfl
noncomputable def ty294 : Ty := ⟨t294.desc, 1, 8, false, t294.zero, [], true, t294.methods⟩
theorem ty294_ok : tyOf prog 294 = some ty294 := by kernel_rfl
noncomputable def ty295 : Ty := ⟨t295.desc, 1, 8, false, t295.zero, [], true, t295.methods⟩
theorem ty295_ok : tyOf prog 295 = some ty295 := by kernel_rfl
noncomputable def ty296 : Ty := ⟨t296.desc, 2, 24, true, t296.zero, [(0, 1), (1, 1)], true, t296.methods⟩
theorem ty296_ok : tyOf prog 296 = some ty296 := by kernel_rfl
noncomputable def ty297 : Ty := ⟨t296.desc, 2, 24, true, t297.zero, [(0, 1), (1, 1)], true, t297.methods⟩
theorem ty297_ok : tyOf prog 297 = some ty297 := by kernel_rfl
noncomputable def ty298 : Ty := ⟨t298.desc, 1, 8, false, t298.zero, [], true, t298.methods⟩
theorem ty298_ok : tyOf prog 298 = some ty298 := by kernel_rfl
noncomputable def ty299 : Ty := ⟨t299.desc, 1, 24, false, t299.zero, [], true, t299.methods⟩
theorem ty299_ok : tyOf prog 299 = some ty299 := by kernel_rfl
noncomputable def ty300 : Ty := ⟨t300.desc, 1, 0, false, t300.zero, [], true, t300.methods⟩
theorem ty300_ok : tyOf prog 300 = some ty300 := by kernel_rfl
noncomputable def ty301 : Ty := ⟨t301.desc, 1, 8, false, t301.zero, [], true, t301.methods⟩
theorem ty301_ok : tyOf prog 301 = some ty301 := by kernel_rfl
noncomputable def ty302 : Ty := ⟨t302.desc, 1, 8, false, t302.zero, [], true, t302.methods⟩
theorem ty302_ok : tyOf prog 302 = some ty302 := by kernel_rfl
noncomputable def ty303 : Ty := ⟨t303.desc, 1, 8, false, t303.zero, [], true, t303.methods⟩
theorem ty303_ok : tyOf prog 303 = some ty303 := by kernel_rfl
noncomputable def ty304 : Ty := ⟨t304.desc, 1, 8, false, t304.zero, [], true, t304.methods⟩
theorem ty304_ok : tyOf prog 304 = some ty304 := by kernel_rfl
noncomputable def ty305 : Ty := ⟨t305.desc, 1, 8, false, t305.zero, [], true, t305.methods⟩
theorem ty305_ok : tyOf prog 305 = some ty305 := by kernel_rfl
noncomputable def ty306 : Ty := ⟨t306.desc, 1, 0, false, t306.zero, [], true, t306.methods⟩
theorem ty306_ok : tyOf prog 306 = some ty306 := by kernel_rfl
noncomputable def ty307 : Ty := ⟨t307.desc, 1, 8, false, t307.zero, [], true, t307.methods⟩
theorem ty307_ok : tyOf prog 307 = some ty307 := by kernel_rfl
noncomputable def ty308 : Ty := ⟨t308.desc, 1, 8, false, t308.zero, [], true, t308.methods⟩
theorem ty308_ok : tyOf prog 308 = some ty308 := by kernel_rfl
noncomputable def ty309 : Ty := ⟨t309.desc, 24, 24, true, t309.zero, [], true, t309.methods⟩
theorem ty309_ok : tyOf prog 309 = some ty309 := by kernel_rfl
noncomputable def ty310 : Ty := ⟨t310.desc, 1, 8, false, t310.zero, [], true, t310.methods⟩
theorem ty310_ok : tyOf prog 310 = some ty310 := by kernel_rfl
noncomputable def ty311 : Ty := ⟨t311.desc, 1, 8, false, t311.zero, [], true, t311.methods⟩
theorem ty311_ok : tyOf prog 311 = some ty311 := by kernel_rfl
noncomputable def ty312 : Ty := ⟨t312.desc, 1, 0, false, t312.zero, [], true, t312.methods⟩
theorem ty312_ok : tyOf prog 312 = some ty312 := by kernel_rfl
noncomputable def ty313 : Ty := ⟨t313.desc, 1, 8, false, t313.zero, [], true, t313.methods⟩
theorem ty313_ok : tyOf prog 313 = some ty313 := by kernel_rfl
noncomputable def ty314 : Ty := ⟨t314.desc, 1, 0, false, t314.zero, [], true, t314.methods⟩
theorem ty314_ok : tyOf prog 314 = some ty314 := by kernel_rfl
noncomputable def ty315 : Ty := ⟨t315.desc, 1, 8, false, t315.zero, [], true, t315.methods⟩
theorem ty315_ok : tyOf prog 315 = some ty315 := by kernel_rfl
noncomputable def ty316 : Ty := ⟨t316.desc, 1, 8, false, t316.zero, [], true, t316.methods⟩
theorem ty316_ok : tyOf prog 316 = some ty316 := by kernel_rfl
noncomputable def ty317 : Ty := ⟨t317.desc, 10, 80, true, t317.zero, [], true, t317.methods⟩
theorem ty317_ok : tyOf prog 317 = some ty317 := by kernel_rfl
noncomputable def ty318 : Ty := ⟨t318.desc, 1, 8, false, t318.zero, [], true, t318.methods⟩
theorem ty318_ok : tyOf prog 318 = some ty318 := by kernel_rfl
noncomputable def ty319 : Ty := ⟨t319.desc, 1, 4, false, t319.zero, [], true, t319.methods⟩
theorem ty319_ok : tyOf prog 319 = some ty319 := by kernel_rfl
noncomputable def ty320 : Ty := ⟨t320.desc, 6, 80, true, t320.zero, [(0, 1), (1, 1), (2, 1), (3, 1), (4, 1), (5, 1)], true, t320.methods⟩
theorem ty320_ok : tyOf prog 320 = some ty320 := by kernel_rfl
noncomputable def ty321 : Ty := ⟨t320.desc, 6, 80, true, t321.zero, [(0, 1), (1, 1), (2, 1), (3, 1), (4, 1), (5, 1)], true, t321.methods⟩
theorem ty321_ok : tyOf prog 321 = some ty321 := by kernel_rfl
noncomputable def ty322 : Ty := ⟨t322.desc, 1, 0, false, t322.zero, [], true, t322.methods⟩
theorem ty322_ok : tyOf prog 322 = some ty322 := by kernel_rfl
noncomputable def ty323 : Ty := ⟨t323.desc, 1, 8, false, t323.zero, [], true, t323.methods⟩
theorem ty323_ok : tyOf prog 323 = some ty323 := by kernel_rfl
noncomputable def ty324 : Ty := ⟨t324.desc, 1, 8, false, t324.zero, [], true, t324.methods⟩
theorem ty324_ok : tyOf prog 324 = some ty324 := by kernel_rfl
noncomputable def ty325 : Ty := ⟨t325.desc, 16, 160, true, t325.zero, [(0, 10), (10, 1), (11, 1), (12, 1), (13, 1), (14, 2)], true, t325.methods⟩
theorem ty325_ok : tyOf prog 325 = some ty325 := by kernel_rfl
noncomputable def ty326 : Ty := ⟨t325.desc, 16, 160, true, t326.zero, [(0, 10), (10, 1), (11, 1), (12, 1), (13, 1), (14, 2)], true, t326.methods⟩
theorem ty326_ok : tyOf prog 326 = some ty326 := by kernel_rfl
noncomputable def ty327 : Ty := ⟨t327.desc, 2, 24, true, t327.zero, [(0, 1), (1, 1)], true, t327.methods⟩
theorem ty327_ok : tyOf prog 327 = some ty327 := by kernel_rfl
noncomputable def ty328 : Ty := ⟨t327.desc, 2, 24, true, t328.zero, [(0, 1), (1, 1)], true, t328.methods⟩
theorem ty328_ok : tyOf prog 328 = some ty328 := by kernel_rfl
noncomputable def ty329 : Ty := ⟨t329.desc, 1, 8, false, t329.zero, [], true, t329.methods⟩
theorem ty329_ok : tyOf prog 329 = some ty329 := by kernel_rfl
noncomputable def ty330 : Ty := ⟨t330.desc, 1, 8, false, t330.zero, [], true, t330.methods⟩
theorem ty330_ok : tyOf prog 330 = some ty330 := by kernel_rfl
noncomputable def ty331 : Ty := ⟨t331.desc, 1, 8, false, t331.zero, [], true, t331.methods⟩
theorem ty331_ok : tyOf prog 331 = some ty331 := by kernel_rfl
noncomputable def ty332 : Ty := ⟨t332.desc, 1, 8, false, t332.zero, [], true, t332.methods⟩
theorem ty332_ok : tyOf prog 332 = some ty332 := by kernel_rfl
noncomputable def ty333 : Ty := ⟨t333.desc, 1, 8, false, t333.zero, [], true, t333.methods⟩
theorem ty333_ok : tyOf prog 333 = some ty333 := by kernel_rfl
noncomputable def ty334 : Ty := ⟨t334.desc, 1, 24, false, t334.zero, [], true, t334.methods⟩
theorem ty334_ok : tyOf prog 334 = some ty334 := by kernel_rfl
noncomputable def ty335 : Ty := ⟨t335.desc, 1, 0, false, t335.zero, [], true, t335.methods⟩
theorem ty335_ok : tyOf prog 335 = some ty335 := by kernel_rfl
noncomputable def ty336 : Ty := ⟨t336.desc, 1, 8, false, t336.zero, [], true, t336.methods⟩
theorem ty336_ok : tyOf prog 336 = some ty336 := by kernel_rfl
noncomputable def ty337 : Ty := ⟨t337.desc, 2, 32, true, t337.zero, [(0, 1), (1, 1)], true, t337.methods⟩
theorem ty337_ok : tyOf prog 337 = some ty337 := by kernel_rfl
noncomputable def ty338 : Ty := ⟨t337.desc, 2, 32, true, t338.zero, [(0, 1), (1, 1)], true, t338.methods⟩
theorem ty338_ok : tyOf prog 338 = some ty338 := by kernel_rfl
noncomputable def ty339 : Ty := ⟨t339.desc, 1, 8, false, t339.zero, [], true, t339.methods⟩
theorem ty339_ok : tyOf prog 339 = some ty339 := by kernel_rfl
noncomputable def ty340 : Ty := ⟨t340.desc, 3, 24, true, t340.zero, [(0, 1), (1, 1), (2, 1)], true, t340.methods⟩
theorem ty340_ok : tyOf prog 340 = some ty340 := by kernel_rfl
noncomputable def ty341 : Ty := ⟨t340.desc, 3, 24, true, t341.zero, [(0, 1), (1, 1), (2, 1)], true, t341.methods⟩
theorem ty341_ok : tyOf prog 341 = some ty341 := by kernel_rfl
noncomputable def ty342 : Ty := ⟨t342.desc, 1, 8, false, t342.zero, [], true, t342.methods⟩
theorem ty342_ok : tyOf prog 342 = some ty342 := by kernel_rfl
noncomputable def ty343 : Ty := ⟨t343.desc, 1, 8, false, t343.zero, [], true, t343.methods⟩
theorem ty343_ok : tyOf prog 343 = some ty343 := by kernel_rfl
noncomputable def ty344 : Ty := ⟨t344.desc, 1, 0, false, t344.zero, [], true, t344.methods⟩
theorem ty344_ok : tyOf prog 344 = some ty344 := by kernel_rfl
noncomputable def ty345 : Ty := ⟨t345.desc, 1, 0, false, t345.zero, [], true, t345.methods⟩
theorem ty345_ok : tyOf prog 345 = some ty345 := by kernel_rfl
noncomputable def ty346 : Ty := ⟨t346.desc, 1, 8, false, t346.zero, [], true, t346.methods⟩
theorem ty346_ok : tyOf prog 346 = some ty346 := by kernel_rfl
noncomputable def ty347 : Ty := ⟨t347.desc, 1, 8, false, t347.zero, [], true, t347.methods⟩
theorem ty347_ok : tyOf prog 347 = some ty347 := by kernel_rfl
noncomputable def ty348 : Ty := ⟨t348.desc, 1, 8, false, t348.zero, [], true, t348.methods⟩
theorem ty348_ok : tyOf prog 348 = some ty348 := by kernel_rfl
noncomputable def ty349 : Ty := ⟨t349.desc, 1, 8, false, t349.zero, [], true, t349.methods⟩
theorem ty349_ok : tyOf prog 349 = some ty349 := by kernel_rfl
noncomputable def ty350 : Ty := ⟨t350.desc, 3, 32, true, t350.zero, [(0, 1), (1, 1), (2, 1)], true, t350.methods⟩
theorem ty350_ok : tyOf prog 350 = some ty350 := by kernel_rfl
noncomputable def ty351 : Ty := ⟨t350.desc, 3, 32, true, t351.zero, [(0, 1), (1, 1), (2, 1)], true, t351.methods⟩
theorem ty351_ok : tyOf prog 351 = some ty351 := by kernel_rfl
noncomputable def ty352 : Ty := ⟨t352.desc, 1, 8, false, t352.zero, [], true, t352.methods⟩
theorem ty352_ok : tyOf prog 352 = some ty352 := by kernel_rfl
noncomputable def ty353 : Ty := ⟨t353.desc, 1, 8, false, t353.zero, [], true, t353.methods⟩
theorem ty353_ok : tyOf prog 353 = some ty353 := by kernel_rfl
noncomputable def ty354 : Ty := ⟨t354.desc, 1, 8, false, t354.zero, [], true, t354.methods⟩
theorem ty354_ok : tyOf prog 354 = some ty354 := by kernel_rfl
noncomputable def ty355 : Ty := ⟨t355.desc, 1, 8, false, t355.zero, [], true, t355.methods⟩
theorem ty355_ok : tyOf prog 355 = some ty355 := by kernel_rfl
noncomputable def ty356 : Ty := ⟨t356.desc, 256, 256, true, t356.zero, [], true, t356.methods⟩
theorem ty356_ok : tyOf prog 356 = some ty356 := by kernel_rfl
noncomputable def ty357 : Ty := ⟨t357.desc, 2, 2, true, t357.zero, [(0, 1), (1, 1)], true, t357.methods⟩
theorem ty357_ok : tyOf prog 357 = some ty357 := by kernel_rfl
noncomputable def ty358 : Ty := ⟨t357.desc, 2, 2, true, t358.zero, [(0, 1), (1, 1)], true, t358.methods⟩
theorem ty358_ok : tyOf prog 358 = some ty358 := by kernel_rfl
noncomputable def ty359 : Ty := ⟨t359.desc, 32, 32, true, t359.zero, [], true, t359.methods⟩
theorem ty359_ok : tyOf prog 359 = some ty359 := by kernel_rfl
noncomputable def ty360 : Ty := ⟨t360.desc, 1, 0, false, t360.zero, [], true, t360.methods⟩
theorem ty360_ok : tyOf prog 360 = some ty360 := by kernel_rfl
noncomputable def ty361 : Ty := ⟨t361.desc, 1, 8, false, t361.zero, [], true, t361.methods⟩
theorem ty361_ok : tyOf prog 361 = some ty361 := by kernel_rfl
noncomputable def ty362 : Ty := ⟨t362.desc, 1, 0, false, t362.zero, [], true, t362.methods⟩
theorem ty362_ok : tyOf prog 362 = some ty362 := by kernel_rfl
noncomputable def ty363 : Ty := ⟨t363.desc, 1, 8, false, t363.zero, [], true, t363.methods⟩
theorem ty363_ok : tyOf prog 363 = some ty363 := by kernel_rfl
noncomputable def ty364 : Ty := ⟨t364.desc, 15, 120, true, t364.zero, [(0, 1), (1, 10), (11, 1), (12, 1), (13, 1), (14, 1)], true, t364.methods⟩
theorem ty364_ok : tyOf prog 364 = some ty364 := by kernel_rfl
noncomputable def ty365 : Ty := ⟨t364.desc, 15, 120, true, t365.zero, [(0, 1), (1, 10), (11, 1), (12, 1), (13, 1), (14, 1)], true, t365.methods⟩
theorem ty365_ok : tyOf prog 365 = some ty365 := by kernel_rfl
noncomputable def ty366 : Ty := ⟨t366.desc, 1, 24, false, t366.zero, [], true, t366.methods⟩
theorem ty366_ok : tyOf prog 366 = some ty366 := by kernel_rfl
noncomputable def ty367 : Ty := ⟨t366.desc, 1, 24, false, t367.zero, [], true, t367.methods⟩
theorem ty367_ok : tyOf prog 367 = some ty367 := by kernel_rfl
noncomputable def ty368 : Ty := ⟨t368.desc, 6, 80, true, t368.zero, [(0, 1), (1, 1), (2, 1), (3, 1), (4, 1), (5, 1)], true, t368.methods⟩
theorem ty368_ok : tyOf prog 368 = some ty368 := by kernel_rfl
noncomputable def ty369 : Ty := ⟨t368.desc, 6, 80, true, t369.zero, [(0, 1), (1, 1), (2, 1), (3, 1), (4, 1), (5, 1)], true, t369.methods⟩
theorem ty369_ok : tyOf prog 369 = some ty369 := by kernel_rfl
noncomputable def ty370 : Ty := ⟨t370.desc, 1, 0, false, t370.zero, [], true, t370.methods⟩
theorem ty370_ok : tyOf prog 370 = some ty370 := by kernel_rfl
noncomputable def ty371 : Ty := ⟨t371.desc, 1, 8, false, t371.zero, [], true, t371.methods⟩
theorem ty371_ok : tyOf prog 371 = some ty371 := by kernel_rfl
noncomputable def ty372 : Ty := ⟨t372.desc, 1, 8, false, t372.zero, [], true, t372.methods⟩
theorem ty372_ok : tyOf prog 372 = some ty372 := by kernel_rfl
noncomputable def ty373 : Ty := ⟨t373.desc, 1, 8, false, t373.zero, [], true, t373.methods⟩
theorem ty373_ok : tyOf prog 373 = some ty373 := by kernel_rfl
noncomputable def ty374 : Ty := ⟨t374.desc, 1, 24, false, t374.zero, [], true, t374.methods⟩
theorem ty374_ok : tyOf prog 374 = some ty374 := by kernel_rfl
noncomputable def ty375 : Ty := ⟨t375.desc, 1, 0, false, t375.zero, [], true, t375.methods⟩
theorem ty375_ok : tyOf prog 375 = some ty375 := by kernel_rfl
noncomputable def ty376 : Ty := ⟨t376.desc, 1, 8, false, t376.zero, [], true, t376.methods⟩
theorem ty376_ok : tyOf prog 376 = some ty376 := by kernel_rfl
noncomputable def ty377 : Ty := ⟨t377.desc, 1, 8, false, t377.zero, [], true, t377.methods⟩
theorem ty377_ok : tyOf prog 377 = some ty377 := by kernel_rfl
noncomputable def ty378 : Ty := ⟨t378.desc, 3, 24, true, t378.zero, [(0, 1), (1, 1), (2, 1)], true, t378.methods⟩
theorem ty378_ok : tyOf prog 378 = some ty378 := by kernel_rfl
noncomputable def ty379 : Ty := ⟨t378.desc, 3, 24, true, t379.zero, [(0, 1), (1, 1), (2, 1)], true, t379.methods⟩
theorem ty379_ok : tyOf prog 379 = some ty379 := by kernel_rfl
noncomputable def ty380 : Ty := ⟨t380.desc, 48, 384, true, t380.zero, [], true, t380.methods⟩
theorem ty380_ok : tyOf prog 380 = some ty380 := by kernel_rfl
noncomputable def ty381 : Ty := ⟨t381.desc, 49, 392, true, t381.zero, [(0, 1), (1, 48)], true, t381.methods⟩
theorem ty381_ok : tyOf prog 381 = some ty381 := by kernel_rfl
noncomputable def ty382 : Ty := ⟨t381.desc, 49, 392, true, t382.zero, [(0, 1), (1, 48)], true, t382.methods⟩
theorem ty382_ok : tyOf prog 382 = some ty382 := by kernel_rfl
noncomputable def ty383 : Ty := ⟨t383.desc, 3, 48, true, t383.zero, [(0, 1), (1, 1), (2, 1)], false, t383.methods⟩
theorem ty383_ok : tyOf prog 383 = some ty383 := by kernel_rfl
noncomputable def ty384 : Ty := ⟨t383.desc, 3, 48, true, t384.zero, [(0, 1), (1, 1), (2, 1)], false, t384.methods⟩
theorem ty384_ok : tyOf prog 384 = some ty384 := by kernel_rfl
noncomputable def ty385 : Ty := ⟨t385.desc, 1, 8, false, t385.zero, [], true, t385.methods⟩
theorem ty385_ok : tyOf prog 385 = some ty385 := by kernel_rfl
noncomputable def ty386 : Ty := ⟨t386.desc, 1, 8, false, t386.zero, [], true, t386.methods⟩
theorem ty386_ok : tyOf prog 386 = some ty386 := by kernel_rfl
noncomputable def ty387 : Ty := ⟨t387.desc, 1, 8, false, t387.zero, [], true, t387.methods⟩
theorem ty387_ok : tyOf prog 387 = some ty387 := by kernel_rfl
noncomputable def ty388 : Ty := ⟨t388.desc, 1, 8, false, t388.zero, [], true, t388.methods⟩
theorem ty388_ok : tyOf prog 388 = some ty388 := by kernel_rfl
noncomputable def ty389 : Ty := ⟨t389.desc, 1, 8, false, t389.zero, [], true, t389.methods⟩
theorem ty389_ok : tyOf prog 389 = some ty389 := by kernel_rfl
noncomputable def ty390 : Ty := ⟨t390.desc, 1, 8, false, t390.zero, [], true, t390.methods⟩
theorem ty390_ok : tyOf prog 390 = some ty390 := by kernel_rfl
noncomputable def ty391 : Ty := ⟨t391.desc, 1, 8, false, t391.zero, [], true, t391.methods⟩
theorem ty391_ok : tyOf prog 391 = some ty391 := by kernel_rfl
noncomputable def ty392 : Ty := ⟨t392.desc, 1, 8, false, t392.zero, [], true, t392.methods⟩
theorem ty392_ok : tyOf prog 392 = some ty392 := by kernel_rfl
noncomputable def ty393 : Ty := ⟨t393.desc, 1, 8, false, t393.zero, [], true, t393.methods⟩
theorem ty393_ok : tyOf prog 393 = some ty393 := by kernel_rfl
noncomputable def ty394 : Ty := ⟨t394.desc, 1, 8, false, t394.zero, [], true, t394.methods⟩
theorem ty394_ok : tyOf prog 394 = some ty394 := by kernel_rfl
noncomputable def ty395 : Ty := ⟨t395.desc, 1, 8, false, t395.zero, [], true, t395.methods⟩
theorem ty395_ok : tyOf prog 395 = some ty395 := by kernel_rfl
noncomputable def ty396 : Ty := ⟨t396.desc, 1, 8, false, t396.zero, [], true, t396.methods⟩
theorem ty396_ok : tyOf prog 396 = some ty396 := by kernel_rfl
noncomputable def ty397 : Ty := ⟨t397.desc, 1, 8, false, t397.zero, [], true, t397.methods⟩
theorem ty397_ok : tyOf prog 397 = some ty397 := by kernel_rfl
noncomputable def ty398 : Ty := ⟨t398.desc, 1, 24, false, t398.zero, [], true, t398.methods⟩
theorem ty398_ok : tyOf prog 398 = some ty398 := by kernel_rfl
noncomputable def ty399 : Ty := ⟨t399.desc, 1, 8, false, t399.zero, [], true, t399.methods⟩
theorem ty399_ok : tyOf prog 399 = some ty399 := by kernel_rfl
noncomputable def ty400 : Ty := ⟨t400.desc, 1, 8, false, t400.zero, [], true, t400.methods⟩
theorem ty400_ok : tyOf prog 400 = some ty400 := by kernel_rfl
noncomputable def ty401 : Ty := ⟨t401.desc, 1, 0, false, t401.zero, [], true, t401.methods⟩
theorem ty401_ok : tyOf prog 401 = some ty401 := by kernel_rfl
noncomputable def ty402 : Ty := ⟨t402.desc, 1, 8, false, t402.zero, [], true, t402.methods⟩
theorem ty402_ok : tyOf prog 402 = some ty402 := by kernel_rfl
noncomputable def ty403 : Ty := ⟨t403.desc, 1, 24, false, t403.zero, [], true, t403.methods⟩
theorem ty403_ok : tyOf prog 403 = some ty403 := by kernel_rfl
noncomputable def ty404 : Ty := ⟨t404.desc, 1, 0, false, t404.zero, [], true, t404.methods⟩
theorem ty404_ok : tyOf prog 404 = some ty404 := by kernel_rfl
noncomputable def ty405 : Ty := ⟨t405.desc, 1, 8, false, t405.zero, [], true, t405.methods⟩
theorem ty405_ok : tyOf prog 405 = some ty405 := by kernel_rfl
noncomputable def ty406 : Ty := ⟨t406.desc, 2, 16, true, t406.zero, [(0, 1), (1, 1)], true, t406.methods⟩
theorem ty406_ok : tyOf prog 406 = some ty406 := by kernel_rfl
noncomputable def ty407 : Ty := ⟨t406.desc, 2, 16, true, t407.zero, [(0, 1), (1, 1)], true, t407.methods⟩
theorem ty407_ok : tyOf prog 407 = some ty407 := by kernel_rfl
noncomputable def ty408 : Ty := ⟨t408.desc, 1, 8, false, t408.zero, [], true, t408.methods⟩
theorem ty408_ok : tyOf prog 408 = some ty408 := by kernel_rfl
noncomputable def ty409 : Ty := ⟨t409.desc, 1, 8, false, t409.zero, [], true, t409.methods⟩
theorem ty409_ok : tyOf prog 409 = some ty409 := by kernel_rfl
noncomputable def ty410 : Ty := ⟨t410.desc, 1, 8, false, t410.zero, [], true, t410.methods⟩
theorem ty410_ok : tyOf prog 410 = some ty410 := by kernel_rfl
noncomputable def ty411 : Ty := ⟨t411.desc, 1, 8, false, t411.zero, [], true, t411.methods⟩
theorem ty411_ok : tyOf prog 411 = some ty411 := by kernel_rfl
noncomputable def ty412 : Ty := ⟨t412.desc, 1, 0, false, t412.zero, [], true, t412.methods⟩
theorem ty412_ok : tyOf prog 412 = some ty412 := by kernel_rfl
noncomputable def ty413 : Ty := ⟨t413.desc, 1, 8, false, t413.zero, [], true, t413.methods⟩
theorem ty413_ok : tyOf prog 413 = some ty413 := by kernel_rfl
noncomputable def ty414 : Ty := ⟨t414.desc, 1, 0, false, t414.zero, [], true, t414.methods⟩
theorem ty414_ok : tyOf prog 414 = some ty414 := by kernel_rfl
noncomputable def ty415 : Ty := ⟨t415.desc, 1, 8, false, t415.zero, [], true, t415.methods⟩
theorem ty415_ok : tyOf prog 415 = some ty415 := by kernel_rfl
noncomputable def ty416 : Ty := ⟨t416.desc, 1, 8, false, t416.zero, [], true, t416.methods⟩
theorem ty416_ok : tyOf prog 416 = some ty416 := by kernel_rfl
noncomputable def ty417 : Ty := ⟨t417.desc, 1, 8, false, t417.zero, [], true, t417.methods⟩
theorem ty417_ok : tyOf prog 417 = some ty417 := by kernel_rfl
noncomputable def ty418 : Ty := ⟨t418.desc, 1, 8, false, t418.zero, [], true, t418.methods⟩
theorem ty418_ok : tyOf prog 418 = some ty418 := by kernel_rfl
noncomputable def ty419 : Ty := ⟨t419.desc, 1, 0, false, t419.zero, [], true, t419.methods⟩
theorem ty419_ok : tyOf prog 419 = some ty419 := by kernel_rfl
noncomputable def ty420 : Ty := ⟨t420.desc, 1, 8, false, t420.zero, [], true, t420.methods⟩
theorem ty420_ok : tyOf prog 420 = some ty420 := by kernel_rfl
noncomputable def ty421 : Ty := ⟨t421.desc, 1, 8, false, t421.zero, [], true, t421.methods⟩
theorem ty421_ok : tyOf prog 421 = some ty421 := by kernel_rfl
noncomputable def ty422 : Ty := ⟨t422.desc, 1, 8, false, t422.zero, [], true, t422.methods⟩
theorem ty422_ok : tyOf prog 422 = some ty422 := by kernel_rfl
noncomputable def ty423 : Ty := ⟨t423.desc, 1, 24, false, t423.zero, [], true, t423.methods⟩
theorem ty423_ok : tyOf prog 423 = some ty423 := by kernel_rfl
noncomputable def ty424 : Ty := ⟨t424.desc, 2, 24, true, t424.zero, [(0, 1), (1, 1)], true, t424.methods⟩
theorem ty424_ok : tyOf prog 424 = some ty424 := by kernel_rfl
noncomputable def ty425 : Ty := ⟨t424.desc, 2, 24, true, t425.zero, [(0, 1), (1, 1)], true, t425.methods⟩
theorem ty425_ok : tyOf prog 425 = some ty425 := by kernel_rfl
noncomputable def ty426 : Ty := ⟨t426.desc, 1, 8, false, t426.zero, [], true, t426.methods⟩
theorem ty426_ok : tyOf prog 426 = some ty426 := by kernel_rfl
noncomputable def ty427 : Ty := ⟨t427.desc, 1, 8, false, t427.zero, [], true, t427.methods⟩
theorem ty427_ok : tyOf prog 427 = some ty427 := by kernel_rfl
noncomputable def ty428 : Ty := ⟨t428.desc, 1, 8, false, t428.zero, [], true, t428.methods⟩
theorem ty428_ok : tyOf prog 428 = some ty428 := by kernel_rfl
noncomputable def ty429 : Ty := ⟨t429.desc, 1, 8, false, t429.zero, [], true, t429.methods⟩
theorem ty429_ok : tyOf prog 429 = some ty429 := by kernel_rfl
noncomputable def ty430 : Ty := ⟨t430.desc, 1, 8, false, t430.zero, [], true, t430.methods⟩
theorem ty430_ok : tyOf prog 430 = some ty430 := by kernel_rfl
noncomputable def ty431 : Ty := ⟨t431.desc, 1, 8, false, t431.zero, [], true, t431.methods⟩
theorem ty431_ok : tyOf prog 431 = some ty431 := by kernel_rfl
noncomputable def ty432 : Ty := ⟨t432.desc, 1, 8, false, t432.zero, [], true, t432.methods⟩
theorem ty432_ok : tyOf prog 432 = some ty432 := by kernel_rfl
noncomputable def ty433 : Ty := ⟨t433.desc, 1, 8, false, t433.zero, [], true, t433.methods⟩
theorem ty433_ok : tyOf prog 433 = some ty433 := by kernel_rfl
noncomputable def ty434 : Ty := ⟨t434.desc, 6, 48, true, t434.zero, [(0, 2), (2, 1), (3, 1), (4, 1), (5, 1)], true, t434.methods⟩
theorem ty434_ok : tyOf prog 434 = some ty434 := by kernel_rfl
noncomputable def ty435 : Ty := ⟨t434.desc, 6, 48, true, t435.zero, [(0, 2), (2, 1), (3, 1), (4, 1), (5, 1)], true, t435.methods⟩
theorem ty435_ok : tyOf prog 435 = some ty435 := by kernel_rfl
noncomputable def ty436 : Ty := ⟨t436.desc, 3, 24, true, t436.zero, [(0, 1), (1, 1), (2, 1)], true, t436.methods⟩
theorem ty436_ok : tyOf prog 436 = some ty436 := by kernel_rfl
noncomputable def ty437 : Ty := ⟨t436.desc, 3, 24, true, t437.zero, [(0, 1), (1, 1), (2, 1)], true, t437.methods⟩
theorem ty437_ok : tyOf prog 437 = some ty437 := by kernel_rfl
noncomputable def ty438 : Ty := ⟨t438.desc, 11, 88, true, t438.zero, [(0, 6), (6, 3), (9, 1), (10, 1)], true, t438.methods⟩
theorem ty438_ok : tyOf prog 438 = some ty438 := by kernel_rfl
noncomputable def ty439 : Ty := ⟨t438.desc, 11, 88, true, t439.zero, [(0, 6), (6, 3), (9, 1), (10, 1)], true, t439.methods⟩
theorem ty439_ok : tyOf prog 439 = some ty439 := by kernel_rfl
noncomputable def ty440 : Ty := ⟨t440.desc, 1, 0, false, t440.zero, [], true, t440.methods⟩
theorem ty440_ok : tyOf prog 440 = some ty440 := by kernel_rfl
noncomputable def ty441 : Ty := ⟨t441.desc, 1, 8, false, t441.zero, [], true, t441.methods⟩
theorem ty441_ok : tyOf prog 441 = some ty441 := by kernel_rfl
noncomputable def ty442 : Ty := ⟨t442.desc, 1, 8, false, t442.zero, [], true, t442.methods⟩
theorem ty442_ok : tyOf prog 442 = some ty442 := by kernel_rfl
noncomputable def ty443 : Ty := ⟨t443.desc, 1, 8, false, t443.zero, [], true, t443.methods⟩
theorem ty443_ok : tyOf prog 443 = some ty443 := by kernel_rfl
noncomputable def ty444 : Ty := ⟨t444.desc, 1, 0, false, t444.zero, [], true, t444.methods⟩
theorem ty444_ok : tyOf prog 444 = some ty444 := by kernel_rfl
noncomputable def ty445 : Ty := ⟨t445.desc, 1, 8, false, t445.zero, [], true, t445.methods⟩
theorem ty445_ok : tyOf prog 445 = some ty445 := by kernel_rfl
noncomputable def ty446 : Ty := ⟨t446.desc, 1, 8, false, t446.zero, [], true, t446.methods⟩
theorem ty446_ok : tyOf prog 446 = some ty446 := by kernel_rfl
noncomputable def ty447 : Ty := ⟨t447.desc, 1, 8, false, t447.zero, [], true, t447.methods⟩
theorem ty447_ok : tyOf prog 447 = some ty447 := by kernel_rfl
noncomputable def ty448 : Ty := ⟨t448.desc, 20, 160, true, t448.zero, [], true, t448.methods⟩
theorem ty448_ok : tyOf prog 448 = some ty448 := by kernel_rfl
noncomputable def ty449 : Ty := ⟨t449.desc, 65, 65, true, t449.zero, [], true, t449.methods⟩
theorem ty449_ok : tyOf prog 449 = some ty449 := by kernel_rfl
noncomputable def ty450 : Ty := ⟨t450.desc, 1, 8, false, t450.zero, [], true, t450.methods⟩
theorem ty450_ok : tyOf prog 450 = some ty450 := by kernel_rfl
noncomputable def ty451 : Ty := ⟨t451.desc, 1, 8, false, t451.zero, [], true, t451.methods⟩
theorem ty451_ok : tyOf prog 451 = some ty451 := by kernel_rfl
noncomputable def ty452 : Ty := ⟨t452.desc, 1, 8, false, t452.zero, [], true, t452.methods⟩
theorem ty452_ok : tyOf prog 452 = some ty452 := by kernel_rfl
noncomputable def ty453 : Ty := ⟨t453.desc, 3, 32, true, t453.zero, [(0, 1), (1, 1), (2, 1)], true, t453.methods⟩
theorem ty453_ok : tyOf prog 453 = some ty453 := by kernel_rfl
noncomputable def ty454 : Ty := ⟨t453.desc, 3, 32, true, t454.zero, [(0, 1), (1, 1), (2, 1)], true, t454.methods⟩
theorem ty454_ok : tyOf prog 454 = some ty454 := by kernel_rfl
noncomputable def ty455 : Ty := ⟨t455.desc, 1, 8, false, t455.zero, [], true, t455.methods⟩
theorem ty455_ok : tyOf prog 455 = some ty455 := by kernel_rfl
noncomputable def ty456 : Ty := ⟨t456.desc, 1, 8, false, t456.zero, [], true, t456.methods⟩
theorem ty456_ok : tyOf prog 456 = some ty456 := by kernel_rfl
noncomputable def ty457 : Ty := ⟨t457.desc, 1, 8, false, t457.zero, [], true, t457.methods⟩
theorem ty457_ok : tyOf prog 457 = some ty457 := by kernel_rfl
noncomputable def ty458 : Ty := ⟨t458.desc, 1, 8, false, t458.zero, [], true, t458.methods⟩
theorem ty458_ok : tyOf prog 458 = some ty458 := by kernel_rfl
noncomputable def ty459 : Ty := ⟨t459.desc, 1, 8, false, t459.zero, [], true, t459.methods⟩
theorem ty459_ok : tyOf prog 459 = some ty459 := by kernel_rfl
noncomputable def ty460 : Ty := ⟨t460.desc, 1, 8, false, t460.zero, [], true, t460.methods⟩
theorem ty460_ok : tyOf prog 460 = some ty460 := by kernel_rfl
noncomputable def ty461 : Ty := ⟨t461.desc, 1, 8, false, t461.zero, [], true, t461.methods⟩
theorem ty461_ok : tyOf prog 461 = some ty461 := by kernel_rfl
noncomputable def ty462 : Ty := ⟨t462.desc, 1, 8, false, t462.zero, [], true, t462.methods⟩
theorem ty462_ok : tyOf prog 462 = some ty462 := by kernel_rfl
noncomputable def ty463 : Ty := ⟨t463.desc, 3, 24, true, t463.zero, [(0, 1), (1, 1), (2, 1)], true, t463.methods⟩
theorem ty463_ok : tyOf prog 463 = some ty463 := by kernel_rfl
noncomputable def ty464 : Ty := ⟨t464.desc, 18, 144, true, t464.zero, [], true, t464.methods⟩
theorem ty464_ok : tyOf prog 464 = some ty464 := by kernel_rfl
noncomputable def ty465 : Ty := ⟨t465.desc, 1, 8, false, t465.zero, [], true, t465.methods⟩
theorem ty465_ok : tyOf prog 465 = some ty465 := by kernel_rfl
noncomputable def ty466 : Ty := ⟨t466.desc, 1, 0, false, t466.zero, [], true, t466.methods⟩
theorem ty466_ok : tyOf prog 466 = some ty466 := by kernel_rfl
noncomputable def ty467 : Ty := ⟨t137.desc, 1, 8, false, t467.zero, [], true, t467.methods⟩
theorem ty467_ok : tyOf prog 467 = some ty467 := by kernel_rfl
noncomputable def ty468 : Ty := ⟨t468.desc, 1, 8, false, t468.zero, [], true, t468.methods⟩
theorem ty468_ok : tyOf prog 468 = some ty468 := by kernel_rfl
noncomputable def ty469 : Ty := ⟨t469.desc, 1, 0, false, t469.zero, [], true, t469.methods⟩
theorem ty469_ok : tyOf prog 469 = some ty469 := by kernel_rfl
noncomputable def ty470 : Ty := ⟨t470.desc, 1, 8, false, t470.zero, [], true, t470.methods⟩
theorem ty470_ok : tyOf prog 470 = some ty470 := by kernel_rfl
noncomputable def ty471 : Ty := ⟨t471.desc, 1, 24, false, t471.zero, [], true, t471.methods⟩
theorem ty471_ok : tyOf prog 471 = some ty471 := by kernel_rfl
noncomputable def ty472 : Ty := ⟨t472.desc, 4, 80, true, t472.zero, [(0, 1), (1, 1), (2, 1), (3, 1)], true, t472.methods⟩
theorem ty472_ok : tyOf prog 472 = some ty472 := by kernel_rfl
noncomputable def ty473 : Ty := ⟨t472.desc, 4, 80, true, t473.zero, [(0, 1), (1, 1), (2, 1), (3, 1)], true, t473.methods⟩
theorem ty473_ok : tyOf prog 473 = some ty473 := by kernel_rfl
noncomputable def ty474 : Ty := ⟨t474.desc, 1, 8, false, t474.zero, [], true, t474.methods⟩
theorem ty474_ok : tyOf prog 474 = some ty474 := by kernel_rfl
noncomputable def ty475 : Ty := ⟨t475.desc, 1, 8, false, t475.zero, [], true, t475.methods⟩
theorem ty475_ok : tyOf prog 475 = some ty475 := by kernel_rfl
noncomputable def ty476 : Ty := ⟨t476.desc, 1, 8, false, t476.zero, [], true, t476.methods⟩
theorem ty476_ok : tyOf prog 476 = some ty476 := by kernel_rfl
noncomputable def ty477 : Ty := ⟨t477.desc, 1, 8, false, t477.zero, [], true, t477.methods⟩
theorem ty477_ok : tyOf prog 477 = some ty477 := by kernel_rfl
noncomputable def ty478 : Ty := ⟨t478.desc, 1, 8, false, t478.zero, [], true, t478.methods⟩
theorem ty478_ok : tyOf prog 478 = some ty478 := by kernel_rfl
noncomputable def ty479 : Ty := ⟨t479.desc, 1, 8, false, t479.zero, [], true, t479.methods⟩
theorem ty479_ok : tyOf prog 479 = some ty479 := by kernel_rfl
noncomputable def ty480 : Ty := ⟨t3.desc, 1, 8, false, t480.zero, [], true, t480.methods⟩
theorem ty480_ok : tyOf prog 480 = some ty480 := by kernel_rfl
noncomputable def ty481 : Ty := ⟨t481.desc, 1, 0, false, t481.zero, [], true, t481.methods⟩
theorem ty481_ok : tyOf prog 481 = some ty481 := by kernel_rfl
noncomputable def ty482 : Ty := ⟨t482.desc, 1, 8, false, t482.zero, [], true, t482.methods⟩
theorem ty482_ok : tyOf prog 482 = some ty482 := by kernel_rfl
noncomputable def ty483 : Ty := ⟨t483.desc, 1, 8, false, t483.zero, [], true, t483.methods⟩
theorem ty483_ok : tyOf prog 483 = some ty483 := by kernel_rfl
noncomputable def ty484 : Ty := ⟨t484.desc, 1, 8, false, t484.zero, [], true, t484.methods⟩
theorem ty484_ok : tyOf prog 484 = some ty484 := by kernel_rfl
noncomputable def ty485 : Ty := ⟨t485.desc, 1, 8, false, t485.zero, [], true, t485.methods⟩
theorem ty485_ok : tyOf prog 485 = some ty485 := by kernel_rfl
noncomputable def ty486 : Ty := ⟨t486.desc, 1, 8, false, t486.zero, [], true, t486.methods⟩
theorem ty486_ok : tyOf prog 486 = some ty486 := by kernel_rfl
noncomputable def ty487 : Ty := ⟨t487.desc, 1, 8, false, t487.zero, [], true, t487.methods⟩
theorem ty487_ok : tyOf prog 487 = some ty487 := by kernel_rfl
noncomputable def ty488 : Ty := ⟨t488.desc, 1, 0, false, t488.zero, [], true, t488.methods⟩
theorem ty488_ok : tyOf prog 488 = some ty488 := by kernel_rfl
noncomputable def ty489 : Ty := ⟨t489.desc, 1, 8, false, t489.zero, [], true, t489.methods⟩
theorem ty489_ok : tyOf prog 489 = some ty489 := by kernel_rfl
noncomputable def ty490 : Ty := ⟨t490.desc, 1, 0, false, t490.zero, [], true, t490.methods⟩
theorem ty490_ok : tyOf prog 490 = some ty490 := by kernel_rfl
noncomputable def ty491 : Ty := ⟨t491.desc, 1, 8, false, t491.zero, [], true, t491.methods⟩
theorem ty491_ok : tyOf prog 491 = some ty491 := by kernel_rfl
noncomputable def ty492 : Ty := ⟨t492.desc, 1, 0, false, t492.zero, [], true, t492.methods⟩
theorem ty492_ok : tyOf prog 492 = some ty492 := by kernel_rfl
noncomputable def ty493 : Ty := ⟨t493.desc, 1, 8, false, t493.zero, [], true, t493.methods⟩
theorem ty493_ok : tyOf prog 493 = some ty493 := by kernel_rfl
noncomputable def ty494 : Ty := ⟨t494.desc, 6, 48, true, t494.zero, [(0, 1), (1, 1), (2, 1), (3, 1), (4, 1), (5, 1)], true, t494.methods⟩
theorem ty494_ok : tyOf prog 494 = some ty494 := by kernel_rfl
noncomputable def ty495 : Ty := ⟨t494.desc, 6, 48, true, t495.zero, [(0, 1), (1, 1), (2, 1), (3, 1), (4, 1), (5, 1)], true, t495.methods⟩
theorem ty495_ok : tyOf prog 495 = some ty495 := by kernel_rfl
noncomputable def ty496 : Ty := ⟨t496.desc, 1, 8, false, t496.zero, [], true, t496.methods⟩
theorem ty496_ok : tyOf prog 496 = some ty496 := by kernel_rfl
noncomputable def ty497 : Ty := ⟨t497.desc, 1, 8, false, t497.zero, [], true, t497.methods⟩
theorem ty497_ok : tyOf prog 497 = some ty497 := by kernel_rfl
noncomputable def ty498 : Ty := ⟨t498.desc, 1, 0, false, t498.zero, [], true, t498.methods⟩
theorem ty498_ok : tyOf prog 498 = some ty498 := by kernel_rfl
noncomputable def ty499 : Ty := ⟨t499.desc, 1, 8, false, t499.zero, [], true, t499.methods⟩
theorem ty499_ok : tyOf prog 499 = some ty499 := by kernel_rfl
noncomputable def ty500 : Ty := ⟨t500.desc, 1, 8, false, t500.zero, [], true, t500.methods⟩
theorem ty500_ok : tyOf prog 500 = some ty500 := by kernel_rfl
noncomputable def ty501 : Ty := ⟨t501.desc, 1, 0, false, t501.zero, [], true, t501.methods⟩
theorem ty501_ok : tyOf prog 501 = some ty501 := by kernel_rfl
noncomputable def ty502 : Ty := ⟨t502.desc, 1, 8, false, t502.zero, [], true, t502.methods⟩
theorem ty502_ok : tyOf prog 502 = some ty502 := by kernel_rfl
noncomputable def ty503 : Ty := ⟨t503.desc, 1, 8, false, t503.zero, [], true, t503.methods⟩
theorem ty503_ok : tyOf prog 503 = some ty503 := by kernel_rfl
noncomputable def ty504 : Ty := ⟨t504.desc, 1, 8, false, t504.zero, [], true, t504.methods⟩
theorem ty504_ok : tyOf prog 504 = some ty504 := by kernel_rfl
noncomputable def ty505 : Ty := ⟨t505.desc, 1, 8, false, t505.zero, [], true, t505.methods⟩
theorem ty505_ok : tyOf prog 505 = some ty505 := by kernel_rfl
noncomputable def ty506 : Ty := ⟨t506.desc, 1, 16, true, t506.zero, [(0, 1)], true, t506.methods⟩
theorem ty506_ok : tyOf prog 506 = some ty506 := by kernel_rfl
noncomputable def ty507 : Ty := ⟨t506.desc, 1, 16, true, t507.zero, [(0, 1)], true, t507.methods⟩
theorem ty507_ok : tyOf prog 507 = some ty507 := by kernel_rfl
noncomputable def ty508 : Ty := ⟨t508.desc, 1, 8, false, t508.zero, [], true, t508.methods⟩
theorem ty508_ok : tyOf prog 508 = some ty508 := by kernel_rfl
noncomputable def ty509 : Ty := ⟨t509.desc, 1, 8, false, t509.zero, [], true, t509.methods⟩
theorem ty509_ok : tyOf prog 509 = some ty509 := by kernel_rfl
noncomputable def ty510 : Ty := ⟨t510.desc, 1, 8, false, t510.zero, [], true, t510.methods⟩
theorem ty510_ok : tyOf prog 510 = some ty510 := by kernel_rfl
noncomputable def ty511 : Ty := ⟨t511.desc, 1, 8, false, t511.zero, [], true, t511.methods⟩
theorem ty511_ok : tyOf prog 511 = some ty511 := by kernel_rfl
noncomputable def ty512 : Ty := ⟨t511.desc, 1, 8, false, t512.zero, [], true, t512.methods⟩
theorem ty512_ok : tyOf prog 512 = some ty512 := by kernel_rfl
noncomputable def ty513 : Ty := ⟨t513.desc, 1, 8, false, t513.zero, [], true, t513.methods⟩
theorem ty513_ok : tyOf prog 513 = some ty513 := by kernel_rfl
noncomputable def ty514 : Ty := ⟨t514.desc, 1, 8, false, t514.zero, [], true, t514.methods⟩
theorem ty514_ok : tyOf prog 514 = some ty514 := by kernel_rfl
noncomputable def ty515 : Ty := ⟨t514.desc, 1, 8, false, t515.zero, [], true, t515.methods⟩
theorem ty515_ok : tyOf prog 515 = some ty515 := by kernel_rfl
noncomputable def ty516 : Ty := ⟨t516.desc, 1, 8, false, t516.zero, [], true, t516.methods⟩
theorem ty516_ok : tyOf prog 516 = some ty516 := by kernel_rfl
noncomputable def ty517 : Ty := ⟨t517.desc, 1, 8, false, t517.zero, [], true, t517.methods⟩
theorem ty517_ok : tyOf prog 517 = some ty517 := by kernel_rfl
noncomputable def ty518 : Ty := ⟨t518.desc, 1, 8, false, t518.zero, [], true, t518.methods⟩
theorem ty518_ok : tyOf prog 518 = some ty518 := by kernel_rfl
noncomputable def ty519 : Ty := ⟨t519.desc, 1, 8, false, t519.zero, [], true, t519.methods⟩
theorem ty519_ok : tyOf prog 519 = some ty519 := by kernel_rfl
noncomputable def ty520 : Ty := ⟨t520.desc, 1, 8, false, t520.zero, [], true, t520.methods⟩
theorem ty520_ok : tyOf prog 520 = some ty520 := by kernel_rfl
noncomputable def ty521 : Ty := ⟨t521.desc, 1, 8, false, t521.zero, [], true, t521.methods⟩
theorem ty521_ok : tyOf prog 521 = some ty521 := by kernel_rfl
noncomputable def ty522 : Ty := ⟨t522.desc, 1, 8, false, t522.zero, [], true, t522.methods⟩
theorem ty522_ok : tyOf prog 522 = some ty522 := by kernel_rfl
noncomputable def ty523 : Ty := ⟨t523.desc, 1, 8, false, t523.zero, [], true, t523.methods⟩
theorem ty523_ok : tyOf prog 523 = some ty523 := by kernel_rfl
noncomputable def ty524 : Ty := ⟨t524.desc, 1, 8, false, t524.zero, [], true, t524.methods⟩
theorem ty524_ok : tyOf prog 524 = some ty524 := by kernel_rfl
noncomputable def ty525 : Ty := ⟨t525.desc, 1, 8, false, t525.zero, [], true, t525.methods⟩
theorem ty525_ok : tyOf prog 525 = some ty525 := by kernel_rfl
noncomputable def ty526 : Ty := ⟨t526.desc, 1, 8, false, t526.zero, [], true, t526.methods⟩
theorem ty526_ok : tyOf prog 526 = some ty526 := by kernel_rfl
noncomputable def ty527 : Ty := ⟨t527.desc, 1, 8, false, t527.zero, [], true, t527.methods⟩
theorem ty527_ok : tyOf prog 527 = some ty527 := by kernel_rfl
noncomputable def ty528 : Ty := ⟨t528.desc, 1, 8, false, t528.zero, [], true, t528.methods⟩
theorem ty528_ok : tyOf prog 528 = some ty528 := by kernel_rfl
noncomputable def ty529 : Ty := ⟨t529.desc, 1, 8, false, t529.zero, [], true, t529.methods⟩
theorem ty529_ok : tyOf prog 529 = some ty529 := by kernel_rfl
noncomputable def ty530 : Ty := ⟨t530.desc, 1, 8, false, t530.zero, [], true, t530.methods⟩
theorem ty530_ok : tyOf prog 530 = some ty530 := by kernel_rfl
noncomputable def ty531 : Ty := ⟨t531.desc, 1, 8, false, t531.zero, [], true, t531.methods⟩
theorem ty531_ok : tyOf prog 531 = some ty531 := by kernel_rfl
noncomputable def ty532 : Ty := ⟨t532.desc, 1, 8, false, t532.zero, [], true, t532.methods⟩
theorem ty532_ok : tyOf prog 532 = some ty532 := by kernel_rfl
noncomputable def ty533 : Ty := ⟨t533.desc, 1, 8, false, t533.zero, [], true, t533.methods⟩
theorem ty533_ok : tyOf prog 533 = some ty533 := by kernel_rfl
noncomputable def ty534 : Ty := ⟨t534.desc, 1, 8, false, t534.zero, [], true, t534.methods⟩
theorem ty534_ok : tyOf prog 534 = some ty534 := by kernel_rfl
noncomputable def ty535 : Ty := ⟨t535.desc, 1, 8, false, t535.zero, [], true, t535.methods⟩
theorem ty535_ok : tyOf prog 535 = some ty535 := by kernel_rfl
noncomputable def ty536 : Ty := ⟨t536.desc, 1, 8, false, t536.zero, [], true, t536.methods⟩
theorem ty536_ok : tyOf prog 536 = some ty536 := by kernel_rfl
noncomputable def ty537 : Ty := ⟨t537.desc, 1, 8, false, t537.zero, [], true, t537.methods⟩
theorem ty537_ok : tyOf prog 537 = some ty537 := by kernel_rfl
noncomputable def ty538 : Ty := ⟨t538.desc, 1, 8, false, t538.zero, [], true, t538.methods⟩
theorem ty538_ok : tyOf prog 538 = some ty538 := by kernel_rfl
noncomputable def ty539 : Ty := ⟨t539.desc, 1, 8, false, t539.zero, [], true, t539.methods⟩
theorem ty539_ok : tyOf prog 539 = some ty539 := by kernel_rfl
noncomputable def ty540 : Ty := ⟨t540.desc, 3, 24, true, t540.zero, [(0, 1), (1, 1), (2, 1)], true, t540.methods⟩
theorem ty540_ok : tyOf prog 540 = some ty540 := by kernel_rfl
noncomputable def ty541 : Ty := ⟨t541.desc, 18, 144, true, t541.zero, [], true, t541.methods⟩
theorem ty541_ok : tyOf prog 541 = some ty541 := by kernel_rfl
noncomputable def ty542 : Ty := ⟨t542.desc, 1, 8, false, t542.zero, [], true, t542.methods⟩
theorem ty542_ok : tyOf prog 542 = some ty542 := by kernel_rfl
noncomputable def ty543 : Ty := ⟨t543.desc, 1, 8, false, t543.zero, [], true, t543.methods⟩
theorem ty543_ok : tyOf prog 543 = some ty543 := by kernel_rfl
noncomputable def ty544 : Ty := ⟨t544.desc, 1, 8, false, t544.zero, [], true, t544.methods⟩
theorem ty544_ok : tyOf prog 544 = some ty544 := by kernel_rfl
noncomputable def ty545 : Ty := ⟨t545.desc, 1, 8, false, t545.zero, [], true, t545.methods⟩
theorem ty545_ok : tyOf prog 545 = some ty545 := by kernel_rfl
noncomputable def ty546 : Ty := ⟨t546.desc, 1, 8, false, t546.zero, [], true, t546.methods⟩
theorem ty546_ok : tyOf prog 546 = some ty546 := by kernel_rfl
noncomputable def ty547 : Ty := ⟨t547.desc, 1, 8, false, t547.zero, [], true, t547.methods⟩
theorem ty547_ok : tyOf prog 547 = some ty547 := by kernel_rfl
noncomputable def ty548 : Ty := ⟨t548.desc, 1, 8, false, t548.zero, [], true, t548.methods⟩
theorem ty548_ok : tyOf prog 548 = some ty548 := by kernel_rfl
noncomputable def ty549 : Ty := ⟨t549.desc, 1, 8, false, t549.zero, [], true, t549.methods⟩
theorem ty549_ok : tyOf prog 549 = some ty549 := by kernel_rfl
noncomputable def ty550 : Ty := ⟨t550.desc, 1, 8, false, t550.zero, [], true, t550.methods⟩
theorem ty550_ok : tyOf prog 550 = some ty550 := by kernel_rfl
noncomputable def ty551 : Ty := ⟨t551.desc, 1, 8, false, t551.zero, [], true, t551.methods⟩
theorem ty551_ok : tyOf prog 551 = some ty551 := by kernel_rfl
noncomputable def ty552 : Ty := ⟨t552.desc, 2, 24, true, t552.zero, [(0, 1), (1, 1)], true, t552.methods⟩
theorem ty552_ok : tyOf prog 552 = some ty552 := by kernel_rfl
noncomputable def ty553 : Ty := ⟨t552.desc, 2, 24, true, t553.zero, [(0, 1), (1, 1)], true, t553.methods⟩
theorem ty553_ok : tyOf prog 553 = some ty553 := by kernel_rfl
noncomputable def ty554 : Ty := ⟨t554.desc, 1, 8, false, t554.zero, [], true, t554.methods⟩
theorem ty554_ok : tyOf prog 554 = some ty554 := by kernel_rfl
noncomputable def ty555 : Ty := ⟨t555.desc, 1, 8, false, t555.zero, [], true, t555.methods⟩
theorem ty555_ok : tyOf prog 555 = some ty555 := by kernel_rfl
noncomputable def ty556 : Ty := ⟨t556.desc, 1, 8, false, t556.zero, [], true, t556.methods⟩
theorem ty556_ok : tyOf prog 556 = some ty556 := by kernel_rfl
noncomputable def ty557 : Ty := ⟨t557.desc, 1, 8, false, t557.zero, [], true, t557.methods⟩
theorem ty557_ok : tyOf prog 557 = some ty557 := by kernel_rfl
noncomputable def ty558 : Ty := ⟨t558.desc, 1, 8, false, t558.zero, [], true, t558.methods⟩
theorem ty558_ok : tyOf prog 558 = some ty558 := by kernel_rfl
noncomputable def ty559 : Ty := ⟨t559.desc, 1, 8, false, t559.zero, [], true, t559.methods⟩
theorem ty559_ok : tyOf prog 559 = some ty559 := by kernel_rfl
noncomputable def ty560 : Ty := ⟨t340.desc, 3, 24, true, t560.zero, [(0, 1), (1, 1), (2, 1)], true, t560.methods⟩
theorem ty560_ok : tyOf prog 560 = some ty560 := by kernel_rfl
noncomputable def ty561 : Ty := ⟨t561.desc, 3, 24, true, t561.zero, [], true, t561.methods⟩
theorem ty561_ok : tyOf prog 561 = some ty561 := by kernel_rfl
noncomputable def ty562 : Ty := ⟨t562.desc, 1, 8, false, t562.zero, [], true, t562.methods⟩
theorem ty562_ok : tyOf prog 562 = some ty562 := by kernel_rfl
noncomputable def ty563 : Ty := ⟨t563.desc, 1, 8, false, t563.zero, [], true, t563.methods⟩
theorem ty563_ok : tyOf prog 563 = some ty563 := by kernel_rfl
noncomputable def ty564 : Ty := ⟨t564.desc, 1, 8, false, t564.zero, [], true, t564.methods⟩
theorem ty564_ok : tyOf prog 564 = some ty564 := by kernel_rfl
noncomputable def ty565 : Ty := ⟨t565.desc, 1, 24, false, t565.zero, [], true, t565.methods⟩
theorem ty565_ok : tyOf prog 565 = some ty565 := by kernel_rfl
noncomputable def ty566 : Ty := ⟨t566.desc, 1, 8, false, t566.zero, [], true, t566.methods⟩
theorem ty566_ok : tyOf prog 566 = some ty566 := by kernel_rfl
noncomputable def ty567 : Ty := ⟨t567.desc, 1, 8, false, t567.zero, [], true, t567.methods⟩
theorem ty567_ok : tyOf prog 567 = some ty567 := by kernel_rfl
noncomputable def ty568 : Ty := ⟨t151.desc, 1, 8, false, t568.zero, [], true, t568.methods⟩
theorem ty568_ok : tyOf prog 568 = some ty568 := by kernel_rfl
noncomputable def ty569 : Ty := ⟨t569.desc, 1, 8, false, t569.zero, [], true, t569.methods⟩
theorem ty569_ok : tyOf prog 569 = some ty569 := by kernel_rfl
noncomputable def ty570 : Ty := ⟨t570.desc, 1, 8, false, t570.zero, [], true, t570.methods⟩
theorem ty570_ok : tyOf prog 570 = some ty570 := by kernel_rfl
noncomputable def ty571 : Ty := ⟨t571.desc, 1, 8, false, t571.zero, [], true, t571.methods⟩
theorem ty571_ok : tyOf prog 571 = some ty571 := by kernel_rfl
noncomputable def ty572 : Ty := ⟨t572.desc, 1, 8, false, t572.zero, [], true, t572.methods⟩
theorem ty572_ok : tyOf prog 572 = some ty572 := by kernel_rfl
noncomputable def ty573 : Ty := ⟨t573.desc, 1, 8, false, t573.zero, [], true, t573.methods⟩
theorem ty573_ok : tyOf prog 573 = some ty573 := by kernel_rfl
noncomputable def ty574 : Ty := ⟨t574.desc, 1, 8, false, t574.zero, [], true, t574.methods⟩
theorem ty574_ok : tyOf prog 574 = some ty574 := by kernel_rfl
noncomputable def ty575 : Ty := ⟨t575.desc, 2, 16, true, t575.zero, [], true, t575.methods⟩
theorem ty575_ok : tyOf prog 575 = some ty575 := by kernel_rfl
noncomputable def ty576 : Ty := ⟨t576.desc, 1, 8, false, t576.zero, [], true, t576.methods⟩
theorem ty576_ok : tyOf prog 576 = some ty576 := by kernel_rfl
noncomputable def ty577 : Ty := ⟨t577.desc, 1, 8, false, t577.zero, [], true, t577.methods⟩
theorem ty577_ok : tyOf prog 577 = some ty577 := by kernel_rfl
noncomputable def ty578 : Ty := ⟨t578.desc, 1, 8, false, t578.zero, [], true, t578.methods⟩
theorem ty578_ok : tyOf prog 578 = some ty578 := by kernel_rfl
noncomputable def ty579 : Ty := ⟨t579.desc, 1, 8, false, t579.zero, [], true, t579.methods⟩
theorem ty579_ok : tyOf prog 579 = some ty579 := by kernel_rfl
noncomputable def ty580 : Ty := ⟨t580.desc, 1, 8, false, t580.zero, [], true, t580.methods⟩
theorem ty580_ok : tyOf prog 580 = some ty580 := by kernel_rfl
noncomputable def ty581 : Ty := ⟨t581.desc, 1, 8, false, t581.zero, [], true, t581.methods⟩
theorem ty581_ok : tyOf prog 581 = some ty581 := by kernel_rfl
noncomputable def ty582 : Ty := ⟨t582.desc, 1, 8, false, t582.zero, [], true, t582.methods⟩
theorem ty582_ok : tyOf prog 582 = some ty582 := by kernel_rfl
noncomputable def ty583 : Ty := ⟨t583.desc, 1, 8, false, t583.zero, [], true, t583.methods⟩
theorem ty583_ok : tyOf prog 583 = some ty583 := by kernel_rfl
noncomputable def ty584 : Ty := ⟨t584.desc, 1, 8, false, t584.zero, [], true, t584.methods⟩
theorem ty584_ok : tyOf prog 584 = some ty584 := by kernel_rfl
noncomputable def ty585 : Ty := ⟨t585.desc, 1, 16, false, t585.zero, [], false, t585.methods⟩
theorem ty585_ok : tyOf prog 585 = some ty585 := by kernel_rfl
noncomputable def ty586 : Ty := ⟨t585.desc, 1, 16, false, t586.zero, [], false, t586.methods⟩
theorem ty586_ok : tyOf prog 586 = some ty586 := by kernel_rfl
noncomputable def ty587 : Ty := ⟨t587.desc, 1, 8, false, t587.zero, [], true, t587.methods⟩
theorem ty587_ok : tyOf prog 587 = some ty587 := by kernel_rfl
noncomputable def ty588 : Ty := ⟨t588.desc, 1, 8, false, t588.zero, [], true, t588.methods⟩
theorem ty588_ok : tyOf prog 588 = some ty588 := by kernel_rfl
noncomputable def ty589 : Ty := ⟨t589.desc, 1, 8, false, t589.zero, [], true, t589.methods⟩
theorem ty589_ok : tyOf prog 589 = some ty589 := by kernel_rfl
noncomputable def ty590 : Ty := ⟨t590.desc, 1, 8, false, t590.zero, [], true, t590.methods⟩
theorem ty590_ok : tyOf prog 590 = some ty590 := by kernel_rfl
noncomputable def ty591 : Ty := ⟨t591.desc, 4, 80, true, t591.zero, [(0, 2), (2, 1), (3, 1)], true, t591.methods⟩
theorem ty591_ok : tyOf prog 591 = some ty591 := by kernel_rfl
noncomputable def ty592 : Ty := ⟨t591.desc, 4, 80, true, t592.zero, [(0, 2), (2, 1), (3, 1)], true, t592.methods⟩
theorem ty592_ok : tyOf prog 592 = some ty592 := by kernel_rfl
noncomputable def ty593 : Ty := ⟨t593.desc, 1, 0, false, t593.zero, [], true, t593.methods⟩
theorem ty593_ok : tyOf prog 593 = some ty593 := by kernel_rfl
noncomputable def ty594 : Ty := ⟨t594.desc, 1, 8, false, t594.zero, [], true, t594.methods⟩
theorem ty594_ok : tyOf prog 594 = some ty594 := by kernel_rfl
noncomputable def ty595 : Ty := ⟨t595.desc, 1, 8, false, t595.zero, [], true, t595.methods⟩
theorem ty595_ok : tyOf prog 595 = some ty595 := by kernel_rfl
noncomputable def ty596 : Ty := ⟨t334.desc, 1, 24, false, t596.zero, [], true, t596.methods⟩
theorem ty596_ok : tyOf prog 596 = some ty596 := by kernel_rfl
noncomputable def ty597 : Ty := ⟨t597.desc, 1, 8, false, t597.zero, [], true, t597.methods⟩
theorem ty597_ok : tyOf prog 597 = some ty597 := by kernel_rfl
noncomputable def ty598 : Ty := ⟨t598.desc, 1, 8, false, t598.zero, [], true, t598.methods⟩
theorem ty598_ok : tyOf prog 598 = some ty598 := by kernel_rfl
noncomputable def ty599 : Ty := ⟨t599.desc, 1, 8, false, t599.zero, [], true, t599.methods⟩
theorem ty599_ok : tyOf prog 599 = some ty599 := by kernel_rfl
noncomputable def ty600 : Ty := ⟨t600.desc, 1, 8, false, t600.zero, [], true, t600.methods⟩
theorem ty600_ok : tyOf prog 600 = some ty600 := by kernel_rfl
noncomputable def ty601 : Ty := ⟨t601.desc, 1, 8, false, t601.zero, [], true, t601.methods⟩
theorem ty601_ok : tyOf prog 601 = some ty601 := by kernel_rfl
noncomputable def ty602 : Ty := ⟨t602.desc, 1, 8, false, t602.zero, [], true, t602.methods⟩
theorem ty602_ok : tyOf prog 602 = some ty602 := by kernel_rfl
noncomputable def ty603 : Ty := ⟨t603.desc, 1, 8, false, t603.zero, [], true, t603.methods⟩
theorem ty603_ok : tyOf prog 603 = some ty603 := by kernel_rfl
noncomputable def ty604 : Ty := ⟨t604.desc, 1, 8, false, t604.zero, [], true, t604.methods⟩
theorem ty604_ok : tyOf prog 604 = some ty604 := by kernel_rfl
noncomputable def ty605 : Ty := ⟨t605.desc, 1, 8, false, t605.zero, [], true, t605.methods⟩
theorem ty605_ok : tyOf prog 605 = some ty605 := by kernel_rfl
noncomputable def ty606 : Ty := ⟨t606.desc, 3, 24, true, t606.zero, [], true, t606.methods⟩
theorem ty606_ok : tyOf prog 606 = some ty606 := by kernel_rfl
noncomputable def ty607 : Ty := ⟨t607.desc, 1, 24, false, t607.zero, [], true, t607.methods⟩
theorem ty607_ok : tyOf prog 607 = some ty607 := by kernel_rfl
noncomputable def ty608 : Ty := ⟨t608.desc, 1, 0, false, t608.zero, [], true, t608.methods⟩
theorem ty608_ok : tyOf prog 608 = some ty608 := by kernel_rfl
noncomputable def ty609 : Ty := ⟨t609.desc, 1, 8, false, t609.zero, [], true, t609.methods⟩
theorem ty609_ok : tyOf prog 609 = some ty609 := by kernel_rfl
noncomputable def ty610 : Ty := ⟨t610.desc, 1, 0, false, t610.zero, [], true, t610.methods⟩
theorem ty610_ok : tyOf prog 610 = some ty610 := by kernel_rfl
noncomputable def ty611 : Ty := ⟨t611.desc, 1, 8, false, t611.zero, [], true, t611.methods⟩
theorem ty611_ok : tyOf prog 611 = some ty611 := by kernel_rfl
noncomputable def ty612 : Ty := ⟨t612.desc, 1, 8, false, t612.zero, [], true, t612.methods⟩
theorem ty612_ok : tyOf prog 612 = some ty612 := by kernel_rfl
noncomputable def ty613 : Ty := ⟨t613.desc, 1, 8, false, t613.zero, [], true, t613.methods⟩
theorem ty613_ok : tyOf prog 613 = some ty613 := by kernel_rfl
noncomputable def ty614 : Ty := ⟨t614.desc, 1, 8, false, t614.zero, [], true, t614.methods⟩
theorem ty614_ok : tyOf prog 614 = some ty614 := by kernel_rfl
noncomputable def ty615 : Ty := ⟨t615.desc, 1, 8, false, t615.zero, [], true, t615.methods⟩
theorem ty615_ok : tyOf prog 615 = some ty615 := by kernel_rfl
noncomputable def ty616 : Ty := ⟨t616.desc, 1, 8, false, t616.zero, [], true, t616.methods⟩
theorem ty616_ok : tyOf prog 616 = some ty616 := by kernel_rfl
noncomputable def ty617 : Ty := ⟨t617.desc, 1, 8, false, t617.zero, [], true, t617.methods⟩
theorem ty617_ok : tyOf prog 617 = some ty617 := by kernel_rfl
noncomputable def ty618 : Ty := ⟨t618.desc, 1, 8, false, t618.zero, [], true, t618.methods⟩
theorem ty618_ok : tyOf prog 618 = some ty618 := by kernel_rfl
noncomputable def ty619 : Ty := ⟨t619.desc, 1, 8, false, t619.zero, [], true, t619.methods⟩
theorem ty619_ok : tyOf prog 619 = some ty619 := by kernel_rfl
noncomputable def ty620 : Ty := ⟨t620.desc, 1, 8, false, t620.zero, [], true, t620.methods⟩
theorem ty620_ok : tyOf prog 620 = some ty620 := by kernel_rfl
noncomputable def ty621 : Ty := ⟨t621.desc, 1, 8, false, t621.zero, [], true, t621.methods⟩
theorem ty621_ok : tyOf prog 621 = some ty621 := by kernel_rfl
noncomputable def ty622 : Ty := ⟨t622.desc, 1, 8, false, t622.zero, [], true, t622.methods⟩
theorem ty622_ok : tyOf prog 622 = some ty622 := by kernel_rfl
noncomputable def ty623 : Ty := ⟨t623.desc, 1, 8, false, t623.zero, [], true, t623.methods⟩
theorem ty623_ok : tyOf prog 623 = some ty623 := by kernel_rfl
noncomputable def ty624 : Ty := ⟨t624.desc, 1, 8, false, t624.zero, [], true, t624.methods⟩
theorem ty624_ok : tyOf prog 624 = some ty624 := by kernel_rfl
noncomputable def ty625 : Ty := ⟨t625.desc, 32, 32, true, t625.zero, [], true, t625.methods⟩
theorem ty625_ok : tyOf prog 625 = some ty625 := by kernel_rfl
noncomputable def ty626 : Ty := ⟨t626.desc, 64, 64, true, t626.zero, [], true, t626.methods⟩
theorem ty626_ok : tyOf prog 626 = some ty626 := by kernel_rfl
noncomputable def ty627 : Ty := ⟨t627.desc, 1, 8, false, t627.zero, [], true, t627.methods⟩
theorem ty627_ok : tyOf prog 627 = some ty627 := by kernel_rfl
noncomputable def ty628 : Ty := ⟨t628.desc, 1, 8, false, t628.zero, [], true, t628.methods⟩
theorem ty628_ok : tyOf prog 628 = some ty628 := by kernel_rfl
noncomputable def ty629 : Ty := ⟨t629.desc, 1, 8, false, t629.zero, [], true, t629.methods⟩
theorem ty629_ok : tyOf prog 629 = some ty629 := by kernel_rfl
noncomputable def ty630 : Ty := ⟨t630.desc, 1, 8, false, t630.zero, [], true, t630.methods⟩
theorem ty630_ok : tyOf prog 630 = some ty630 := by kernel_rfl
noncomputable def ty631 : Ty := ⟨t631.desc, 1, 8, false, t631.zero, [], true, t631.methods⟩
theorem ty631_ok : tyOf prog 631 = some ty631 := by kernel_rfl
noncomputable def ty632 : Ty := ⟨t632.desc, 1, 8, false, t632.zero, [], true, t632.methods⟩
theorem ty632_ok : tyOf prog 632 = some ty632 := by kernel_rfl
noncomputable def ty633 : Ty := ⟨t633.desc, 1, 0, false, t633.zero, [], true, t633.methods⟩
theorem ty633_ok : tyOf prog 633 = some ty633 := by kernel_rfl
noncomputable def ty634 : Ty := ⟨t634.desc, 1, 8, false, t634.zero, [], true, t634.methods⟩
theorem ty634_ok : tyOf prog 634 = some ty634 := by kernel_rfl
noncomputable def ty635 : Ty := ⟨t635.desc, 4, 32, true, t635.zero, [], true, t635.methods⟩
theorem ty635_ok : tyOf prog 635 = some ty635 := by kernel_rfl
noncomputable def ty636 : Ty := ⟨t590.desc, 1, 8, false, t636.zero, [], true, t636.methods⟩
theorem ty636_ok : tyOf prog 636 = some ty636 := by kernel_rfl
noncomputable def ty637 : Ty := ⟨t637.desc, 1, 8, false, t637.zero, [], true, t637.methods⟩
theorem ty637_ok : tyOf prog 637 = some ty637 := by kernel_rfl
noncomputable def ty638 : Ty := ⟨t638.desc, 1, 0, false, t638.zero, [], true, t638.methods⟩
theorem ty638_ok : tyOf prog 638 = some ty638 := by kernel_rfl
noncomputable def ty639 : Ty := ⟨t639.desc, 1, 8, false, t639.zero, [], true, t639.methods⟩
theorem ty639_ok : tyOf prog 639 = some ty639 := by kernel_rfl
noncomputable def ty640 : Ty := ⟨t640.desc, 1, 8, false, t640.zero, [], true, t640.methods⟩
theorem ty640_ok : tyOf prog 640 = some ty640 := by kernel_rfl
noncomputable def ty641 : Ty := ⟨t641.desc, 1, 8, true, t641.zero, [(0, 1)], true, t641.methods⟩
theorem ty641_ok : tyOf prog 641 = some ty641 := by kernel_rfl
noncomputable def ty642 : Ty := ⟨t641.desc, 1, 8, true, t642.zero, [(0, 1)], true, t642.methods⟩
theorem ty642_ok : tyOf prog 642 = some ty642 := by kernel_rfl
noncomputable def ty643 : Ty := ⟨t643.desc, 2, 48, true, t643.zero, [(0, 1), (1, 1)], true, t643.methods⟩
theorem ty643_ok : tyOf prog 643 = some ty643 := by kernel_rfl
noncomputable def ty644 : Ty := ⟨t643.desc, 2, 48, true, t644.zero, [(0, 1), (1, 1)], true, t644.methods⟩
theorem ty644_ok : tyOf prog 644 = some ty644 := by kernel_rfl
noncomputable def ty645 : Ty := ⟨t645.desc, 1, 8, false, t645.zero, [], true, t645.methods⟩
theorem ty645_ok : tyOf prog 645 = some ty645 := by kernel_rfl
noncomputable def ty646 : Ty := ⟨t646.desc, 1, 8, false, t646.zero, [], true, t646.methods⟩
theorem ty646_ok : tyOf prog 646 = some ty646 := by kernel_rfl
noncomputable def ty647 : Ty := ⟨t647.desc, 4, 64, true, t647.zero, [(0, 1), (1, 1), (2, 1), (3, 1)], true, t647.methods⟩
theorem ty647_ok : tyOf prog 647 = some ty647 := by kernel_rfl
noncomputable def ty648 : Ty := ⟨t647.desc, 4, 64, true, t648.zero, [(0, 1), (1, 1), (2, 1), (3, 1)], true, t648.methods⟩
theorem ty648_ok : tyOf prog 648 = some ty648 := by kernel_rfl
noncomputable def ty649 : Ty := ⟨t649.desc, 1, 8, false, t649.zero, [], true, t649.methods⟩
theorem ty649_ok : tyOf prog 649 = some ty649 := by kernel_rfl
noncomputable def ty650 : Ty := ⟨t650.desc, 1, 8, false, t650.zero, [], true, t650.methods⟩
theorem ty650_ok : tyOf prog 650 = some ty650 := by kernel_rfl
noncomputable def ty651 : Ty := ⟨t651.desc, 1, 8, false, t651.zero, [], true, t651.methods⟩
theorem ty651_ok : tyOf prog 651 = some ty651 := by kernel_rfl
noncomputable def ty652 : Ty := ⟨t652.desc, 1, 8, false, t652.zero, [], true, t652.methods⟩
theorem ty652_ok : tyOf prog 652 = some ty652 := by kernel_rfl
noncomputable def ty653 : Ty := ⟨t653.desc, 1, 8, false, t653.zero, [], true, t653.methods⟩
theorem ty653_ok : tyOf prog 653 = some ty653 := by kernel_rfl
noncomputable def ty654 : Ty := ⟨t654.desc, 1, 8, false, t654.zero, [], true, t654.methods⟩
theorem ty654_ok : tyOf prog 654 = some ty654 := by kernel_rfl
noncomputable def ty655 : Ty := ⟨t655.desc, 1, 0, false, t655.zero, [], true, t655.methods⟩
theorem ty655_ok : tyOf prog 655 = some ty655 := by kernel_rfl
noncomputable def ty656 : Ty := ⟨t656.desc, 1, 8, false, t656.zero, [], true, t656.methods⟩
theorem ty656_ok : tyOf prog 656 = some ty656 := by kernel_rfl
noncomputable def ty657 : Ty := ⟨t657.desc, 1, 8, false, t657.zero, [], true, t657.methods⟩
theorem ty657_ok : tyOf prog 657 = some ty657 := by kernel_rfl
noncomputable def ty658 : Ty := ⟨t658.desc, 1, 8, false, t658.zero, [], true, t658.methods⟩
theorem ty658_ok : tyOf prog 658 = some ty658 := by kernel_rfl
noncomputable def ty659 : Ty := ⟨t659.desc, 1, 8, false, t659.zero, [], true, t659.methods⟩
theorem ty659_ok : tyOf prog 659 = some ty659 := by kernel_rfl
noncomputable def ty660 : Ty := ⟨t660.desc, 1, 8, false, t660.zero, [], true, t660.methods⟩
theorem ty660_ok : tyOf prog 660 = some ty660 := by kernel_rfl
noncomputable def ty661 : Ty := ⟨t661.desc, 2, 16, true, t661.zero, [], true, t661.methods⟩
theorem ty661_ok : tyOf prog 661 = some ty661 := by kernel_rfl
noncomputable def ty662 : Ty := ⟨t662.desc, 1, 0, false, t662.zero, [], true, t662.methods⟩
theorem ty662_ok : tyOf prog 662 = some ty662 := by kernel_rfl
noncomputable def ty663 : Ty := ⟨t663.desc, 1, 8, false, t663.zero, [], true, t663.methods⟩
theorem ty663_ok : tyOf prog 663 = some ty663 := by kernel_rfl
noncomputable def ty664 : Ty := ⟨t664.desc, 1, 8, false, t664.zero, [], true, t664.methods⟩
theorem ty664_ok : tyOf prog 664 = some ty664 := by kernel_rfl
noncomputable def ty665 : Ty := ⟨t665.desc, 1, 8, false, t665.zero, [], true, t665.methods⟩
theorem ty665_ok : tyOf prog 665 = some ty665 := by kernel_rfl
noncomputable def ty666 : Ty := ⟨t666.desc, 1, 8, false, t666.zero, [], true, t666.methods⟩
theorem ty666_ok : tyOf prog 666 = some ty666 := by kernel_rfl
noncomputable def ty667 : Ty := ⟨t667.desc, 1, 8, false, t667.zero, [], true, t667.methods⟩
theorem ty667_ok : tyOf prog 667 = some ty667 := by kernel_rfl
noncomputable def ty668 : Ty := ⟨t668.desc, 1, 8, false, t668.zero, [], true, t668.methods⟩
theorem ty668_ok : tyOf prog 668 = some ty668 := by kernel_rfl
noncomputable def ty669 : Ty := ⟨t669.desc, 1, 8, false, t669.zero, [], true, t669.methods⟩
theorem ty669_ok : tyOf prog 669 = some ty669 := by kernel_rfl
noncomputable def ty670 : Ty := ⟨t670.desc, 1, 24, false, t670.zero, [], true, t670.methods⟩
theorem ty670_ok : tyOf prog 670 = some ty670 := by kernel_rfl
noncomputable def ty671 : Ty := ⟨t671.desc, 1, 8, false, t671.zero, [], true, t671.methods⟩
theorem ty671_ok : tyOf prog 671 = some ty671 := by kernel_rfl
noncomputable def ty672 : Ty := ⟨t672.desc, 2, 32, true, t672.zero, [(0, 1), (1, 1)], true, t672.methods⟩
theorem ty672_ok : tyOf prog 672 = some ty672 := by kernel_rfl
noncomputable def ty673 : Ty := ⟨t672.desc, 2, 32, true, t673.zero, [(0, 1), (1, 1)], true, t673.methods⟩
theorem ty673_ok : tyOf prog 673 = some ty673 := by kernel_rfl
noncomputable def ty674 : Ty := ⟨t674.desc, 1, 8, false, t674.zero, [], true, t674.methods⟩
theorem ty674_ok : tyOf prog 674 = some ty674 := by kernel_rfl
noncomputable def ty675 : Ty := ⟨t675.desc, 1, 8, false, t675.zero, [], true, t675.methods⟩
theorem ty675_ok : tyOf prog 675 = some ty675 := by kernel_rfl
noncomputable def ty676 : Ty := ⟨t676.desc, 1, 8, false, t676.zero, [], true, t676.methods⟩
theorem ty676_ok : tyOf prog 676 = some ty676 := by kernel_rfl
noncomputable def ty677 : Ty := ⟨t677.desc, 1, 8, false, t677.zero, [], true, t677.methods⟩
theorem ty677_ok : tyOf prog 677 = some ty677 := by kernel_rfl
noncomputable def ty678 : Ty := ⟨t678.desc, 1, 8, false, t678.zero, [], true, t678.methods⟩
theorem ty678_ok : tyOf prog 678 = some ty678 := by kernel_rfl
noncomputable def ty679 : Ty := ⟨t679.desc, 1, 8, false, t679.zero, [], true, t679.methods⟩
theorem ty679_ok : tyOf prog 679 = some ty679 := by kernel_rfl
noncomputable def ty680 : Ty := ⟨t680.desc, 1, 8, false, t680.zero, [], true, t680.methods⟩
theorem ty680_ok : tyOf prog 680 = some ty680 := by kernel_rfl
noncomputable def ty681 : Ty := ⟨t681.desc, 1, 0, false, t681.zero, [], true, t681.methods⟩
theorem ty681_ok : tyOf prog 681 = some ty681 := by kernel_rfl
noncomputable def ty682 : Ty := ⟨t682.desc, 1, 8, false, t682.zero, [], true, t682.methods⟩
theorem ty682_ok : tyOf prog 682 = some ty682 := by kernel_rfl
noncomputable def ty683 : Ty := ⟨t683.desc, 1, 8, false, t683.zero, [], true, t683.methods⟩
theorem ty683_ok : tyOf prog 683 = some ty683 := by kernel_rfl
noncomputable def ty684 : Ty := ⟨t684.desc, 1, 8, false, t684.zero, [], true, t684.methods⟩
theorem ty684_ok : tyOf prog 684 = some ty684 := by kernel_rfl
noncomputable def ty685 : Ty := ⟨t685.desc, 1, 8, false, t685.zero, [], true, t685.methods⟩
theorem ty685_ok : tyOf prog 685 = some ty685 := by kernel_rfl
noncomputable def ty686 : Ty := ⟨t686.desc, 1, 8, false, t686.zero, [], true, t686.methods⟩
theorem ty686_ok : tyOf prog 686 = some ty686 := by kernel_rfl
noncomputable def ty687 : Ty := ⟨t687.desc, 1, 8, false, t687.zero, [], true, t687.methods⟩
theorem ty687_ok : tyOf prog 687 = some ty687 := by kernel_rfl
noncomputable def ty688 : Ty := ⟨t688.desc, 1, 8, false, t688.zero, [], true, t688.methods⟩
theorem ty688_ok : tyOf prog 688 = some ty688 := by kernel_rfl
noncomputable def ty689 : Ty := ⟨t689.desc, 1, 8, false, t689.zero, [], true, t689.methods⟩
theorem ty689_ok : tyOf prog 689 = some ty689 := by kernel_rfl
noncomputable def ty690 : Ty := ⟨t690.desc, 1, 8, false, t690.zero, [], true, t690.methods⟩
theorem ty690_ok : tyOf prog 690 = some ty690 := by kernel_rfl
noncomputable def ty691 : Ty := ⟨t691.desc, 1, 8, false, t691.zero, [], true, t691.methods⟩
theorem ty691_ok : tyOf prog 691 = some ty691 := by kernel_rfl
noncomputable def ty692 : Ty := ⟨t692.desc, 1, 8, false, t692.zero, [], true, t692.methods⟩
theorem ty692_ok : tyOf prog 692 = some ty692 := by kernel_rfl
noncomputable def ty693 : Ty := ⟨t693.desc, 1, 8, false, t693.zero, [], true, t693.methods⟩
theorem ty693_ok : tyOf prog 693 = some ty693 := by kernel_rfl
noncomputable def ty694 : Ty := ⟨t694.desc, 1, 8, false, t694.zero, [], true, t694.methods⟩
theorem ty694_ok : tyOf prog 694 = some ty694 := by kernel_rfl
noncomputable def ty695 : Ty := ⟨t695.desc, 1, 8, false, t695.zero, [], true, t695.methods⟩
theorem ty695_ok : tyOf prog 695 = some ty695 := by kernel_rfl
noncomputable def ty696 : Ty := ⟨t696.desc, 1, 8, false, t696.zero, [], true, t696.methods⟩
theorem ty696_ok : tyOf prog 696 = some ty696 := by kernel_rfl
noncomputable def ty697 : Ty := ⟨t697.desc, 1, 8, false, t697.zero, [], true, t697.methods⟩
theorem ty697_ok : tyOf prog 697 = some ty697 := by kernel_rfl
noncomputable def ty698 : Ty := ⟨t698.desc, 1, 8, false, t698.zero, [], true, t698.methods⟩
theorem ty698_ok : tyOf prog 698 = some ty698 := by kernel_rfl
noncomputable def ty699 : Ty := ⟨t699.desc, 1, 8, false, t699.zero, [], true, t699.methods⟩
theorem ty699_ok : tyOf prog 699 = some ty699 := by kernel_rfl
noncomputable def ty700 : Ty := ⟨t700.desc, 1, 8, false, t700.zero, [], true, t700.methods⟩
theorem ty700_ok : tyOf prog 700 = some ty700 := by kernel_rfl
noncomputable def ty701 : Ty := ⟨t701.desc, 1, 8, false, t701.zero, [], true, t701.methods⟩
theorem ty701_ok : tyOf prog 701 = some ty701 := by kernel_rfl
noncomputable def ty702 : Ty := ⟨t702.desc, 1, 8, false, t702.zero, [], true, t702.methods⟩
theorem ty702_ok : tyOf prog 702 = some ty702 := by kernel_rfl
noncomputable def ty703 : Ty := ⟨t703.desc, 1, 8, false, t703.zero, [], true, t703.methods⟩
theorem ty703_ok : tyOf prog 703 = some ty703 := by kernel_rfl
noncomputable def ty704 : Ty := ⟨t704.desc, 1, 8, false, t704.zero, [], true, t704.methods⟩
theorem ty704_ok : tyOf prog 704 = some ty704 := by kernel_rfl
noncomputable def ty705 : Ty := ⟨t705.desc, 1, 8, false, t705.zero, [], true, t705.methods⟩
theorem ty705_ok : tyOf prog 705 = some ty705 := by kernel_rfl
noncomputable def ty706 : Ty := ⟨t706.desc, 1, 8, false, t706.zero, [], true, t706.methods⟩
theorem ty706_ok : tyOf prog 706 = some ty706 := by kernel_rfl
noncomputable def ty707 : Ty := ⟨t707.desc, 1, 24, false, t707.zero, [], true, t707.methods⟩
theorem ty707_ok : tyOf prog 707 = some ty707 := by kernel_rfl
noncomputable def ty708 : Ty := ⟨t708.desc, 1, 8, false, t708.zero, [], true, t708.methods⟩
theorem ty708_ok : tyOf prog 708 = some ty708 := by kernel_rfl
noncomputable def ty709 : Ty := ⟨t709.desc, 1, 8, false, t709.zero, [], true, t709.methods⟩
theorem ty709_ok : tyOf prog 709 = some ty709 := by kernel_rfl
noncomputable def ty710 : Ty := ⟨t710.desc, 1, 8, false, t710.zero, [], true, t710.methods⟩
theorem ty710_ok : tyOf prog 710 = some ty710 := by kernel_rfl
noncomputable def ty711 : Ty := ⟨t711.desc, 1, 8, false, t711.zero, [], true, t711.methods⟩
theorem ty711_ok : tyOf prog 711 = some ty711 := by kernel_rfl
noncomputable def ty712 : Ty := ⟨t712.desc, 1, 8, false, t712.zero, [], true, t712.methods⟩
theorem ty712_ok : tyOf prog 712 = some ty712 := by kernel_rfl
noncomputable def ty713 : Ty := ⟨t713.desc, 1, 8, false, t713.zero, [], true, t713.methods⟩
theorem ty713_ok : tyOf prog 713 = some ty713 := by kernel_rfl
noncomputable def ty714 : Ty := ⟨t714.desc, 1, 8, false, t714.zero, [], true, t714.methods⟩
theorem ty714_ok : tyOf prog 714 = some ty714 := by kernel_rfl
noncomputable def ty715 : Ty := ⟨t715.desc, 1, 8, false, t715.zero, [], true, t715.methods⟩
theorem ty715_ok : tyOf prog 715 = some ty715 := by kernel_rfl
noncomputable def ty716 : Ty := ⟨t716.desc, 1, 8, false, t716.zero, [], true, t716.methods⟩
theorem ty716_ok : tyOf prog 716 = some ty716 := by kernel_rfl
noncomputable def ty717 : Ty := ⟨t717.desc, 1, 8, false, t717.zero, [], true, t717.methods⟩
theorem ty717_ok : tyOf prog 717 = some ty717 := by kernel_rfl
noncomputable def ty718 : Ty := ⟨t718.desc, 1, 8, false, t718.zero, [], true, t718.methods⟩
theorem ty718_ok : tyOf prog 718 = some ty718 := by kernel_rfl
noncomputable def ty719 : Ty := ⟨t719.desc, 1, 8, false, t719.zero, [], true, t719.methods⟩
theorem ty719_ok : tyOf prog 719 = some ty719 := by kernel_rfl
noncomputable def ty720 : Ty := ⟨t720.desc, 1, 8, false, t720.zero, [], true, t720.methods⟩
theorem ty720_ok : tyOf prog 720 = some ty720 := by kernel_rfl
noncomputable def ty721 : Ty := ⟨t721.desc, 1, 8, false, t721.zero, [], true, t721.methods⟩
theorem ty721_ok : tyOf prog 721 = some ty721 := by kernel_rfl
noncomputable def ty722 : Ty := ⟨t722.desc, 1, 8, false, t722.zero, [], true, t722.methods⟩
theorem ty722_ok : tyOf prog 722 = some ty722 := by kernel_rfl
noncomputable def ty723 : Ty := ⟨t723.desc, 1, 8, false, t723.zero, [], true, t723.methods⟩
theorem ty723_ok : tyOf prog 723 = some ty723 := by kernel_rfl
noncomputable def ty724 : Ty := ⟨t724.desc, 1, 8, false, t724.zero, [], true, t724.methods⟩
theorem ty724_ok : tyOf prog 724 = some ty724 := by kernel_rfl
noncomputable def ty725 : Ty := ⟨t725.desc, 1, 8, false, t725.zero, [], true, t725.methods⟩
theorem ty725_ok : tyOf prog 725 = some ty725 := by kernel_rfl
noncomputable def ty726 : Ty := ⟨t726.desc, 1, 8, false, t726.zero, [], true, t726.methods⟩
theorem ty726_ok : tyOf prog 726 = some ty726 := by kernel_rfl
noncomputable def ty727 : Ty := ⟨t727.desc, 1, 8, false, t727.zero, [], true, t727.methods⟩
theorem ty727_ok : tyOf prog 727 = some ty727 := by kernel_rfl
noncomputable def ty728 : Ty := ⟨t728.desc, 1, 8, false, t728.zero, [], true, t728.methods⟩
theorem ty728_ok : tyOf prog 728 = some ty728 := by kernel_rfl
noncomputable def ty729 : Ty := ⟨t729.desc, 4, 40, true, t729.zero, [(0, 1), (1, 1), (2, 1), (3, 1)], false, t729.methods⟩
theorem ty729_ok : tyOf prog 729 = some ty729 := by kernel_rfl
noncomputable def ty730 : Ty := ⟨t729.desc, 4, 40, true, t730.zero, [(0, 1), (1, 1), (2, 1), (3, 1)], false, t730.methods⟩
theorem ty730_ok : tyOf prog 730 = some ty730 := by kernel_rfl
noncomputable def ty731 : Ty := ⟨t731.desc, 0, 0, true, t731.zero, [], true, t731.methods⟩
theorem ty731_ok : tyOf prog 731 = some ty731 := by kernel_rfl
noncomputable def ty732 : Ty := ⟨t732.desc, 0, 0, true, t732.zero, [(0, 0)], false, t732.methods⟩
theorem ty732_ok : tyOf prog 732 = some ty732 := by kernel_rfl
noncomputable def ty733 : Ty := ⟨t732.desc, 0, 0, true, t733.zero, [(0, 0)], false, t733.methods⟩
theorem ty733_ok : tyOf prog 733 = some ty733 := by kernel_rfl
noncomputable def ty734 : Ty := ⟨t5.desc, 1, 1, false, t734.zero, [], true, t734.methods⟩
theorem ty734_ok : tyOf prog 734 = some ty734 := by kernel_rfl
noncomputable def ty735 : Ty := ⟨t5.desc, 1, 1, false, t735.zero, [], true, t735.methods⟩
theorem ty735_ok : tyOf prog 735 = some ty735 := by kernel_rfl
noncomputable def ty736 : Ty := ⟨t736.desc, 1, 8, false, t736.zero, [], true, t736.methods⟩
theorem ty736_ok : tyOf prog 736 = some ty736 := by kernel_rfl
noncomputable def ty737 : Ty := ⟨t21.desc, 1, 4, false, t737.zero, [], true, t737.methods⟩
theorem ty737_ok : tyOf prog 737 = some ty737 := by kernel_rfl
noncomputable def ty738 : Ty := ⟨t21.desc, 1, 4, false, t738.zero, [], true, t738.methods⟩
theorem ty738_ok : tyOf prog 738 = some ty738 := by kernel_rfl
noncomputable def ty739 : Ty := ⟨t739.desc, 11, 48, true, t739.zero, [(0, 1), (1, 1), (2, 1), (3, 1), (4, 1), (5, 1), (6, 1), (7, 1), (8, 1), (9, 1), (10, 1)], false, t739.methods⟩
theorem ty739_ok : tyOf prog 739 = some ty739 := by kernel_rfl
noncomputable def ty740 : Ty := ⟨t739.desc, 11, 48, true, t740.zero, [(0, 1), (1, 1), (2, 1), (3, 1), (4, 1), (5, 1), (6, 1), (7, 1), (8, 1), (9, 1), (10, 1)], false, t740.methods⟩
theorem ty740_ok : tyOf prog 740 = some ty740 := by kernel_rfl
noncomputable def ty741 : Ty := ⟨t741.desc, 1, 0, false, t741.zero, [], true, t741.methods⟩
theorem ty741_ok : tyOf prog 741 = some ty741 := by kernel_rfl
noncomputable def T : Tr Ty := (.nd (.nd (.nd (.nd (.nd (.nd (.nd (.nd (.nd (.nd .lf (some ty511) .lf) (some ty255) .lf) (some ty127) (.nd (.nd .lf (some ty639) .lf) (some ty383) .lf)) (some ty63) (.nd (.nd (.nd .lf (some ty575) .lf) (some ty319) .lf) (some ty191) (.nd (.nd .lf (some ty703) .lf) (some ty447) .lf))) (some ty31) (.nd (.nd (.nd (.nd .lf (some ty543) .lf) (some ty287) .lf) (some ty159) (.nd (.nd .lf (some ty671) .lf) (some ty415) .lf)) (some ty95) (.nd (.nd (.nd .lf (some ty607) .lf) (some ty351) .lf) (some ty223) (.nd (.nd .lf (some ty735) .lf) (some ty479) .lf)))) (some ty15) (.nd (.nd (.nd (.nd (.nd .lf (some ty527) .lf) (some ty271) .lf) (some ty143) (.nd (.nd .lf (some ty655) .lf) (some ty399) .lf)) (some ty79) (.nd (.nd (.nd .lf (some ty591) .lf) (some ty335) .lf) (some ty207) (.nd (.nd .lf (some ty719) .lf) (some ty463) .lf))) (some ty47) (.nd (.nd (.nd (.nd .lf (some ty559) .lf) (some ty303) .lf) (some ty175) (.nd (.nd .lf (some ty687) .lf) (some ty431) .lf)) (some ty111) (.nd (.nd (.nd .lf (some ty623) .lf) (some ty367) .lf) (some ty239) (.nd .lf (some ty495) .lf))))) (some ty7) (.nd (.nd (.nd (.nd (.nd (.nd .lf (some ty519) .lf) (some ty263) .lf) (some ty135) (.nd (.nd .lf (some ty647) .lf) (some ty391) .lf)) (some ty71) (.nd (.nd (.nd .lf (some ty583) .lf) (some ty327) .lf) (some ty199) (.nd (.nd .lf (some ty711) .lf) (some ty455) .lf))) (some ty39) (.nd (.nd (.nd (.nd .lf (some ty551) .lf) (some ty295) .lf) (some ty167) (.nd (.nd .lf (some ty679) .lf) (some ty423) .lf)) (some ty103) (.nd (.nd (.nd .lf (some ty615) .lf) (some ty359) .lf) (some ty231) (.nd .lf (some ty487) .lf)))) (some ty23) (.nd (.nd (.nd (.nd (.nd .lf (some ty535) .lf) (some ty279) .lf) (some ty151) (.nd (.nd .lf (some ty663) .lf) (some ty407) .lf)) (some ty87) (.nd (.nd (.nd .lf (some ty599) .lf) (some ty343) .lf) (some ty215) (.nd (.nd .lf (some ty727) .lf) (some ty471) .lf))) (some ty55) (.nd (.nd (.nd (.nd .lf (some ty567) .lf) (some ty311) .lf) (some ty183) (.nd (.nd .lf (some ty695) .lf) (some ty439) .lf)) (some ty119) (.nd (.nd (.nd .lf (some ty631) .lf) (some ty375) .lf) (some ty247) (.nd .lf (some ty503) .lf)))))) (some ty3) (.nd (.nd (.nd (.nd (.nd (.nd (.nd .lf (some ty515) .lf) (some ty259) .lf) (some ty131) (.nd (.nd .lf (some ty643) .lf) (some ty387) .lf)) (some ty67) (.nd (.nd (.nd .lf (some ty579) .lf) (some ty323) .lf) (some ty195) (.nd (.nd .lf (some ty707) .lf) (some ty451) .lf))) (some ty35) (.nd (.nd (.nd (.nd .lf (some ty547) .lf) (some ty291) .lf) (some ty163) (.nd (.nd .lf (some ty675) .lf) (some ty419) .lf)) (some ty99) (.nd (.nd (.nd .lf (some ty611) .lf) (some ty355) .lf) (some ty227) (.nd (.nd .lf (some ty739) .lf) (some ty483) .lf)))) (some ty19) (.nd (.nd (.nd (.nd (.nd .lf (some ty531) .lf) (some ty275) .lf) (some ty147) (.nd (.nd .lf (some ty659) .lf) (some ty403) .lf)) (some ty83) (.nd (.nd (.nd .lf (some ty595) .lf) (some ty339) .lf) (some ty211) (.nd (.nd .lf (some ty723) .lf) (some ty467) .lf))) (some ty51) (.nd (.nd (.nd (.nd .lf (some ty563) .lf) (some ty307) .lf) (some ty179) (.nd (.nd .lf (some ty691) .lf) (some ty435) .lf)) (some ty115) (.nd (.nd (.nd .lf (some ty627) .lf) (some ty371) .lf) (some ty243) (.nd .lf (some ty499) .lf))))) (some ty11) (.nd (.nd (.nd (.nd (.nd (.nd .lf (some ty523) .lf) (some ty267) .lf) (some ty139) (.nd (.nd .lf (some ty651) .lf) (some ty395) .lf)) (some ty75) (.nd (.nd (.nd .lf (some ty587) .lf) (some ty331) .lf) (some ty203) (.nd (.nd .lf (some ty715) .lf) (some ty459) .lf))) (some ty43) (.nd (.nd (.nd (.nd .lf (some ty555) .lf) (some ty299) .lf) (some ty171) (.nd (.nd .lf (some ty683) .lf) (some ty427) .lf)) (some ty107) (.nd (.nd (.nd .lf (some ty619) .lf) (some ty363) .lf) (some ty235) (.nd .lf (some ty491) .lf)))) (some ty27) (.nd (.nd (.nd (.nd (.nd .lf (some ty539) .lf) (some ty283) .lf) (some ty155) (.nd (.nd .lf (some ty667) .lf) (some ty411) .lf)) (some ty91) (.nd (.nd (.nd .lf (some ty603) .lf) (some ty347) .lf) (some ty219) (.nd (.nd .lf (some ty731) .lf) (some ty475) .lf))) (some ty59) (.nd (.nd (.nd (.nd .lf (some ty571) .lf) (some ty315) .lf) (some ty187) (.nd (.nd .lf (some ty699) .lf) (some ty443) .lf)) (some ty123) (.nd (.nd (.nd .lf (some ty635) .lf) (some ty379) .lf) (some ty251) (.nd .lf (some ty507) .lf))))))) (some ty1) (.nd (.nd (.nd (.nd (.nd (.nd (.nd (.nd .lf (some ty513) .lf) (some ty257) .lf) (some ty129) (.nd (.nd .lf (some ty641) .lf) (some ty385) .lf)) (some ty65) (.nd (.nd (.nd .lf (some ty577) .lf) (some ty321) .lf) (some ty193) (.nd (.nd .lf (some ty705) .lf) (some ty449) .lf))) (some ty33) (.nd (.nd (.nd (.nd .lf (some ty545) .lf) (some ty289) .lf) (some ty161) (.nd (.nd .lf (some ty673) .lf) (some ty417) .lf)) (some ty97) (.nd (.nd (.nd .lf (some ty609) .lf) (some ty353) .lf) (some ty225) (.nd (.nd .lf (some ty737) .lf) (some ty481) .lf)))) (some ty17) (.nd (.nd (.nd (.nd (.nd .lf (some ty529) .lf) (some ty273) .lf) (some ty145) (.nd (.nd .lf (some ty657) .lf) (some ty401) .lf)) (some ty81) (.nd (.nd (.nd .lf (some ty593) .lf) (some ty337) .lf) (some ty209) (.nd (.nd .lf (some ty721) .lf) (some ty465) .lf))) (some ty49) (.nd (.nd (.nd (.nd .lf (some ty561) .lf) (some ty305) .lf) (some ty177) (.nd (.nd .lf (some ty689) .lf) (some ty433) .lf)) (some ty113) (.nd (.nd (.nd .lf (some ty625) .lf) (some ty369) .lf) (some ty241) (.nd .lf (some ty497) .lf))))) (some ty9) (.nd (.nd (.nd (.nd (.nd (.nd .lf (some ty521) .lf) (some ty265) .lf) (some ty137) (.nd (.nd .lf (some ty649) .lf) (some ty393) .lf)) (some ty73) (.nd (.nd (.nd .lf (some ty585) .lf) (some ty329) .lf) (some ty201) (.nd (.nd .lf (some ty713) .lf) (some ty457) .lf))) (some ty41) (.nd (.nd (.nd (.nd .lf (some ty553) .lf) (some ty297) .lf) (some ty169) (.nd (.nd .lf (some ty681) .lf) (some ty425) .lf)) (some ty105) (.nd (.nd (.nd .lf (some ty617) .lf) (some ty361) .lf) (some ty233) (.nd .lf (some ty489) .lf)))) (some ty25) (.nd (.nd (.nd (.nd (.nd .lf (some ty537) .lf) (some ty281) .lf) (some ty153) (.nd (.nd .lf (some ty665) .lf) (some ty409) .lf)) (some ty89) (.nd (.nd (.nd .lf (some ty601) .lf) (some ty345) .lf) (some ty217) (.nd (.nd .lf (some ty729) .lf) (some ty473) .lf))) (some ty57) (.nd (.nd (.nd (.nd .lf (some ty569) .lf) (some ty313) .lf) (some ty185) (.nd (.nd .lf (some ty697) .lf) (some ty441) .lf)) (some ty121) (.nd (.nd (.nd .lf (some ty633) .lf) (some ty377) .lf) (some ty249) (.nd .lf (some ty505) .lf)))))) (some ty5) (.nd (.nd (.nd (.nd (.nd (.nd (.nd .lf (some ty517) .lf) (some ty261) .lf) (some ty133) (.nd (.nd .lf (some ty645) .lf) (some ty389) .lf)) (some ty69) (.nd (.nd (.nd .lf (some ty581) .lf) (some ty325) .lf) (some ty197) (.nd (.nd .lf (some ty709) .lf) (some ty453) .lf))) (some ty37) (.nd (.nd (.nd (.nd .lf (some ty549) .lf) (some ty293) .lf) (some ty165) (.nd (.nd .lf (some ty677) .lf) (some ty421) .lf)) (some ty101) (.nd (.nd (.nd .lf (some ty613) .lf) (some ty357) .lf) (some ty229) (.nd (.nd .lf (some ty741) .lf) (some ty485) .lf)))) (some ty21) (.nd (.nd (.nd (.nd (.nd .lf (some ty533) .lf) (some ty277) .lf) (some ty149) (.nd (.nd .lf (some ty661) .lf) (some ty405) .lf)) (some ty85) (.nd (.nd (.nd .lf (some ty597) .lf) (some ty341) .lf) (some ty213) (.nd (.nd .lf (some ty725) .lf) (some ty469) .lf))) (some ty53) (.nd (.nd (.nd (.nd .lf (some ty565) .lf) (some ty309) .lf) (some ty181) (.nd (.nd .lf (some ty693) .lf) (some ty437) .lf)) (some ty117) (.nd (.nd (.nd .lf (some ty629) .lf) (some ty373) .lf) (some ty245) (.nd .lf (some ty501) .lf))))) (some ty13) (.nd (.nd (.nd (.nd (.nd (.nd .lf (some ty525) .lf) (some ty269) .lf) (some ty141) (.nd (.nd .lf (some ty653) .lf) (some ty397) .lf)) (some ty77) (.nd (.nd (.nd .lf (some ty589) .lf) (some ty333) .lf) (some ty205) (.nd (.nd .lf (some ty717) .lf) (some ty461) .lf))) (some ty45) (.nd (.nd (.nd (.nd .lf (some ty557) .lf) (some ty301) .lf) (some ty173) (.nd (.nd .lf (some ty685) .lf) (some ty429) .lf)) (some ty109) (.nd (.nd (.nd .lf (some ty621) .lf) (some ty365) .lf) (some ty237) (.nd .lf (some ty493) .lf)))) (some ty29) (.nd (.nd (.nd (.nd (.nd .lf (some ty541) .lf) (some ty285) .lf) (some ty157) (.nd (.nd .lf (some ty669) .lf) (some ty413) .lf)) (some ty93) (.nd (.nd (.nd .lf (some ty605) .lf) (some ty349) .lf) (some ty221) (.nd (.nd .lf (some ty733) .lf) (some ty477) .lf))) (some ty61) (.nd (.nd (.nd (.nd .lf (some ty573) .lf) (some ty317) .lf) (some ty189) (.nd (.nd .lf (some ty701) .lf) (some ty445) .lf)) (some ty125) (.nd (.nd (.nd .lf (some ty637) .lf) (some ty381) .lf) (some ty253) (.nd .lf (some ty509) .lf)))))))) (some ty0) (.nd (.nd (.nd (.nd (.nd (.nd (.nd (.nd (.nd .lf (some ty512) .lf) (some ty256) .lf) (some ty128) (.nd (.nd .lf (some ty640) .lf) (some ty384) .lf)) (some ty64) (.nd (.nd (.nd .lf (some ty576) .lf) (some ty320) .lf) (some ty192) (.nd (.nd .lf (some ty704) .lf) (some ty448) .lf))) (some ty32) (.nd (.nd (.nd (.nd .lf (some ty544) .lf) (some ty288) .lf) (some ty160) (.nd (.nd .lf (some ty672) .lf) (some ty416) .lf)) (some ty96) (.nd (.nd (.nd .lf (some ty608) .lf) (some ty352) .lf) (some ty224) (.nd (.nd .lf (some ty736) .lf) (some ty480) .lf)))) (some ty16) (.nd (.nd (.nd (.nd (.nd .lf (some ty528) .lf) (some ty272) .lf) (some ty144) (.nd (.nd .lf (some ty656) .lf) (some ty400) .lf)) (some ty80) (.nd (.nd (.nd .lf (some ty592) .lf) (some ty336) .lf) (some ty208) (.nd (.nd .lf (some ty720) .lf) (some ty464) .lf))) (some ty48) (.nd (.nd (.nd (.nd .lf (some ty560) .lf) (some ty304) .lf) (some ty176) (.nd (.nd .lf (some ty688) .lf) (some ty432) .lf)) (some ty112) (.nd (.nd (.nd .lf (some ty624) .lf) (some ty368) .lf) (some ty240) (.nd .lf (some ty496) .lf))))) (some ty8) (.nd (.nd (.nd (.nd (.nd (.nd .lf (some ty520) .lf) (some ty264) .lf) (some ty136) (.nd (.nd .lf (some ty648) .lf) (some ty392) .lf)) (some ty72) (.nd (.nd (.nd .lf (some ty584) .lf) (some ty328) .lf) (some ty200) (.nd (.nd .lf (some ty712) .lf) (some ty456) .lf))) (some ty40) (.nd (.nd (.nd (.nd .lf (some ty552) .lf) (some ty296) .lf) (some ty168) (.nd (.nd .lf (some ty680) .lf) (some ty424) .lf)) (some ty104) (.nd (.nd (.nd .lf (some ty616) .lf) (some ty360) .lf) (some ty232) (.nd .lf (some ty488) .lf)))) (some ty24) (.nd (.nd (.nd (.nd (.nd .lf (some ty536) .lf) (some ty280) .lf) (some ty152) (.nd (.nd .lf (some ty664) .lf) (some ty408) .lf)) (some ty88) (.nd (.nd (.nd .lf (some ty600) .lf) (some ty344) .lf) (some ty216) (.nd (.nd .lf (some ty728) .lf) (some ty472) .lf))) (some ty56) (.nd (.nd (.nd (.nd .lf (some ty568) .lf) (some ty312) .lf) (some ty184) (.nd (.nd .lf (some ty696) .lf) (some ty440) .lf)) (some ty120) (.nd (.nd (.nd .lf (some ty632) .lf) (some ty376) .lf) (some ty248) (.nd .lf (some ty504) .lf)))))) (some ty4) (.nd (.nd (.nd (.nd (.nd (.nd (.nd .lf (some ty516) .lf) (some ty260) .lf) (some ty132) (.nd (.nd .lf (some ty644) .lf) (some ty388) .lf)) (some ty68) (.nd (.nd (.nd .lf (some ty580) .lf) (some ty324) .lf) (some ty196) (.nd (.nd .lf (some ty708) .lf) (some ty452) .lf))) (some ty36) (.nd (.nd (.nd (.nd .lf (some ty548) .lf) (some ty292) .lf) (some ty164) (.nd (.nd .lf (some ty676) .lf) (some ty420) .lf)) (some ty100) (.nd (.nd (.nd .lf (some ty612) .lf) (some ty356) .lf) (some ty228) (.nd (.nd .lf (some ty740) .lf) (some ty484) .lf)))) (some ty20) (.nd (.nd (.nd (.nd (.nd .lf (some ty532) .lf) (some ty276) .lf) (some ty148) (.nd (.nd .lf (some ty660) .lf) (some ty404) .lf)) (some ty84) (.nd (.nd (.nd .lf (some ty596) .lf) (some ty340) .lf) (some ty212) (.nd (.nd .lf (some ty724) .lf) (some ty468) .lf))) (some ty52) (.nd (.nd (.nd (.nd .lf (some ty564) .lf) (some ty308) .lf) (some ty180) (.nd (.nd .lf (some ty692) .lf) (some ty436) .lf)) (some ty116) (.nd (.nd (.nd .lf (some ty628) .lf) (some ty372) .lf) (some ty244) (.nd .lf (some ty500) .lf))))) (some ty12) (.nd (.nd (.nd (.nd (.nd (.nd .lf (some ty524) .lf) (some ty268) .lf) (some ty140) (.nd (.nd .lf (some ty652) .lf) (some ty396) .lf)) (some ty76) (.nd (.nd (.nd .lf (some ty588) .lf) (some ty332) .lf) (some ty204) (.nd (.nd .lf (some ty716) .lf) (some ty460) .lf))) (some ty44) (.nd (.nd (.nd (.nd .lf (some ty556) .lf) (some ty300) .lf) (some ty172) (.nd (.nd .lf (some ty684) .lf) (some ty428) .lf)) (some ty108) (.nd (.nd (.nd .lf (some ty620) .lf) (some ty364) .lf) (some ty236) (.nd .lf (some ty492) .lf)))) (some ty28) (.nd (.nd (.nd (.nd (.nd .lf (some ty540) .lf) (some ty284) .lf) (some ty156) (.nd (.nd .lf (some ty668) .lf) (some ty412) .lf)) (some ty92) (.nd (.nd (.nd .lf (some ty604) .lf) (some ty348) .lf) (some ty220) (.nd (.nd .lf (some ty732) .lf) (some ty476) .lf))) (some ty60) (.nd (.nd (.nd (.nd .lf (some ty572) .lf) (some ty316) .lf) (some ty188) (.nd (.nd .lf (some ty700) .lf) (some ty444) .lf)) (some ty124) (.nd (.nd (.nd .lf (some ty636) .lf) (some ty380) .lf) (some ty252) (.nd .lf (some ty508) .lf))))))) (some ty2) (.nd (.nd (.nd (.nd (.nd (.nd (.nd (.nd .lf (some ty514) .lf) (some ty258) .lf) (some ty130) (.nd (.nd .lf (some ty642) .lf) (some ty386) .lf)) (some ty66) (.nd (.nd (.nd .lf (some ty578) .lf) (some ty322) .lf) (some ty194) (.nd (.nd .lf (some ty706) .lf) (some ty450) .lf))) (some ty34) (.nd (.nd (.nd (.nd .lf (some ty546) .lf) (some ty290) .lf) (some ty162) (.nd (.nd .lf (some ty674) .lf) (some ty418) .lf)) (some ty98) (.nd (.nd (.nd .lf (some ty610) .lf) (some ty354) .lf) (some ty226) (.nd (.nd .lf (some ty738) .lf) (some ty482) .lf)))) (some ty18) (.nd (.nd (.nd (.nd (.nd .lf (some ty530) .lf) (some ty274) .lf) (some ty146) (.nd (.nd .lf (some ty658) .lf) (some ty402) .lf)) (some ty82) (.nd (.nd (.nd .lf (some ty594) .lf) (some ty338) .lf) (some ty210) (.nd (.nd .lf (some ty722) .lf) (some ty466) .lf))) (some ty50) (.nd (.nd (.nd (.nd .lf (some ty562) .lf) (some ty306) .lf) (some ty178) (.nd (.nd .lf (some ty690) .lf) (some ty434) .lf)) (some ty114) (.nd (.nd (.nd .lf (some ty626) .lf) (some ty370) .lf) (some ty242) (.nd .lf (some ty498) .lf))))) (some ty10) (.nd (.nd (.nd (.nd (.nd (.nd .lf (some ty522) .lf) (some ty266) .lf) (some ty138) (.nd (.nd .lf (some ty650) .lf) (some ty394) .lf)) (some ty74) (.nd (.nd (.nd .lf (some ty586) .lf) (some ty330) .lf) (some ty202) (.nd (.nd .lf (some ty714) .lf) (some ty458) .lf))) (some ty42) (.nd (.nd (.nd (.nd .lf (some ty554) .lf) (some ty298) .lf) (some ty170) (.nd (.nd .lf (some ty682) .lf) (some ty426) .lf)) (some ty106) (.nd (.nd (.nd .lf (some ty618) .lf) (some ty362) .lf) (some ty234) (.nd .lf (some ty490) .lf)))) (some ty26) (.nd (.nd (.nd (.nd (.nd .lf (some ty538) .lf) (some ty282) .lf) (some ty154) (.nd (.nd .lf (some ty666) .lf) (some ty410) .lf)) (some ty90) (.nd (.nd (.nd .lf (some ty602) .lf) (some ty346) .lf) (some ty218) (.nd (.nd .lf (some ty730) .lf) (some ty474) .lf))) (some ty58) (.nd (.nd (.nd (.nd .lf (some ty570) .lf) (some ty314) .lf) (some ty186) (.nd (.nd .lf (some ty698) .lf) (some ty442) .lf)) (some ty122) (.nd (.nd (.nd .lf (some ty634) .lf) (some ty378) .lf) (some ty250) (.nd .lf (some ty506) .lf)))))) (some ty6) (.nd (.nd (.nd (.nd (.nd (.nd (.nd .lf (some ty518) .lf) (some ty262) .lf) (some ty134) (.nd (.nd .lf (some ty646) .lf) (some ty390) .lf)) (some ty70) (.nd (.nd (.nd .lf (some ty582) .lf) (some ty326) .lf) (some ty198) (.nd (.nd .lf (some ty710) .lf) (some ty454) .lf))) (some ty38) (.nd (.nd (.nd (.nd .lf (some ty550) .lf) (some ty294) .lf) (some ty166) (.nd (.nd .lf (some ty678) .lf) (some ty422) .lf)) (some ty102) (.nd (.nd (.nd .lf (some ty614) .lf) (some ty358) .lf) (some ty230) (.nd .lf (some ty486) .lf)))) (some ty22) (.nd (.nd (.nd (.nd (.nd .lf (some ty534) .lf) (some ty278) .lf) (some ty150) (.nd (.nd .lf (some ty662) .lf) (some ty406) .lf)) (some ty86) (.nd (.nd (.nd .lf (some ty598) .lf) (some ty342) .lf) (some ty214) (.nd (.nd .lf (some ty726) .lf) (some ty470) .lf))) (some ty54) (.nd (.nd (.nd (.nd .lf (some ty566) .lf) (some ty310) .lf) (some ty182) (.nd (.nd .lf (some ty694) .lf) (some ty438) .lf)) (some ty118) (.nd (.nd (.nd .lf (some ty630) .lf) (some ty374) .lf) (some ty246) (.nd .lf (some ty502) .lf))))) (some ty14) (.nd (.nd (.nd (.nd (.nd (.nd .lf (some ty526) .lf) (some ty270) .lf) (some ty142) (.nd (.nd .lf (some ty654) .lf) (some ty398) .lf)) (some ty78) (.nd (.nd (.nd .lf (some ty590) .lf) (some ty334) .lf) (some ty206) (.nd (.nd .lf (some ty718) .lf) (some ty462) .lf))) (some ty46) (.nd (.nd (.nd (.nd .lf (some ty558) .lf) (some ty302) .lf) (some ty174) (.nd (.nd .lf (some ty686) .lf) (some ty430) .lf)) (some ty110) (.nd (.nd (.nd .lf (some ty622) .lf) (some ty366) .lf) (some ty238) (.nd .lf (some ty494) .lf)))) (some ty30) (.nd (.nd (.nd (.nd (.nd .lf (some ty542) .lf) (some ty286) .lf) (some ty158) (.nd (.nd .lf (some ty670) .lf) (some ty414) .lf)) (some ty94) (.nd (.nd (.nd .lf (some ty606) .lf) (some ty350) .lf) (some ty222) (.nd (.nd .lf (some ty734) .lf) (some ty478) .lf))) (some ty62) (.nd (.nd (.nd (.nd .lf (some ty574) .lf) (some ty318) .lf) (some ty190) (.nd (.nd .lf (some ty702) .lf) (some ty446) .lf)) (some ty126) (.nd (.nd (.nd .lf (some ty638) .lf) (some ty382) .lf) (some ty254) (.nd .lf (some ty510) .lf)))))))))
noncomputable def F : Tr Func := (.nd (.nd (.nd (.nd (.nd (.nd (.nd (.nd (.nd (.nd .lf (some f511) .lf) (some f255) .lf) (some f127) (.nd (.nd .lf (some f639) .lf) (some f383) .lf)) (some f63) (.nd (.nd (.nd .lf (some f575) .lf) (some f319) .lf) (some f191) (.nd .lf (some f447) .lf))) (some f31) (.nd (.nd (.nd (.nd .lf (some f543) .lf) (some f287) .lf) (some f159) (.nd .lf (some f415) .lf)) (some f95) (.nd (.nd (.nd .lf (some f607) .lf) (some f351) .lf) (some f223) (.nd .lf (some f479) .lf)))) (some f15) (.nd (.nd (.nd (.nd (.nd .lf (some f527) .lf) (some f271) .lf) (some f143) (.nd (.nd .lf (some f655) .lf) (some f399) .lf)) (some f79) (.nd (.nd (.nd .lf (some f591) .lf) (some f335) .lf) (some f207) (.nd .lf (some f463) .lf))) (some f47) (.nd (.nd (.nd (.nd .lf (some f559) .lf) (some f303) .lf) (some f175) (.nd .lf (some f431) .lf)) (some f111) (.nd (.nd (.nd .lf (some f623) .lf) (some f367) .lf) (some f239) (.nd .lf (some f495) .lf))))) (some f7) (.nd (.nd (.nd (.nd (.nd (.nd .lf (some f519) .lf) (some f263) .lf) (some f135) (.nd (.nd .lf (some f647) .lf) (some f391) .lf)) (some f71) (.nd (.nd (.nd .lf (some f583) .lf) (some f327) .lf) (some f199) (.nd .lf (some f455) .lf))) (some f39) (.nd (.nd (.nd (.nd .lf (some f551) .lf) (some f295) .lf) (some f167) (.nd .lf (some f423) .lf)) (some f103) (.nd (.nd (.nd .lf (some f615) .lf) (some f359) .lf) (some f231) (.nd .lf (some f487) .lf)))) (some f23) (.nd (.nd (.nd (.nd (.nd .lf (some f535) .lf) (some f279) .lf) (some f151) (.nd (.nd .lf (some f663) .lf) (some f407) .lf)) none (.nd (.nd (.nd .lf (some f599) .lf) (some f343) .lf) (some f215) (.nd .lf (some f471) .lf))) (some f55) (.nd (.nd (.nd (.nd .lf (some f567) .lf) (some f311) .lf) (some f183) (.nd (.nd .lf (some f695) .lf) (some f439) .lf)) (some f119) (.nd (.nd (.nd .lf (some f631) .lf) (some f375) .lf) (some f247) (.nd .lf (some f503) .lf)))))) (some f3) (.nd (.nd (.nd (.nd (.nd (.nd (.nd .lf (some f515) .lf) (some f259) .lf) (some f131) (.nd (.nd .lf (some f643) .lf) (some f387) .lf)) (some f67) (.nd (.nd (.nd .lf (some f579) .lf) (some f323) .lf) (some f195) (.nd .lf (some f451) .lf))) (some f35) (.nd (.nd (.nd (.nd .lf (some f547) .lf) (some f291) .lf) none (.nd .lf (some f419) .lf)) (some f99) (.nd (.nd (.nd .lf (some f611) .lf) (some f355) .lf) (some f227) (.nd .lf (some f483) .lf)))) (some f19) (.nd (.nd (.nd (.nd (.nd .lf (some f531) .lf) (some f275) .lf) (some f147) (.nd (.nd .lf (some f659) .lf) (some f403) .lf)) (some f83) (.nd (.nd (.nd .lf (some f595) .lf) (some f339) .lf) (some f211) (.nd .lf (some f467) .lf))) (some f51) (.nd (.nd (.nd (.nd .lf (some f563) .lf) (some f307) .lf) (some f179) (.nd (.nd .lf (some f691) .lf) (some f435) .lf)) (some f115) (.nd (.nd (.nd .lf (some f627) .lf) (some f371) .lf) (some f243) (.nd .lf (some f499) .lf))))) (some f11) (.nd (.nd (.nd (.nd (.nd (.nd .lf (some f523) .lf) (some f267) .lf) (some f139) (.nd (.nd .lf (some f651) .lf) (some f395) .lf)) (some f75) (.nd (.nd (.nd .lf (some f587) .lf) (some f331) .lf) (some f203) (.nd .lf (some f459) .lf))) (some f43) (.nd (.nd (.nd (.nd .lf (some f555) .lf) (some f299) .lf) (some f171) (.nd .lf (some f427) .lf)) (some f107) (.nd (.nd (.nd .lf (some f619) .lf) (some f363) .lf) (some f235) (.nd .lf (some f491) .lf)))) (some f27) (.nd (.nd (.nd (.nd (.nd .lf (some f539) .lf) (some f283) .lf) (some f155) (.nd .lf (some f411) .lf)) (some f91) (.nd (.nd (.nd .lf (some f603) .lf) (some f347) .lf) (some f219) (.nd .lf (some f475) .lf))) (some f59) (.nd (.nd (.nd (.nd .lf (some f571) .lf) (some f315) .lf) (some f187) (.nd .lf (some f443) .lf)) (some f123) (.nd (.nd (.nd .lf (some f635) .lf) (some f379) .lf) (some f251) (.nd .lf (some f507) .lf))))))) none (.nd (.nd (.nd (.nd (.nd (.nd (.nd (.nd .lf (some f513) .lf) (some f257) .lf) (some f129) (.nd (.nd .lf (some f641) .lf) (some f385) .lf)) (some f65) (.nd (.nd (.nd .lf (some f577) .lf) (some f321) .lf) (some f193) (.nd .lf (some f449) .lf))) (some f33) (.nd (.nd (.nd (.nd .lf (some f545) .lf) (some f289) .lf) none (.nd .lf (some f417) .lf)) (some f97) (.nd (.nd (.nd .lf (some f609) .lf) (some f353) .lf) (some f225) (.nd .lf (some f481) .lf)))) (some f17) (.nd (.nd (.nd (.nd (.nd .lf (some f529) .lf) (some f273) .lf) (some f145) (.nd (.nd .lf (some f657) .lf) (some f401) .lf)) (some f81) (.nd (.nd (.nd .lf (some f593) .lf) (some f337) .lf) (some f209) (.nd .lf (some f465) .lf))) (some f49) (.nd (.nd (.nd (.nd .lf (some f561) .lf) (some f305) .lf) (some f177) (.nd (.nd .lf (some f689) .lf) (some f433) .lf)) (some f113) (.nd (.nd (.nd .lf (some f625) .lf) (some f369) .lf) (some f241) (.nd .lf (some f497) .lf))))) (some f9) (.nd (.nd (.nd (.nd (.nd (.nd .lf (some f521) .lf) (some f265) .lf) (some f137) (.nd (.nd .lf (some f649) .lf) (some f393) .lf)) (some f73) (.nd (.nd (.nd .lf (some f585) .lf) (some f329) .lf) (some f201) (.nd .lf (some f457) .lf))) (some f41) (.nd (.nd (.nd (.nd .lf (some f553) .lf) (some f297) .lf) (some f169) (.nd .lf (some f425) .lf)) (some f105) (.nd (.nd (.nd .lf (some f617) .lf) (some f361) .lf) (some f233) (.nd .lf (some f489) .lf)))) (some f25) (.nd (.nd (.nd (.nd (.nd .lf (some f537) .lf) (some f281) .lf) (some f153) (.nd (.nd .lf (some f665) .lf) (some f409) .lf)) (some f89) (.nd (.nd (.nd .lf (some f601) .lf) (some f345) .lf) (some f217) (.nd .lf (some f473) .lf))) (some f57) (.nd (.nd (.nd (.nd .lf (some f569) .lf) (some f313) .lf) (some f185) (.nd .lf (some f441) .lf)) (some f121) (.nd (.nd (.nd .lf (some f633) .lf) (some f377) .lf) (some f249) (.nd .lf (some f505) .lf)))))) (some f5) (.nd (.nd (.nd (.nd (.nd (.nd (.nd .lf (some f517) .lf) (some f261) .lf) (some f133) (.nd (.nd .lf (some f645) .lf) (some f389) .lf)) (some f69) (.nd (.nd (.nd .lf (some f581) .lf) (some f325) .lf) (some f197) (.nd .lf (some f453) .lf))) (some f37) (.nd (.nd (.nd (.nd .lf (some f549) .lf) (some f293) .lf) (some f165) (.nd .lf (some f421) .lf)) (some f101) (.nd (.nd (.nd .lf (some f613) .lf) (some f357) .lf) (some f229) (.nd .lf (some f485) .lf)))) (some f21) (.nd (.nd (.nd (.nd (.nd .lf (some f533) .lf) (some f277) .lf) (some f149) (.nd (.nd .lf (some f661) .lf) (some f405) .lf)) (some f85) (.nd (.nd (.nd .lf (some f597) .lf) (some f341) .lf) (some f213) (.nd .lf (some f469) .lf))) (some f53) (.nd (.nd (.nd (.nd .lf (some f565) .lf) (some f309) .lf) (some f181) (.nd .lf (some f437) .lf)) (some f117) (.nd (.nd (.nd .lf (some f629) .lf) (some f373) .lf) (some f245) (.nd .lf (some f501) .lf))))) (some f13) (.nd (.nd (.nd (.nd (.nd (.nd .lf (some f525) .lf) (some f269) .lf) (some f141) (.nd (.nd .lf (some f653) .lf) (some f397) .lf)) (some f77) (.nd (.nd (.nd .lf (some f589) .lf) (some f333) .lf) (some f205) (.nd .lf (some f461) .lf))) (some f45) (.nd (.nd (.nd (.nd .lf (some f557) .lf) (some f301) .lf) (some f173) (.nd .lf (some f429) .lf)) (some f109) (.nd (.nd (.nd .lf (some f621) .lf) (some f365) .lf) (some f237) (.nd .lf (some f493) .lf)))) (some f29) (.nd (.nd (.nd (.nd (.nd .lf (some f541) .lf) (some f285) .lf) (some f157) (.nd .lf (some f413) .lf)) (some f93) (.nd (.nd (.nd .lf (some f605) .lf) (some f349) .lf) (some f221) (.nd .lf (some f477) .lf))) (some f61) (.nd (.nd (.nd (.nd .lf (some f573) .lf) (some f317) .lf) (some f189) (.nd .lf (some f445) .lf)) (some f125) (.nd (.nd (.nd .lf (some f637) .lf) (some f381) .lf) (some f253) (.nd .lf (some f509) .lf)))))))) none (.nd (.nd (.nd (.nd (.nd (.nd (.nd (.nd (.nd .lf (some f512) .lf) (some f256) .lf) (some f128) (.nd (.nd .lf (some f640) .lf) (some f384) .lf)) (some f64) (.nd (.nd (.nd .lf (some f576) .lf) (some f320) .lf) (some f192) (.nd .lf (some f448) .lf))) (some f32) (.nd (.nd (.nd (.nd .lf (some f544) .lf) (some f288) .lf) (some f160) (.nd .lf (some f416) .lf)) (some f96) (.nd (.nd (.nd .lf (some f608) .lf) (some f352) .lf) (some f224) (.nd .lf (some f480) .lf)))) (some f16) (.nd (.nd (.nd (.nd (.nd .lf (some f528) .lf) (some f272) .lf) (some f144) (.nd (.nd .lf (some f656) .lf) (some f400) .lf)) (some f80) (.nd (.nd (.nd .lf (some f592) .lf) (some f336) .lf) (some f208) (.nd .lf (some f464) .lf))) (some f48) (.nd (.nd (.nd (.nd .lf (some f560) .lf) (some f304) .lf) (some f176) (.nd .lf (some f432) .lf)) (some f112) (.nd (.nd (.nd .lf (some f624) .lf) (some f368) .lf) (some f240) (.nd .lf (some f496) .lf))))) (some f8) (.nd (.nd (.nd (.nd (.nd (.nd .lf (some f520) .lf) (some f264) .lf) (some f136) (.nd (.nd .lf (some f648) .lf) (some f392) .lf)) (some f72) (.nd (.nd (.nd .lf (some f584) .lf) (some f328) .lf) (some f200) (.nd .lf (some f456) .lf))) (some f40) (.nd (.nd (.nd (.nd .lf (some f552) .lf) (some f296) .lf) (some f168) (.nd .lf (some f424) .lf)) (some f104) (.nd (.nd (.nd .lf (some f616) .lf) (some f360) .lf) (some f232) (.nd .lf (some f488) .lf)))) (some f24) (.nd (.nd (.nd (.nd (.nd .lf (some f536) .lf) (some f280) .lf) (some f152) (.nd (.nd .lf (some f664) .lf) (some f408) .lf)) (some f88) (.nd (.nd (.nd .lf (some f600) .lf) (some f344) .lf) (some f216) (.nd .lf (some f472) .lf))) (some f56) (.nd (.nd (.nd (.nd .lf (some f568) .lf) (some f312) .lf) (some f184) (.nd .lf (some f440) .lf)) (some f120) (.nd (.nd (.nd .lf (some f632) .lf) (some f376) .lf) (some f248) (.nd .lf (some f504) .lf)))))) (some f4) (.nd (.nd (.nd (.nd (.nd (.nd (.nd .lf (some f516) .lf) (some f260) .lf) (some f132) (.nd (.nd .lf (some f644) .lf) (some f388) .lf)) (some f68) (.nd (.nd (.nd .lf (some f580) .lf) (some f324) .lf) (some f196) (.nd .lf (some f452) .lf))) (some f36) (.nd (.nd (.nd (.nd .lf (some f548) .lf) (some f292) .lf) (some f164) (.nd .lf (some f420) .lf)) (some f100) (.nd (.nd (.nd .lf (some f612) .lf) (some f356) .lf) (some f228) (.nd .lf (some f484) .lf)))) (some f20) (.nd (.nd (.nd (.nd (.nd .lf (some f532) .lf) (some f276) .lf) (some f148) (.nd (.nd .lf (some f660) .lf) (some f404) .lf)) (some f84) (.nd (.nd (.nd .lf (some f596) .lf) (some f340) .lf) (some f212) (.nd .lf (some f468) .lf))) (some f52) (.nd (.nd (.nd (.nd .lf (some f564) .lf) (some f308) .lf) (some f180) (.nd .lf (some f436) .lf)) (some f116) (.nd (.nd (.nd .lf (some f628) .lf) (some f372) .lf) (some f244) (.nd .lf (some f500) .lf))))) (some f12) (.nd (.nd (.nd (.nd (.nd (.nd .lf (some f524) .lf) (some f268) .lf) (some f140) (.nd (.nd .lf (some f652) .lf) (some f396) .lf)) (some f76) (.nd (.nd (.nd .lf (some f588) .lf) (some f332) .lf) (some f204) (.nd .lf (some f460) .lf))) (some f44) (.nd (.nd (.nd (.nd .lf (some f556) .lf) (some f300) .lf) (some f172) (.nd .lf (some f428) .lf)) (some f108) (.nd (.nd (.nd .lf (some f620) .lf) (some f364) .lf) (some f236) (.nd .lf (some f492) .lf)))) (some f28) (.nd (.nd (.nd (.nd (.nd .lf (some f540) .lf) (some f284) .lf) (some f156) (.nd .lf (some f412) .lf)) (some f92) (.nd (.nd (.nd .lf (some f604) .lf) (some f348) .lf) (some f220) (.nd .lf (some f476) .lf))) (some f60) (.nd (.nd (.nd (.nd .lf (some f572) .lf) (some f316) .lf) (some f188) (.nd .lf (some f444) .lf)) (some f124) (.nd (.nd (.nd .lf (some f636) .lf) (some f380) .lf) (some f252) (.nd .lf (some f508) .lf))))))) (some f2) (.nd (.nd (.nd (.nd (.nd (.nd (.nd (.nd .lf (some f514) .lf) (some f258) .lf) (some f130) (.nd (.nd .lf (some f642) .lf) (some f386) .lf)) (some f66) (.nd (.nd (.nd .lf (some f578) .lf) (some f322) .lf) none (.nd (.nd .lf (some f706) .lf) (some f450) .lf))) (some f34) (.nd (.nd (.nd (.nd .lf (some f546) .lf) (some f290) .lf) (some f162) (.nd .lf (some f418) .lf)) (some f98) (.nd (.nd (.nd .lf (some f610) .lf) (some f354) .lf) (some f226) (.nd .lf (some f482) .lf)))) (some f18) (.nd (.nd (.nd (.nd (.nd .lf (some f530) .lf) (some f274) .lf) (some f146) (.nd (.nd .lf (some f658) .lf) (some f402) .lf)) (some f82) (.nd (.nd (.nd .lf (some f594) .lf) (some f338) .lf) (some f210) (.nd .lf (some f466) .lf))) (some f50) (.nd (.nd (.nd (.nd .lf (some f562) .lf) (some f306) .lf) (some f178) (.nd (.nd .lf (some f690) .lf) (some f434) .lf)) (some f114) (.nd (.nd (.nd .lf (some f626) .lf) (some f370) .lf) (some f242) (.nd .lf (some f498) .lf))))) (some f10) (.nd (.nd (.nd (.nd (.nd (.nd .lf (some f522) .lf) (some f266) .lf) (some f138) (.nd (.nd .lf (some f650) .lf) (some f394) .lf)) (some f74) (.nd (.nd (.nd .lf (some f586) .lf) (some f330) .lf) (some f202) (.nd .lf (some f458) .lf))) (some f42) (.nd (.nd (.nd (.nd .lf (some f554) .lf) (some f298) .lf) (some f170) (.nd .lf (some f426) .lf)) (some f106) (.nd (.nd (.nd .lf (some f618) .lf) (some f362) .lf) (some f234) (.nd .lf (some f490) .lf)))) (some f26) (.nd (.nd (.nd (.nd (.nd .lf (some f538) .lf) (some f282) .lf) (some f154) (.nd (.nd .lf (some f666) .lf) (some f410) .lf)) none (.nd (.nd (.nd .lf (some f602) .lf) (some f346) .lf) (some f218) (.nd .lf (some f474) .lf))) (some f58) (.nd (.nd (.nd (.nd .lf (some f570) .lf) (some f314) .lf) (some f186) (.nd .lf (some f442) .lf)) (some f122) (.nd (.nd (.nd .lf (some f634) .lf) (some f378) .lf) (some f250) (.nd .lf (some f506) .lf)))))) (some f6) (.nd (.nd (.nd (.nd (.nd (.nd (.nd .lf (some f518) .lf) (some f262) .lf) (some f134) (.nd (.nd .lf (some f646) .lf) (some f390) .lf)) (some f70) (.nd (.nd (.nd .lf (some f582) .lf) (some f326) .lf) (some f198) (.nd .lf (some f454) .lf))) (some f38) (.nd (.nd (.nd (.nd .lf (some f550) .lf) (some f294) .lf) (some f166) (.nd .lf (some f422) .lf)) (some f102) (.nd (.nd (.nd .lf (some f614) .lf) (some f358) .lf) (some f230) (.nd .lf (some f486) .lf)))) (some f22) (.nd (.nd (.nd (.nd (.nd .lf (some f534) .lf) (some f278) .lf) (some f150) (.nd (.nd .lf (some f662) .lf) (some f406) .lf)) (some f86) (.nd (.nd (.nd .lf (some f598) .lf) (some f342) .lf) (some f214) (.nd .lf (some f470) .lf))) (some f54) (.nd (.nd (.nd (.nd .lf (some f566) .lf) (some f310) .lf) (some f182) (.nd (.nd .lf (some f694) .lf) (some f438) .lf)) (some f118) (.nd (.nd (.nd .lf (some f630) .lf) (some f374) .lf) (some f246) (.nd .lf (some f502) .lf))))) (some f14) (.nd (.nd (.nd (.nd (.nd (.nd .lf (some f526) .lf) (some f270) .lf) (some f142) (.nd (.nd .lf (some f654) .lf) (some f398) .lf)) (some f78) (.nd (.nd (.nd .lf (some f590) .lf) (some f334) .lf) (some f206) (.nd .lf (some f462) .lf))) (some f46) (.nd (.nd (.nd (.nd .lf (some f558) .lf) (some f302) .lf) (some f174) (.nd .lf (some f430) .lf)) (some f110) (.nd (.nd (.nd .lf (some f622) .lf) (some f366) .lf) (some f238) (.nd .lf (some f494) .lf)))) (some f30) (.nd (.nd (.nd (.nd (.nd .lf (some f542) .lf) (some f286) .lf) (some f158) (.nd .lf (some f414) .lf)) (some f94) (.nd (.nd (.nd .lf (some f606) .lf) (some f350) .lf) (some f222) (.nd .lf (some f478) .lf))) (some f62) (.nd (.nd (.nd (.nd .lf (some f574) .lf) (some f318) .lf) (some f190) (.nd .lf (some f446) .lf)) (some f126) (.nd (.nd (.nd .lf (some f638) .lf) (some f382) .lf) (some f254) (.nd .lf (some f510) .lf)))))))))
set_option maxRecDepth 100000 in
theorem T_ok : TabOK prog T := tab_of_all ⟨ty0_ok, ⟨ty1_ok, ⟨ty3_ok, ⟨ty7_ok, ⟨ty15_ok, ⟨ty31_ok, ⟨ty63_ok, ⟨ty127_ok, ⟨ty255_ok, ⟨ty511_ok, trivial, trivial⟩, trivial⟩, ⟨ty383_ok, ⟨ty639_ok, trivial, trivial⟩, trivial⟩⟩, ⟨ty191_ok, ⟨ty319_ok, ⟨ty575_ok, trivial, trivial⟩, trivial⟩, ⟨ty447_ok, ⟨ty703_ok, trivial, trivial⟩, trivial⟩⟩⟩, ⟨ty95_ok, ⟨ty159_ok, ⟨ty287_ok, ⟨ty543_ok, trivial, trivial⟩, trivial⟩, ⟨ty415_ok, ⟨ty671_ok, trivial, trivial⟩, trivial⟩⟩, ⟨ty223_ok, ⟨ty351_ok, ⟨ty607_ok, trivial, trivial⟩, trivial⟩, ⟨ty479_ok, ⟨ty735_ok, trivial, trivial⟩, trivial⟩⟩⟩⟩, ⟨ty47_ok, ⟨ty79_ok, ⟨ty143_ok, ⟨ty271_ok, ⟨ty527_ok, trivial, trivial⟩, trivial⟩, ⟨ty399_ok, ⟨ty655_ok, trivial, trivial⟩, trivial⟩⟩, ⟨ty207_ok, ⟨ty335_ok, ⟨ty591_ok, trivial, trivial⟩, trivial⟩, ⟨ty463_ok, ⟨ty719_ok, trivial, trivial⟩, trivial⟩⟩⟩, ⟨ty111_ok, ⟨ty175_ok, ⟨ty303_ok, ⟨ty559_ok, trivial, trivial⟩, trivial⟩, ⟨ty431_ok, ⟨ty687_ok, trivial, trivial⟩, trivial⟩⟩, ⟨ty239_ok, ⟨ty367_ok, ⟨ty623_ok, trivial, trivial⟩, trivial⟩, ⟨ty495_ok, trivial, trivial⟩⟩⟩⟩⟩, ⟨ty23_ok, ⟨ty39_ok, ⟨ty71_ok, ⟨ty135_ok, ⟨ty263_ok, ⟨ty519_ok, trivial, trivial⟩, trivial⟩, ⟨ty391_ok, ⟨ty647_ok, trivial, trivial⟩, trivial⟩⟩, ⟨ty199_ok, ⟨ty327_ok, ⟨ty583_ok, trivial, trivial⟩, trivial⟩, ⟨ty455_ok, ⟨ty711_ok, trivial, trivial⟩, trivial⟩⟩⟩, ⟨ty103_ok, ⟨ty167_ok, ⟨ty295_ok, ⟨ty551_ok, trivial, trivial⟩, trivial⟩, ⟨ty423_ok, ⟨ty679_ok, trivial, trivial⟩, trivial⟩⟩, ⟨ty231_ok, ⟨ty359_ok, ⟨ty615_ok, trivial, trivial⟩, trivial⟩, ⟨ty487_ok, trivial, trivial⟩⟩⟩⟩, ⟨ty55_ok, ⟨ty87_ok, ⟨ty151_ok, ⟨ty279_ok, ⟨ty535_ok, trivial, trivial⟩, trivial⟩, ⟨ty407_ok, ⟨ty663_ok, trivial, trivial⟩, trivial⟩⟩, ⟨ty215_ok, ⟨ty343_ok, ⟨ty599_ok, trivial, trivial⟩, trivial⟩, ⟨ty471_ok, ⟨ty727_ok, trivial, trivial⟩, trivial⟩⟩⟩, ⟨ty119_ok, ⟨ty183_ok, ⟨ty311_ok, ⟨ty567_ok, trivial, trivial⟩, trivial⟩, ⟨ty439_ok, ⟨ty695_ok, trivial, trivial⟩, trivial⟩⟩, ⟨ty247_ok, ⟨ty375_ok, ⟨ty631_ok, trivial, trivial⟩, trivial⟩, ⟨ty503_ok, trivial, trivial⟩⟩⟩⟩⟩⟩, ⟨ty11_ok, ⟨ty19_ok, ⟨ty35_ok, ⟨ty67_ok, ⟨ty131_ok, ⟨ty259_ok, ⟨ty515_ok, trivial, trivial⟩, trivial⟩, ⟨ty387_ok, ⟨ty643_ok, trivial, trivial⟩, trivial⟩⟩, ⟨ty195_ok, ⟨ty323_ok, ⟨ty579_ok, trivial, trivial⟩, trivial⟩, ⟨ty451_ok, ⟨ty707_ok, trivial, trivial⟩, trivial⟩⟩⟩, ⟨ty99_ok, ⟨ty163_ok, ⟨ty291_ok, ⟨ty547_ok, trivial, trivial⟩, trivial⟩, ⟨ty419_ok, ⟨ty675_ok, trivial, trivial⟩, trivial⟩⟩, ⟨ty227_ok, ⟨ty355_ok, ⟨ty611_ok, trivial, trivial⟩, trivial⟩, ⟨ty483_ok, ⟨ty739_ok, trivial, trivial⟩, trivial⟩⟩⟩⟩, ⟨ty51_ok, ⟨ty83_ok, ⟨ty147_ok, ⟨ty275_ok, ⟨ty531_ok, trivial, trivial⟩, trivial⟩, ⟨ty403_ok, ⟨ty659_ok, trivial, trivial⟩, trivial⟩⟩, ⟨ty211_ok, ⟨ty339_ok, ⟨ty595_ok, trivial, trivial⟩, trivial⟩, ⟨ty467_ok, ⟨ty723_ok, trivial, trivial⟩, trivial⟩⟩⟩, ⟨ty115_ok, ⟨ty179_ok, ⟨ty307_ok, ⟨ty563_ok, trivial, trivial⟩, trivial⟩, ⟨ty435_ok, ⟨ty691_ok, trivial, trivial⟩, trivial⟩⟩, ⟨ty243_ok, ⟨ty371_ok, ⟨ty627_ok, trivial, trivial⟩, trivial⟩, ⟨ty499_ok, trivial, trivial⟩⟩⟩⟩⟩, ⟨ty27_ok, ⟨ty43_ok, ⟨ty75_ok, ⟨ty139_ok, ⟨ty267_ok, ⟨ty523_ok, trivial, trivial⟩, trivial⟩, ⟨ty395_ok, ⟨ty651_ok, trivial, trivial⟩, trivial⟩⟩, ⟨ty203_ok, ⟨ty331_ok, ⟨ty587_ok, trivial, trivial⟩, trivial⟩, ⟨ty459_ok, ⟨ty715_ok, trivial, trivial⟩, trivial⟩⟩⟩, ⟨ty107_ok, ⟨ty171_ok, ⟨ty299_ok, ⟨ty555_ok, trivial, trivial⟩, trivial⟩, ⟨ty427_ok, ⟨ty683_ok, trivial, trivial⟩, trivial⟩⟩, ⟨ty235_ok, ⟨ty363_ok, ⟨ty619_ok, trivial, trivial⟩, trivial⟩, ⟨ty491_ok, trivial, trivial⟩⟩⟩⟩, ⟨ty59_ok, ⟨ty91_ok, ⟨ty155_ok, ⟨ty283_ok, ⟨ty539_ok, trivial, trivial⟩, trivial⟩, ⟨ty411_ok, ⟨ty667_ok, trivial, trivial⟩, trivial⟩⟩, ⟨ty219_ok, ⟨ty347_ok, ⟨ty603_ok, trivial, trivial⟩, trivial⟩, ⟨ty475_ok, ⟨ty731_ok, trivial, trivial⟩, trivial⟩⟩⟩, ⟨ty123_ok, ⟨ty187_ok, ⟨ty315_ok, ⟨ty571_ok, trivial, trivial⟩, trivial⟩, ⟨ty443_ok, ⟨ty699_ok, trivial, trivial⟩, trivial⟩⟩, ⟨ty251_ok, ⟨ty379_ok, ⟨ty635_ok, trivial, trivial⟩, trivial⟩, ⟨ty507_ok, trivial, trivial⟩⟩⟩⟩⟩⟩⟩, ⟨ty5_ok, ⟨ty9_ok, ⟨ty17_ok, ⟨ty33_ok, ⟨ty65_ok, ⟨ty129_ok, ⟨ty257_ok, ⟨ty513_ok, trivial, trivial⟩, trivial⟩, ⟨ty385_ok, ⟨ty641_ok, trivial, trivial⟩, trivial⟩⟩, ⟨ty193_ok, ⟨ty321_ok, ⟨ty577_ok, trivial, trivial⟩, trivial⟩, ⟨ty449_ok, ⟨ty705_ok, trivial, trivial⟩, trivial⟩⟩⟩, ⟨ty97_ok, ⟨ty161_ok, ⟨ty289_ok, ⟨ty545_ok, trivial, trivial⟩, trivial⟩, ⟨ty417_ok, ⟨ty673_ok, trivial, trivial⟩, trivial⟩⟩, ⟨ty225_ok, ⟨ty353_ok, ⟨ty609_ok, trivial, trivial⟩, trivial⟩, ⟨ty481_ok, ⟨ty737_ok, trivial, trivial⟩, trivial⟩⟩⟩⟩, ⟨ty49_ok, ⟨ty81_ok, ⟨ty145_ok, ⟨ty273_ok, ⟨ty529_ok, trivial, trivial⟩, trivial⟩, ⟨ty401_ok, ⟨ty657_ok, trivial, trivial⟩, trivial⟩⟩, ⟨ty209_ok, ⟨ty337_ok, ⟨ty593_ok, trivial, trivial⟩, trivial⟩, ⟨ty465_ok, ⟨ty721_ok, trivial, trivial⟩, trivial⟩⟩⟩, ⟨ty113_ok, ⟨ty177_ok, ⟨ty305_ok, ⟨ty561_ok, trivial, trivial⟩, trivial⟩, ⟨ty433_ok, ⟨ty689_ok, trivial, trivial⟩, trivial⟩⟩, ⟨ty241_ok, ⟨ty369_ok, ⟨ty625_ok, trivial, trivial⟩, trivial⟩, ⟨ty497_ok, trivial, trivial⟩⟩⟩⟩⟩, ⟨ty25_ok, ⟨ty41_ok, ⟨ty73_ok, ⟨ty137_ok, ⟨ty265_ok, ⟨ty521_ok, trivial, trivial⟩, trivial⟩, ⟨ty393_ok, ⟨ty649_ok, trivial, trivial⟩, trivial⟩⟩, ⟨ty201_ok, ⟨ty329_ok, ⟨ty585_ok, trivial, trivial⟩, trivial⟩, ⟨ty457_ok, ⟨ty713_ok, trivial, trivial⟩, trivial⟩⟩⟩, ⟨ty105_ok, ⟨ty169_ok, ⟨ty297_ok, ⟨ty553_ok, trivial, trivial⟩, trivial⟩, ⟨ty425_ok, ⟨ty681_ok, trivial, trivial⟩, trivial⟩⟩, ⟨ty233_ok, ⟨ty361_ok, ⟨ty617_ok, trivial, trivial⟩, trivial⟩, ⟨ty489_ok, trivial, trivial⟩⟩⟩⟩, ⟨ty57_ok, ⟨ty89_ok, ⟨ty153_ok, ⟨ty281_ok, ⟨ty537_ok, trivial, trivial⟩, trivial⟩, ⟨ty409_ok, ⟨ty665_ok, trivial, trivial⟩, trivial⟩⟩, ⟨ty217_ok, ⟨ty345_ok, ⟨ty601_ok, trivial, trivial⟩, trivial⟩, ⟨ty473_ok, ⟨ty729_ok, trivial, trivial⟩, trivial⟩⟩⟩, ⟨ty121_ok, ⟨ty185_ok, ⟨ty313_ok, ⟨ty569_ok, trivial, trivial⟩, trivial⟩, ⟨ty441_ok, ⟨ty697_ok, trivial, trivial⟩, trivial⟩⟩, ⟨ty249_ok, ⟨ty377_ok, ⟨ty633_ok, trivial, trivial⟩, trivial⟩, ⟨ty505_ok, trivial, trivial⟩⟩⟩⟩⟩⟩, ⟨ty13_ok, ⟨ty21_ok, ⟨ty37_ok, ⟨ty69_ok, ⟨ty133_ok, ⟨ty261_ok, ⟨ty517_ok, trivial, trivial⟩, trivial⟩, ⟨ty389_ok, ⟨ty645_ok, trivial, trivial⟩, trivial⟩⟩, ⟨ty197_ok, ⟨ty325_ok, ⟨ty581_ok, trivial, trivial⟩, trivial⟩, ⟨ty453_ok, ⟨ty709_ok, trivial, trivial⟩, trivial⟩⟩⟩, ⟨ty101_ok, ⟨ty165_ok, ⟨ty293_ok, ⟨ty549_ok, trivial, trivial⟩, trivial⟩, ⟨ty421_ok, ⟨ty677_ok, trivial, trivial⟩, trivial⟩⟩, ⟨ty229_ok, ⟨ty357_ok, ⟨ty613_ok, trivial, trivial⟩, trivial⟩, ⟨ty485_ok, ⟨ty741_ok, trivial, trivial⟩, trivial⟩⟩⟩⟩, ⟨ty53_ok, ⟨ty85_ok, ⟨ty149_ok, ⟨ty277_ok, ⟨ty533_ok, trivial, trivial⟩, trivial⟩, ⟨ty405_ok, ⟨ty661_ok, trivial, trivial⟩, trivial⟩⟩, ⟨ty213_ok, ⟨ty341_ok, ⟨ty597_ok, trivial, trivial⟩, trivial⟩, ⟨ty469_ok, ⟨ty725_ok, trivial, trivial⟩, trivial⟩⟩⟩, ⟨ty117_ok, ⟨ty181_ok, ⟨ty309_ok, ⟨ty565_ok, trivial, trivial⟩, trivial⟩, ⟨ty437_ok, ⟨ty693_ok, trivial, trivial⟩, trivial⟩⟩, ⟨ty245_ok, ⟨ty373_ok, ⟨ty629_ok, trivial, trivial⟩, trivial⟩, ⟨ty501_ok, trivial, trivial⟩⟩⟩⟩⟩, ⟨ty29_ok, ⟨ty45_ok, ⟨ty77_ok, ⟨ty141_ok, ⟨ty269_ok, ⟨ty525_ok, trivial, trivial⟩, trivial⟩, ⟨ty397_ok, ⟨ty653_ok, trivial, trivial⟩, trivial⟩⟩, ⟨ty205_ok, ⟨ty333_ok, ⟨ty589_ok, trivial, trivial⟩, trivial⟩, ⟨ty461_ok, ⟨ty717_ok, trivial, trivial⟩, trivial⟩⟩⟩, ⟨ty109_ok, ⟨ty173_ok, ⟨ty301_ok, ⟨ty557_ok, trivial, trivial⟩, trivial⟩, ⟨ty429_ok, ⟨ty685_ok, trivial, trivial⟩, trivial⟩⟩, ⟨ty237_ok, ⟨ty365_ok, ⟨ty621_ok, trivial, trivial⟩, trivial⟩, ⟨ty493_ok, trivial, trivial⟩⟩⟩⟩, ⟨ty61_ok, ⟨ty93_ok, ⟨ty157_ok, ⟨ty285_ok, ⟨ty541_ok, trivial, trivial⟩, trivial⟩, ⟨ty413_ok, ⟨ty669_ok, trivial, trivial⟩, trivial⟩⟩, ⟨ty221_ok, ⟨ty349_ok, ⟨ty605_ok, trivial, trivial⟩, trivial⟩, ⟨ty477_ok, ⟨ty733_ok, trivial, trivial⟩, trivial⟩⟩⟩, ⟨ty125_ok, ⟨ty189_ok, ⟨ty317_ok, ⟨ty573_ok, trivial, trivial⟩, trivial⟩, ⟨ty445_ok, ⟨ty701_ok, trivial, trivial⟩, trivial⟩⟩, ⟨ty253_ok, ⟨ty381_ok, ⟨ty637_ok, trivial, trivial⟩, trivial⟩, ⟨ty509_ok, trivial, trivial⟩⟩⟩⟩⟩⟩⟩⟩, ⟨ty2_ok, ⟨ty4_ok, ⟨ty8_ok, ⟨ty16_ok, ⟨ty32_ok, ⟨ty64_ok, ⟨ty128_ok, ⟨ty256_ok, ⟨ty512_ok, trivial, trivial⟩, trivial⟩, ⟨ty384_ok, ⟨ty640_ok, trivial, trivial⟩, trivial⟩⟩, ⟨ty192_ok, ⟨ty320_ok, ⟨ty576_ok, trivial, trivial⟩, trivial⟩, ⟨ty448_ok, ⟨ty704_ok, trivial, trivial⟩, trivial⟩⟩⟩, ⟨ty96_ok, ⟨ty160_ok, ⟨ty288_ok, ⟨ty544_ok, trivial, trivial⟩, trivial⟩, ⟨ty416_ok, ⟨ty672_ok, trivial, trivial⟩, trivial⟩⟩, ⟨ty224_ok, ⟨ty352_ok, ⟨ty608_ok, trivial, trivial⟩, trivial⟩, ⟨ty480_ok, ⟨ty736_ok, trivial, trivial⟩, trivial⟩⟩⟩⟩, ⟨ty48_ok, ⟨ty80_ok, ⟨ty144_ok, ⟨ty272_ok, ⟨ty528_ok, trivial, trivial⟩, trivial⟩, ⟨ty400_ok, ⟨ty656_ok, trivial, trivial⟩, trivial⟩⟩, ⟨ty208_ok, ⟨ty336_ok, ⟨ty592_ok, trivial, trivial⟩, trivial⟩, ⟨ty464_ok, ⟨ty720_ok, trivial, trivial⟩, trivial⟩⟩⟩, ⟨ty112_ok, ⟨ty176_ok, ⟨ty304_ok, ⟨ty560_ok, trivial, trivial⟩, trivial⟩, ⟨ty432_ok, ⟨ty688_ok, trivial, trivial⟩, trivial⟩⟩, ⟨ty240_ok, ⟨ty368_ok, ⟨ty624_ok, trivial, trivial⟩, trivial⟩, ⟨ty496_ok, trivial, trivial⟩⟩⟩⟩⟩, ⟨ty24_ok, ⟨ty40_ok, ⟨ty72_ok, ⟨ty136_ok, ⟨ty264_ok, ⟨ty520_ok, trivial, trivial⟩, trivial⟩, ⟨ty392_ok, ⟨ty648_ok, trivial, trivial⟩, trivial⟩⟩, ⟨ty200_ok, ⟨ty328_ok, ⟨ty584_ok, trivial, trivial⟩, trivial⟩, ⟨ty456_ok, ⟨ty712_ok, trivial, trivial⟩, trivial⟩⟩⟩, ⟨ty104_ok, ⟨ty168_ok, ⟨ty296_ok, ⟨ty552_ok, trivial, trivial⟩, trivial⟩, ⟨ty424_ok, ⟨ty680_ok, trivial, trivial⟩, trivial⟩⟩, ⟨ty232_ok, ⟨ty360_ok, ⟨ty616_ok, trivial, trivial⟩, trivial⟩, ⟨ty488_ok, trivial, trivial⟩⟩⟩⟩, ⟨ty56_ok, ⟨ty88_ok, ⟨ty152_ok, ⟨ty280_ok, ⟨ty536_ok, trivial, trivial⟩, trivial⟩, ⟨ty408_ok, ⟨ty664_ok, trivial, trivial⟩, trivial⟩⟩, ⟨ty216_ok, ⟨ty344_ok, ⟨ty600_ok, trivial, trivial⟩, trivial⟩, ⟨ty472_ok, ⟨ty728_ok, trivial, trivial⟩, trivial⟩⟩⟩, ⟨ty120_ok, ⟨ty184_ok, ⟨ty312_ok, ⟨ty568_ok, trivial, trivial⟩, trivial⟩, ⟨ty440_ok, ⟨ty696_ok, trivial, trivial⟩, trivial⟩⟩, ⟨ty248_ok, ⟨ty376_ok, ⟨ty632_ok, trivial, trivial⟩, trivial⟩, ⟨ty504_ok, trivial, trivial⟩⟩⟩⟩⟩⟩, ⟨ty12_ok, ⟨ty20_ok, ⟨ty36_ok, ⟨ty68_ok, ⟨ty132_ok, ⟨ty260_ok, ⟨ty516_ok, trivial, trivial⟩, trivial⟩, ⟨ty388_ok, ⟨ty644_ok, trivial, trivial⟩, trivial⟩⟩, ⟨ty196_ok, ⟨ty324_ok, ⟨ty580_ok, trivial, trivial⟩, trivial⟩, ⟨ty452_ok, ⟨ty708_ok, trivial, trivial⟩, trivial⟩⟩⟩, ⟨ty100_ok, ⟨ty164_ok, ⟨ty292_ok, ⟨ty548_ok, trivial, trivial⟩, trivial⟩, ⟨ty420_ok, ⟨ty676_ok, trivial, trivial⟩, trivial⟩⟩, ⟨ty228_ok, ⟨ty356_ok, ⟨ty612_ok, trivial, trivial⟩, trivial⟩, ⟨ty484_ok, ⟨ty740_ok, trivial, trivial⟩, trivial⟩⟩⟩⟩, ⟨ty52_ok, ⟨ty84_ok, ⟨ty148_ok, ⟨ty276_ok, ⟨ty532_ok, trivial, trivial⟩, trivial⟩, ⟨ty404_ok, ⟨ty660_ok, trivial, trivial⟩, trivial⟩⟩, ⟨ty212_ok, ⟨ty340_ok, ⟨ty596_ok, trivial, trivial⟩, trivial⟩, ⟨ty468_ok, ⟨ty724_ok, trivial, trivial⟩, trivial⟩⟩⟩, ⟨ty116_ok, ⟨ty180_ok, ⟨ty308_ok, ⟨ty564_ok, trivial, trivial⟩, trivial⟩, ⟨ty436_ok, ⟨ty692_ok, trivial, trivial⟩, trivial⟩⟩, ⟨ty244_ok, ⟨ty372_ok, ⟨ty628_ok, trivial, trivial⟩, trivial⟩, ⟨ty500_ok, trivial, trivial⟩⟩⟩⟩⟩, ⟨ty28_ok, ⟨ty44_ok, ⟨ty76_ok, ⟨ty140_ok, ⟨ty268_ok, ⟨ty524_ok, trivial, trivial⟩, trivial⟩, ⟨ty396_ok, ⟨ty652_ok, trivial, trivial⟩, trivial⟩⟩, ⟨ty204_ok, ⟨ty332_ok, ⟨ty588_ok, trivial, trivial⟩, trivial⟩, ⟨ty460_ok, ⟨ty716_ok, trivial, trivial⟩, trivial⟩⟩⟩, ⟨ty108_ok, ⟨ty172_ok, ⟨ty300_ok, ⟨ty556_ok, trivial, trivial⟩, trivial⟩, ⟨ty428_ok, ⟨ty684_ok, trivial, trivial⟩, trivial⟩⟩, ⟨ty236_ok, ⟨ty364_ok, ⟨ty620_ok, trivial, trivial⟩, trivial⟩, ⟨ty492_ok, trivial, trivial⟩⟩⟩⟩, ⟨ty60_ok, ⟨ty92_ok, ⟨ty156_ok, ⟨ty284_ok, ⟨ty540_ok, trivial, trivial⟩, trivial⟩, ⟨ty412_ok, ⟨ty668_ok, trivial, trivial⟩, trivial⟩⟩, ⟨ty220_ok, ⟨ty348_ok, ⟨ty604_ok, trivial, trivial⟩, trivial⟩, ⟨ty476_ok, ⟨ty732_ok, trivial, trivial⟩, trivial⟩⟩⟩, ⟨ty124_ok, ⟨ty188_ok, ⟨ty316_ok, ⟨ty572_ok, trivial, trivial⟩, trivial⟩, ⟨ty444_ok, ⟨ty700_ok, trivial, trivial⟩, trivial⟩⟩, ⟨ty252_ok, ⟨ty380_ok, ⟨ty636_ok, trivial, trivial⟩, trivial⟩, ⟨ty508_ok, trivial, trivial⟩⟩⟩⟩⟩⟩⟩, ⟨ty6_ok, ⟨ty10_ok, ⟨ty18_ok, ⟨ty34_ok, ⟨ty66_ok, ⟨ty130_ok, ⟨ty258_ok, ⟨ty514_ok, trivial, trivial⟩, trivial⟩, ⟨ty386_ok, ⟨ty642_ok, trivial, trivial⟩, trivial⟩⟩, ⟨ty194_ok, ⟨ty322_ok, ⟨ty578_ok, trivial, trivial⟩, trivial⟩, ⟨ty450_ok, ⟨ty706_ok, trivial, trivial⟩, trivial⟩⟩⟩, ⟨ty98_ok, ⟨ty162_ok, ⟨ty290_ok, ⟨ty546_ok, trivial, trivial⟩, trivial⟩, ⟨ty418_ok, ⟨ty674_ok, trivial, trivial⟩, trivial⟩⟩, ⟨ty226_ok, ⟨ty354_ok, ⟨ty610_ok, trivial, trivial⟩, trivial⟩, ⟨ty482_ok, ⟨ty738_ok, trivial, trivial⟩, trivial⟩⟩⟩⟩, ⟨ty50_ok, ⟨ty82_ok, ⟨ty146_ok, ⟨ty274_ok, ⟨ty530_ok, trivial, trivial⟩, trivial⟩, ⟨ty402_ok, ⟨ty658_ok, trivial, trivial⟩, trivial⟩⟩, ⟨ty210_ok, ⟨ty338_ok, ⟨ty594_ok, trivial, trivial⟩, trivial⟩, ⟨ty466_ok, ⟨ty722_ok, trivial, trivial⟩, trivial⟩⟩⟩, ⟨ty114_ok, ⟨ty178_ok, ⟨ty306_ok, ⟨ty562_ok, trivial, trivial⟩, trivial⟩, ⟨ty434_ok, ⟨ty690_ok, trivial, trivial⟩, trivial⟩⟩, ⟨ty242_ok, ⟨ty370_ok, ⟨ty626_ok, trivial, trivial⟩, trivial⟩, ⟨ty498_ok, trivial, trivial⟩⟩⟩⟩⟩, ⟨ty26_ok, ⟨ty42_ok, ⟨ty74_ok, ⟨ty138_ok, ⟨ty266_ok, ⟨ty522_ok, trivial, trivial⟩, trivial⟩, ⟨ty394_ok, ⟨ty650_ok, trivial, trivial⟩, trivial⟩⟩, ⟨ty202_ok, ⟨ty330_ok, ⟨ty586_ok, trivial, trivial⟩, trivial⟩, ⟨ty458_ok, ⟨ty714_ok, trivial, trivial⟩, trivial⟩⟩⟩, ⟨ty106_ok, ⟨ty170_ok, ⟨ty298_ok, ⟨ty554_ok, trivial, trivial⟩, trivial⟩, ⟨ty426_ok, ⟨ty682_ok, trivial, trivial⟩, trivial⟩⟩, ⟨ty234_ok, ⟨ty362_ok, ⟨ty618_ok, trivial, trivial⟩, trivial⟩, ⟨ty490_ok, trivial, trivial⟩⟩⟩⟩, ⟨ty58_ok, ⟨ty90_ok, ⟨ty154_ok, ⟨ty282_ok, ⟨ty538_ok, trivial, trivial⟩, trivial⟩, ⟨ty410_ok, ⟨ty666_ok, trivial, trivial⟩, trivial⟩⟩, ⟨ty218_ok, ⟨ty346_ok, ⟨ty602_ok, trivial, trivial⟩, trivial⟩, ⟨ty474_ok, ⟨ty730_ok, trivial, trivial⟩, trivial⟩⟩⟩, ⟨ty122_ok, ⟨ty186_ok, ⟨ty314_ok, ⟨ty570_ok, trivial, trivial⟩, trivial⟩, ⟨ty442_ok, ⟨ty698_ok, trivial, trivial⟩, trivial⟩⟩, ⟨ty250_ok, ⟨ty378_ok, ⟨ty634_ok, trivial, trivial⟩, trivial⟩, ⟨ty506_ok, trivial, trivial⟩⟩⟩⟩⟩⟩, ⟨ty14_ok, ⟨ty22_ok, ⟨ty38_ok, ⟨ty70_ok, ⟨ty134_ok, ⟨ty262_ok, ⟨ty518_ok, trivial, trivial⟩, trivial⟩, ⟨ty390_ok, ⟨ty646_ok, trivial, trivial⟩, trivial⟩⟩, ⟨ty198_ok, ⟨ty326_ok, ⟨ty582_ok, trivial, trivial⟩, trivial⟩, ⟨ty454_ok, ⟨ty710_ok, trivial, trivial⟩, trivial⟩⟩⟩, ⟨ty102_ok, ⟨ty166_ok, ⟨ty294_ok, ⟨ty550_ok, trivial, trivial⟩, trivial⟩, ⟨ty422_ok, ⟨ty678_ok, trivial, trivial⟩, trivial⟩⟩, ⟨ty230_ok, ⟨ty358_ok, ⟨ty614_ok, trivial, trivial⟩, trivial⟩, ⟨ty486_ok, trivial, trivial⟩⟩⟩⟩, ⟨ty54_ok, ⟨ty86_ok, ⟨ty150_ok, ⟨ty278_ok, ⟨ty534_ok, trivial, trivial⟩, trivial⟩, ⟨ty406_ok, ⟨ty662_ok, trivial, trivial⟩, trivial⟩⟩, ⟨ty214_ok, ⟨ty342_ok, ⟨ty598_ok, trivial, trivial⟩, trivial⟩, ⟨ty470_ok, ⟨ty726_ok, trivial, trivial⟩, trivial⟩⟩⟩, ⟨ty118_ok, ⟨ty182_ok, ⟨ty310_ok, ⟨ty566_ok, trivial, trivial⟩, trivial⟩, ⟨ty438_ok, ⟨ty694_ok, trivial, trivial⟩, trivial⟩⟩, ⟨ty246_ok, ⟨ty374_ok, ⟨ty630_ok, trivial, trivial⟩, trivial⟩, ⟨ty502_ok, trivial, trivial⟩⟩⟩⟩⟩, ⟨ty30_ok, ⟨ty46_ok, ⟨ty78_ok, ⟨ty142_ok, ⟨ty270_ok, ⟨ty526_ok, trivial, trivial⟩, trivial⟩, ⟨ty398_ok, ⟨ty654_ok, trivial, trivial⟩, trivial⟩⟩, ⟨ty206_ok, ⟨ty334_ok, ⟨ty590_ok, trivial, trivial⟩, trivial⟩, ⟨ty462_ok, ⟨ty718_ok, trivial, trivial⟩, trivial⟩⟩⟩, ⟨ty110_ok, ⟨ty174_ok, ⟨ty302_ok, ⟨ty558_ok, trivial, trivial⟩, trivial⟩, ⟨ty430_ok, ⟨ty686_ok, trivial, trivial⟩, trivial⟩⟩, ⟨ty238_ok, ⟨ty366_ok, ⟨ty622_ok, trivial, trivial⟩, trivial⟩, ⟨ty494_ok, trivial, trivial⟩⟩⟩⟩, ⟨ty62_ok, ⟨ty94_ok, ⟨ty158_ok, ⟨ty286_ok, ⟨ty542_ok, trivial, trivial⟩, trivial⟩, ⟨ty414_ok, ⟨ty670_ok, trivial, trivial⟩, trivial⟩⟩, ⟨ty222_ok, ⟨ty350_ok, ⟨ty606_ok, trivial, trivial⟩, trivial⟩, ⟨ty478_ok, ⟨ty734_ok, trivial, trivial⟩, trivial⟩⟩⟩, ⟨ty126_ok, ⟨ty190_ok, ⟨ty318_ok, ⟨ty574_ok, trivial, trivial⟩, trivial⟩, ⟨ty446_ok, ⟨ty702_ok, trivial, trivial⟩, trivial⟩⟩, ⟨ty254_ok, ⟨ty382_ok, ⟨ty638_ok, trivial, trivial⟩, trivial⟩, ⟨ty510_ok, trivial, trivial⟩⟩⟩⟩⟩⟩⟩⟩⟩
set_option maxRecDepth 100000 in
theorem F_ok : FnsOK prog F := fns_of_all ⟨trivial, ⟨trivial, ⟨⟨func3, by kernel_rfl, by kernel_rfl⟩, ⟨⟨func7, by kernel_rfl, by kernel_rfl⟩, ⟨⟨func15, by kernel_rfl, by kernel_rfl⟩, ⟨⟨func31, by kernel_rfl, by kernel_rfl⟩, ⟨⟨func63, by kernel_rfl, by kernel_rfl⟩, ⟨⟨func127, by kernel_rfl, by kernel_rfl⟩, ⟨⟨func255, by kernel_rfl, by kernel_rfl⟩, ⟨⟨func511, by kernel_rfl, by kernel_rfl⟩, trivial, trivial⟩, trivial⟩, ⟨⟨func383, by kernel_rfl, by kernel_rfl⟩, ⟨⟨func639, by kernel_rfl, by kernel_rfl⟩, trivial, trivial⟩, trivial⟩⟩, ⟨⟨func191, by kernel_rfl, by kernel_rfl⟩, ⟨⟨func319, by kernel_rfl, by kernel_rfl⟩, ⟨⟨func575, by kernel_rfl, by kernel_rfl⟩, trivial, trivial⟩, trivial⟩, ⟨⟨func447, by kernel_rfl, by kernel_rfl⟩, trivial, trivial⟩⟩⟩, ⟨⟨func95, by kernel_rfl, by kernel_rfl⟩, ⟨⟨func159, by kernel_rfl, by kernel_rfl⟩, ⟨⟨func287, by kernel_rfl, by kernel_rfl⟩, ⟨⟨func543, by kernel_rfl, by kernel_rfl⟩, trivial, trivial⟩, trivial⟩, ⟨⟨func415, by kernel_rfl, by kernel_rfl⟩, trivial, trivial⟩⟩, ⟨⟨func223, by kernel_rfl, by kernel_rfl⟩, ⟨⟨func351, by kernel_rfl, by kernel_rfl⟩, ⟨⟨func607, by kernel_rfl, by kernel_rfl⟩, trivial, trivial⟩, trivial⟩, ⟨⟨func479, by kernel_rfl, by kernel_rfl⟩, trivial, trivial⟩⟩⟩⟩, ⟨⟨func47, by kernel_rfl, by kernel_rfl⟩, ⟨⟨func79, by kernel_rfl, by kernel_rfl⟩, ⟨⟨func143, by kernel_rfl, by kernel_rfl⟩, ⟨⟨func271, by kernel_rfl, by kernel_rfl⟩, ⟨⟨func527, by kernel_rfl, by kernel_rfl⟩, trivial, trivial⟩, trivial⟩, ⟨⟨func399, by kernel_rfl, by kernel_rfl⟩, ⟨⟨func655, by kernel_rfl, by kernel_rfl⟩, trivial, trivial⟩, trivial⟩⟩, ⟨⟨func207, by kernel_rfl, by kernel_rfl⟩, ⟨⟨func335, by kernel_rfl, by kernel_rfl⟩, ⟨⟨func591, by kernel_rfl, by kernel_rfl⟩, trivial, trivial⟩, trivial⟩, ⟨⟨func463, by kernel_rfl, by kernel_rfl⟩, trivial, trivial⟩⟩⟩, ⟨⟨func111, by kernel_rfl, by kernel_rfl⟩, ⟨⟨func175, by kernel_rfl, by kernel_rfl⟩, ⟨⟨func303, by kernel_rfl, by kernel_rfl⟩, ⟨⟨func559, by kernel_rfl, by kernel_rfl⟩, trivial, trivial⟩, trivial⟩, ⟨⟨func431, by kernel_rfl, by kernel_rfl⟩, trivial, trivial⟩⟩, ⟨⟨func239, by kernel_rfl, by kernel_rfl⟩, ⟨⟨func367, by kernel_rfl, by kernel_rfl⟩, ⟨⟨func623, by kernel_rfl, by kernel_rfl⟩, trivial, trivial⟩, trivial⟩, ⟨⟨func495, by kernel_rfl, by kernel_rfl⟩, trivial, trivial⟩⟩⟩⟩⟩, ⟨⟨func23, by kernel_rfl, by kernel_rfl⟩, ⟨⟨func39, by kernel_rfl, by kernel_rfl⟩, ⟨⟨func71, by kernel_rfl, by kernel_rfl⟩, ⟨⟨func135, by kernel_rfl, by kernel_rfl⟩, ⟨⟨func263, by kernel_rfl, by kernel_rfl⟩, ⟨⟨func519, by kernel_rfl, by kernel_rfl⟩, trivial, trivial⟩, trivial⟩, ⟨⟨func391, by kernel_rfl, by kernel_rfl⟩, ⟨⟨func647, by kernel_rfl, by kernel_rfl⟩, trivial, trivial⟩, trivial⟩⟩, ⟨⟨func199, by kernel_rfl, by kernel_rfl⟩, ⟨⟨func327, by kernel_rfl, by kernel_rfl⟩, ⟨⟨func583, by kernel_rfl, by kernel_rfl⟩, trivial, trivial⟩, trivial⟩, ⟨⟨func455, by kernel_rfl, by kernel_rfl⟩, trivial, trivial⟩⟩⟩, ⟨⟨func103, by kernel_rfl, by kernel_rfl⟩, ⟨⟨func167, by kernel_rfl, by kernel_rfl⟩, ⟨⟨func295, by kernel_rfl, by kernel_rfl⟩, ⟨⟨func551, by kernel_rfl, by kernel_rfl⟩, trivial, trivial⟩, trivial⟩, ⟨⟨func423, by kernel_rfl, by kernel_rfl⟩, trivial, trivial⟩⟩, ⟨⟨func231, by kernel_rfl, by kernel_rfl⟩, ⟨⟨func359, by kernel_rfl, by kernel_rfl⟩, ⟨⟨func615, by kernel_rfl, by kernel_rfl⟩, trivial, trivial⟩, trivial⟩, ⟨⟨func487, by kernel_rfl, by kernel_rfl⟩, trivial, trivial⟩⟩⟩⟩, ⟨⟨func55, by kernel_rfl, by kernel_rfl⟩, ⟨trivial, ⟨⟨func151, by kernel_rfl, by kernel_rfl⟩, ⟨⟨func279, by kernel_rfl, by kernel_rfl⟩, ⟨⟨func535, by kernel_rfl, by kernel_rfl⟩, trivial, trivial⟩, trivial⟩, ⟨⟨func407, by kernel_rfl, by kernel_rfl⟩, ⟨⟨func663, by kernel_rfl, by kernel_rfl⟩, trivial, trivial⟩, trivial⟩⟩, ⟨⟨func215, by kernel_rfl, by kernel_rfl⟩, ⟨⟨func343, by kernel_rfl, by kernel_rfl⟩, ⟨⟨func599, by kernel_rfl, by kernel_rfl⟩, trivial, trivial⟩, trivial⟩, ⟨⟨func471, by kernel_rfl, by kernel_rfl⟩, trivial, trivial⟩⟩⟩, ⟨⟨func119, by kernel_rfl, by kernel_rfl⟩, ⟨⟨func183, by kernel_rfl, by kernel_rfl⟩, ⟨⟨func311, by kernel_rfl, by kernel_rfl⟩, ⟨⟨func567, by kernel_rfl, by kernel_rfl⟩, trivial, trivial⟩, trivial⟩, ⟨⟨func439, by kernel_rfl, by kernel_rfl⟩, ⟨⟨func695, by kernel_rfl, by kernel_rfl⟩, trivial, trivial⟩, trivial⟩⟩, ⟨⟨func247, by kernel_rfl, by kernel_rfl⟩, ⟨⟨func375, by kernel_rfl, by kernel_rfl⟩, ⟨⟨func631, by kernel_rfl, by kernel_rfl⟩, trivial, trivial⟩, trivial⟩, ⟨⟨func503, by kernel_rfl, by kernel_rfl⟩, trivial, trivial⟩⟩⟩⟩⟩⟩, ⟨⟨func11, by kernel_rfl, by kernel_rfl⟩, ⟨⟨func19, by kernel_rfl, by kernel_rfl⟩, ⟨⟨func35, by kernel_rfl, by kernel_rfl⟩, ⟨⟨func67, by kernel_rfl, by kernel_rfl⟩, ⟨⟨func131, by kernel_rfl, by kernel_rfl⟩, ⟨⟨func259, by kernel_rfl, by kernel_rfl⟩, ⟨⟨func515, by kernel_rfl, by kernel_rfl⟩, trivial, trivial⟩, trivial⟩, ⟨⟨func387, by kernel_rfl, by kernel_rfl⟩, ⟨⟨func643, by kernel_rfl, by kernel_rfl⟩, trivial, trivial⟩, trivial⟩⟩, ⟨⟨func195, by kernel_rfl, by kernel_rfl⟩, ⟨⟨func323, by kernel_rfl, by kernel_rfl⟩, ⟨⟨func579, by kernel_rfl, by kernel_rfl⟩, trivial, trivial⟩, trivial⟩, ⟨⟨func451, by kernel_rfl, by kernel_rfl⟩, trivial, trivial⟩⟩⟩, ⟨⟨func99, by kernel_rfl, by kernel_rfl⟩, ⟨trivial, ⟨⟨func291, by kernel_rfl, by kernel_rfl⟩, ⟨⟨func547, by kernel_rfl, by kernel_rfl⟩, trivial, trivial⟩, trivial⟩, ⟨⟨func419, by kernel_rfl, by kernel_rfl⟩, trivial, trivial⟩⟩, ⟨⟨func227, by kernel_rfl, by kernel_rfl⟩, ⟨⟨func355, by kernel_rfl, by kernel_rfl⟩, ⟨⟨func611, by kernel_rfl, by kernel_rfl⟩, trivial, trivial⟩, trivial⟩, ⟨⟨func483, by kernel_rfl, by kernel_rfl⟩, trivial, trivial⟩⟩⟩⟩, ⟨⟨func51, by kernel_rfl, by kernel_rfl⟩, ⟨⟨func83, by kernel_rfl, by kernel_rfl⟩, ⟨⟨func147, by kernel_rfl, by kernel_rfl⟩, ⟨⟨func275, by kernel_rfl, by kernel_rfl⟩, ⟨⟨func531, by kernel_rfl, by kernel_rfl⟩, trivial, trivial⟩, trivial⟩, ⟨⟨func403, by kernel_rfl, by kernel_rfl⟩, ⟨⟨func659, by kernel_rfl, by kernel_rfl⟩, trivial, trivial⟩, trivial⟩⟩, ⟨⟨func211, by kernel_rfl, by kernel_rfl⟩, ⟨⟨func339, by kernel_rfl, by kernel_rfl⟩, ⟨⟨func595, by kernel_rfl, by kernel_rfl⟩, trivial, trivial⟩, trivial⟩, ⟨⟨func467, by kernel_rfl, by kernel_rfl⟩, trivial, trivial⟩⟩⟩, ⟨⟨func115, by kernel_rfl, by kernel_rfl⟩, ⟨⟨func179, by kernel_rfl, by kernel_rfl⟩, ⟨⟨func307, by kernel_rfl, by kernel_rfl⟩, ⟨⟨func563, by kernel_rfl, by kernel_rfl⟩, trivial, trivial⟩, trivial⟩, ⟨⟨func435, by kernel_rfl, by kernel_rfl⟩, ⟨⟨func691, by kernel_rfl, by kernel_rfl⟩, trivial, trivial⟩, trivial⟩⟩, ⟨⟨func243, by kernel_rfl, by kernel_rfl⟩, ⟨⟨func371, by kernel_rfl, by kernel_rfl⟩, ⟨⟨func627, by kernel_rfl, by kernel_rfl⟩, trivial, trivial⟩, trivial⟩, ⟨⟨func499, by kernel_rfl, by kernel_rfl⟩, trivial, trivial⟩⟩⟩⟩⟩, ⟨⟨func27, by kernel_rfl, by kernel_rfl⟩, ⟨⟨func43, by kernel_rfl, by kernel_rfl⟩, ⟨⟨func75, by kernel_rfl, by kernel_rfl⟩, ⟨⟨func139, by kernel_rfl, by kernel_rfl⟩, ⟨⟨func267, by kernel_rfl, by kernel_rfl⟩, ⟨⟨func523, by kernel_rfl, by kernel_rfl⟩, trivial, trivial⟩, trivial⟩, ⟨⟨func395, by kernel_rfl, by kernel_rfl⟩, ⟨⟨func651, by kernel_rfl, by kernel_rfl⟩, trivial, trivial⟩, trivial⟩⟩, ⟨⟨func203, by kernel_rfl, by kernel_rfl⟩, ⟨⟨func331, by kernel_rfl, by kernel_rfl⟩, ⟨⟨func587, by kernel_rfl, by kernel_rfl⟩, trivial, trivial⟩, trivial⟩, ⟨⟨func459, by kernel_rfl, by kernel_rfl⟩, trivial, trivial⟩⟩⟩, ⟨⟨func107, by kernel_rfl, by kernel_rfl⟩, ⟨⟨func171, by kernel_rfl, by kernel_rfl⟩, ⟨⟨func299, by kernel_rfl, by kernel_rfl⟩, ⟨⟨func555, by kernel_rfl, by kernel_rfl⟩, trivial, trivial⟩, trivial⟩, ⟨⟨func427, by kernel_rfl, by kernel_rfl⟩, trivial, trivial⟩⟩, ⟨⟨func235, by kernel_rfl, by kernel_rfl⟩, ⟨⟨func363, by kernel_rfl, by kernel_rfl⟩, ⟨⟨func619, by kernel_rfl, by kernel_rfl⟩, trivial, trivial⟩, trivial⟩, ⟨⟨func491, by kernel_rfl, by kernel_rfl⟩, trivial, trivial⟩⟩⟩⟩, ⟨⟨func59, by kernel_rfl, by kernel_rfl⟩, ⟨⟨func91, by kernel_rfl, by kernel_rfl⟩, ⟨⟨func155, by kernel_rfl, by kernel_rfl⟩, ⟨⟨func283, by kernel_rfl, by kernel_rfl⟩, ⟨⟨func539, by kernel_rfl, by kernel_rfl⟩, trivial, trivial⟩, trivial⟩, ⟨⟨func411, by kernel_rfl, by kernel_rfl⟩, trivial, trivial⟩⟩, ⟨⟨func219, by kernel_rfl, by kernel_rfl⟩, ⟨⟨func347, by kernel_rfl, by kernel_rfl⟩, ⟨⟨func603, by kernel_rfl, by kernel_rfl⟩, trivial, trivial⟩, trivial⟩, ⟨⟨func475, by kernel_rfl, by kernel_rfl⟩, trivial, trivial⟩⟩⟩, ⟨⟨func123, by kernel_rfl, by kernel_rfl⟩, ⟨⟨func187, by kernel_rfl, by kernel_rfl⟩, ⟨⟨func315, by kernel_rfl, by kernel_rfl⟩, ⟨⟨func571, by kernel_rfl, by kernel_rfl⟩, trivial, trivial⟩, trivial⟩, ⟨⟨func443, by kernel_rfl, by kernel_rfl⟩, trivial, trivial⟩⟩, ⟨⟨func251, by kernel_rfl, by kernel_rfl⟩, ⟨⟨func379, by kernel_rfl, by kernel_rfl⟩, ⟨⟨func635, by kernel_rfl, by kernel_rfl⟩, trivial, trivial⟩, trivial⟩, ⟨⟨func507, by kernel_rfl, by kernel_rfl⟩, trivial, trivial⟩⟩⟩⟩⟩⟩⟩, ⟨⟨func5, by kernel_rfl, by kernel_rfl⟩, ⟨⟨func9, by kernel_rfl, by kernel_rfl⟩, ⟨⟨func17, by kernel_rfl, by kernel_rfl⟩, ⟨⟨func33, by kernel_rfl, by kernel_rfl⟩, ⟨⟨func65, by kernel_rfl, by kernel_rfl⟩, ⟨⟨func129, by kernel_rfl, by kernel_rfl⟩, ⟨⟨func257, by kernel_rfl, by kernel_rfl⟩, ⟨⟨func513, by kernel_rfl, by kernel_rfl⟩, trivial, trivial⟩, trivial⟩, ⟨⟨func385, by kernel_rfl, by kernel_rfl⟩, ⟨⟨func641, by kernel_rfl, by kernel_rfl⟩, trivial, trivial⟩, trivial⟩⟩, ⟨⟨func193, by kernel_rfl, by kernel_rfl⟩, ⟨⟨func321, by kernel_rfl, by kernel_rfl⟩, ⟨⟨func577, by kernel_rfl, by kernel_rfl⟩, trivial, trivial⟩, trivial⟩, ⟨⟨func449, by kernel_rfl, by kernel_rfl⟩, trivial, trivial⟩⟩⟩, ⟨⟨func97, by kernel_rfl, by kernel_rfl⟩, ⟨trivial, ⟨⟨func289, by kernel_rfl, by kernel_rfl⟩, ⟨⟨func545, by kernel_rfl, by kernel_rfl⟩, trivial, trivial⟩, trivial⟩, ⟨⟨func417, by kernel_rfl, by kernel_rfl⟩, trivial, trivial⟩⟩, ⟨⟨func225, by kernel_rfl, by kernel_rfl⟩, ⟨⟨func353, by kernel_rfl, by kernel_rfl⟩, ⟨⟨func609, by kernel_rfl, by kernel_rfl⟩, trivial, trivial⟩, trivial⟩, ⟨⟨func481, by kernel_rfl, by kernel_rfl⟩, trivial, trivial⟩⟩⟩⟩, ⟨⟨func49, by kernel_rfl, by kernel_rfl⟩, ⟨⟨func81, by kernel_rfl, by kernel_rfl⟩, ⟨⟨func145, by kernel_rfl, by kernel_rfl⟩, ⟨⟨func273, by kernel_rfl, by kernel_rfl⟩, ⟨⟨func529, by kernel_rfl, by kernel_rfl⟩, trivial, trivial⟩, trivial⟩, ⟨⟨func401, by kernel_rfl, by kernel_rfl⟩, ⟨⟨func657, by kernel_rfl, by kernel_rfl⟩, trivial, trivial⟩, trivial⟩⟩, ⟨⟨func209, by kernel_rfl, by kernel_rfl⟩, ⟨⟨func337, by kernel_rfl, by kernel_rfl⟩, ⟨⟨func593, by kernel_rfl, by kernel_rfl⟩, trivial, trivial⟩, trivial⟩, ⟨⟨func465, by kernel_rfl, by kernel_rfl⟩, trivial, trivial⟩⟩⟩, ⟨⟨func113, by kernel_rfl, by kernel_rfl⟩, ⟨⟨func177, by kernel_rfl, by kernel_rfl⟩, ⟨⟨func305, by kernel_rfl, by kernel_rfl⟩, ⟨⟨func561, by kernel_rfl, by kernel_rfl⟩, trivial, trivial⟩, trivial⟩, ⟨⟨func433, by kernel_rfl, by kernel_rfl⟩, ⟨⟨func689, by kernel_rfl, by kernel_rfl⟩, trivial, trivial⟩, trivial⟩⟩, ⟨⟨func241, by kernel_rfl, by kernel_rfl⟩, ⟨⟨func369, by kernel_rfl, by kernel_rfl⟩, ⟨⟨func625, by kernel_rfl, by kernel_rfl⟩, trivial, trivial⟩, trivial⟩, ⟨⟨func497, by kernel_rfl, by kernel_rfl⟩, trivial, trivial⟩⟩⟩⟩⟩, ⟨⟨func25, by kernel_rfl, by kernel_rfl⟩, ⟨⟨func41, by kernel_rfl, by kernel_rfl⟩, ⟨⟨func73, by kernel_rfl, by kernel_rfl⟩, ⟨⟨func137, by kernel_rfl, by kernel_rfl⟩, ⟨⟨func265, by kernel_rfl, by kernel_rfl⟩, ⟨⟨func521, by kernel_rfl, by kernel_rfl⟩, trivial, trivial⟩, trivial⟩, ⟨⟨func393, by kernel_rfl, by kernel_rfl⟩, ⟨⟨func649, by kernel_rfl, by kernel_rfl⟩, trivial, trivial⟩, trivial⟩⟩, ⟨⟨func201, by kernel_rfl, by kernel_rfl⟩, ⟨⟨func329, by kernel_rfl, by kernel_rfl⟩, ⟨⟨func585, by kernel_rfl, by kernel_rfl⟩, trivial, trivial⟩, trivial⟩, ⟨⟨func457, by kernel_rfl, by kernel_rfl⟩, trivial, trivial⟩⟩⟩, ⟨⟨func105, by kernel_rfl, by kernel_rfl⟩, ⟨⟨func169, by kernel_rfl, by kernel_rfl⟩, ⟨⟨func297, by kernel_rfl, by kernel_rfl⟩, ⟨⟨func553, by kernel_rfl, by kernel_rfl⟩, trivial, trivial⟩, trivial⟩, ⟨⟨func425, by kernel_rfl, by kernel_rfl⟩, trivial, trivial⟩⟩, ⟨⟨func233, by kernel_rfl, by kernel_rfl⟩, ⟨⟨func361, by kernel_rfl, by kernel_rfl⟩, ⟨⟨func617, by kernel_rfl, by kernel_rfl⟩, trivial, trivial⟩, trivial⟩, ⟨⟨func489, by kernel_rfl, by kernel_rfl⟩, trivial, trivial⟩⟩⟩⟩, ⟨⟨func57, by kernel_rfl, by kernel_rfl⟩, ⟨⟨func89, by kernel_rfl, by kernel_rfl⟩, ⟨⟨func153, by kernel_rfl, by kernel_rfl⟩, ⟨⟨func281, by kernel_rfl, by kernel_rfl⟩, ⟨⟨func537, by kernel_rfl, by kernel_rfl⟩, trivial, trivial⟩, trivial⟩, ⟨⟨func409, by kernel_rfl, by kernel_rfl⟩, ⟨⟨func665, by kernel_rfl, by kernel_rfl⟩, trivial, trivial⟩, trivial⟩⟩, ⟨⟨func217, by kernel_rfl, by kernel_rfl⟩, ⟨⟨func345, by kernel_rfl, by kernel_rfl⟩, ⟨⟨func601, by kernel_rfl, by kernel_rfl⟩, trivial, trivial⟩, trivial⟩, ⟨⟨func473, by kernel_rfl, by kernel_rfl⟩, trivial, trivial⟩⟩⟩, ⟨⟨func121, by kernel_rfl, by kernel_rfl⟩, ⟨⟨func185, by kernel_rfl, by kernel_rfl⟩, ⟨⟨func313, by kernel_rfl, by kernel_rfl⟩, ⟨⟨func569, by kernel_rfl, by kernel_rfl⟩, trivial, trivial⟩, trivial⟩, ⟨⟨func441, by kernel_rfl, by kernel_rfl⟩, trivial, trivial⟩⟩, ⟨⟨func249, by kernel_rfl, by kernel_rfl⟩, ⟨⟨func377, by kernel_rfl, by kernel_rfl⟩, ⟨⟨func633, by kernel_rfl, by kernel_rfl⟩, trivial, trivial⟩, trivial⟩, ⟨⟨func505, by kernel_rfl, by kernel_rfl⟩, trivial, trivial⟩⟩⟩⟩⟩⟩, ⟨⟨func13, by kernel_rfl, by kernel_rfl⟩, ⟨⟨func21, by kernel_rfl, by kernel_rfl⟩, ⟨⟨func37, by kernel_rfl, by kernel_rfl⟩, ⟨⟨func69, by kernel_rfl, by kernel_rfl⟩, ⟨⟨func133, by kernel_rfl, by kernel_rfl⟩, ⟨⟨func261, by kernel_rfl, by kernel_rfl⟩, ⟨⟨func517, by kernel_rfl, by kernel_rfl⟩, trivial, trivial⟩, trivial⟩, ⟨⟨func389, by kernel_rfl, by kernel_rfl⟩, ⟨⟨func645, by kernel_rfl, by kernel_rfl⟩, trivial, trivial⟩, trivial⟩⟩, ⟨⟨func197, by kernel_rfl, by kernel_rfl⟩, ⟨⟨func325, by kernel_rfl, by kernel_rfl⟩, ⟨⟨func581, by kernel_rfl, by kernel_rfl⟩, trivial, trivial⟩, trivial⟩, ⟨⟨func453, by kernel_rfl, by kernel_rfl⟩, trivial, trivial⟩⟩⟩, ⟨⟨func101, by kernel_rfl, by kernel_rfl⟩, ⟨⟨func165, by kernel_rfl, by kernel_rfl⟩, ⟨⟨func293, by kernel_rfl, by kernel_rfl⟩, ⟨⟨func549, by kernel_rfl, by kernel_rfl⟩, trivial, trivial⟩, trivial⟩, ⟨⟨func421, by kernel_rfl, by kernel_rfl⟩, trivial, trivial⟩⟩, ⟨⟨func229, by kernel_rfl, by kernel_rfl⟩, ⟨⟨func357, by kernel_rfl, by kernel_rfl⟩, ⟨⟨func613, by kernel_rfl, by kernel_rfl⟩, trivial, trivial⟩, trivial⟩, ⟨⟨func485, by kernel_rfl, by kernel_rfl⟩, trivial, trivial⟩⟩⟩⟩, ⟨⟨func53, by kernel_rfl, by kernel_rfl⟩, ⟨⟨func85, by kernel_rfl, by kernel_rfl⟩, ⟨⟨func149, by kernel_rfl, by kernel_rfl⟩, ⟨⟨func277, by kernel_rfl, by kernel_rfl⟩, ⟨⟨func533, by kernel_rfl, by kernel_rfl⟩, trivial, trivial⟩, trivial⟩, ⟨⟨func405, by kernel_rfl, by kernel_rfl⟩, ⟨⟨func661, by kernel_rfl, by kernel_rfl⟩, trivial, trivial⟩, trivial⟩⟩, ⟨⟨func213, by kernel_rfl, by kernel_rfl⟩, ⟨⟨func341, by kernel_rfl, by kernel_rfl⟩, ⟨⟨func597, by kernel_rfl, by kernel_rfl⟩, trivial, trivial⟩, trivial⟩, ⟨⟨func469, by kernel_rfl, by kernel_rfl⟩, trivial, trivial⟩⟩⟩, ⟨⟨func117, by kernel_rfl, by kernel_rfl⟩, ⟨⟨func181, by kernel_rfl, by kernel_rfl⟩, ⟨⟨func309, by kernel_rfl, by kernel_rfl⟩, ⟨⟨func565, by kernel_rfl, by kernel_rfl⟩, trivial, trivial⟩, trivial⟩, ⟨⟨func437, by kernel_rfl, by kernel_rfl⟩, trivial, trivial⟩⟩, ⟨⟨func245, by kernel_rfl, by kernel_rfl⟩, ⟨⟨func373, by kernel_rfl, by kernel_rfl⟩, ⟨⟨func629, by kernel_rfl, by kernel_rfl⟩, trivial, trivial⟩, trivial⟩, ⟨⟨func501, by kernel_rfl, by kernel_rfl⟩, trivial, trivial⟩⟩⟩⟩⟩, ⟨⟨func29, by kernel_rfl, by kernel_rfl⟩, ⟨⟨func45, by kernel_rfl, by kernel_rfl⟩, ⟨⟨func77, by kernel_rfl, by kernel_rfl⟩, ⟨⟨func141, by kernel_rfl, by kernel_rfl⟩, ⟨⟨func269, by kernel_rfl, by kernel_rfl⟩, ⟨⟨func525, by kernel_rfl, by kernel_rfl⟩, trivial, trivial⟩, trivial⟩, ⟨⟨func397, by kernel_rfl, by kernel_rfl⟩, ⟨⟨func653, by kernel_rfl, by kernel_rfl⟩, trivial, trivial⟩, trivial⟩⟩, ⟨⟨func205, by kernel_rfl, by kernel_rfl⟩, ⟨⟨func333, by kernel_rfl, by kernel_rfl⟩, ⟨⟨func589, by kernel_rfl, by kernel_rfl⟩, trivial, trivial⟩, trivial⟩, ⟨⟨func461, by kernel_rfl, by kernel_rfl⟩, trivial, trivial⟩⟩⟩, ⟨⟨func109, by kernel_rfl, by kernel_rfl⟩, ⟨⟨func173, by kernel_rfl, by kernel_rfl⟩, ⟨⟨func301, by kernel_rfl, by kernel_rfl⟩, ⟨⟨func557, by kernel_rfl, by kernel_rfl⟩, trivial, trivial⟩, trivial⟩, ⟨⟨func429, by kernel_rfl, by kernel_rfl⟩, trivial, trivial⟩⟩, ⟨⟨func237, by kernel_rfl, by kernel_rfl⟩, ⟨⟨func365, by kernel_rfl, by kernel_rfl⟩, ⟨⟨func621, by kernel_rfl, by kernel_rfl⟩, trivial, trivial⟩, trivial⟩, ⟨⟨func493, by kernel_rfl, by kernel_rfl⟩, trivial, trivial⟩⟩⟩⟩, ⟨⟨func61, by kernel_rfl, by kernel_rfl⟩, ⟨⟨func93, by kernel_rfl, by kernel_rfl⟩, ⟨⟨func157, by kernel_rfl, by kernel_rfl⟩, ⟨⟨func285, by kernel_rfl, by kernel_rfl⟩, ⟨⟨func541, by kernel_rfl, by kernel_rfl⟩, trivial, trivial⟩, trivial⟩, ⟨⟨func413, by kernel_rfl, by kernel_rfl⟩, trivial, trivial⟩⟩, ⟨⟨func221, by kernel_rfl, by kernel_rfl⟩, ⟨⟨func349, by kernel_rfl, by kernel_rfl⟩, ⟨⟨func605, by kernel_rfl, by kernel_rfl⟩, trivial, trivial⟩, trivial⟩, ⟨⟨func477, by kernel_rfl, by kernel_rfl⟩, trivial, trivial⟩⟩⟩, ⟨⟨func125, by kernel_rfl, by kernel_rfl⟩, ⟨⟨func189, by kernel_rfl, by kernel_rfl⟩, ⟨⟨func317, by kernel_rfl, by kernel_rfl⟩, ⟨⟨func573, by kernel_rfl, by kernel_rfl⟩, trivial, trivial⟩, trivial⟩, ⟨⟨func445, by kernel_rfl, by kernel_rfl⟩, trivial, trivial⟩⟩, ⟨⟨func253, by kernel_rfl, by kernel_rfl⟩, ⟨⟨func381, by kernel_rfl, by kernel_rfl⟩, ⟨⟨func637, by kernel_rfl, by kernel_rfl⟩, trivial, trivial⟩, trivial⟩, ⟨⟨func509, by kernel_rfl, by kernel_rfl⟩, trivial, trivial⟩⟩⟩⟩⟩⟩⟩⟩, ⟨⟨func2, by kernel_rfl, by kernel_rfl⟩, ⟨⟨func4, by kernel_rfl, by kernel_rfl⟩, ⟨⟨func8, by kernel_rfl, by kernel_rfl⟩, ⟨⟨func16, by kernel_rfl, by kernel_rfl⟩, ⟨⟨func32, by kernel_rfl, by kernel_rfl⟩, ⟨⟨func64, by kernel_rfl, by kernel_rfl⟩, ⟨⟨func128, by kernel_rfl, by kernel_rfl⟩, ⟨⟨func256, by kernel_rfl, by kernel_rfl⟩, ⟨⟨func512, by kernel_rfl, by kernel_rfl⟩, trivial, trivial⟩, trivial⟩, ⟨⟨func384, by kernel_rfl, by kernel_rfl⟩, ⟨⟨func640, by kernel_rfl, by kernel_rfl⟩, trivial, trivial⟩, trivial⟩⟩, ⟨⟨func192, by kernel_rfl, by kernel_rfl⟩, ⟨⟨func320, by kernel_rfl, by kernel_rfl⟩, ⟨⟨func576, by kernel_rfl, by kernel_rfl⟩, trivial, trivial⟩, trivial⟩, ⟨⟨func448, by kernel_rfl, by kernel_rfl⟩, trivial, trivial⟩⟩⟩, ⟨⟨func96, by kernel_rfl, by kernel_rfl⟩, ⟨⟨func160, by kernel_rfl, by kernel_rfl⟩, ⟨⟨func288, by kernel_rfl, by kernel_rfl⟩, ⟨⟨func544, by kernel_rfl, by kernel_rfl⟩, trivial, trivial⟩, trivial⟩, ⟨⟨func416, by kernel_rfl, by kernel_rfl⟩, trivial, trivial⟩⟩, ⟨⟨func224, by kernel_rfl, by kernel_rfl⟩, ⟨⟨func352, by kernel_rfl, by kernel_rfl⟩, ⟨⟨func608, by kernel_rfl, by kernel_rfl⟩, trivial, trivial⟩, trivial⟩, ⟨⟨func480, by kernel_rfl, by kernel_rfl⟩, trivial, trivial⟩⟩⟩⟩, ⟨⟨func48, by kernel_rfl, by kernel_rfl⟩, ⟨⟨func80, by kernel_rfl, by kernel_rfl⟩, ⟨⟨func144, by kernel_rfl, by kernel_rfl⟩, ⟨⟨func272, by kernel_rfl, by kernel_rfl⟩, ⟨⟨func528, by kernel_rfl, by kernel_rfl⟩, trivial, trivial⟩, trivial⟩, ⟨⟨func400, by kernel_rfl, by kernel_rfl⟩, ⟨⟨func656, by kernel_rfl, by kernel_rfl⟩, trivial, trivial⟩, trivial⟩⟩, ⟨⟨func208, by kernel_rfl, by kernel_rfl⟩, ⟨⟨func336, by kernel_rfl, by kernel_rfl⟩, ⟨⟨func592, by kernel_rfl, by kernel_rfl⟩, trivial, trivial⟩, trivial⟩, ⟨⟨func464, by kernel_rfl, by kernel_rfl⟩, trivial, trivial⟩⟩⟩, ⟨⟨func112, by kernel_rfl, by kernel_rfl⟩, ⟨⟨func176, by kernel_rfl, by kernel_rfl⟩, ⟨⟨func304, by kernel_rfl, by kernel_rfl⟩, ⟨⟨func560, by kernel_rfl, by kernel_rfl⟩, trivial, trivial⟩, trivial⟩, ⟨⟨func432, by kernel_rfl, by kernel_rfl⟩, trivial, trivial⟩⟩, ⟨⟨func240, by kernel_rfl, by kernel_rfl⟩, ⟨⟨func368, by kernel_rfl, by kernel_rfl⟩, ⟨⟨func624, by kernel_rfl, by kernel_rfl⟩, trivial, trivial⟩, trivial⟩, ⟨⟨func496, by kernel_rfl, by kernel_rfl⟩, trivial, trivial⟩⟩⟩⟩⟩, ⟨⟨func24, by kernel_rfl, by kernel_rfl⟩, ⟨⟨func40, by kernel_rfl, by kernel_rfl⟩, ⟨⟨func72, by kernel_rfl, by kernel_rfl⟩, ⟨⟨func136, by kernel_rfl, by kernel_rfl⟩, ⟨⟨func264, by kernel_rfl, by kernel_rfl⟩, ⟨⟨func520, by kernel_rfl, by kernel_rfl⟩, trivial, trivial⟩, trivial⟩, ⟨⟨func392, by kernel_rfl, by kernel_rfl⟩, ⟨⟨func648, by kernel_rfl, by kernel_rfl⟩, trivial, trivial⟩, trivial⟩⟩, ⟨⟨func200, by kernel_rfl, by kernel_rfl⟩, ⟨⟨func328, by kernel_rfl, by kernel_rfl⟩, ⟨⟨func584, by kernel_rfl, by kernel_rfl⟩, trivial, trivial⟩, trivial⟩, ⟨⟨func456, by kernel_rfl, by kernel_rfl⟩, trivial, trivial⟩⟩⟩, ⟨⟨func104, by kernel_rfl, by kernel_rfl⟩, ⟨⟨func168, by kernel_rfl, by kernel_rfl⟩, ⟨⟨func296, by kernel_rfl, by kernel_rfl⟩, ⟨⟨func552, by kernel_rfl, by kernel_rfl⟩, trivial, trivial⟩, trivial⟩, ⟨⟨func424, by kernel_rfl, by kernel_rfl⟩, trivial, trivial⟩⟩, ⟨⟨func232, by kernel_rfl, by kernel_rfl⟩, ⟨⟨func360, by kernel_rfl, by kernel_rfl⟩, ⟨⟨func616, by kernel_rfl, by kernel_rfl⟩, trivial, trivial⟩, trivial⟩, ⟨⟨func488, by kernel_rfl, by kernel_rfl⟩, trivial, trivial⟩⟩⟩⟩, ⟨⟨func56, by kernel_rfl, by kernel_rfl⟩, ⟨⟨func88, by kernel_rfl, by kernel_rfl⟩, ⟨⟨func152, by kernel_rfl, by kernel_rfl⟩, ⟨⟨func280, by kernel_rfl, by kernel_rfl⟩, ⟨⟨func536, by kernel_rfl, by kernel_rfl⟩, trivial, trivial⟩, trivial⟩, ⟨⟨func408, by kernel_rfl, by kernel_rfl⟩, ⟨⟨func664, by kernel_rfl, by kernel_rfl⟩, trivial, trivial⟩, trivial⟩⟩, ⟨⟨func216, by kernel_rfl, by kernel_rfl⟩, ⟨⟨func344, by kernel_rfl, by kernel_rfl⟩, ⟨⟨func600, by kernel_rfl, by kernel_rfl⟩, trivial, trivial⟩, trivial⟩, ⟨⟨func472, by kernel_rfl, by kernel_rfl⟩, trivial, trivial⟩⟩⟩, ⟨⟨func120, by kernel_rfl, by kernel_rfl⟩, ⟨⟨func184, by kernel_rfl, by kernel_rfl⟩, ⟨⟨func312, by kernel_rfl, by kernel_rfl⟩, ⟨⟨func568, by kernel_rfl, by kernel_rfl⟩, trivial, trivial⟩, trivial⟩, ⟨⟨func440, by kernel_rfl, by kernel_rfl⟩, trivial, trivial⟩⟩, ⟨⟨func248, by kernel_rfl, by kernel_rfl⟩, ⟨⟨func376, by kernel_rfl, by kernel_rfl⟩, ⟨⟨func632, by kernel_rfl, by kernel_rfl⟩, trivial, trivial⟩, trivial⟩, ⟨⟨func504, by kernel_rfl, by kernel_rfl⟩, trivial, trivial⟩⟩⟩⟩⟩⟩, ⟨⟨func12, by kernel_rfl, by kernel_rfl⟩, ⟨⟨func20, by kernel_rfl, by kernel_rfl⟩, ⟨⟨func36, by kernel_rfl, by kernel_rfl⟩, ⟨⟨func68, by kernel_rfl, by kernel_rfl⟩, ⟨⟨func132, by kernel_rfl, by kernel_rfl⟩, ⟨⟨func260, by kernel_rfl, by kernel_rfl⟩, ⟨⟨func516, by kernel_rfl, by kernel_rfl⟩, trivial, trivial⟩, trivial⟩, ⟨⟨func388, by kernel_rfl, by kernel_rfl⟩, ⟨⟨func644, by kernel_rfl, by kernel_rfl⟩, trivial, trivial⟩, trivial⟩⟩, ⟨⟨func196, by kernel_rfl, by kernel_rfl⟩, ⟨⟨func324, by kernel_rfl, by kernel_rfl⟩, ⟨⟨func580, by kernel_rfl, by kernel_rfl⟩, trivial, trivial⟩, trivial⟩, ⟨⟨func452, by kernel_rfl, by kernel_rfl⟩, trivial, trivial⟩⟩⟩, ⟨⟨func100, by kernel_rfl, by kernel_rfl⟩, ⟨⟨func164, by kernel_rfl, by kernel_rfl⟩, ⟨⟨func292, by kernel_rfl, by kernel_rfl⟩, ⟨⟨func548, by kernel_rfl, by kernel_rfl⟩, trivial, trivial⟩, trivial⟩, ⟨⟨func420, by kernel_rfl, by kernel_rfl⟩, trivial, trivial⟩⟩, ⟨⟨func228, by kernel_rfl, by kernel_rfl⟩, ⟨⟨func356, by kernel_rfl, by kernel_rfl⟩, ⟨⟨func612, by kernel_rfl, by kernel_rfl⟩, trivial, trivial⟩, trivial⟩, ⟨⟨func484, by kernel_rfl, by kernel_rfl⟩, trivial, trivial⟩⟩⟩⟩, ⟨⟨func52, by kernel_rfl, by kernel_rfl⟩, ⟨⟨func84, by kernel_rfl, by kernel_rfl⟩, ⟨⟨func148, by kernel_rfl, by kernel_rfl⟩, ⟨⟨func276, by kernel_rfl, by kernel_rfl⟩, ⟨⟨func532, by kernel_rfl, by kernel_rfl⟩, trivial, trivial⟩, trivial⟩, ⟨⟨func404, by kernel_rfl, by kernel_rfl⟩, ⟨⟨func660, by kernel_rfl, by kernel_rfl⟩, trivial, trivial⟩, trivial⟩⟩, ⟨⟨func212, by kernel_rfl, by kernel_rfl⟩, ⟨⟨func340, by kernel_rfl, by kernel_rfl⟩, ⟨⟨func596, by kernel_rfl, by kernel_rfl⟩, trivial, trivial⟩, trivial⟩, ⟨⟨func468, by kernel_rfl, by kernel_rfl⟩, trivial, trivial⟩⟩⟩, ⟨⟨func116, by kernel_rfl, by kernel_rfl⟩, ⟨⟨func180, by kernel_rfl, by kernel_rfl⟩, ⟨⟨func308, by kernel_rfl, by kernel_rfl⟩, ⟨⟨func564, by kernel_rfl, by kernel_rfl⟩, trivial, trivial⟩, trivial⟩, ⟨⟨func436, by kernel_rfl, by kernel_rfl⟩, trivial, trivial⟩⟩, ⟨⟨func244, by kernel_rfl, by kernel_rfl⟩, ⟨⟨func372, by kernel_rfl, by kernel_rfl⟩, ⟨⟨func628, by kernel_rfl, by kernel_rfl⟩, trivial, trivial⟩, trivial⟩, ⟨⟨func500, by kernel_rfl, by kernel_rfl⟩, trivial, trivial⟩⟩⟩⟩⟩, ⟨⟨func28, by kernel_rfl, by kernel_rfl⟩, ⟨⟨func44, by kernel_rfl, by kernel_rfl⟩, ⟨⟨func76, by kernel_rfl, by kernel_rfl⟩, ⟨⟨func140, by kernel_rfl, by kernel_rfl⟩, ⟨⟨func268, by kernel_rfl, by kernel_rfl⟩, ⟨⟨func524, by kernel_rfl, by kernel_rfl⟩, trivial, trivial⟩, trivial⟩, ⟨⟨func396, by kernel_rfl, by kernel_rfl⟩, ⟨⟨func652, by kernel_rfl, by kernel_rfl⟩, trivial, trivial⟩, trivial⟩⟩, ⟨⟨func204, by kernel_rfl, by kernel_rfl⟩, ⟨⟨func332, by kernel_rfl, by kernel_rfl⟩, ⟨⟨func588, by kernel_rfl, by kernel_rfl⟩, trivial, trivial⟩, trivial⟩, ⟨⟨func460, by kernel_rfl, by kernel_rfl⟩, trivial, trivial⟩⟩⟩, ⟨⟨func108, by kernel_rfl, by kernel_rfl⟩, ⟨⟨func172, by kernel_rfl, by kernel_rfl⟩, ⟨⟨func300, by kernel_rfl, by kernel_rfl⟩, ⟨⟨func556, by kernel_rfl, by kernel_rfl⟩, trivial, trivial⟩, trivial⟩, ⟨⟨func428, by kernel_rfl, by kernel_rfl⟩, trivial, trivial⟩⟩, ⟨⟨func236, by kernel_rfl, by kernel_rfl⟩, ⟨⟨func364, by kernel_rfl, by kernel_rfl⟩, ⟨⟨func620, by kernel_rfl, by kernel_rfl⟩, trivial, trivial⟩, trivial⟩, ⟨⟨func492, by kernel_rfl, by kernel_rfl⟩, trivial, trivial⟩⟩⟩⟩, ⟨⟨func60, by kernel_rfl, by kernel_rfl⟩, ⟨⟨func92, by kernel_rfl, by kernel_rfl⟩, ⟨⟨func156, by kernel_rfl, by kernel_rfl⟩, ⟨⟨func284, by kernel_rfl, by kernel_rfl⟩, ⟨⟨func540, by kernel_rfl, by kernel_rfl⟩, trivial, trivial⟩, trivial⟩, ⟨⟨func412, by kernel_rfl, by kernel_rfl⟩, trivial, trivial⟩⟩, ⟨⟨func220, by kernel_rfl, by kernel_rfl⟩, ⟨⟨func348, by kernel_rfl, by kernel_rfl⟩, ⟨⟨func604, by kernel_rfl, by kernel_rfl⟩, trivial, trivial⟩, trivial⟩, ⟨⟨func476, by kernel_rfl, by kernel_rfl⟩, trivial, trivial⟩⟩⟩, ⟨⟨func124, by kernel_rfl, by kernel_rfl⟩, ⟨⟨func188, by kernel_rfl, by kernel_rfl⟩, ⟨⟨func316, by kernel_rfl, by kernel_rfl⟩, ⟨⟨func572, by kernel_rfl, by kernel_rfl⟩, trivial, trivial⟩, trivial⟩, ⟨⟨func444, by kernel_rfl, by kernel_rfl⟩, trivial, trivial⟩⟩, ⟨⟨func252, by kernel_rfl, by kernel_rfl⟩, ⟨⟨func380, by kernel_rfl, by kernel_rfl⟩, ⟨⟨func636, by kernel_rfl, by kernel_rfl⟩, trivial, trivial⟩, trivial⟩, ⟨⟨func508, by kernel_rfl, by kernel_rfl⟩, trivial, trivial⟩⟩⟩⟩⟩⟩⟩, ⟨⟨func6, by kernel_rfl, by kernel_rfl⟩, ⟨⟨func10, by kernel_rfl, by kernel_rfl⟩, ⟨⟨func18, by kernel_rfl, by kernel_rfl⟩, ⟨⟨func34, by kernel_rfl, by kernel_rfl⟩, ⟨⟨func66, by kernel_rfl, by kernel_rfl⟩, ⟨⟨func130, by kernel_rfl, by kernel_rfl⟩, ⟨⟨func258, by kernel_rfl, by kernel_rfl⟩, ⟨⟨func514, by kernel_rfl, by kernel_rfl⟩, trivial, trivial⟩, trivial⟩, ⟨⟨func386, by kernel_rfl, by kernel_rfl⟩, ⟨⟨func642, by kernel_rfl, by kernel_rfl⟩, trivial, trivial⟩, trivial⟩⟩, ⟨trivial, ⟨⟨func322, by kernel_rfl, by kernel_rfl⟩, ⟨⟨func578, by kernel_rfl, by kernel_rfl⟩, trivial, trivial⟩, trivial⟩, ⟨⟨func450, by kernel_rfl, by kernel_rfl⟩, ⟨⟨func706, by kernel_rfl, by kernel_rfl⟩, trivial, trivial⟩, trivial⟩⟩⟩, ⟨⟨func98, by kernel_rfl, by kernel_rfl⟩, ⟨⟨func162, by kernel_rfl, by kernel_rfl⟩, ⟨⟨func290, by kernel_rfl, by kernel_rfl⟩, ⟨⟨func546, by kernel_rfl, by kernel_rfl⟩, trivial, trivial⟩, trivial⟩, ⟨⟨func418, by kernel_rfl, by kernel_rfl⟩, trivial, trivial⟩⟩, ⟨⟨func226, by kernel_rfl, by kernel_rfl⟩, ⟨⟨func354, by kernel_rfl, by kernel_rfl⟩, ⟨⟨func610, by kernel_rfl, by kernel_rfl⟩, trivial, trivial⟩, trivial⟩, ⟨⟨func482, by kernel_rfl, by kernel_rfl⟩, trivial, trivial⟩⟩⟩⟩, ⟨⟨func50, by kernel_rfl, by kernel_rfl⟩, ⟨⟨func82, by kernel_rfl, by kernel_rfl⟩, ⟨⟨func146, by kernel_rfl, by kernel_rfl⟩, ⟨⟨func274, by kernel_rfl, by kernel_rfl⟩, ⟨⟨func530, by kernel_rfl, by kernel_rfl⟩, trivial, trivial⟩, trivial⟩, ⟨⟨func402, by kernel_rfl, by kernel_rfl⟩, ⟨⟨func658, by kernel_rfl, by kernel_rfl⟩, trivial, trivial⟩, trivial⟩⟩, ⟨⟨func210, by kernel_rfl, by kernel_rfl⟩, ⟨⟨func338, by kernel_rfl, by kernel_rfl⟩, ⟨⟨func594, by kernel_rfl, by kernel_rfl⟩, trivial, trivial⟩, trivial⟩, ⟨⟨func466, by kernel_rfl, by kernel_rfl⟩, trivial, trivial⟩⟩⟩, ⟨⟨func114, by kernel_rfl, by kernel_rfl⟩, ⟨⟨func178, by kernel_rfl, by kernel_rfl⟩, ⟨⟨func306, by kernel_rfl, by kernel_rfl⟩, ⟨⟨func562, by kernel_rfl, by kernel_rfl⟩, trivial, trivial⟩, trivial⟩, ⟨⟨func434, by kernel_rfl, by kernel_rfl⟩, ⟨⟨func690, by kernel_rfl, by kernel_rfl⟩, trivial, trivial⟩, trivial⟩⟩, ⟨⟨func242, by kernel_rfl, by kernel_rfl⟩, ⟨⟨func370, by kernel_rfl, by kernel_rfl⟩, ⟨⟨func626, by kernel_rfl, by kernel_rfl⟩, trivial, trivial⟩, trivial⟩, ⟨⟨func498, by kernel_rfl, by kernel_rfl⟩, trivial, trivial⟩⟩⟩⟩⟩, ⟨⟨func26, by kernel_rfl, by kernel_rfl⟩, ⟨⟨func42, by kernel_rfl, by kernel_rfl⟩, ⟨⟨func74, by kernel_rfl, by kernel_rfl⟩, ⟨⟨func138, by kernel_rfl, by kernel_rfl⟩, ⟨⟨func266, by kernel_rfl, by kernel_rfl⟩, ⟨⟨func522, by kernel_rfl, by kernel_rfl⟩, trivial, trivial⟩, trivial⟩, ⟨⟨func394, by kernel_rfl, by kernel_rfl⟩, ⟨⟨func650, by kernel_rfl, by kernel_rfl⟩, trivial, trivial⟩, trivial⟩⟩, ⟨⟨func202, by kernel_rfl, by kernel_rfl⟩, ⟨⟨func330, by kernel_rfl, by kernel_rfl⟩, ⟨⟨func586, by kernel_rfl, by kernel_rfl⟩, trivial, trivial⟩, trivial⟩, ⟨⟨func458, by kernel_rfl, by kernel_rfl⟩, trivial, trivial⟩⟩⟩, ⟨⟨func106, by kernel_rfl, by kernel_rfl⟩, ⟨⟨func170, by kernel_rfl, by kernel_rfl⟩, ⟨⟨func298, by kernel_rfl, by kernel_rfl⟩, ⟨⟨func554, by kernel_rfl, by kernel_rfl⟩, trivial, trivial⟩, trivial⟩, ⟨⟨func426, by kernel_rfl, by kernel_rfl⟩, trivial, trivial⟩⟩, ⟨⟨func234, by kernel_rfl, by kernel_rfl⟩, ⟨⟨func362, by kernel_rfl, by kernel_rfl⟩, ⟨⟨func618, by kernel_rfl, by kernel_rfl⟩, trivial, trivial⟩, trivial⟩, ⟨⟨func490, by kernel_rfl, by kernel_rfl⟩, trivial, trivial⟩⟩⟩⟩, ⟨⟨func58, by kernel_rfl, by kernel_rfl⟩, ⟨trivial, ⟨⟨func154, by kernel_rfl, by kernel_rfl⟩, ⟨⟨func282, by kernel_rfl, by kernel_rfl⟩, ⟨⟨func538, by kernel_rfl, by kernel_rfl⟩, trivial, trivial⟩, trivial⟩, ⟨⟨func410, by kernel_rfl, by kernel_rfl⟩, ⟨⟨func666, by kernel_rfl, by kernel_rfl⟩, trivial, trivial⟩, trivial⟩⟩, ⟨⟨func218, by kernel_rfl, by kernel_rfl⟩, ⟨⟨func346, by kernel_rfl, by kernel_rfl⟩, ⟨⟨func602, by kernel_rfl, by kernel_rfl⟩, trivial, trivial⟩, trivial⟩, ⟨⟨func474, by kernel_rfl, by kernel_rfl⟩, trivial, trivial⟩⟩⟩, ⟨⟨func122, by kernel_rfl, by kernel_rfl⟩, ⟨⟨func186, by kernel_rfl, by kernel_rfl⟩, ⟨⟨func314, by kernel_rfl, by kernel_rfl⟩, ⟨⟨func570, by kernel_rfl, by kernel_rfl⟩, trivial, trivial⟩, trivial⟩, ⟨⟨func442, by kernel_rfl, by kernel_rfl⟩, trivial, trivial⟩⟩, ⟨⟨func250, by kernel_rfl, by kernel_rfl⟩, ⟨⟨func378, by kernel_rfl, by kernel_rfl⟩, ⟨⟨func634, by kernel_rfl, by kernel_rfl⟩, trivial, trivial⟩, trivial⟩, ⟨⟨func506, by kernel_rfl, by kernel_rfl⟩, trivial, trivial⟩⟩⟩⟩⟩⟩, ⟨⟨func14, by kernel_rfl, by kernel_rfl⟩, ⟨⟨func22, by kernel_rfl, by kernel_rfl⟩, ⟨⟨func38, by kernel_rfl, by kernel_rfl⟩, ⟨⟨func70, by kernel_rfl, by kernel_rfl⟩, ⟨⟨func134, by kernel_rfl, by kernel_rfl⟩, ⟨⟨func262, by kernel_rfl, by kernel_rfl⟩, ⟨⟨func518, by kernel_rfl, by kernel_rfl⟩, trivial, trivial⟩, trivial⟩, ⟨⟨func390, by kernel_rfl, by kernel_rfl⟩, ⟨⟨func646, by kernel_rfl, by kernel_rfl⟩, trivial, trivial⟩, trivial⟩⟩, ⟨⟨func198, by kernel_rfl, by kernel_rfl⟩, ⟨⟨func326, by kernel_rfl, by kernel_rfl⟩, ⟨⟨func582, by kernel_rfl, by kernel_rfl⟩, trivial, trivial⟩, trivial⟩, ⟨⟨func454, by kernel_rfl, by kernel_rfl⟩, trivial, trivial⟩⟩⟩, ⟨⟨func102, by kernel_rfl, by kernel_rfl⟩, ⟨⟨func166, by kernel_rfl, by kernel_rfl⟩, ⟨⟨func294, by kernel_rfl, by kernel_rfl⟩, ⟨⟨func550, by kernel_rfl, by kernel_rfl⟩, trivial, trivial⟩, trivial⟩, ⟨⟨func422, by kernel_rfl, by kernel_rfl⟩, trivial, trivial⟩⟩, ⟨⟨func230, by kernel_rfl, by kernel_rfl⟩, ⟨⟨func358, by kernel_rfl, by kernel_rfl⟩, ⟨⟨func614, by kernel_rfl, by kernel_rfl⟩, trivial, trivial⟩, trivial⟩, ⟨⟨func486, by kernel_rfl, by kernel_rfl⟩, trivial, trivial⟩⟩⟩⟩, ⟨⟨func54, by kernel_rfl, by kernel_rfl⟩, ⟨⟨func86, by kernel_rfl, by kernel_rfl⟩, ⟨⟨func150, by kernel_rfl, by kernel_rfl⟩, ⟨⟨func278, by kernel_rfl, by kernel_rfl⟩, ⟨⟨func534, by kernel_rfl, by kernel_rfl⟩, trivial, trivial⟩, trivial⟩, ⟨⟨func406, by kernel_rfl, by kernel_rfl⟩, ⟨⟨func662, by kernel_rfl, by kernel_rfl⟩, trivial, trivial⟩, trivial⟩⟩, ⟨⟨func214, by kernel_rfl, by kernel_rfl⟩, ⟨⟨func342, by kernel_rfl, by kernel_rfl⟩, ⟨⟨func598, by kernel_rfl, by kernel_rfl⟩, trivial, trivial⟩, trivial⟩, ⟨⟨func470, by kernel_rfl, by kernel_rfl⟩, trivial, trivial⟩⟩⟩, ⟨⟨func118, by kernel_rfl, by kernel_rfl⟩, ⟨⟨func182, by kernel_rfl, by kernel_rfl⟩, ⟨⟨func310, by kernel_rfl, by kernel_rfl⟩, ⟨⟨func566, by kernel_rfl, by kernel_rfl⟩, trivial, trivial⟩, trivial⟩, ⟨⟨func438, by kernel_rfl, by kernel_rfl⟩, ⟨⟨func694, by kernel_rfl, by kernel_rfl⟩, trivial, trivial⟩, trivial⟩⟩, ⟨⟨func246, by kernel_rfl, by kernel_rfl⟩, ⟨⟨func374, by kernel_rfl, by kernel_rfl⟩, ⟨⟨func630, by kernel_rfl, by kernel_rfl⟩, trivial, trivial⟩, trivial⟩, ⟨⟨func502, by kernel_rfl, by kernel_rfl⟩, trivial, trivial⟩⟩⟩⟩⟩, ⟨⟨func30, by kernel_rfl, by kernel_rfl⟩, ⟨⟨func46, by kernel_rfl, by kernel_rfl⟩, ⟨⟨func78, by kernel_rfl, by kernel_rfl⟩, ⟨⟨func142, by kernel_rfl, by kernel_rfl⟩, ⟨⟨func270, by kernel_rfl, by kernel_rfl⟩, ⟨⟨func526, by kernel_rfl, by kernel_rfl⟩, trivial, trivial⟩, trivial⟩, ⟨⟨func398, by kernel_rfl, by kernel_rfl⟩, ⟨⟨func654, by kernel_rfl, by kernel_rfl⟩, trivial, trivial⟩, trivial⟩⟩, ⟨⟨func206, by kernel_rfl, by kernel_rfl⟩, ⟨⟨func334, by kernel_rfl, by kernel_rfl⟩, ⟨⟨func590, by kernel_rfl, by kernel_rfl⟩, trivial, trivial⟩, trivial⟩, ⟨⟨func462, by kernel_rfl, by kernel_rfl⟩, trivial, trivial⟩⟩⟩, ⟨⟨func110, by kernel_rfl, by kernel_rfl⟩, ⟨⟨func174, by kernel_rfl, by kernel_rfl⟩, ⟨⟨func302, by kernel_rfl, by kernel_rfl⟩, ⟨⟨func558, by kernel_rfl, by kernel_rfl⟩, trivial, trivial⟩, trivial⟩, ⟨⟨func430, by kernel_rfl, by kernel_rfl⟩, trivial, trivial⟩⟩, ⟨⟨func238, by kernel_rfl, by kernel_rfl⟩, ⟨⟨func366, by kernel_rfl, by kernel_rfl⟩, ⟨⟨func622, by kernel_rfl, by kernel_rfl⟩, trivial, trivial⟩, trivial⟩, ⟨⟨func494, by kernel_rfl, by kernel_rfl⟩, trivial, trivial⟩⟩⟩⟩, ⟨⟨func62, by kernel_rfl, by kernel_rfl⟩, ⟨⟨func94, by kernel_rfl, by kernel_rfl⟩, ⟨⟨func158, by kernel_rfl, by kernel_rfl⟩, ⟨⟨func286, by kernel_rfl, by kernel_rfl⟩, ⟨⟨func542, by kernel_rfl, by kernel_rfl⟩, trivial, trivial⟩, trivial⟩, ⟨⟨func414, by kernel_rfl, by kernel_rfl⟩, trivial, trivial⟩⟩, ⟨⟨func222, by kernel_rfl, by kernel_rfl⟩, ⟨⟨func350, by kernel_rfl, by kernel_rfl⟩, ⟨⟨func606, by kernel_rfl, by kernel_rfl⟩, trivial, trivial⟩, trivial⟩, ⟨⟨func478, by kernel_rfl, by kernel_rfl⟩, trivial, trivial⟩⟩⟩, ⟨⟨func126, by kernel_rfl, by kernel_rfl⟩, ⟨⟨func190, by kernel_rfl, by kernel_rfl⟩, ⟨⟨func318, by kernel_rfl, by kernel_rfl⟩, ⟨⟨func574, by kernel_rfl, by kernel_rfl⟩, trivial, trivial⟩, trivial⟩, ⟨⟨func446, by kernel_rfl, by kernel_rfl⟩, trivial, trivial⟩⟩, ⟨⟨func254, by kernel_rfl, by kernel_rfl⟩, ⟨⟨func382, by kernel_rfl, by kernel_rfl⟩, ⟨⟨func638, by kernel_rfl, by kernel_rfl⟩, trivial, trivial⟩, trivial⟩, ⟨⟨func510, by kernel_rfl, by kernel_rfl⟩, trivial, trivial⟩⟩⟩⟩⟩⟩⟩⟩⟩
end Go.Proofs.Tryz
