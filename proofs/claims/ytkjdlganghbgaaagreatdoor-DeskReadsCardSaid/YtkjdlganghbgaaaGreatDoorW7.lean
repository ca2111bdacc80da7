/- kinds, walked by hand: each word by itself, and any other one. -/
import Derived.Test.YtkjdlganghbgaaaGreatDoorProg
import Derived.Test.YtkjdlganghbgaaaGreatDoorQD
import Derived.WalkKit
import Derived.WalkSpells
import Derived.BigCall
import Derived.IntWalk
import Derived.Lib.Hide
namespace Go.Proofs.YtkjdlganghbgaaaGreatDoor
open Go.RowKit Go.Desk
theorem results_tmp4 {fn : Func} {t u v x : Tmp} (h : fn.results = #[.tmp t, .tmp u, .tmp v, .tmp x]) (tmps : Array Value) (P : Program) (w : World) :
  (results fn tmps).run P w = .ok (.tuple #[tmps.getD t undef, tmps.getD u undef, tmps.getD v undef, tmps.getD x undef]) w := by
 simp [results, h]
def kindAns (x : Option (Nat × Nat × Nat × Bool)) : Value := match x with
 | some (k, t, n, f) => .tuple #[.int .i64 k, .int .i64 t, .int .i64 n, .bool f]
 | none => .tuple #[.int .i64 0, .int .i64 0, .int .i64 0, .bool false]
set_option maxRecDepth 100000 in
set_option maxHeartbeats 4000000 in
theorem others_none (l : List UInt8) (w : World) (h12 : l ≠ [115, 116, 97, 116]) (h13 : l ≠ [102, 115, 116, 97, 116]) (h14 : l ≠ [112, 105, 110]) (h15 : l ≠ [102, 115, 121, 110, 99]) (h16 : l ≠ [115, 121, 110, 99]) (h17 : l ≠ [117, 115, 97, 103, 101]) (h18 : l ≠ [115, 108, 105, 100, 101]) (h19 : l ≠ [114, 101, 112, 111, 114, 116]) : Calls Tryz.prog 47 #[.string ⟨l.toArray⟩] w fun e w' => e = .returned (.tuple #[.int .i64 0, .int .i64 0, .int .i64 0, .bool false]) ∧ w' = w := by
 have hb : (ByteArray.mk l.toArray).data.toList = l := rfl
 generalize hbt : ByteArray.mk l.toArray = b at hb ⊢
 clear hbt
 have hbl : b.toList = l := by rw [Go.ByteArray.toList_eq b, hb]
 have n12 : (b.toList == [115, 116, 97, 116]) = false := by rw [hbl]; simpa using h12
 have n13 : (b.toList == [102, 115, 116, 97, 116]) = false := by rw [hbl]; simpa using h13
 have n14 : (b.toList == [112, 105, 110]) = false := by rw [hbl]; simpa using h14
 have n15 : (b.toList == [102, 115, 121, 110, 99]) = false := by rw [hbl]; simpa using h15
 have n16 : (b.toList == [115, 121, 110, 99]) = false := by rw [hbl]; simpa using h16
 have n17 : (b.toList == [117, 115, 97, 103, 101]) = false := by rw [hbl]; simpa using h17
 have n18 : (b.toList == [115, 108, 105, 100, 101]) = false := by rw [hbl]; simpa using h18
 have n19 : (b.toList == [114, 101, 112, 111, 114, 116]) = false := by rw [hbl]; simpa using h19
 clear h12 h13 h14 h15 h16 h17 h18 h19 hbl hb
 go_enter Tryz.func47, Tryz.ntmps47
 go_wp2
 (try simp only [Exit.inBlock, Exit.then]); refine bodyPost_ret (results_tmp4 rfl _ _ _) rfl ?_
 exact ⟨rfl, rfl⟩
set_option maxRecDepth 100000 in
set_option maxHeartbeats 4000000 in
theorem kinds_none (l : List UInt8) (w : World) (h0 : l ≠ [111, 112, 101, 110]) (h1 : l ≠ [99, 108, 111, 115, 101]) (h2 : l ≠ [114, 101, 97, 100]) (h3 : l ≠ [119, 114, 105, 116, 101]) (h4 : l ≠ [115, 101, 101, 107]) (h5 : l ≠ [114, 101, 115, 105, 122, 101]) (h6 : l ≠ [109, 107, 100, 105, 114]) (h7 : l ≠ [114, 109, 100, 105, 114]) (h8 : l ≠ [108, 105, 110, 107]) (h9 : l ≠ [117, 110, 108, 105, 110, 107]) (h10 : l ≠ [114, 101, 110, 97, 109, 101]) (h11 : l ≠ [108, 105, 115, 116]) (h12 : l ≠ [115, 116, 97, 116]) (h13 : l ≠ [102, 115, 116, 97, 116]) (h14 : l ≠ [112, 105, 110]) (h15 : l ≠ [102, 115, 121, 110, 99]) (h16 : l ≠ [115, 121, 110, 99]) (h17 : l ≠ [117, 115, 97, 103, 101]) (h18 : l ≠ [115, 108, 105, 100, 101]) (h19 : l ≠ [114, 101, 112, 111, 114, 116]) : Calls Tryz.prog 22 #[.string ⟨l.toArray⟩] w fun e w' => e = .returned (.tuple #[.int .i64 0, .int .i64 0, .int .i64 0, .bool false]) ∧ w' = w := by
 have ho := Lib.hid (others_none l w h12 h13 h14 h15 h16 h17 h18 h19)
 have hb : (ByteArray.mk l.toArray).data.toList = l := rfl
 generalize hbt : ByteArray.mk l.toArray = b at hb ho ⊢
 clear hbt
 have hbl : b.toList = l := by rw [Go.ByteArray.toList_eq b, hb]
 have n0 : (b.toList == [111, 112, 101, 110]) = false := by rw [hbl]; simpa using h0
 have n1 : (b.toList == [99, 108, 111, 115, 101]) = false := by rw [hbl]; simpa using h1
 have n2 : (b.toList == [114, 101, 97, 100]) = false := by rw [hbl]; simpa using h2
 have n3 : (b.toList == [119, 114, 105, 116, 101]) = false := by rw [hbl]; simpa using h3
 have n4 : (b.toList == [115, 101, 101, 107]) = false := by rw [hbl]; simpa using h4
 have n5 : (b.toList == [114, 101, 115, 105, 122, 101]) = false := by rw [hbl]; simpa using h5
 have n6 : (b.toList == [109, 107, 100, 105, 114]) = false := by rw [hbl]; simpa using h6
 have n7 : (b.toList == [114, 109, 100, 105, 114]) = false := by rw [hbl]; simpa using h7
 have n8 : (b.toList == [108, 105, 110, 107]) = false := by rw [hbl]; simpa using h8
 have n9 : (b.toList == [117, 110, 108, 105, 110, 107]) = false := by rw [hbl]; simpa using h9
 have n10 : (b.toList == [114, 101, 110, 97, 109, 101]) = false := by rw [hbl]; simpa using h10
 have n11 : (b.toList == [108, 105, 115, 116]) = false := by rw [hbl]; simpa using h11
 clear h0 h1 h2 h3 h4 h5 h6 h7 h8 h9 h10 h11 h12 h13 h14 h15 h16 h17 h18 h19 hbl hb
 go_enter Tryz.func22, Tryz.ntmps22
 go_wp2_with fail
 refine ho.out.mono ?_
 rintro e w' ⟨rfl, rfl⟩
 go_wp2_with fail
 (try simp only [Exit.inBlock, Exit.then]); refine bodyPost_ret (results_tmp4 rfl _ _ _) rfl ?_
 exact ⟨rfl, rfl⟩
set_option maxRecDepth 100000 in
theorem kinds_open (w : World) : Calls Tryz.prog 22 #[.string ⟨#[111, 112, 101, 110]⟩] w fun e w' => e = .returned (.tuple #[.int .i64 1, .int .i64 1, .int .i64 1, .bool false]) ∧ w' = w := by
 go_enter Tryz.func22, Tryz.ntmps22
 go_wp2
 (try simp only [Exit.inBlock, Exit.then]); refine bodyPost_ret (results_tmp4 rfl _ _ _) rfl ?_
 exact ⟨rfl, rfl⟩
set_option maxRecDepth 100000 in
theorem kinds_close (w : World) : Calls Tryz.prog 22 #[.string ⟨#[99, 108, 111, 115, 101]⟩] w fun e w' => e = .returned (.tuple #[.int .i64 2, .int .i64 0, .int .i64 1, .bool true]) ∧ w' = w := by
 go_enter Tryz.func22, Tryz.ntmps22
 go_wp2
 (try simp only [Exit.inBlock, Exit.then]); refine bodyPost_ret (results_tmp4 rfl _ _ _) rfl ?_
 exact ⟨rfl, rfl⟩
set_option maxRecDepth 100000 in
theorem kinds_read (w : World) : Calls Tryz.prog 22 #[.string ⟨#[114, 101, 97, 100]⟩] w fun e w' => e = .returned (.tuple #[.int .i64 3, .int .i64 0, .int .i64 2, .bool true]) ∧ w' = w := by
 go_enter Tryz.func22, Tryz.ntmps22
 go_wp2
 (try simp only [Exit.inBlock, Exit.then]); refine bodyPost_ret (results_tmp4 rfl _ _ _) rfl ?_
 exact ⟨rfl, rfl⟩
set_option maxRecDepth 100000 in
theorem kinds_write (w : World) : Calls Tryz.prog 22 #[.string ⟨#[119, 114, 105, 116, 101]⟩] w fun e w' => e = .returned (.tuple #[.int .i64 4, .int .i64 1, .int .i64 1, .bool true]) ∧ w' = w := by
 go_enter Tryz.func22, Tryz.ntmps22
 go_wp2
 (try simp only [Exit.inBlock, Exit.then]); refine bodyPost_ret (results_tmp4 rfl _ _ _) rfl ?_
 exact ⟨rfl, rfl⟩
set_option maxRecDepth 100000 in
theorem kinds_seek (w : World) : Calls Tryz.prog 22 #[.string ⟨#[115, 101, 101, 107]⟩] w fun e w' => e = .returned (.tuple #[.int .i64 5, .int .i64 0, .int .i64 2, .bool true]) ∧ w' = w := by
 go_enter Tryz.func22, Tryz.ntmps22
 go_wp2
 (try simp only [Exit.inBlock, Exit.then]); refine bodyPost_ret (results_tmp4 rfl _ _ _) rfl ?_
 exact ⟨rfl, rfl⟩
set_option maxRecDepth 100000 in
theorem kinds_resize (w : World) : Calls Tryz.prog 22 #[.string ⟨#[114, 101, 115, 105, 122, 101]⟩] w fun e w' => e = .returned (.tuple #[.int .i64 6, .int .i64 0, .int .i64 2, .bool true]) ∧ w' = w := by
 go_enter Tryz.func22, Tryz.ntmps22
 go_wp2
 (try simp only [Exit.inBlock, Exit.then]); refine bodyPost_ret (results_tmp4 rfl _ _ _) rfl ?_
 exact ⟨rfl, rfl⟩
set_option maxRecDepth 100000 in
theorem kinds_mkdir (w : World) : Calls Tryz.prog 22 #[.string ⟨#[109, 107, 100, 105, 114]⟩] w fun e w' => e = .returned (.tuple #[.int .i64 7, .int .i64 1, .int .i64 0, .bool false]) ∧ w' = w := by
 go_enter Tryz.func22, Tryz.ntmps22
 go_wp2
 (try simp only [Exit.inBlock, Exit.then]); refine bodyPost_ret (results_tmp4 rfl _ _ _) rfl ?_
 exact ⟨rfl, rfl⟩
set_option maxRecDepth 100000 in
theorem kinds_rmdir (w : World) : Calls Tryz.prog 22 #[.string ⟨#[114, 109, 100, 105, 114]⟩] w fun e w' => e = .returned (.tuple #[.int .i64 8, .int .i64 1, .int .i64 0, .bool false]) ∧ w' = w := by
 go_enter Tryz.func22, Tryz.ntmps22
 go_wp2
 (try simp only [Exit.inBlock, Exit.then]); refine bodyPost_ret (results_tmp4 rfl _ _ _) rfl ?_
 exact ⟨rfl, rfl⟩
set_option maxRecDepth 100000 in
theorem kinds_link (w : World) : Calls Tryz.prog 22 #[.string ⟨#[108, 105, 110, 107]⟩] w fun e w' => e = .returned (.tuple #[.int .i64 9, .int .i64 2, .int .i64 0, .bool false]) ∧ w' = w := by
 go_enter Tryz.func22, Tryz.ntmps22
 go_wp2
 (try simp only [Exit.inBlock, Exit.then]); refine bodyPost_ret (results_tmp4 rfl _ _ _) rfl ?_
 exact ⟨rfl, rfl⟩
set_option maxRecDepth 100000 in
theorem kinds_unlink (w : World) : Calls Tryz.prog 22 #[.string ⟨#[117, 110, 108, 105, 110, 107]⟩] w fun e w' => e = .returned (.tuple #[.int .i64 10, .int .i64 1, .int .i64 0, .bool false]) ∧ w' = w := by
 go_enter Tryz.func22, Tryz.ntmps22
 go_wp2
 (try simp only [Exit.inBlock, Exit.then]); refine bodyPost_ret (results_tmp4 rfl _ _ _) rfl ?_
 exact ⟨rfl, rfl⟩
set_option maxRecDepth 100000 in
theorem kinds_rename (w : World) : Calls Tryz.prog 22 #[.string ⟨#[114, 101, 110, 97, 109, 101]⟩] w fun e w' => e = .returned (.tuple #[.int .i64 11, .int .i64 2, .int .i64 0, .bool false]) ∧ w' = w := by
 go_enter Tryz.func22, Tryz.ntmps22
 go_wp2
 (try simp only [Exit.inBlock, Exit.then]); refine bodyPost_ret (results_tmp4 rfl _ _ _) rfl ?_
 exact ⟨rfl, rfl⟩
set_option maxRecDepth 100000 in
theorem kinds_list (w : World) : Calls Tryz.prog 22 #[.string ⟨#[108, 105, 115, 116]⟩] w fun e w' => e = .returned (.tuple #[.int .i64 12, .int .i64 1, .int .i64 0, .bool false]) ∧ w' = w := by
 go_enter Tryz.func22, Tryz.ntmps22
 go_wp2
 (try simp only [Exit.inBlock, Exit.then]); refine bodyPost_ret (results_tmp4 rfl _ _ _) rfl ?_
 exact ⟨rfl, rfl⟩
set_option maxRecDepth 100000 in
theorem others_stat (w : World) : Calls Tryz.prog 47 #[.string ⟨#[115, 116, 97, 116]⟩] w fun e w' => e = .returned (.tuple #[.int .i64 13, .int .i64 1, .int .i64 0, .bool false]) ∧ w' = w := by
 go_enter Tryz.func47, Tryz.ntmps47
 go_wp2
 (try simp only [Exit.inBlock, Exit.then]); refine bodyPost_ret (results_tmp4 rfl _ _ _) rfl ?_
 exact ⟨rfl, rfl⟩
set_option maxRecDepth 100000 in
theorem kinds_stat (w : World) : Calls Tryz.prog 22 #[.string ⟨#[115, 116, 97, 116]⟩] w fun e w' => e = .returned (.tuple #[.int .i64 13, .int .i64 1, .int .i64 0, .bool false]) ∧ w' = w := by
 go_enter Tryz.func22, Tryz.ntmps22
 go_wp2_with fail
 refine (others_stat w).mono ?_
 rintro e w' ⟨rfl, rfl⟩
 go_wp2_with fail
 (try simp only [Exit.inBlock, Exit.then]); refine bodyPost_ret (results_tmp4 rfl _ _ _) rfl ?_
 exact ⟨rfl, rfl⟩
set_option maxRecDepth 100000 in
theorem others_fstat (w : World) : Calls Tryz.prog 47 #[.string ⟨#[102, 115, 116, 97, 116]⟩] w fun e w' => e = .returned (.tuple #[.int .i64 14, .int .i64 0, .int .i64 1, .bool true]) ∧ w' = w := by
 go_enter Tryz.func47, Tryz.ntmps47
 go_wp2
 (try simp only [Exit.inBlock, Exit.then]); refine bodyPost_ret (results_tmp4 rfl _ _ _) rfl ?_
 exact ⟨rfl, rfl⟩
set_option maxRecDepth 100000 in
theorem kinds_fstat (w : World) : Calls Tryz.prog 22 #[.string ⟨#[102, 115, 116, 97, 116]⟩] w fun e w' => e = .returned (.tuple #[.int .i64 14, .int .i64 0, .int .i64 1, .bool true]) ∧ w' = w := by
 go_enter Tryz.func22, Tryz.ntmps22
 go_wp2_with fail
 refine (others_fstat w).mono ?_
 rintro e w' ⟨rfl, rfl⟩
 go_wp2_with fail
 (try simp only [Exit.inBlock, Exit.then]); refine bodyPost_ret (results_tmp4 rfl _ _ _) rfl ?_
 exact ⟨rfl, rfl⟩
set_option maxRecDepth 100000 in
theorem others_pin (w : World) : Calls Tryz.prog 47 #[.string ⟨#[112, 105, 110]⟩] w fun e w' => e = .returned (.tuple #[.int .i64 15, .int .i64 1, .int .i64 0, .bool false]) ∧ w' = w := by
 go_enter Tryz.func47, Tryz.ntmps47
 go_wp2
 (try simp only [Exit.inBlock, Exit.then]); refine bodyPost_ret (results_tmp4 rfl _ _ _) rfl ?_
 exact ⟨rfl, rfl⟩
set_option maxRecDepth 100000 in
theorem kinds_pin (w : World) : Calls Tryz.prog 22 #[.string ⟨#[112, 105, 110]⟩] w fun e w' => e = .returned (.tuple #[.int .i64 15, .int .i64 1, .int .i64 0, .bool false]) ∧ w' = w := by
 go_enter Tryz.func22, Tryz.ntmps22
 go_wp2_with fail
 refine (others_pin w).mono ?_
 rintro e w' ⟨rfl, rfl⟩
 go_wp2_with fail
 (try simp only [Exit.inBlock, Exit.then]); refine bodyPost_ret (results_tmp4 rfl _ _ _) rfl ?_
 exact ⟨rfl, rfl⟩
set_option maxRecDepth 100000 in
theorem others_fsync (w : World) : Calls Tryz.prog 47 #[.string ⟨#[102, 115, 121, 110, 99]⟩] w fun e w' => e = .returned (.tuple #[.int .i64 16, .int .i64 0, .int .i64 1, .bool true]) ∧ w' = w := by
 go_enter Tryz.func47, Tryz.ntmps47
 go_wp2
 (try simp only [Exit.inBlock, Exit.then]); refine bodyPost_ret (results_tmp4 rfl _ _ _) rfl ?_
 exact ⟨rfl, rfl⟩
set_option maxRecDepth 100000 in
theorem kinds_fsync (w : World) : Calls Tryz.prog 22 #[.string ⟨#[102, 115, 121, 110, 99]⟩] w fun e w' => e = .returned (.tuple #[.int .i64 16, .int .i64 0, .int .i64 1, .bool true]) ∧ w' = w := by
 go_enter Tryz.func22, Tryz.ntmps22
 go_wp2_with fail
 refine (others_fsync w).mono ?_
 rintro e w' ⟨rfl, rfl⟩
 go_wp2_with fail
 (try simp only [Exit.inBlock, Exit.then]); refine bodyPost_ret (results_tmp4 rfl _ _ _) rfl ?_
 exact ⟨rfl, rfl⟩
set_option maxRecDepth 100000 in
theorem others_sync (w : World) : Calls Tryz.prog 47 #[.string ⟨#[115, 121, 110, 99]⟩] w fun e w' => e = .returned (.tuple #[.int .i64 17, .int .i64 0, .int .i64 0, .bool false]) ∧ w' = w := by
 go_enter Tryz.func47, Tryz.ntmps47
 go_wp2
 (try simp only [Exit.inBlock, Exit.then]); refine bodyPost_ret (results_tmp4 rfl _ _ _) rfl ?_
 exact ⟨rfl, rfl⟩
set_option maxRecDepth 100000 in
theorem kinds_sync (w : World) : Calls Tryz.prog 22 #[.string ⟨#[115, 121, 110, 99]⟩] w fun e w' => e = .returned (.tuple #[.int .i64 17, .int .i64 0, .int .i64 0, .bool false]) ∧ w' = w := by
 go_enter Tryz.func22, Tryz.ntmps22
 go_wp2_with fail
 refine (others_sync w).mono ?_
 rintro e w' ⟨rfl, rfl⟩
 go_wp2_with fail
 (try simp only [Exit.inBlock, Exit.then]); refine bodyPost_ret (results_tmp4 rfl _ _ _) rfl ?_
 exact ⟨rfl, rfl⟩
set_option maxRecDepth 100000 in
theorem others_usage (w : World) : Calls Tryz.prog 47 #[.string ⟨#[117, 115, 97, 103, 101]⟩] w fun e w' => e = .returned (.tuple #[.int .i64 18, .int .i64 0, .int .i64 0, .bool false]) ∧ w' = w := by
 go_enter Tryz.func47, Tryz.ntmps47
 go_wp2
 (try simp only [Exit.inBlock, Exit.then]); refine bodyPost_ret (results_tmp4 rfl _ _ _) rfl ?_
 exact ⟨rfl, rfl⟩
set_option maxRecDepth 100000 in
theorem kinds_usage (w : World) : Calls Tryz.prog 22 #[.string ⟨#[117, 115, 97, 103, 101]⟩] w fun e w' => e = .returned (.tuple #[.int .i64 18, .int .i64 0, .int .i64 0, .bool false]) ∧ w' = w := by
 go_enter Tryz.func22, Tryz.ntmps22
 go_wp2_with fail
 refine (others_usage w).mono ?_
 rintro e w' ⟨rfl, rfl⟩
 go_wp2_with fail
 (try simp only [Exit.inBlock, Exit.then]); refine bodyPost_ret (results_tmp4 rfl _ _ _) rfl ?_
 exact ⟨rfl, rfl⟩
set_option maxRecDepth 100000 in
theorem others_slide (w : World) : Calls Tryz.prog 47 #[.string ⟨#[115, 108, 105, 100, 101]⟩] w fun e w' => e = .returned (.tuple #[.int .i64 19, .int .i64 0, .int .i64 0, .bool false]) ∧ w' = w := by
 go_enter Tryz.func47, Tryz.ntmps47
 go_wp2
 (try simp only [Exit.inBlock, Exit.then]); refine bodyPost_ret (results_tmp4 rfl _ _ _) rfl ?_
 exact ⟨rfl, rfl⟩
set_option maxRecDepth 100000 in
theorem kinds_slide (w : World) : Calls Tryz.prog 22 #[.string ⟨#[115, 108, 105, 100, 101]⟩] w fun e w' => e = .returned (.tuple #[.int .i64 19, .int .i64 0, .int .i64 0, .bool false]) ∧ w' = w := by
 go_enter Tryz.func22, Tryz.ntmps22
 go_wp2_with fail
 refine (others_slide w).mono ?_
 rintro e w' ⟨rfl, rfl⟩
 go_wp2_with fail
 (try simp only [Exit.inBlock, Exit.then]); refine bodyPost_ret (results_tmp4 rfl _ _ _) rfl ?_
 exact ⟨rfl, rfl⟩
set_option maxRecDepth 100000 in
theorem others_report (w : World) : Calls Tryz.prog 47 #[.string ⟨#[114, 101, 112, 111, 114, 116]⟩] w fun e w' => e = .returned (.tuple #[.int .i64 20, .int .i64 0, .int .i64 0, .bool false]) ∧ w' = w := by
 go_enter Tryz.func47, Tryz.ntmps47
 go_wp2
 (try simp only [Exit.inBlock, Exit.then]); refine bodyPost_ret (results_tmp4 rfl _ _ _) rfl ?_
 exact ⟨rfl, rfl⟩
set_option maxRecDepth 100000 in
theorem kinds_report (w : World) : Calls Tryz.prog 22 #[.string ⟨#[114, 101, 112, 111, 114, 116]⟩] w fun e w' => e = .returned (.tuple #[.int .i64 20, .int .i64 0, .int .i64 0, .bool false]) ∧ w' = w := by
 go_enter Tryz.func22, Tryz.ntmps22
 go_wp2_with fail
 refine (others_report w).mono ?_
 rintro e w' ⟨rfl, rfl⟩
 go_wp2_with fail
 (try simp only [Exit.inBlock, Exit.then]); refine bodyPost_ret (results_tmp4 rfl _ _ _) rfl ?_
 exact ⟨rfl, rfl⟩
theorem kinds_walk (l : List UInt8) (w : World) : Calls Tryz.prog 22 #[.string ⟨l.toArray⟩] w fun e w' => e = .returned (kindAns (refKind l refTab)) ∧ w' = w := by
 by_cases h0 : l = [111, 112, 101, 110]
 ·subst h0
  exact kinds_open w
 by_cases h1 : l = [99, 108, 111, 115, 101]
 ·subst h1
  exact kinds_close w
 by_cases h2 : l = [114, 101, 97, 100]
 ·subst h2
  exact kinds_read w
 by_cases h3 : l = [119, 114, 105, 116, 101]
 ·subst h3
  exact kinds_write w
 by_cases h4 : l = [115, 101, 101, 107]
 ·subst h4
  exact kinds_seek w
 by_cases h5 : l = [114, 101, 115, 105, 122, 101]
 ·subst h5
  exact kinds_resize w
 by_cases h6 : l = [109, 107, 100, 105, 114]
 ·subst h6
  exact kinds_mkdir w
 by_cases h7 : l = [114, 109, 100, 105, 114]
 ·subst h7
  exact kinds_rmdir w
 by_cases h8 : l = [108, 105, 110, 107]
 ·subst h8
  exact kinds_link w
 by_cases h9 : l = [117, 110, 108, 105, 110, 107]
 ·subst h9
  exact kinds_unlink w
 by_cases h10 : l = [114, 101, 110, 97, 109, 101]
 ·subst h10
  exact kinds_rename w
 by_cases h11 : l = [108, 105, 115, 116]
 ·subst h11
  exact kinds_list w
 by_cases h12 : l = [115, 116, 97, 116]
 ·subst h12
  exact kinds_stat w
 by_cases h13 : l = [102, 115, 116, 97, 116]
 ·subst h13
  exact kinds_fstat w
 by_cases h14 : l = [112, 105, 110]
 ·subst h14
  exact kinds_pin w
 by_cases h15 : l = [102, 115, 121, 110, 99]
 ·subst h15
  exact kinds_fsync w
 by_cases h16 : l = [115, 121, 110, 99]
 ·subst h16
  exact kinds_sync w
 by_cases h17 : l = [117, 115, 97, 103, 101]
 ·subst h17
  exact kinds_usage w
 by_cases h18 : l = [115, 108, 105, 100, 101]
 ·subst h18
  exact kinds_slide w
 by_cases h19 : l = [114, 101, 112, 111, 114, 116]
 ·subst h19
  exact kinds_report w
 have e : refKind l refTab = none := by
  unfold refTab
  simp only [refKind]
  rw [if_neg (Ne.symm h0), if_neg (Ne.symm h1), if_neg (Ne.symm h2), if_neg (Ne.symm h3), if_neg (Ne.symm h4), if_neg (Ne.symm h5), if_neg (Ne.symm h6), if_neg (Ne.symm h7), if_neg (Ne.symm h8), if_neg (Ne.symm h9), if_neg (Ne.symm h10), if_neg (Ne.symm h11), if_neg (Ne.symm h12), if_neg (Ne.symm h13), if_neg (Ne.symm h14), if_neg (Ne.symm h15), if_neg (Ne.symm h16), if_neg (Ne.symm h17), if_neg (Ne.symm h18), if_neg (Ne.symm h19)]
 rw [e]
 exact kinds_none l w h0 h1 h2 h3 h4 h5 h6 h7 h8 h9 h10 h11 h12 h13 h14 h15 h16 h17 h18 h19
end Go.Proofs.YtkjdlganghbgaaaGreatDoor
