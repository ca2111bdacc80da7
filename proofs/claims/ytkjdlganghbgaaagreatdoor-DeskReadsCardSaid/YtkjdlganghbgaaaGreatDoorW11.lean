/- Two hexadecimal digits read by the library, walked by hand. -/
import Derived.Test.YtkjdlganghbgaaaGreatDoorLay2
import Derived.Test.YtkjdlganghbgaaaGreatDoorQD
import Derived.Shelf.Strconv.Lower
import Derived.Shelf.Strconv.ToError
import Derived.Lib.Strings
import Derived.Lib.Walk
import Derived.Lib.ConvBytes
import Derived.Lib.Hide
import Derived.Laws.Strings3
import Derived.Laws.Closers25
import Derived.Laws.Closers25b
import Derived.WalkKit
import Derived.BigCall
import Derived.BigGuard
namespace Go.Proofs.YtkjdlganghbgaaaGreatDoor
open Go.RowKit Go.Desk Go.Shelf
def lowT (c : Nat) : Nat := if c / 32 % 2 = 0 then c + 32 else c
theorem low_bits (c : UInt8) : bits .or .u8 ((c.toNat : Nat) : Int) 32 = ((lowT c.toNat : Nat) : Int) := by
 have : ∀ c : Fin 256, bits .or .u8 ((c.val : Nat) : Int) 32 = ((lowT c.val : Nat) : Int) := by decide +kernel
 exact this ⟨c.toNat, c.toNat_lt⟩
theorem unX_low (c : UInt8) : unX c = if 48 ≤ c.toNat ∧ c.toNat ≤ 57 then some (c.toNat - 48) else if 97 ≤ lowT c.toNat ∧ lowT c.toNat ≤ 102 then some (lowT c.toNat - 87) else none := by
 have : ∀ c : Fin 256, unX (UInt8.ofNat c.val) = if 48 ≤ c.val ∧ c.val ≤ 57 then some (c.val - 48) else if 97 ≤ lowT c.val ∧ lowT c.val ≤ 102 then some (lowT c.val - 87) else none := by decide +kernel
 have h := this ⟨c.toNat, c.toNat_lt⟩
 rw [UInt8.ofNat_toNat] at h
 exact h
theorem low_lt (c : UInt8) : lowT c.toNat < 256 := by
 unfold lowT
 have := c.toNat_lt
 split <;> omega
theorem lower_any (c : UInt8) (w : World) : Calls Tryz.prog 278 #[.int .u8 ((c.toNat : Nat) : Int)] w fun e w' => e = .returned (.int .u8 ((lowT c.toNat : Nat) : Int)) ∧ w' = w := by
 have h := Any.internal_strconv_lower { Tryz.lays287 with } ((c.toNat : Nat) : Int) w
 rw [low_bits] at h
 exact h
def hexFrom : Nat → List UInt8 → Option Nat
 | acc, [] => some acc
 | acc, c :: r => match unX c with
  | some d => hexFrom (16 * acc + d) r
  | none => none
theorem hex_some {acc : Nat} {c : UInt8} {r : List UInt8} {d : Nat} (h : unX c = some d) : hexFrom acc (c :: r) = hexFrom (16 * acc + d) r := by rw [hexFrom, h]
theorem hex_none {acc : Nat} {c : UInt8} {r : List UInt8} (h : unX c = none) : hexFrom acc (c :: r) = none := by rw [hexFrom, h]
theorem unX_lt {c : UInt8} {d : Nat} (h : unX c = some d) : d < 16 := by
 unfold unX at h
 split at h
 ·injection h with h; omega
 ·split at h
  ·injection h with h; omega
  ·split at h
   ·injection h with h; omega
   ·cases h
def hexAns : Option Nat → Value
 | some n => .tuple #[.int .u64 n, .nilIface]
 | none => .tuple #[.int .u64 0, .iface 252 (.int .i64 2)]
set_option maxHeartbeats 32000000 in
set_option maxRecDepth 100000 in
theorem pu16_walk (t : ByteArray) (hne : t.size = 2) (w : World) :
  Calls Tryz.prog 160 #[.string t, .int .i64 16, .int .i64 8] w fun e w' => e = .returned (hexAns (hexFrom 0 t.data.toList)) ∧ w' = Lib.bytesWorld w 5 t := by
 have hemp : t.toList.isEmpty = false := by
  rw [← decide_eq_emptyBytes]
  exact decide_eq_false (fun h => by rw [h] at hne; cases hne)
 have hcv := Lib.run_convert_string_bytes (P := Tryz.prog) w 9 31 5 t (u := .string) Tryz.underlying9 Tryz.underlying31 Tryz.underlying5
 have hB : ∀ j, j < t.size → (Lib.bytesWorld w 5 t).cell? ⟨w.heap.size, j, none⟩ = some (.int .u8 (t.data.toList.getD j 0).toNat) := fun j hj => Lib.bytesWorld_cell w 5 t j hj
 obtain ⟨W1, hW1⟩ : ∃ W1, W1 = Lib.bytesWorld w 5 t := ⟨_, rfl⟩
 rw [← hW1] at hcv hB ⊢
 clear hW1
 obtain ⟨bs, hL⟩ : ∃ bs, bs = t.data.toList := ⟨_, rfl⟩
 have hLn : bs.length = t.size := by rw [hL, Lib.size_eq]
 rw [← hL] at hB ⊢
 clear hL
 have hmv : IntKind.u64.wrap (IntKind.u64.wrap 256 - 1) = 255 := by
  rw [IntKind.wrap_u64, IntKind.wrap_u64]
  decide
 go_enter Tryz.func160, Tryz.ntmps160
 go_wp2
 go_loop [12, 13, 101] (fun vu vn vi => ∃ (k acc : Nat) (a : Int), vu = .bool false ∧ vn = .int .u64 a ∧ vi = .int .i64 k ∧ k ≤ t.size ∧ Hid (a = (acc : Int) ∧ acc < 16 ^ k ∧ hexFrom 0 bs = hexFrom acc (bs.drop k)))
  (fun _ _ vi => t.size - (intOf vi).toNat)
 case atStart => exact ⟨0, 0, 0, rfl, rfl, rfl, by omega, rfl, by decide, rfl⟩
 case round =>
  obtain ⟨k, acc, a, rfl, rfl, rfl, hk, hh⟩ := hrel
  obtain ⟨ha, hacc, hdec⟩ := hh.out
  clear hh
  have a0 : 0 ≤ a := by omega
  by_cases hkn : k < t.size
  ·have hac : acc < 16 := by
    have : 16 ^ k ≤ 16 ^ 1 := Nat.pow_le_pow_right (by omega) (by omega)
    omega
   have a1 : a ≤ 15 := by omega
   have hc := hB k hkn
   have hdrop : bs.drop k = bs[k]'(by omega) :: bs.drop (k + 1) := List.drop_eq_getElem_cons (by omega)
   have hget : bs.getD k 0 = bs[k]'(by omega) := by simp [List.getD, List.getElem?_eq_getElem (show k < bs.length by omega)]
   rw [hdrop] at hdec
   rw [hget] at hc
   generalize bs[k]'(by omega) = c at hc hdec
   have hc256 : c.toNat < 256 := c.toNat_lt
   have hun := unX_low c
   have hlb := low_bits c
   have hpk : 16 * 16 ^ k = 16 ^ (k + 1) := by rw [Nat.pow_succ, Nat.mul_comm]
   clear hB hdrop hget
   by_cases hdig : 48 ≤ c.toNat ∧ c.toNat ≤ 57
   ·rw [if_pos hdig] at hun
    obtain ⟨hd0, hd1⟩ := hdig
    have HN : Hid (a * 16 + ((c.toNat : Int) - 48) = ((16 * acc + (c.toNat - 48) : Nat) : Int) ∧ 16 * acc + (c.toNat - 48) < 16 ^ (k + 1) ∧ hexFrom 0 bs = hexFrom (16 * acc + (c.toNat - 48)) (bs.drop (k + 1))) := Lib.hid ⟨by omega, by omega, hdec.trans (hex_some hun)⟩
    clear hacc hdec ha hun hlb hpk hac
    go_wp2
    refine ⟨⟨k + 1, 16 * acc + (c.toNat - 48), a * 16 + ((c.toNat : Int) - 48), rfl, (by first | rfl | (congr 1; omega)), (by first | rfl | (congr 1; omega)), by omega, HN⟩, by simp [intOf]; omega⟩
   ·rw [if_neg hdig] at hun
    by_cases hlo : 97 ≤ lowT c.toNat ∧ lowT c.toNat ≤ 102
    ·rw [if_pos hlo] at hun
     obtain ⟨hl0, hl1⟩ := hlo
     have HN : Hid (a * 16 + ((lowT c.toNat : Int) - 87) = ((16 * acc + (lowT c.toNat - 87) : Nat) : Int) ∧ 16 * acc + (lowT c.toNat - 87) < 16 ^ (k + 1) ∧ hexFrom 0 bs = hexFrom (16 * acc + (lowT c.toNat - 87)) (bs.drop (k + 1))) := Lib.hid ⟨by omega, by omega, hdec.trans (hex_some hun)⟩
     clear hacc hdec ha hun hpk hac
     have h95 : (((c.toNat : Nat) : Int) == 95) = false := by
      rw [beq_eq_false_iff_ne]
      intro h
      have h : c.toNat = 95 := by omega
      rw [h] at hl0 hl1
      revert hl1
      decide
     have hll := low_lt c
     have hla := fun W => lower_any c W
     generalize lowT c.toNat = d at *
     clear hlb
     go_wp2_with (go_at_call 278; refine (hla _).mono ?_; rintro e w' ⟨rfl, rfl⟩)
     all_goals refine ⟨⟨k + 1, 16 * acc + (d - 87), a * 16 + ((d : Int) - 87), rfl, (by first | rfl | (congr 1; omega)), (by first | rfl | (congr 1; omega)), by omega, HN⟩, by simp [intOf]; omega⟩
    ·rw [if_neg hlo] at hun
     have hno := Lib.hid (hdec.trans (hex_none hun))
     clear hdec hun hacc ha hpk hac
     have hll := low_lt c
     have hla := fun W => lower_any c W
     by_cases h95 : c.toNat = 95
     ·have hl5 : lowT c.toNat = 127 := by rw [h95]; rfl
      have hi95 : ((c.toNat : Nat) : Int) = 95 := by omega
      rw [hl5] at hla
      rw [hi95] at hla hc
      clear hlb hl5 hlo hll hi95 hdig h95
      go_wp2_with (go_at_call 278; refine (hla _).mono ?_; rintro e w' ⟨rfl, rfl⟩)
      all_goals go_ret2
      all_goals exact ⟨by rw [hno.out]; rfl, rfl⟩
     ·have h95 : (((c.toNat : Nat) : Int) == 95) = false := by
       rw [beq_eq_false_iff_ne]
       omega
      generalize lowT c.toNat = d at *
      clear hlb
      go_wp2_with (go_at_call 278; refine (hla _).mono ?_; rintro e w' ⟨rfl, rfl⟩)
      all_goals go_ret2
      all_goals exact ⟨by rw [hno.out]; rfl, rfl⟩
  ·have hkk : k = t.size := by omega
   subst hkk
   have hF : hexFrom 0 bs = some acc := by rw [hdec, List.drop_eq_nil_of_le (by omega)]; rfl
   subst ha
   have hF := Lib.hid hF
   clear hacc hdec a0
   go_wp2
   go_ret2
   first | exact ⟨rfl, rfl⟩ | exact ⟨by rw [hF.out]; rfl, rfl⟩
end Go.Proofs.YtkjdlganghbgaaaGreatDoor
