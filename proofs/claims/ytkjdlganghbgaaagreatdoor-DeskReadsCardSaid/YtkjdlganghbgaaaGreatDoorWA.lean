/- digit, walked by hand. -/
import Derived.Test.YtkjdlganghbgaaaGreatDoorProg
import Derived.WalkKit
import Derived.WalkSpells
import Derived.IntWalk
import Derived.Lib.Hide
import Derived.BigCall
import Derived.Test.YtkjdlganghbgaaaGreatDoorQD
import Derived.Maps.AppendAt
import Derived.Laws.IdiomStrings
import Derived.StillTailTactics
import Derived.Test.YtkjdlganghbgaaaGreatDoorLay2
import Derived.Lib.AppendIntMem
import Derived.Shelf.Strings.Split
import Derived.Lib.SplitLaws
namespace Go.Proofs.YtkjdlganghbgaaaGreatDoor
open Go.RowKit
def plainN (c : Nat) : Bool := decide (32 < c) && (decide (c < 127) && !(c == 37))
set_option maxRecDepth 100000 in
set_option maxHeartbeats 1000000 in
theorem plain_any (c : Nat) (w : World) (hc : c < 256) : Calls Tryz.prog 73 #[.int .u8 c] w fun e w' => e = .returned (.bool (plainN c)) ∧ w' = w := by
 by_cases h1 : 32 < c
 ·by_cases h2 : c < 127
  ·by_cases h3 : c = 37
   ·subst h3
    go_enter Tryz.func73, Tryz.ntmps73
    go_wp2
    go_ret
    exact ⟨rfl, rfl⟩
   ·have e : plainN c = true := by unfold plainN; simp [h1, h2, h3]
    have H := Lib.hid e; clear e
    have h4 : ((c : Int) != 37) = true := by simp; omega
    go_enter Tryz.func73, Tryz.ntmps73
    go_wp2
    go_ret
    exact ⟨by rw [H.out]; rfl, rfl⟩
  ·have e : plainN c = false := by unfold plainN; simp [h2]
   have H := Lib.hid e; clear e
   go_enter Tryz.func73, Tryz.ntmps73
   go_wp2
   go_ret
   exact ⟨by rw [H.out]; rfl, rfl⟩
 ·have e : plainN c = false := by unfold plainN; simp [h1]
  have H := Lib.hid e; clear e
  go_enter Tryz.func73, Tryz.ntmps73
  go_wp2
  go_ret
  exact ⟨by rw [H.out]; rfl, rfl⟩
end Go.Proofs.YtkjdlganghbgaaaGreatDoor
namespace Go.Proofs.YtkjdlganghbgaaaGreatDoor
open Go.RowKit
def hxN (j : Nat) : Nat := if j < 10 then 48 + j else 87 + j
def digitN (c : Nat) : Int := if 48 ≤ c ∧ c ≤ 57 then (c : Int) - 48 else if 97 ≤ c ∧ c ≤ 102 then (c : Int) - 87 else -1
theorem digitN_hx {k : Nat} (h : k < 16) : digitN (hxN k) = k := by
 unfold hxN digitN
 split <;> split <;> first | omega | (split <;> omega)
theorem digitN_none {c : Nat} (h : ∀ j, j < 16 → hxN j ≠ c) : digitN c = -1 := by
 unfold digitN
 split
 ·have := h (c - 48) (by omega)
  unfold hxN at this
  split at this <;> omega
 ·split
  ·have := h (c - 87) (by omega)
   unfold hxN at this
   split at this <;> omega
  ·rfl
def intV3 (v : Value) : Nat := match v with | .int _ n => n.toNat | _ => 0
def hexB : ByteArray := ⟨#[48, 49, 50, 51, 52, 53, 54, 55, 56, 57, 97, 98, 99, 100, 101, 102]⟩
theorem hexB_at : ∀ k (h : k < hexB.size), (hexB[k]).toNat = hxN k := by
 have : ∀ k : Fin 16, (hexB[k.1]'k.2).toNat = hxN k.1 := by decide
 exact fun k h => this ⟨k, h⟩
set_option maxRecDepth 100000 in
set_option maxHeartbeats 4000000 in
theorem digit_walk (c : Nat) (w : World) (_hc : c < 256) : Calls Tryz.prog 48 #[.int .u8 c] w fun e w' => e = .returned (.int .i64 (digitN c)) ∧ w' = w := by
 go_enter Tryz.func48, Tryz.ntmps48
 go_wp2
 go_loopw [3] (fun i wr => ∃ k : Nat, i = .int .i64 k ∧ k ≤ 16 ∧ (∀ j, j < k → hxN j ≠ c) ∧ wr = w) (fun i _ => 16 - intV3 i)
 case atStart => exact ⟨0, rfl, by omega, fun j hj => by omega, rfl⟩
 case round =>
  obtain ⟨k, rfl, hk, hno, rfl⟩ := hrel
  have hN := Lib.hid hno
  clear hno
  by_cases h16 : k = 16
  ·subst h16
   go_wp2
   go_ret
   exact ⟨by rw [digitN_none hN.out]; rfl, rfl⟩
  ·have hlt : k < 16 := by omega
   have h2 : ((⟨#[48, 49, 50, 51, 52, 53, 54, 55, 56, 57, 97, 98, 99, 100, 101, 102]⟩ : ByteArray)[k]'(by show k < 16; exact hlt)).toNat = hxN k := hexB_at k hlt
   by_cases he : hxN k = c
   ·have hv : (((((⟨#[48, 49, 50, 51, 52, 53, 54, 55, 56, 57, 97, 98, 99, 100, 101, 102]⟩ : ByteArray)[k]'(by show k < 16; exact hlt)).toNat : Nat) : Int) == (c : Int)) = true := by rw [h2, he]; simp
    have hr := Lib.hid (show digitN c = (k : Int) by rw [← he, digitN_hx hlt])
    clear he h2
    go_wp2_with fail
    go_ret
    exact ⟨by rw [hr.out]; rfl, rfl⟩
   ·have hv : (((((⟨#[48, 49, 50, 51, 52, 53, 54, 55, 56, 57, 97, 98, 99, 100, 101, 102]⟩ : ByteArray)[k]'(by show k < 16; exact hlt)).toNat : Nat) : Int) == (c : Int)) = false := by rw [h2, beq_eq_false_iff_ne]; omega
    clear h2
    go_wp2_with fail
    exact ⟨⟨k + 1, by first | rfl | simp, by omega, fun j hj => by
     rcases Nat.lt_succ_iff_lt_or_eq.1 hj with h | rfl
     ·exact hN.out j h
     ·exact he, trivial⟩, by simp [intV3]; omega⟩
end Go.Proofs.YtkjdlganghbgaaaGreatDoor
namespace Go.Proofs.YtkjdlganghbgaaaGreatDoor
open Go.RowKit Go.Desk
def intV5 (v : Value) : Nat := match v with | .int _ n => n.toNat | _ => 0
theorem wrs_len (l : List UInt8) : (wrs l).length ≤ 3 * l.length := by
 induction l with
 | nil => exact Nat.le_refl _
 | cons c r ih =>
  have e : wrs (c :: r) = wr1 c ++ wrs r := rfl
  rw [e, List.length_append, List.length_cons]
  have : (wr1 c).length ≤ 3 := by unfold wr1; split <;> simp
  omega
theorem below_drew {n : Nat} {w W : World} (h : Below n w W) : Below n w W.drew := ⟨h.os, h.tape, h.output, h.size, h.block⟩
theorem hexs_hx : ∀ j (h : j < 16), ((⟨#[48, 49, 50, 51, 52, 53, 54, 55, 56, 57, 97, 98, 99, 100, 101, 102]⟩ : ByteArray)[j]'(by show j < 16; exact h)) = hx j := by
 have : ∀ j : Fin 16, ((⟨#[48, 49, 50, 51, 52, 53, 54, 55, 56, 57, 97, 98, 99, 100, 101, 102]⟩ : ByteArray)[j.1]'j.2) = hx j.1 := by decide
 exact fun j h => this ⟨j, h⟩
theorem Tryz.conv31 (w : World) (u : UInt8) (h : Nat) (hc : w.cell? ⟨h, 0, none⟩ = some (.int .u8 (u.toNat : Nat))) : (convert 31 9 (.slice (some ⟨h, 0, none⟩) 1 1)).run Tryz.prog w = .ok (.string ⟨#[u]⟩) w := by
 have := run_convert_bytes_back (P := Tryz.prog) w 31 9 5 ⟨h, 0, none⟩ 1 [u] (by kernel_rfl) (by kernel_rfl) (by kernel_rfl)
 exact this (fun j hj => by
  have h0 : j = 0 := by simp at hj; omega
  subst h0
  exact hc)
theorem Tryz.conv2 (w : World) (x y : UInt8) : (convert 31 9 (.slice (some ⟨w.heap.size, 0, none⟩) 2 2)).run Tryz.prog ((w.alloc (.cells #[.int .u8 (x.toNat : Nat), .int .u8 (y.toNat : Nat)] 5)).drew) = .ok (.string ⟨#[x, y]⟩) ((w.alloc (.cells #[.int .u8 (x.toNat : Nat), .int .u8 (y.toNat : Nat)] 5)).drew) := by
 have := run_convert_bytes_back (P := Tryz.prog) ((w.alloc (.cells #[.int .u8 (x.toNat : Nat), .int .u8 (y.toNat : Nat)] 5)).drew) 31 9 5 ⟨w.heap.size, 0, none⟩ 2 [x, y] (by kernel_rfl) (by kernel_rfl) (by kernel_rfl)
 exact this (fun j hj => by
  have hj : j < 2 := hj
  match j, hj with
  | 0, _ =>
   have h : (w.heap.push (.cells #[.int .u8 (x.toNat : Nat), .int .u8 (y.toNat : Nat)] 5))[w.heap.size]? = some (.cells #[.int .u8 (x.toNat : Nat), .int .u8 (y.toNat : Nat)] 5) := by simp
   show World.cell? ((w.alloc (.cells #[.int .u8 (x.toNat : Nat), .int .u8 (y.toNat : Nat)] 5)).drew) ⟨w.heap.size, 0, none⟩ = _
   unfold World.cell?
   rw [show ((w.alloc (.cells #[.int .u8 (x.toNat : Nat), .int .u8 (y.toNat : Nat)] 5)).drew).heap[w.heap.size]? = _ from h]
   rfl
  | 1, _ =>
   have h : (w.heap.push (.cells #[.int .u8 (x.toNat : Nat), .int .u8 (y.toNat : Nat)] 5))[w.heap.size]? = some (.cells #[.int .u8 (x.toNat : Nat), .int .u8 (y.toNat : Nat)] 5) := by simp
   show World.cell? ((w.alloc (.cells #[.int .u8 (x.toNat : Nat), .int .u8 (y.toNat : Nat)] 5)).drew) ⟨w.heap.size, 1, none⟩ = _
   unfold World.cell?
   rw [show ((w.alloc (.cells #[.int .u8 (x.toNat : Nat), .int .u8 (y.toNat : Nat)] 5)).drew).heap[w.heap.size]? = _ from h]
   rfl)
set_option maxRecDepth 100000 in
set_option maxHeartbeats 8000000 in
theorem text_walk (l : List UInt8) (w : World) (hlen : l.length < 1000000) : Calls Tryz.prog 49 #[.string ⟨l.toArray⟩] w fun e w' => e = .returned (.string ⟨(wr l).toArray⟩) ∧ Below w.heap.size w w' := by
 have hb : (ByteArray.mk l.toArray).data.toList = l := rfl
 have hbs : (ByteArray.mk l.toArray).size = l.length := rfl
 generalize hbt : ByteArray.mk l.toArray = b at hb hbs ⊢
 clear hbt
 have hbl : b.toList = l := by rw [Go.ByteArray.toList_eq b, hb]
 by_cases h0 : l = []
 ·have hbe : b.toList = [] := by rw [hbl]; exact h0
  have hr := Lib.hid (show wr l = [37] by unfold wr; rw [if_pos h0])
  clear hbl
  go_enter Tryz.func49, Tryz.ntmps49
  go_wp2
  go_ret
  exact ⟨by rw [hr.out]; rfl, Below.refl _ _⟩
 ·have hbe : ¬ b.toList = [] := by rw [hbl]; exact h0
  have hbe2 : b.toList.isEmpty = false := by rw [hbl]; cases l <;> simp_all
  have hr := Lib.hid (show wr l = wrs l by unfold wr; rw [if_neg h0])
  have HL := Lib.hid hbl
  clear hbl
  go_enter Tryz.func49, Tryz.ntmps49
  go_wp2
  go_loopw [4, 5] (fun o i wr1 => ∃ (k : Nat) (s : ByteArray), i = .int .i64 k ∧ k ≤ l.length ∧ o = .string s ∧ s.data.toList = wrs (l.take k) ∧ Below w.heap.size w wr1) (fun _ i _ => l.length - intV5 i)
  case atStart => exact ⟨0, ⟨#[]⟩, rfl, by omega, rfl, rfl, Below.refl _ _⟩
  case round =>
   obtain ⟨k, s, rfl, hkl, rfl, hs, hnx⟩ := hrel
   have hss : s.size ≤ 3000000 := by
    have e : s.size = s.data.toList.length := rfl
    have h1 := wrs_len (l.take k)
    rw [List.length_take] at h1
    rw [e, hs]
    omega
   have HS := Lib.hid hs
   clear hs
   by_cases hkL : k = l.length
   ·subst hkL
    go_wp2
    go_ret
    refine ⟨?_, hnx⟩
    have h1 := HS.out
    rw [List.take_length] at h1
    rw [hr.out, ← h1]
    rfl
   ·have hlt : k < l.length := by omega
    have hbk : b[k]'(by omega) = l[k] := by
     have e1 : b[k]'(by omega) = b.data.toList[k]'(by rw [hb]; exact hlt) := rfl
     rw [e1]
     simp only [hb]
    have HB := Lib.hid hbk
    clear hbk
    have hbyte := (l[k]).toNat_lt
    by_cases hp : plainB l[k] = true
    ·have hq : 33 ≤ l[k].toNat ∧ l[k].toNat ≤ 126 ∧ l[k].toNat ≠ 37 := by
      unfold plainB at hp
      simp at hp
      omega
     have hv1 : (33 : Int) ≤ (((b[k]'(by omega)).toNat : Nat) : Int) := by rw [HB.out]; omega
     have hv2 : (((b[k]'(by omega)).toNat : Nat) : Int) ≤ 126 := by rw [HB.out]; omega
     have hv3 : ((((b[k]'(by omega)).toNat : Nat) : Int) != 37) = true := by rw [HB.out]; simp; omega
     go_wp2_with fail
     rw [Tryz.conv31 _ (b[k]'(by omega)) wr.heap.size (by have := cell_one_new wr (.int .u8 ((b[k]'(by omega)).toNat : Nat)) 5 0 _ rfl; exact this)]
     simp only [Result.andThen]
     rw [Oper.upon_value]
     go_wp2_with fail
     have hw1 : wrs (l.take (k + 1)) = wrs (l.take k) ++ [b[k]'(by omega)] := by
      rw [List.take_succ_eq_append_getElem hlt, HB.out]
      unfold wrs
      rw [List.flatMap_append]
      simp [wr1, hp]
     refine ⟨⟨k + 1, _, by first | rfl | simp, hlt, rfl, ?_, hnx.alloc hnx.size _⟩, by simp [intV5]; omega⟩
     rw [hw1, ← HS.out]
     simp [ByteArray.data_append]
    ·have hp' : plainB l[k] = false := by simpa using hp
     have hq : ¬ (33 ≤ l[k].toNat ∧ l[k].toNat ≤ 126 ∧ l[k].toNat ≠ 37) := by
      unfold plainB at hp'
      simp at hp'
      omega
     have hw1 : wrs (l.take (k + 1)) = wrs (l.take k) ++ [37, hx (l[k].toNat / 16), hx (l[k].toNat % 16)] := by
      rw [List.take_succ_eq_append_getElem hlt]
      unfold wrs
      rw [List.flatMap_append]
      simp [wr1, hp']
     have HW := Lib.hid hw1
     clear hw1
     have hcv := Tryz.conv2 wr
     generalize hcn : l[k].toNat = c at *
     have hB2 : (b[k]'(by omega)).toNat = c := by rw [HB.out]; exact hcn
     have hc16 : c / 16 < 16 := by omega
     have hc17 : c % 16 < 16 := by omega
     have hx1 : ((c : Int) % 16) < 16 := by omega
     have hx2 : 0 ≤ ((c : Int) % 16) := by omega
     have hx3 : ((c : Int) % 16).toNat = c % 16 := by omega
     have hx4 : ((c : Int) / 16).toNat = c / 16 := by omega
     have hx5 : ((c : Int) / 16) < 16 := by omega
     have hx6 : 0 ≤ ((c : Int) / 16) := by omega
     have hend : ∀ (W : World) (t : ByteArray), t = s ++ ⟨#[37]⟩ ++ ⟨#[hx (c / 16), hx (c % 16)]⟩ → Below w.heap.size w W → ∃ (k' : Nat) (s' : ByteArray), Value.int .i64 ((k : Int) + 1) = .int .i64 k' ∧ k' ≤ l.length ∧ Value.string t = .string s' ∧ s'.data.toList = wrs (l.take k') ∧ Below w.heap.size w W := fun W t ht hW => by
      refine ⟨k + 1, t, by simp, hlt, rfl, ?_, hW⟩
      rw [HW.out, ← HS.out, ht]
      simp [ByteArray.data_append]
     have HE := Lib.hid hend
     clear hend
     by_cases h1 : 33 ≤ c
     ·by_cases h2 : c ≤ 126
      ·have h37 : c = 37 := by omega
       subst h37
       clear hx1 hx2 hx3 hx4 hx5 hx6 hc16 hc17
       have hv1 : (((b[k]'(by omega)).toNat : Nat) : Int) = 37 := by rw [hB2]; rfl
       go_wp2_with fail
       go_big_region
       go_wp2_with fail
       refine ⟨HE.out _ _ rfl (below_drew (hnx.alloc hnx.size _)), by simp [intV5]; omega⟩
      ·have hv1 : (33 : Int) ≤ (((b[k]'(by omega)).toNat : Nat) : Int) := by rw [hB2]; omega
       have hv2 : ¬ ((((b[k]'(by omega)).toNat : Nat) : Int) ≤ 126) := by rw [hB2]; omega
       go_wp2_with fail
       go_big_region
       go_wp2_with fail
       refine ⟨HE.out _ _ (by rw [hexs_hx _ hc16, hexs_hx _ hc17]) (below_drew (hnx.alloc hnx.size _)), by simp [intV5]; omega⟩
     ·have hv1 : ¬ ((33 : Int) ≤ (((b[k]'(by omega)).toNat : Nat) : Int)) := by rw [hB2]; omega
      go_wp2_with fail
      go_big_region
      go_wp2_with fail
      refine ⟨HE.out _ _ (by rw [hexs_hx _ hc16, hexs_hx _ hc17]) (below_drew (hnx.alloc hnx.size _)), by simp [intV5]; omega⟩
end Go.Proofs.YtkjdlganghbgaaaGreatDoor
namespace Go.Desk
def consW (p : List UInt8) : List (List UInt8) → List (List UInt8)
 | [] => [p]
 | w :: r => (p ++ w) :: r
theorem consW_nil {ws : List (List UInt8)} (h : ws ≠ []) : consW [] ws = ws := by cases ws <;> simp_all [consW]
theorem words_cons (p : List UInt8) {c : UInt8} (hc : c ≠ 32) (r : List UInt8) : consW p (words (c :: r)) = consW (p ++ [c]) (words r) := by
 have hr := words_ne r
 rw [words, if_neg hc]
 cases h : words r with
 | nil => exact absurd h hr
 | cons w ws => simp [consW]
theorem words_blank (p : List UInt8) (r : List UInt8) : consW p (words (32 :: r)) = p :: words r := by
 rw [words, if_pos rfl]; simp [consW]
end Go.Desk
namespace Go.Proofs.YtkjdlganghbgaaaGreatDoor
open Go.RowKit Go.Desk
theorem Tryz.info9 : (Tryz.prog.info? 9).map (fun i => (i.zero, i.size, i.bytes)) = some (some (.string ByteArray.empty), 1, 16) := by kernel_rfl
theorem Tryz.under43 : Tryz.prog.underlying 43 = some (.slice 9) := by kernel_rfl
def strV (x : List UInt8) : Value := .string ⟨x.toArray⟩
def intV (v : Value) : Nat := match v with | .int _ n => n.toNat | _ => 0
set_option maxRecDepth 100000 in
set_option maxHeartbeats 4000000 in
theorem words_walk (l : List UInt8) (w : World) (hlen : l.length < 1000000) : Calls Tryz.prog 21 #[.string ⟨l.toArray⟩] w fun e w' => ∃ v, e = .returned v ∧ w'.ownsRow w.heap.size 9 1 v (words l).length ((words l).map strV) ∧ Below w.heap.size w w' := by
 obtain ⟨i0, hi, hz0, hz1, hz2⟩ := info_parts Tryz.info9
 have hb : (ByteArray.mk l.toArray).data.toList = l := rfl
 have hbs : (ByteArray.mk l.toArray).size = l.length := rfl
 have hex : ∀ f k, (ByteArray.mk l.toArray).extract f k = ⟨((l.take k).drop f).toArray⟩ := fun f k => by
  apply ByteArray.ext; simp only [ByteArray.data_extract, List.extract_toArray, List.extract_eq_drop_take']
 generalize hbt : ByteArray.mk l.toArray = b at hb hbs hex ⊢
 have HX := Lib.hid hex
 clear hex hbt
 go_enter Tryz.func21, Tryz.ntmps21
 go_wp2
 go_loopw [3, 4, 5] (fun v fr i wr => ∃ (k f : Nat) (ws : List (List UInt8)) (ao : Option Addr) (cv : Nat), i = .int .i64 k ∧ fr = .int .i64 f ∧ v = .slice ao ws.length cv ∧ ws.length ≤ k ∧ wr.ownsRow w.heap.size 9 1 v ws.length (ws.map strV) ∧ Below w.heap.size w wr ∧
   ((k ≤ l.length ∧ f ≤ k ∧ ws ++ consW ((l.take k).drop f) (words (l.drop k)) = words l) ∨ (k = l.length + 1 ∧ ws = words l))) (fun _ _ i _ => l.length + 1 - intV i)
 case atStart => exact ⟨0, 0, [], none, 0, rfl, rfl, rfl, Nat.le_refl _, World.ownsRow_nil _ _ _ _, Below.refl _ _, .inl ⟨Nat.zero_le _, Nat.le_refl _, by simp [consW_nil (words_ne l)]⟩⟩
 case round =>
  obtain ⟨k, f, ws, ao, cv, rfl, rfl, rfl, hwk, hown, hnx, hst⟩ := hrel
  have hsize := hnx.size
  rcases hst with ⟨hk, hf, heq⟩ | ⟨rfl, rfl⟩
  ·by_cases hkl : k = l.length
   ·subst hkl
    go_wp2_with (first
     | (at_builtin; refine wpList_append_own _ rfl _ _ 43 rfl w.heap.size 9 i0 (.string ByteArray.empty) 1 16 Tryz.under43 hi hz0 hz1 hz2 rfl (by decide) _ _ _ rfl (hown.alloc _) ⟨wr.heap.size, 0, none⟩ 1 1 [.string (b.extract f l.length)] rfl rfl (cell_one_new _ _ _) (fun x hx => by simp at hx; subst hx; rfl) (by unfold maxLen; omega) (by omega) (by simp; omega) ?_; intro v' w3 hown' hgrow3 hnil3))
    go_roundw
    case rel =>
     obtain ⟨g3, cap3, hv3⟩ : ∃ g3 cap3, v' = .slice (some ⟨g3, 0, none⟩) (ws.length + 1) cap3 := by
      rcases hown'.2 with ⟨_, h⟩ | ⟨g3, cap3, _, h, _⟩
      ·omega
      ·exact ⟨g3, cap3, h⟩
     have e : words l = ws ++ [(l.take l.length).drop f] := by rw [← heq, List.drop_length]; simp [words, consW]
     have hq : Value.string (b.extract f l.length) = strV ((l.take l.length).drop f) := by unfold strV; rw [HX.out]
     rw [hq] at hown'
     exact ⟨l.length + 1, l.length + 1, words l, some ⟨g3, 0, none⟩, cap3, by first | rfl | simp, by first | rfl | simp, by rw [hv3, e]; simp, by rw [e]; simp; omega, by rw [e, List.map_append, List.length_append]; exact hown', (hnx.alloc hsize _).grown hgrow3 (by simp; omega) (fun q hq => (hown.lt q hq).1), .inr ⟨rfl, rfl⟩⟩
    case measure => simp [intV]
   ·have hlt : k < l.length := by omega
    have hd : l.drop k = l[k] :: l.drop (k + 1) := List.drop_eq_getElem_cons hlt
    rw [hd] at heq
    have htk : l.take (k + 1) = l.take k ++ [l[k]] := by rw [List.take_succ_eq_append_getElem hlt]
    have hkb : ((k : Int) == (l.length : Int)) = false := by simp; omega
    have hbk : b[k]'(by omega) = l[k] := by
     have e1 : b[k]'(by omega) = b.data.toList[k]'(by rw [hb]; exact hlt) := rfl
     rw [e1]
     simp only [hb]
    by_cases hc : l[k] = 32
    ·have hv : ((((b[k]'(by omega)).toNat : Nat) : Int) == 32) = true := by rw [hbk, hc]; rfl
     clear hbk
     go_wp2_with (first
      | (at_builtin; refine wpList_append_own _ rfl _ _ 43 rfl w.heap.size 9 i0 (.string ByteArray.empty) 1 16 Tryz.under43 hi hz0 hz1 hz2 rfl (by decide) _ _ _ rfl (hown.alloc _) ⟨wr.heap.size, 0, none⟩ 1 1 [.string (b.extract f k)] rfl rfl (cell_one_new _ _ _) (fun x hx => by simp at hx; subst hx; rfl) (by unfold maxLen; omega) (by omega) (by simp; omega) ?_; intro v' w3 hown' hgrow3 hnil3))
     go_roundw
     case rel =>
      obtain ⟨g3, cap3, hv3⟩ : ∃ g3 cap3, v' = .slice (some ⟨g3, 0, none⟩) (ws.length + 1) cap3 := by
       rcases hown'.2 with ⟨_, h⟩ | ⟨g3, cap3, _, h, _⟩
       ·omega
       ·exact ⟨g3, cap3, h⟩
      have hq : Value.string (b.extract f k) = strV ((l.take k).drop f) := by unfold strV; rw [HX.out]
      rw [hq] at hown'
      rw [hc, words_blank] at heq
      refine ⟨k + 1, k + 1, ws ++ [(l.take k).drop f], some ⟨g3, 0, none⟩, cap3, by first | rfl | simp, by first | rfl | simp, by rw [hv3]; simp, by simp; omega, by rw [List.map_append, List.length_append]; exact hown', (hnx.alloc hsize _).grown hgrow3 (by simp; omega) (fun q hq => (hown.lt q hq).1), .inl ⟨hlt, Nat.le_refl _, ?_⟩⟩
      have e0 : (l.take (k + 1)).drop (k + 1) = [] := List.drop_eq_nil_of_le (by simp; omega)
      rw [e0, consW_nil (words_ne _), List.append_assoc]
      exact heq
     case measure => simp [intV]; omega
    ·have hv : ((((b[k]'(by omega)).toNat : Nat) : Int) == 32) = false := by
      rw [hbk, beq_eq_false_iff_ne]
      intro h
      apply hc
      apply UInt8.toNat_inj.1
      have h1 : l[k].toNat = 32 := by omega
      rw [h1]; rfl
     clear hbk
     go_wp2_with fail
     go_roundw
     case rel =>
      rw [words_cons _ hc] at heq
      refine ⟨k + 1, f, ws, ao, cv, by first | rfl | simp, by first | rfl | simp, rfl, by omega, hown, hnx, .inl ⟨hlt, by omega, ?_⟩⟩
      rw [htk, List.drop_append_of_le_length (by rw [List.length_take]; omega)]
      exact heq
     case measure => simp [intV]; omega
  ·go_wp2
   go_ret
   exact ⟨_, rfl, hown, hnx⟩
end Go.Proofs.YtkjdlganghbgaaaGreatDoor
namespace Go.Proofs.YtkjdlganghbgaaaGreatDoor
open Go.RowKit Go.Desk
theorem below_bytes (w : World) (T : TypeId) (t : ByteArray) : Below w.heap.size w (Lib.bytesWorld w T t) := Lib.bytesWorld_below w T t
theorem var_below {P : Program} {w w1 : World} {name : String} {cs : Array Value} (h : w.var? P name = some cs) (hb : Below w.heap.size w w1) : w1.var? P name = some cs := by
 unfold World.var? at h ⊢
 cases hg : P.globalNamed name with
 | none => rw [hg] at h; cases h
 | some g =>
  rw [hg] at h
  simp only [Option.bind_some] at h ⊢
  cases hh : w.heap[g]? with
  | none => rw [hh] at h; cases h
  | some o => rw [hb.block g (Array.getElem?_eq_some_iff.1 hh).1, hh]; rw [hh] at h; exact h
def NumAns (l : List UInt8) (v : Value) : Prop := ∃ (n : Int) (ok : Bool), v = .tuple #[.int .i64 n, .bool ok] ∧ refNum l = (if ok then some n else none)
theorem num_not {l : List UInt8} {n : Int} (h : ¬ (Lib.itoa n = l ∧ -1000000000 < n ∧ n < 1000000000)) (ha : Lib.atoiAll l = .ok n) : refNum l = none := by
 cases hr : refNum l with
 | none => rfl
 | some m =>
  have h1 := refNum_iff.1 hr
  have h2 := atoi_itoa (n := m) (by omega) (by omega)
  rw [h1.1, ha] at h2
  injection h2 with h2
  subst h2
  exact absurd h1 h
theorem refNum_len {l : List UInt8} {m : Int} (h : refNum l = some m) : l.length ≤ 10 := by
 unfold refNum at h
 split at h
 ·unfold refDs at h
  split at h
  ·cases h
  ·rename_i hc
   simp only [not_or] at hc
   have := hc.2.1
   rw [List.length_tail] at this
   omega
 ·unfold refDs at h
  split at h
  ·cases h
  ·rename_i hc
   simp only [not_or] at hc
   have := hc.2.1
   omega
theorem num_none {l : List UInt8} (h : ∀ n, Lib.atoiAll l ≠ .ok n) : refNum l = none := by
 cases hr : refNum l with
 | none => rfl
 | some m =>
  have h1 := refNum_iff.1 hr
  have h2 := atoi_itoa (n := m) (by omega) (by omega)
  rw [h1.1] at h2
  exact absurd h2 (h m)
set_option maxRecDepth 100000 in
set_option maxHeartbeats 8000000 in
theorem numberD_ok (l : List UInt8) (w : World) (hlen : l.length < 1000000) (ht : Lib.TabIs Tryz.prog w "internal/strconv.uint64pow10" .u64 Lib.pow10Tab) (v : Int) (h : Lib.atoiAll l = .ok v) (hv63 : -9223372036854775808 ≤ v ∧ v ≤ 9223372036854775807) : Calls Tryz.prog 34 #[.string ⟨l.toArray⟩] w fun e w' => ∃ v, e = .returned v ∧ NumAns l v ∧ Below w.heap.size w w' := by
 have hnot := fun h1 => num_not (l := l) (n := v) h1 h
 have hyes := fun h1 h2 h3 => (refNum_iff (w := l) (n := v)).2 ⟨h1, h2, h3⟩
 have hb : (ByteArray.mk l.toArray).data.toList = l := rfl
 have hbs : (ByteArray.mk l.toArray).size = l.length := rfl
 have hA := Any.strconv_Atoi_ok Tryz.lays172 ⟨l.toArray⟩ (by rw [hbs]; omega) v h
 generalize hbt : ByteArray.mk l.toArray = b at hb hbs hA ⊢
 clear hbt
 have hbl : b.toList = l := by rw [Go.ByteArray.toList_eq b, hb]
 have HA := Lib.hid hA
 have HN := Lib.hid hnot
 have HY := Lib.hid hyes
 have HT := Lib.hid ht
 have HL := Lib.hid hbl
 clear hA hnot hyes ht hbl h hb
 go_enter Tryz.func34, Tryz.ntmps34
 go_wp2_with fail
 refine (HA.out _).mono ?_
 rintro e w1 ⟨rfl, hw1⟩
 have hb1 : Below w.heap.size w w1 := by
  rcases hw1 with rfl | ⟨t, rfl⟩
  ·exact Below.refl _ _
  ·exact below_bytes _ _ _
 clear hw1
 by_cases c1 : l.length ≤ 10
 ·by_cases c2 : -1000000000 < v
  ·by_cases c3 : v < 1000000000
   ·go_wp2_with fail
    refine (Any.strconv_Itoa Tryz.lays171 v (by omega) (by omega) w1 (var_below HT.out hb1)).mono ?_
    rintro e w2 ⟨rfl, k, os, rfl⟩
    have hb2 := hb1.trans (Lib.below_grow w.heap.size w1 hb1.size k os)
    generalize Sort.grow (w1.drewN k) os = w2 at hb2 ⊢
    by_cases c4 : Lib.itoa v = l
    ·have hq : (Lib.itoa v == b.toList) = true := by rw [HL.out, c4]; simp
     have hr := Lib.hid (HY.out c4 c2 c3)
     clear c4
     go_wp2_with fail
     go_ret2
     exact ⟨_, rfl, ⟨v, true, rfl, hr.out⟩, hb2⟩
    ·have hq : (Lib.itoa v == b.toList) = false := by rw [HL.out]; simpa using c4
     have hr := Lib.hid (HN.out (fun h => c4 h.1))
     clear c4
     go_wp2_with fail
     go_ret2
     exact ⟨_, rfl, ⟨v, false, rfl, hr.out⟩, hb2⟩
   ·have hr := Lib.hid (HN.out (fun h => c3 h.2.2))
    go_wp2_with fail
    go_ret2
    exact ⟨_, rfl, ⟨v, false, rfl, hr.out⟩, hb1⟩
  ·have hr := Lib.hid (HN.out (fun h => c2 h.2.1))
   go_wp2_with fail
   go_ret2
   exact ⟨_, rfl, ⟨v, false, rfl, hr.out⟩, hb1⟩
 ·have hr := Lib.hid (show refNum l = none from by
   cases hrn : refNum l with
   | none => rfl
   | some m => exact absurd (refNum_len hrn) c1)
  go_wp2_with fail
  go_ret2
  exact ⟨_, rfl, ⟨v, false, rfl, hr.out⟩, hb1⟩
set_option maxRecDepth 100000 in
set_option maxHeartbeats 8000000 in
theorem numberD_bad (l : List UInt8) (w : World) (hlen : l.length < 1000000) {tp tp2 : TypeId} {p p2 : Value} (hs : w.var? Tryz.prog "strconv.ErrSyntax" = some #[.iface tp p]) (hr : w.var? Tryz.prog "strconv.ErrRange" = some #[.iface tp2 p2]) (h : ∀ n, Lib.atoiAll l ≠ .ok n) : Calls Tryz.prog 34 #[.string ⟨l.toArray⟩] w fun e w' => ∃ v, e = .returned v ∧ NumAns l v ∧ Below w.heap.size w w' := by
 have HN := Lib.hid (num_none h)
 have hbs : (ByteArray.mk l.toArray).size = l.length := rfl
 have hA : Calls Tryz.prog 59 #[.string ⟨l.toArray⟩] w fun e w' => ∃ (n0 : Int) (T N : Nat), e = .returned (.tuple #[.int .i64 n0, .iface T (.pointer (some ⟨N, 0, none⟩))]) ∧ Below w.heap.size w w' := by
  cases hl : Lib.atoiAll l with
  | ok n => exact absurd hl (h n)
  | range =>
   have := Any.strconv_Atoi_range_var Tryz.lays172 ⟨l.toArray⟩ (by rw [hbs]; omega) hl tp2 p2 w hr
   exact this.mono fun e w' ⟨N, h1, _, _, h2⟩ => ⟨_, _, N, h1, h2⟩
  | _ =>
   have := Any.strconv_Atoi_syntax_var Tryz.lays172 ⟨l.toArray⟩ (by rw [hbs]; omega) hl tp p w hs
   exact this.mono fun e w' ⟨N, h1, _, _, h2⟩ => ⟨_, _, N, h1, h2⟩
 generalize hbt : ByteArray.mk l.toArray = b at hbs hA ⊢
 clear hbt
 have HA := Lib.hid hA
 clear hA hs hr h
 go_enter Tryz.func34, Tryz.ntmps34
 go_wp2_with fail
 refine HA.out.mono ?_
 rintro e w1 ⟨n0, T, N, rfl, hb1⟩
 go_wp2_with fail
 go_ret2
 exact ⟨_, rfl, ⟨n0, false, rfl, HN.out⟩, hb1⟩
theorem numberD_walk (l : List UInt8) (w : World) (hlen : l.length < 1000000) {tp tp2 : TypeId} {p p2 : Value} (hs : w.var? Tryz.prog "strconv.ErrSyntax" = some #[.iface tp p]) (hr : w.var? Tryz.prog "strconv.ErrRange" = some #[.iface tp2 p2]) (ht : Lib.TabIs Tryz.prog w "internal/strconv.uint64pow10" .u64 Lib.pow10Tab) : Calls Tryz.prog 34 #[.string ⟨l.toArray⟩] w fun e w' => ∃ v, e = .returned v ∧ NumAns l v ∧ Below w.heap.size w w' := by
 cases h : Lib.atoiAll l with
 | ok v => exact numberD_ok l w hlen ht v h (Lib.atoiAll_bounds h)
 | _ => exact numberD_bad l w hlen hs hr (fun n e => by rw [h] at e; cases e)
end Go.Proofs.YtkjdlganghbgaaaGreatDoor
namespace Go.Proofs.YtkjdlganghbgaaaGreatDoor
open Go.RowKit Go.Desk
theorem split_walk (l : List UInt8) (w : World) (hlen : l.length < 1000000) {m : Int} (hm : w.cell? ⟨0, 0, none⟩ = some (.int .i64 m)) : Calls Tryz.prog 13 #[.string ⟨l.toArray⟩, .string ⟨#[32]⟩] w fun e w' =>
  e = .returned (.slice (some ⟨w.heap.size, 0, none⟩) (words l).length (words l).length) ∧ w' = w.alloc (.cells ((words l).map strV).toArray 9) := by
 have hb : (ByteArray.mk l.toArray).size = l.length := rfl
 have hg : Tryz.lays146_ren.g 1 = 0 := rfl
 have hA := Any.strings_Split Tryz.lays146 Tryz.info9 ⟨l.toArray⟩ ⟨#[32]⟩ m w (by rw [hb]; omega) (by rw [hg]; exact hm) (by decide)
 have hc : Lib.countB ⟨l.toArray⟩ ⟨#[32]⟩ = l.count 32 := Lib.count_one 32 l
 have hw : (Lib.splitB ⟨#[32]⟩ 0 (Lib.countB ⟨l.toArray⟩ ⟨#[32]⟩) ⟨l.toArray⟩).map (·.data.toList) = words l := by
  rw [Lib.splitB_data]
  exact split_words l _ (by rw [hc]; exact Nat.le_refl _)
 have hn : Lib.countB ⟨l.toArray⟩ ⟨#[32]⟩ + 1 = (words l).length := by
  rw [← hw, List.length_map, Lib.splitB_all _ (by decide) 0 _ _ rfl]
 have hv : (Lib.splitB ⟨#[32]⟩ 0 (Lib.countB ⟨l.toArray⟩ ⟨#[32]⟩) ⟨l.toArray⟩).map Value.string = (words l).map strV := by
  rw [← hw, List.map_map]
  rfl
 rw [hn, hv] at hA
 exact hA
end Go.Proofs.YtkjdlganghbgaaaGreatDoor
namespace Go.Proofs.YtkjdlganghbgaaaGreatDoor
open Go.RowKit Go.Desk
theorem plainB_N (c : UInt8) : plainN c.toNat = plainB c := by
 unfold plainN plainB
 by_cases h1 : 32 < c.toNat <;> by_cases h2 : c.toNat < 127 <;> simp [h1, h2]
theorem hex_at : ∀ j (h : j < 16), (((⟨#[48, 49, 50, 51, 52, 53, 54, 55, 56, 57, 97, 98, 99, 100, 101, 102]⟩ : ByteArray)[j]'(by show j < 16; exact h)).toNat : Nat) = (hx j).toNat := fun j h => by rw [hexs_hx j h]
theorem wb (b : Nat) (bs : List UInt8) (c : Int) (x : UInt8) (hc : c = (x.toNat : Nat)) (w : World) (h : Lib.IsBuilderF 67 5 b b (Lib.byteCells bs) w) (hlen : bs.length < 4000000) (hb : b ≤ w.heap.size) :
  Calls Tryz.prog 74 #[.pointer (some ⟨b, 0, none⟩), .int .u8 c] w fun e w' => e = .returned .nilIface ∧ Lib.IsBuilderF 67 5 b b (Lib.byteCells (bs ++ [x])) w' ∧ Below b w w' := by
 subst hc
 refine (Any.Builder_WriteByte_k Tryz.lays167 Tryz.Builder_Extra_167 b b (Lib.byteCells bs) (x.toNat : Nat) w h (by rw [Lib.byteCells_length]; omega) hb).mono ?_
 rintro e w' ⟨rfl, h1, h2, _⟩
 refine ⟨rfl, ?_, h2⟩
 rw [Lib.byteCells_append]
 exact Or.inr h1
def intV10 (v : Value) : Nat := match v with | .int _ n => n.toNat | _ => 0
set_option maxRecDepth 100000 in
set_option maxHeartbeats 8000000 in
theorem written_walk (l : List UInt8) (w : World) (hlen : l.length < 1000000) : Calls Tryz.prog 40 #[.string ⟨l.toArray⟩] w fun e w' => e = .returned (.string ⟨(wr l).toArray⟩) ∧ Below w.heap.size w w' := by
 have hb : (ByteArray.mk l.toArray).data.toList = l := rfl
 have hbs : (ByteArray.mk l.toArray).size = l.length := rfl
 generalize hbt : ByteArray.mk l.toArray = b at hb hbs ⊢
 clear hbt
 have hbl : b.toList = l := by rw [Go.ByteArray.toList_eq b, hb]
 by_cases h0 : l = []
 ·have hv : (b.toList == []) = true := by rw [hbl, h0]; rfl
  have hbe : b.toList = [] := by rw [hbl]; exact h0
  have hr := Lib.hid (show wr l = [37] by unfold wr; rw [if_pos h0])
  clear hbl
  go_enter Tryz.func40, Tryz.ntmps40
  go_wp2
  go_ret
  exact ⟨by rw [hr.out]; rfl, Below.refl _ _⟩
 ·have hbe : ¬ b.toList = [] := by rw [hbl]; exact h0
  have hbe2 : b.toList.isEmpty = false := by rw [hbl]; cases l <;> simp_all
  have hr := Lib.hid (show wr l = wrs l by unfold wr; rw [if_neg h0])
  have HL := Lib.hid hbl
  clear hbl
  go_enter Tryz.func40, Tryz.ntmps40
  go_wp2
  go_loopw [9] (fun i wr1 => ∃ (k : Nat) (bs : List UInt8), i = .int .i64 k ∧ k ≤ l.length ∧ bs = wrs (l.take k) ∧ Lib.IsBuilderF 67 5 w.heap.size w.heap.size (Lib.byteCells bs) wr1 ∧ Below w.heap.size w wr1) (fun i _ => l.length - intV10 i)
  case atStart => exact ⟨0, [], rfl, by omega, rfl, Lib.IsBuilderF.of (Lib.fresh_isBuilder 67 5 w), (Below.refl _ w).alloc (Nat.le_refl _) _⟩
  case round =>
   obtain ⟨k, bs, rfl, hkl, hbsE, hI, hnx⟩ := hrel
   have hss : bs.length ≤ 3000000 := by
    have h1 := wrs_len (l.take k)
    rw [List.length_take] at h1
    rw [hbsE]
    omega
   have HS := Lib.hid hbsE
   clear hbsE
   by_cases hkL : k = l.length
   ·subst hkL
    have hE := Lib.hid (show Desk.wr l = bs by rw [hr.out, HS.out, List.take_length])
    go_wp2_with fail
    refine (Any.Builder_String_any_k Tryz.lays169 Tryz.Builder_Extra_169 w.heap.size w.heap.size bs wr hI hnx.size).mono ?_
    rintro e W1 ⟨rfl, _, b1, _⟩
    go_wp2_with fail
    go_ret
    exact ⟨by rw [hE.out]; rfl, hnx.trans b1⟩
   ·have hlt : k < l.length := by omega
    have hbk : b[k]'(by omega) = l[k] := by
     have e1 : b[k]'(by omega) = b.data.toList[k]'(by rw [hb]; exact hlt) := rfl
     rw [e1]
     simp only [hb]
    have HB := Lib.hid hbk
    clear hbk
    have hbyte := (b[k]'(by omega)).toNat_lt
    have hsz := hnx.size
    go_wp2_with fail
    refine (plain_any _ _ hbyte).mono ?_
    rintro e W1 ⟨rfl, rfl⟩
    by_cases hp : plainB l[k] = true
    ·have hv : plainN (b[k]'(by omega)).toNat = true := by rw [HB.out, plainB_N]; exact hp
     rw [hv]
     have hw1 := Lib.hid (show bs ++ [l[k]] = wrs (l.take (k + 1)) by
      rw [List.take_succ_eq_append_getElem hlt, HS.out]
      unfold wrs
      rw [List.flatMap_append]
      simp [wr1, hp])
     clear hp hv
     go_wp2_with fail
     refine (wb w.heap.size bs _ l[k] (by rw [HB.out]) W1 hI (by omega) hsz).mono ?_
     rintro e W2 ⟨rfl, h1, b1⟩
     go_wp2_with fail
     exact ⟨⟨k + 1, _, by first | rfl | simp, hlt, hw1.out, h1, hnx.trans b1⟩, by simp [intV10]; omega⟩
    ·have hv : plainN (b[k]'(by omega)).toNat = false := by rw [HB.out, plainB_N]; simpa using hp
     rw [hv]
     have hw1 := Lib.hid (show ((bs ++ [37]) ++ [hx (l[k].toNat / 16)]) ++ [hx (l[k].toNat % 16)] = wrs (l.take (k + 1)) by
      rw [List.take_succ_eq_append_getElem hlt, HS.out]
      unfold wrs
      rw [List.flatMap_append]
      simp [wr1, hp])
     clear hp hv
     have hc16 : (b[k]'(by omega)).toNat / 16 < 16 := by omega
     have hc17 : (b[k]'(by omega)).toNat % 16 < 16 := by omega
     have hd1 := hex_at _ hc16
     have hd2 := hex_at _ hc17
     have HD1 := Lib.hid hd1
     have HD2 := Lib.hid hd2
     clear hd1 hd2
     have hx1 : (((b[k]'(by omega)).toNat : Nat) : Int) % 16 < 16 := by omega
     have hx2 : 0 ≤ (((b[k]'(by omega)).toNat : Nat) : Int) % 16 := by omega
     have hx3 : ((((b[k]'(by omega)).toNat : Nat) : Int) % 16).toNat = (b[k]'(by omega)).toNat % 16 := by omega
     have hx4 : ((((b[k]'(by omega)).toNat : Nat) : Int) / 16).toNat = (b[k]'(by omega)).toNat / 16 := by omega
     have hx5 : (((b[k]'(by omega)).toNat : Nat) : Int) / 16 < 16 := by omega
     have hx6 : 0 ≤ (((b[k]'(by omega)).toNat : Nat) : Int) / 16 := by omega
     go_wp2_with fail
     refine (wb w.heap.size bs 37 37 (by rfl) W1 hI (by omega) hsz).mono ?_
     rintro e W2 ⟨rfl, h1, b1⟩
     go_wp2_with fail
     refine (wb w.heap.size (bs ++ [37]) _ (hx ((b[k]'(by omega)).toNat / 16)) (by first | rw [← HD1.out] | skip) W2 h1 (by simp; omega) (by have := b1.size; omega)).mono ?_
     rintro e W3 ⟨rfl, h2, b2⟩
     go_wp2_with fail
     refine (wb w.heap.size _ _ (hx ((b[k]'(by omega)).toNat % 16)) (by first | rw [← HD2.out] | skip) W3 h2 (by simp; omega) (by have := b1.size; have := b2.size; omega)).mono ?_
     rintro e W4 ⟨rfl, h3, b3⟩
     go_wp2_with fail
     refine ⟨⟨k + 1, _, by first | rfl | simp, hlt, ?_, h3, hnx.trans (b1.trans (b2.trans b3))⟩, by simp [intV10]; omega⟩
     rw [← hw1.out, HB.out]
end Go.Proofs.YtkjdlganghbgaaaGreatDoor
