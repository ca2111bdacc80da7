/- strconv.ParseUint of two hexadecimal digits; meant, walked by hand. -/
import Derived.Test.YtkjdlganghbgaaaGreatDoorWA
import Derived.Test.YtkjdlganghbgaaaGreatDoorW11
import Derived.Test.YtkjdlganghbgaaaGreatDoorW6
import Derived.LaidLaws
import Derived.Test.YtkjdlganghbgaaaGreatDoorQD
namespace Go.Proofs.YtkjdlganghbgaaaGreatDoor
open Go.RowKit Go.Desk Go.Shelf
def PuAns (x : Option Nat) (v : Value) : Prop := match x with
 | some n => v = .tuple #[.int .u64 n, .nilIface]
 | none => ∃ T N, v = .tuple #[.int .u64 0, .iface T (.pointer (some ⟨N, 0, none⟩))]
set_option maxRecDepth 100000 in
set_option maxHeartbeats 4000000 in
theorem parseUint_walk (t : ByteArray) (hne : t.size = 2) (w : World) {tp : TypeId} {p : Value} (hs : w.var? Tryz.prog "strconv.ErrSyntax" = some #[.iface tp p]) :
  Calls Tryz.prog 84 #[.string t, .int .i64 16, .int .i64 8] w fun e w' => ∃ v, e = .returned v ∧ PuAns (hexFrom 0 t.data.toList) v ∧ Below w.heap.size w w' := by
 have hp := pu16_walk t hne w
 have ht := fun (W : World) (h : W.cell? ⟨Tryz.lays245_ren.g 15, 0, none⟩ = some (.iface tp p)) => Any.strconv_toError_syntax Tryz.lays245 ⟨#[80, 97, 114, 115, 101, 85, 105, 110, 116]⟩ t 16 8 (.iface tp p) W (by omega) h (.inr ⟨_, _, rfl⟩)
 have hc : w.cell? ⟨Tryz.lays245_ren.g 15, 0, none⟩ = some (.iface tp p) := by have h0 := World.var?_cell Tryz.lays245.m15 hs 0; simpa using h0
 have hcl : Tryz.lays245_ren.g 15 < w.heap.size := by
  rcases Nat.lt_or_ge (Tryz.lays245_ren.g 15) w.heap.size with h | h
  ·exact h
  ·unfold World.cell? at hc
   rw [Array.getElem?_eq_none h] at hc
   cases hc
 have hb1 := Lib.bytesWorld_below w 5 t
 have hc1 : (Lib.bytesWorld w 5 t).cell? ⟨Tryz.lays245_ren.g 15, 0, none⟩ = some (.iface tp p) := by rw [hb1.cell (p := ⟨_, 0, none⟩) hcl]; exact hc
 have hT := ht _ hc1
 clear ht hs hc hc1 hcl
 generalize Lib.bytesWorld w 5 t = w1 at hp hb1 hT
 cases hx : hexFrom 0 t.data.toList with
 | some n =>
  rw [hx] at hp
  simp only [hexAns] at hp
  have HP := Lib.hid hp
  clear hp hx hT
  go_enter Tryz.func84, Tryz.ntmps84
  go_wp2_with fail
  refine HP.out.mono ?_
  rintro e w2 ⟨rfl, rfl⟩
  go_wp2_with fail
  go_ret2
  exact ⟨_, rfl, rfl, hb1⟩
 | none =>
  rw [hx] at hp
  simp only [hexAns] at hp
  have HP := Lib.hid hp
  have HT := Lib.hid hT
  clear hp hx hT
  go_enter Tryz.func84, Tryz.ntmps84
  go_wp2_with fail
  refine HP.out.mono ?_
  rintro e w2 ⟨rfl, rfl⟩
  go_wp2_with fail
  refine HT.out.mono ?_
  rintro e w3 ⟨N, rfl, _, _, hb2⟩
  go_wp2_with fail
  go_ret2
  exact ⟨_, rfl, ⟨_, N, rfl⟩, hb1.trans (hb2.mono hb1.size)⟩
end Go.Proofs.YtkjdlganghbgaaaGreatDoor
namespace Go.Desk
theorem mean_mono (n : Nat) : ∀ (l t : List UInt8), l.length ≤ n → mean unx l = some t → mean unX l = some t := by
 induction n with
 | zero =>
  intro l t hl h
  have := List.eq_nil_of_length_eq_zero (Nat.le_zero.1 hl)
  subst this
  exact h
 | succ n ih =>
  intro l t hl h
  cases l with
  | nil => exact h
  | cons c r =>
   by_cases hc : c = 37
   ·subst hc
    match r, hl, h with
    | [], _, h => rw [mean.eq_def] at h; cases h
    | [a], _, h => rw [mean.eq_def] at h; cases h
    | a :: b :: r', hl, h =>
     rw [mean.eq_def] at h ⊢
     dsimp only at h ⊢
     rw [if_pos rfl] at h ⊢
     cases ha : unx a with
     | none => rw [ha] at h; cases h
     | some x =>
      cases hb : unx b with
      | none => rw [ha, hb] at h; cases h
      | some y =>
       rw [ha, hb] at h
       rw [unx_unX ha, unx_unX hb]
       dsimp only at h ⊢
       rw [Option.map_eq_some_iff] at h ⊢
       obtain ⟨s, h1, h2⟩ := h
       exact ⟨s, ih r' s (by simp at hl; omega) h1, h2⟩
   ·rw [mean.eq_def] at h ⊢
    dsimp only at h ⊢
    rw [if_neg hc] at h ⊢
    rw [Option.map_eq_some_iff] at h ⊢
    obtain ⟨s, h1, h2⟩ := h
    exact ⟨s, ih r s (by simpa using hl) h1, h2⟩
theorem meant_none {l : List UInt8} (h37 : l ≠ [37]) (h : mean unX l = none) : meant l = none := by
 unfold meant
 rw [if_neg h37]
 cases hm : mean unx l with
 | none => rfl
 | some t => rw [mean_mono _ l t (Nat.le_refl _) hm] at h; cases h
theorem meant_some {l bs : List UInt8} (h37 : l ≠ [37]) (h : mean unX l = some bs) : meant l = if l ≠ [] ∧ wr bs = l then some bs else none := by
 unfold meant
 rw [if_neg h37]
 cases hm : mean unx l with
 | none =>
  rw [if_neg]
  rintro ⟨h1, h2⟩
  by_cases hb : bs = []
  ·rw [hb] at h2
   exact h37 h2.symm
  ·have h3 : wrs bs = l := by rw [← h2]; unfold wr; rw [if_neg hb]
   rw [mean_any h3 h] at hm
   cases hm
 | some t =>
  rw [mean_mono _ l t (Nat.le_refl _) hm] at h
  injection h with h
  subst h
  rfl
end Go.Desk
namespace Go.Proofs.YtkjdlganghbgaaaGreatDoor
open Go.RowKit Go.Desk Go.Shelf
def hexD (a b : UInt8) : Option Nat := match unX a, unX b with
 | some x, some y => some (16 * x + y)
 | _, _ => none
theorem hex_two (x y : UInt8) : hexFrom 0 [x, y] = hexD x y := by
 unfold hexD
 cases hx : unX x with
 | none => rw [hex_none hx]
 | some a =>
  rw [hex_some hx]
  cases hy : unX y with
  | none => rw [hex_none hy]
  | some b => rw [hex_some hy]; simp [hexFrom]
theorem pct_hex (a b : UInt8) (r : List UInt8) : mean unX (37 :: a :: b :: r) = match hexD a b with
  | some n => (mean unX r).map (UInt8.ofNat n :: ·)
  | none => none := by
 rw [mean_pct]
 unfold hexD
 cases unX a <;> cases unX b <;> rfl
theorem hexD_lt {a b : UInt8} {n : Nat} (h : hexD a b = some n) : n < 256 := by
 unfold hexD at h
 cases ha : unX a with
 | none => rw [ha] at h; cases h
 | some x =>
  cases hb : unX b with
  | none => rw [ha, hb] at h; cases h
  | some y =>
   rw [ha, hb] at h
   injection h with h
   have := unX_lt ha
   have := unX_lt hb
   omega
theorem grown_of_below {w w' : World} (h : Below w.heap.size w w') : w.grownBy w' none := ⟨h.os, h.tape, h.output, h.size, fun k hk _ => h.block k hk⟩
theorem builder_kept {T e : TypeId} {B b : Nat} {bs : List Value} {w w' : World} (h : Lib.IsBuilderF T e B b bs w) (hb : Below w.heap.size w w') : Lib.IsBuilderF T e B b bs w' := by
 have key : ∀ p, Lib.BuilderAtF T e B b p bs w → Lib.BuilderAtF T e B b p bs w' := fun p ⟨h1, v, h2, h3, h4⟩ =>
  ⟨h1, v, by rw [hb.block b (Array.getElem?_eq_some_iff.1 h2).1]; exact h2, h3.kept (grown_of_below hb) (by
   rcases hv : v.ownBlock with _ | k
   ·exact .inl rfl
   ·exact .inr (by simp)), h4⟩
 exact h.elim (fun x => .inl (key _ x)) (fun x => .inr (key _ x))
def intV13 (v : Value) : Nat := match v with | .int _ n => n.toNat | _ => 0
set_option maxRecDepth 100000 in
set_option maxHeartbeats 8000000 in
theorem meant_walk (l : List UInt8) (w : World) (hlen : l.length < 1000000) {tp : TypeId} {p : Value} (hs : w.var? Tryz.prog "strconv.ErrSyntax" = some #[.iface tp p]) : Calls Tryz.prog 46 #[.string ⟨l.toArray⟩] w fun e w' => ∃ v, e = .returned v ∧ MeantAns l v ∧ Below w.heap.size w w' := by
 have hb : (ByteArray.mk l.toArray).data.toList = l := rfl
 have hbs : (ByteArray.mk l.toArray).size = l.length := rfl
 have hex : ∀ f k, (ByteArray.mk l.toArray).extract f k = ⟨((l.take k).drop f).toArray⟩ := fun f k => by
  apply ByteArray.ext; simp only [ByteArray.data_extract, List.extract_toArray, List.extract_eq_drop_take']
 generalize hbt : ByteArray.mk l.toArray = b at hb hbs hex ⊢
 clear hbt
 have HX := Lib.hid hex
 clear hex
 have hbl : b.toList = l := by rw [Go.ByteArray.toList_eq b, hb]
 have HS := Lib.hid hs
 clear hs
 by_cases h37 : l = [37]
 ·have hv : (b.toList == [37]) = true := by rw [hbl, h37]; rfl
  have hm := Lib.hid (show Go.Desk.meant l = some [] by unfold Go.Desk.meant; rw [if_pos h37])
  clear hbl h37
  go_enter Tryz.func46, Tryz.ntmps46
  go_wp2
  go_ret2
  exact ⟨_, rfl, ⟨⟨#[]⟩, true, rfl, hm.out⟩, Below.refl _ _⟩
 ·have hv : (b.toList == [37]) = false := by rw [hbl]; simpa using h37
  have H37 := Lib.hid h37
  have HL := Lib.hid hbl
  clear hbl h37
  go_enter Tryz.func46, Tryz.ntmps46
  go_wp2
  go_loopw [5] (fun i wr => ∃ (k : Nat) (bs : List UInt8), i = .int .i64 k ∧ k ≤ l.length ∧ bs.length ≤ k ∧ mean unX l = (mean unX (l.drop k)).map (bs ++ ·) ∧ Lib.IsBuilderF 67 5 w.heap.size w.heap.size (Lib.byteCells bs) wr ∧ Below w.heap.size w wr) (fun i _ => l.length - intV13 i)
  case atStart => exact ⟨0, [], rfl, Nat.zero_le _, Nat.le_refl _, by simp, Lib.IsBuilderF.of (Lib.fresh_isBuilder 67 5 w), (Below.refl _ w).alloc (Nat.le_refl _) _⟩
  case round =>
   obtain ⟨k, bs, rfl, hkl, hbk, hmean, hI, hnx⟩ := hrel
   have hsize := hnx.size
   have HM := Lib.hid hmean
   clear hmean
   by_cases hkL : k = l.length
   ·subst hkL
    have hmm : mean unX l = some bs := by
     rw [HM.out, List.drop_length]
     rw [mean.eq_def]
     simp
    have hans := meant_some H37.out hmm
    have HA := Lib.hid hans
    clear hans hmm
    go_wp2_with fail
    refine (Any.Builder_String_any_k Tryz.lays169 Tryz.Builder_Extra_169 w.heap.size w.heap.size bs wr hI hnx.size).mono ?_
    rintro e W1 ⟨rfl, hI1, b1, _⟩
    by_cases hl0 : l = []
    ·have hbe1 : (b.toList != []) = false := by rw [HL.out, hl0]; rfl
     have hbe2 : b.toList = [] := by rw [HL.out, hl0]
     have hn := Lib.hid (show Go.Desk.meant l = none by rw [HA.out]; simp [hl0])
     clear hl0
     go_wp2_with fail
     go_ret2
     exact ⟨_, rfl, ⟨⟨bs.toArray⟩, false, rfl, hn.out⟩, hnx.trans b1⟩
    ·have hbe1 : (b.toList != []) = true := by rw [HL.out]; simpa using hl0
     have hbe2 : ¬ b.toList = [] := by rw [HL.out]; exact hl0
     go_wp2_with fail
     refine (Any.Builder_String_any_k Tryz.lays169 Tryz.Builder_Extra_169 w.heap.size w.heap.size bs W1 hI1 (hnx.trans b1).size).mono ?_
     rintro e W2 ⟨rfl, hI2, b2, _⟩
     go_wp2_with fail
     refine (written_walk bs W2 (by omega)).mono ?_
     rintro e W3 ⟨rfl, b3⟩
     go_wp2_with fail
     go_ret2
     have hb4 := (hnx.trans b1).trans b2
     refine ⟨_, rfl, ⟨⟨bs.toArray⟩, (!b.toList.isEmpty && (Desk.wr bs == b.toList)), rfl, ?_⟩, hb4.trans (b3.mono hb4.size)⟩
     rw [HA.out, HL.out]
     have hl1 : l.isEmpty = false := by cases l <;> simp_all
     by_cases hq : Desk.wr bs = l
     ·simp [hq, hl0, hl1]
     ·simp [hq]
   ·have hlt : k < l.length := by omega
    have hbk2 : b[k]'(by omega) = l[k] := by
     have e1 : b[k]'(by omega) = b.data.toList[k]'(by rw [hb]; exact hlt) := rfl
     rw [e1]
     simp only [hb]
    have HB := Lib.hid hbk2
    clear hbk2
    have hd := Lib.hid (show l.drop k = l[k] :: l.drop (k + 1) from List.drop_eq_getElem_cons hlt)
    by_cases hc : l[k] = 37
    ·have hv2 : ((((b[k]'(by omega)).toNat : Nat) : Int) != 37) = false := by rw [HB.out, hc]; rfl
     have HK := Lib.hid (show mean unX l = (mean unX (37 :: l.drop (k + 1))).map (bs ++ ·) by rw [HM.out, hd.out, hc])
     clear hc
     by_cases h3 : k + 3 ≤ l.length
     ·have hv3 : ¬ ((l.length : Int) ≤ (k : Int) + 2) := by omega
      have hd1 : l.drop (k + 1) = l[k + 1] :: l[k + 2] :: l.drop (k + 3) := by
       rw [List.drop_eq_getElem_cons (by omega : k + 1 < l.length), List.drop_eq_getElem_cons (by omega : k + 1 + 1 < l.length)]
      have hxx : ((l.take (k + 3)).drop (k + 1)) = [l[k + 1], l[k + 2]] := by
       rw [List.drop_take, hd1, show k + 3 - (k + 1) = 2 by omega]
       rfl
      have hpc := Lib.hid (show mean unX l = (match hexD l[k + 1] l[k + 2] with
       | some n => (mean unX (l.drop (k + 3))).map (UInt8.ofNat n :: ·)
       | none => none).map (bs ++ ·) by rw [HK.out, hd1, pct_hex])
      have hxe := Lib.hid (show b.extract (k + 1) (k + 3) = ⟨#[l[k + 1], l[k + 2]]⟩ by rw [HX.out, hxx])
      have hP : Calls Tryz.prog 84 #[.string ⟨#[l[k + 1], l[k + 2]]⟩, .int .i64 16, .int .i64 8] wr fun e w' => ∃ v, e = .returned v ∧ PuAns (hexFrom 0 [l[k + 1], l[k + 2]]) v ∧ Below wr.heap.size wr w' := parseUint_walk ⟨#[l[k + 1], l[k + 2]]⟩ rfl wr (var_below HS.out hnx)
      clear hd1 hxx
      rw [hex_two, ← hxe.out] at hP
      generalize hh : hexD l[k + 1] l[k + 2] = hn2 at hP
      have HH := Lib.hid hh
      clear hh
      cases hn2 with
      | none =>
       have HP := Lib.hid hP
       have hn := Lib.hid (show Go.Desk.meant l = none from meant_none H37.out (by rw [hpc.out, HH.out]; rfl))
       clear hP
       go_wp2_with fail
       refine HP.out.mono ?_
       rintro e W1 ⟨v, rfl, ⟨T, N, rfl⟩, b1⟩
       go_wp2_with fail
       go_ret2
       exact ⟨_, rfl, ⟨⟨#[]⟩, false, rfl, by rw [hn.out]; rfl⟩, hnx.trans (b1.mono hsize)⟩
      | some n =>
       have HP := Lib.hid hP
       have hn := Lib.hid (show mean unX l = (mean unX (l.drop (k + 3))).map ((bs ++ [UInt8.ofNat n]) ++ ·) by
        rw [hpc.out, HH.out]
        dsimp only
        rw [Option.map_map]
        congr 1
        funext z
        simp)
       have hnl := hexD_lt HH.out
       clear hP
       go_wp2_with fail
       refine HP.out.mono ?_
       rintro e W1 ⟨v, rfl, hv, b1⟩
       have hv : v = .tuple #[.int .u64 n, .nilIface] := hv
       subst hv
       go_wp2_with fail
       refine (wb w.heap.size bs _ (UInt8.ofNat n) (by rw [UInt8.toNat_ofNat', Nat.mod_eq_of_lt hnl]) W1 (builder_kept hI b1) (by omega) (by have := b1.size; omega)).mono ?_
       rintro e W2 ⟨rfl, h1, b2⟩
       go_wp2_with fail
       exact ⟨⟨k + 3, bs ++ [UInt8.ofNat n], by first | rfl | simp, h3, by simp; omega, hn.out, h1, hnx.trans ((b1.mono hsize).trans b2)⟩, by simp [intV13]; omega⟩
     ·have hv3 : (l.length : Int) ≤ (k : Int) + 2 := by omega
      have hn := Lib.hid (show Go.Desk.meant l = none from meant_none H37.out (by rw [HK.out, mean_short _ (by rw [List.length_drop]; omega)]; rfl))
      go_wp2_with fail
      go_ret2
      exact ⟨_, rfl, ⟨⟨#[]⟩, false, rfl, by rw [hn.out]; rfl⟩, hnx⟩
    ·have hv2 : ((((b[k]'(by omega)).toNat : Nat) : Int) != 37) = true := by
      rw [HB.out]
      simp
      intro h
      apply hc
      apply UInt8.toNat_inj.1
      have h1 : l[k].toNat = 37 := by omega
      rw [h1]; rfl
     have hw1 := Lib.hid (show mean unX l = (mean unX (l.drop (k + 1))).map ((bs ++ [l[k]]) ++ ·) by
      rw [HM.out, hd.out, mean_plain hc, Option.map_map]
      congr 1
      funext z
      simp)
     clear hc
     go_wp2_with fail
     refine (wb w.heap.size bs _ l[k] (by rw [HB.out]) wr hI (by omega) hsize).mono ?_
     rintro e W2 ⟨rfl, h1, b1⟩
     go_wp2_with fail
     exact ⟨⟨k + 1, bs ++ [l[k]], by first | rfl | simp, hlt, by simp; omega, hw1.out, h1, hnx.trans b1⟩, by simp [intV13]; omega⟩
end Go.Proofs.YtkjdlganghbgaaaGreatDoor
namespace Go.Proofs.YtkjdlganghbgaaaGreatDoor
open Go.RowKit Go.Desk Go.Shelf
def callCells (k : Int) (c : CallV) : Array Value := #[.int .i64 k, strV c.path, strV c.other, .int .i64 c.fd, .int .i64 c.n, strV c.data, .bool c.on]
theorem cell_at {w : World} {cb i : Nat} {cs : Array Value} {T : TypeId} {v : Value} (h : w.heap[cb]? = some (.cells cs T)) (hi : cs[i]? = some v) : w.cell? ⟨cb, i, none⟩ = some v := by
 simp [World.cell?, h, hi]
theorem frozen_at {w : World} {cb i : Nat} {cs : Array Value} {T : TypeId} (h : w.heap[cb]? = some (.cells cs T)) : w.frozen? ⟨cb, i, none⟩ = false := by
 simp [World.frozen?, h]
theorem set_at {w : World} {cb i : Nat} {cs : Array Value} {T : TypeId} (h : w.heap[cb]? = some (.cells cs T)) (v : Value) : (w.setCell ⟨cb, i, none⟩ v).heap[cb]? = some (.cells (cs.setIfInBounds i v) T) := by
 simp [World.setCell, Array.getElem?_modify, h]
theorem grown_set (w : World) (cb i : Nat) (v : Value) : w.grownBy (w.setCell ⟨cb, i, none⟩ v) (some cb) :=
 ⟨rfl, rfl, rfl, by simp [World.setCell], fun k _ hk => Below.heap_setCell _ _ _ k (fun e => hk (by rw [e]))⟩
theorem grown_trans {a b c : World} {r : Option Nat} (h : a.grownBy b none) (k : b.grownBy c r) : a.grownBy c r :=
 ⟨k.os.trans h.os, k.tape.trans h.tape, k.output.trans h.output, Nat.le_trans h.size k.size, fun i hi hr => (k.block i (Nat.lt_of_lt_of_le hi h.size) hr).trans (h.block i hi (by simp))⟩
theorem grown_any {a b : World} {r : Option Nat} (h : a.grownBy b none) : a.grownBy b r := ⟨h.os, h.tape, h.output, h.size, fun i hi _ => h.block i hi (by simp)⟩
def TakeAns (cb : Nat) (w : World) (r : Option CallV) (e : Ending) (w' : World) : Prop := ∃ ok, e = .returned (.bool ok) ∧ w.grownBy w' (some cb) ∧ match r with
 | some d => ok = true ∧ w'.heap[cb]? = some (.cells (callCells d.kind d) 34)
 | none => ok = false
theorem takeAns_some {cb : Nat} {w w' : World} {d : CallV} {r : Option CallV} (hr : r = some d) (hg : w.grownBy w' (some cb)) (h : w'.heap[cb]? = some (.cells (callCells d.kind d) 34)) : TakeAns cb w r (.returned (.bool true)) w' := by
 subst hr
 exact ⟨true, rfl, hg, rfl, h⟩
theorem takeAns_none {cb : Nat} {w w' : World} {r : Option CallV} (hr : r = none) (hg : w.grownBy w' (some cb)) : TakeAns cb w r (.returned (.bool false)) w' := by
 subst hr
 exact ⟨false, rfl, hg, rfl⟩
set_option maxRecDepth 100000 in
set_option maxHeartbeats 8000000 in
theorem take_f_walk (cb : Nat) (c : CallV) (seen : Int) (x : List UInt8) (w : World) (hc : w.heap[cb]? = some (.cells (callCells c.kind c) 34)) :
  Calls Tryz.prog 20 #[.pointer (some ⟨cb, 0, none⟩), .int .u8 102, .int .i64 seen, .string ⟨x.toArray⟩] w fun e w' => TakeAns cb w (take c .f 0 x) e w' := by
 have hb : (ByteArray.mk x.toArray).data.toList = x := rfl
 generalize hbt : ByteArray.mk x.toArray = b at hb ⊢
 clear hbt
 have hbl : b.toList = x := by rw [Go.ByteArray.toList_eq b, hb]
 have h6 : w.cell? ⟨cb, 6, none⟩ = some (.bool c.on) := cell_at hc rfl
 have f6 : w.frozen? ⟨cb, 6, none⟩ = false := frozen_at hc
 have HC := Lib.hid hc
 clear hc
 by_cases h1 : x = [111, 110]
 ·have e1 : (b.toList == [111, 110]) = true := by rw [hbl, h1]; rfl
  have hr := Lib.hid (show take c .f 0 x = some { c with on := true } from if_pos h1)
  clear hbl h1 hb
  go_enter Tryz.func20, Tryz.ntmps20
  go_wp2_with fail
  go_ret
  exact takeAns_some hr.out (grown_set _ _ _ _) (set_at HC.out _)
 ·have e1 : (b.toList == [111, 110]) = false := by rw [hbl]; simpa using h1
  by_cases h2 : x = [111, 102, 102]
  ·have e2 : (b.toList == [111, 102, 102]) = true := by rw [hbl, h2]; rfl
   have hr := Lib.hid (show take c .f 0 x = some { c with on := false } from (if_neg h1).trans (if_pos h2))
   clear hbl h1 h2 hb
   go_enter Tryz.func20, Tryz.ntmps20
   go_wp2_with fail
   go_ret
   exact takeAns_some hr.out (grown_set _ _ _ _) (set_at HC.out _)
  ·have e2 : (b.toList == [111, 102, 102]) = false := by rw [hbl]; simpa using h2
   have hr := Lib.hid (show take c .f 0 x = none from (if_neg h1).trans (if_neg h2))
   clear hbl h1 h2 hb
   go_enter Tryz.func20, Tryz.ntmps20
   go_wp2_with fail
   go_ret
   exact takeAns_none hr.out (grown_set _ _ _ _)
set_option maxRecDepth 100000 in
set_option maxHeartbeats 8000000 in
theorem take_t_walk (cb : Nat) (c : CallV) (seen : Nat) (x : List UInt8) (w : World) (hx : x.length < 1000000) (hc : w.heap[cb]? = some (.cells (callCells c.kind c) 34)) {tp : TypeId} {p : Value} (hs : w.var? Tryz.prog "strconv.ErrSyntax" = some #[.iface tp p]) :
  Calls Tryz.prog 20 #[.pointer (some ⟨cb, 0, none⟩), .int .u8 116, .int .i64 seen, .string ⟨x.toArray⟩] w fun e w' => TakeAns cb w (take c .t seen x) e w' := by
 have hM := Lib.hid (meant_walk x w hx hs)
 have hcb : cb < w.heap.size := (Array.getElem?_eq_some_iff.1 hc).1
 have HC := Lib.hid hc
 have HB := Lib.hid hcb
 clear hs hc hcb
 go_enter Tryz.func20, Tryz.ntmps20
 go_wp2_with fail
 refine hM.out.mono ?_
 rintro e w1 ⟨v, rfl, ⟨t, ok, rfl, hm⟩, hb1⟩
 have hg1 := grown_of_below hb1
 have hc1 : w1.heap[cb]? = some (.cells (callCells c.kind c) 34) := by rw [hb1.block cb HB.out]; exact HC.out
 have h0 : w1.cell? ⟨cb, 0, none⟩ = some (.int .i64 c.kind) := cell_at hc1 rfl
 have h1 : w1.cell? ⟨cb, 1, none⟩ = some (strV c.path) := cell_at hc1 rfl
 have h2 : w1.cell? ⟨cb, 2, none⟩ = some (strV c.other) := cell_at hc1 rfl
 have h5 : w1.cell? ⟨cb, 5, none⟩ = some (strV c.data) := cell_at hc1 rfl
 have f1 : w1.frozen? ⟨cb, 1, none⟩ = false := frozen_at hc1
 have f2 : w1.frozen? ⟨cb, 2, none⟩ = false := frozen_at hc1
 have f5 : w1.frozen? ⟨cb, 5, none⟩ = false := frozen_at hc1
 have hr : take c .t seen x = (meant x).map fun s => if c.kind = 4 then { c with data := s } else if seen = 0 then { c with path := s } else { c with other := s } := rfl
 rw [hm] at hr
 have hend : ∀ (w' : World) (d : CallV), (if c.kind = 4 then { c with data := t.data.toList } else if seen = 0 then { c with path := t.data.toList } else { c with other := t.data.toList }) = d → w1.grownBy w' (some cb) → w'.heap[cb]? = some (.cells (callCells d.kind d) 34) → TakeAns cb w (take c .t seen x) (.returned (.bool ok)) w' := fun w' d hd hg hh => by
  cases ok with
  | false => exact takeAns_none hr (grown_trans hg1 hg)
  | true => exact takeAns_some (d := d) (by rw [hr, ← hd]; rfl) (grown_trans hg1 hg) hh
 have HE := Lib.hid hend
 have H1 := Lib.hid hc1
 clear hend hr hm hc1 hb1 hg1
 by_cases hk : c.kind = 4
 ·have hk1 : (((c.kind : Nat) : Int) == 4) = true := by rw [hk]; rfl
  have hd := Lib.hid (show (if c.kind = 4 then { c with data := t.data.toList } else if seen = 0 then { c with path := t.data.toList } else { c with other := t.data.toList }) = { c with data := t.data.toList } by rw [if_pos hk])
  clear hk
  go_wp2_with fail
  go_ret
  exact HE.out _ _ hd.out (grown_set _ _ _ _) (set_at H1.out _)
 ·have hk1 : (((c.kind : Nat) : Int) == 4) = false := by rw [beq_eq_false_iff_ne]; omega
  by_cases hs0 : seen = 0
  ·have hs1 : (((seen : Nat) : Int) == 0) = true := by rw [hs0]; rfl
   have hd := Lib.hid (show (if c.kind = 4 then { c with data := t.data.toList } else if seen = 0 then { c with path := t.data.toList } else { c with other := t.data.toList }) = { c with path := t.data.toList } by rw [if_neg hk, if_pos hs0])
   clear hk hs0
   go_wp2_with fail
   go_ret
   exact HE.out _ _ hd.out (grown_set _ _ _ _) (set_at H1.out _)
  ·have hs1 : (((seen : Nat) : Int) == 0) = false := by rw [beq_eq_false_iff_ne]; omega
   have hd := Lib.hid (show (if c.kind = 4 then { c with data := t.data.toList } else if seen = 0 then { c with path := t.data.toList } else { c with other := t.data.toList }) = { c with other := t.data.toList } by rw [if_neg hk, if_neg hs0])
   clear hk hs0
   go_wp2_with fail
   go_ret
   exact HE.out _ _ hd.out (grown_set _ _ _ _) (set_at H1.out _)
set_option maxRecDepth 100000 in
set_option maxHeartbeats 8000000 in
theorem take_n_walk (cb : Nat) (c : CallV) (seen : Nat) (x : List UInt8) (w : World) (hx : x.length < 1000000) (hc : w.heap[cb]? = some (.cells (callCells c.kind c) 34)) {tp tp2 : TypeId} {p p2 : Value} (hs : w.var? Tryz.prog "strconv.ErrSyntax" = some #[.iface tp p]) (hr : w.var? Tryz.prog "strconv.ErrRange" = some #[.iface tp2 p2]) (ht : Lib.TabIs Tryz.prog w "internal/strconv.uint64pow10" .u64 Lib.pow10Tab) :
  Calls Tryz.prog 20 #[.pointer (some ⟨cb, 0, none⟩), .int .u8 110, .int .i64 seen, .string ⟨x.toArray⟩] w fun e w' => TakeAns cb w (take c .n seen x) e w' := by
 have hM := Lib.hid (numberD_walk x w hx hs hr ht)
 have hcb : cb < w.heap.size := (Array.getElem?_eq_some_iff.1 hc).1
 have HC := Lib.hid hc
 have HB := Lib.hid hcb
 clear hs hc hcb hr ht
 go_enter Tryz.func20, Tryz.ntmps20
 go_wp2_with fail
 refine hM.out.mono ?_
 rintro e w1 ⟨v, rfl, ⟨n, ok, rfl, hm⟩, hb1⟩
 have hg1 := grown_of_below hb1
 have hc1 : w1.heap[cb]? = some (.cells (callCells c.kind c) 34) := by rw [hb1.block cb HB.out]; exact HC.out
 have h0 : w1.cell? ⟨cb, 0, none⟩ = some (.int .i64 c.kind) := cell_at hc1 rfl
 have h3 : w1.cell? ⟨cb, 3, none⟩ = some (.int .i64 c.fd) := cell_at hc1 rfl
 have h4 : w1.cell? ⟨cb, 4, none⟩ = some (.int .i64 c.n) := cell_at hc1 rfl
 have f3 : w1.frozen? ⟨cb, 3, none⟩ = false := frozen_at hc1
 have f4 : w1.frozen? ⟨cb, 4, none⟩ = false := frozen_at hc1
 have hr : take c .n seen x = (refNum x).map fun s => if seen = 0 ∧ c.kind ≠ 1 then { c with fd := s } else { c with n := s } := rfl
 rw [hm] at hr
 have hend : ∀ (w' : World) (d : CallV), (if seen = 0 ∧ c.kind ≠ 1 then { c with fd := n } else { c with n := n }) = d → w1.grownBy w' (some cb) → w'.heap[cb]? = some (.cells (callCells d.kind d) 34) → TakeAns cb w (take c .n seen x) (.returned (.bool ok)) w' := fun w' d hd hg hh => by
  cases ok with
  | false => exact takeAns_none hr (grown_trans hg1 hg)
  | true => exact takeAns_some (d := d) (by rw [hr, ← hd]; rfl) (grown_trans hg1 hg) hh
 have HE := Lib.hid hend
 have H1 := Lib.hid hc1
 clear hend hr hm hc1 hb1 hg1
 by_cases hs0 : seen = 0
 ·have hs1 : (((seen : Nat) : Int) == 0) = true := by rw [hs0]; rfl
  by_cases hk : c.kind = 1
  ·have hk1 : (((c.kind : Nat) : Int) != 1) = false := by rw [hk]; rfl
   have hd := Lib.hid (show (if seen = 0 ∧ c.kind ≠ 1 then { c with fd := n } else { c with n := n }) = { c with n := n } by rw [if_neg (fun h => h.2 hk)])
   clear hk hs0
   go_wp2_with fail
   go_ret
   exact HE.out _ _ hd.out (grown_set _ _ _ _) (set_at H1.out _)
  ·have hk1 : (((c.kind : Nat) : Int) != 1) = true := by simp; omega
   have hd := Lib.hid (show (if seen = 0 ∧ c.kind ≠ 1 then { c with fd := n } else { c with n := n }) = { c with fd := n } by rw [if_pos ⟨hs0, hk⟩])
   clear hk hs0
   go_wp2_with fail
   go_ret
   exact HE.out _ _ hd.out (grown_set _ _ _ _) (set_at H1.out _)
 ·have hs1 : (((seen : Nat) : Int) == 0) = false := by rw [beq_eq_false_iff_ne]; omega
  have hd := Lib.hid (show (if seen = 0 ∧ c.kind ≠ 1 then { c with fd := n } else { c with n := n }) = { c with n := n } by rw [if_neg (fun h => hs0 h.1)])
  clear hs0
  go_wp2_with fail
  go_ret
  exact HE.out _ _ hd.out (grown_set _ _ _ _) (set_at H1.out _)
end Go.Proofs.YtkjdlganghbgaaaGreatDoor
