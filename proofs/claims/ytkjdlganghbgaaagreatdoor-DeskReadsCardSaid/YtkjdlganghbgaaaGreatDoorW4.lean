/- Number, walked by hand. -/
import Derived.Test.YtkjdlganghbgaaaGreatDoorProg
import Derived.Test.YtkjdlganghbgaaaGreatDoorQD
import Derived.WalkKit
import Derived.WalkSpells
import Derived.BigCall
import Derived.IntWalk
import Derived.Lib.Hide
namespace Go.Desk
theorem tdrop_self (l : List UInt8) (f : Nat) : (l.take f).drop f = [] := List.drop_eq_nil_of_le (by rw [List.length_take]; omega)
theorem val_small {l : List UInt8} (h : ∀ c ∈ l, dig c) (hl : l.length ≤ 9) : val l < 1000000000 := by
 have := val_lt h
 exact Nat.lt_of_lt_of_le this (Nat.pow_le_pow_right (by decide) hl)
theorem refDs_not {neg : Bool} {ds : List UInt8} (h : ¬ ∀ c ∈ ds, dig c) : refDs neg ds = none := by
 unfold refDs
 rw [if_pos (.inr (.inr (.inr h)))]
theorem refDs_is {neg : Bool} {ds : List UInt8} {v : Nat} (hc : ¬ (ds = [] ∨ 9 < ds.length ∨ (ds.head? = some 48 ∧ (1 < ds.length ∨ neg = true)))) (h : ∀ c ∈ ds, dig c) (hv : val ds = v) : refDs neg ds = some (if neg then -(v : Int) else v) := by
 unfold refDs
 rw [if_neg (fun h' => by rcases h' with h' | h' | h' | h' <;> first | exact h' h | exact hc (by simp [h']) ), hv]
end Go.Desk
namespace Go.Proofs.YtkjdlganghbgaaaGreatDoor
open Go.RowKit Go.Desk
def intV4 (v : Value) : Nat := match v with | .int _ n => n.toNat | _ => 0
def numAns (o : Option Int) : Value := match o with
 | some n => .tuple #[.int .i64 n, .bool true]
 | none => .tuple #[.int .i64 0, .bool false]
set_option maxRecDepth 100000 in
set_option maxHeartbeats 8000000 in
theorem number_plus (l : List UInt8) (w : World) (hlen : l.length < 1000000) (h45 : l.head? ≠ some 45) : Calls Tryz.prog 23 #[.string ⟨l.toArray⟩] w fun e w' => e = .returned (numAns (refNum l)) ∧ w' = w := by
 have hnum : refNum l = refDs false l := by unfold refNum; rw [if_neg h45]
 have hb : (ByteArray.mk l.toArray).data.toList = l := rfl
 have hbs : (ByteArray.mk l.toArray).size = l.length := rfl
 have hex : (ByteArray.mk l.toArray == ByteArray.mk #[]) = decide (l = []) := by
  cases l <;> rfl
 generalize hbt : ByteArray.mk l.toArray = b at hb hbs hex ⊢
 clear hbt
 have hbl : b.toList = l := by rw [Go.ByteArray.toList_eq b, hb]
 by_cases h0 : l = []
 ·subst h0
  go_enter Tryz.func23, Tryz.ntmps23
  go_wp2
  go_ret2
  exact ⟨rfl, rfl⟩
 ·have hpos : 0 < l.length := List.length_pos_iff.2 h0
  have hb0 : b[0]'(by omega) = l[0] := by
   have e1 : b[0]'(by omega) = b.data.toList[0]'(by rw [hb]; exact hpos) := rfl
   rw [e1]
   simp only [hb]
  have hh0 : l.head? = some l[0] := by rw [List.head?_eq_getElem?, List.getElem?_eq_getElem hpos]
  have hne : l[0] ≠ 45 := fun h => h45 (by rw [hh0, h])
  have hv0 : ((((b[0]'(by omega)).toNat : Nat) : Int) == 45) = false := by
   rw [hb0, beq_eq_false_iff_ne]; intro h; apply hne; apply UInt8.toNat_inj.1; have h1 : l[0].toNat = 45 := by omega
   rw [h1]; rfl
  have hbn : ¬ b.toList = [] := by rw [hbl]; exact h0
  clear hex h45 hne
  have HN := Lib.hid hnum
  have HL := Lib.hid hbl
  clear hnum hbl
  by_cases h9 : 9 < l.length
  ·have hr := Lib.hid (show refNum l = none by rw [HN.out]; unfold refDs; rw [if_pos (.inr (.inl h9))])
   clear hb0
   go_enter Tryz.func23, Tryz.ntmps23
   go_wp2_with fail
   go_ret2
   exact ⟨by rw [hr.out]; rfl, rfl⟩
  by_cases h48 : l[0] = 48
  ·have hv1 : ((((b[0]'(by omega)).toNat : Nat) : Int) == 48) = true := by rw [hb0, h48]; rfl
   clear hb0
   by_cases h1 : 1 < l.length
   ·have hr := Lib.hid (show refNum l = none by rw [HN.out]; unfold refDs; rw [if_pos (.inr (.inr (.inl ⟨by rw [hh0, h48], .inl h1⟩)))])
    clear hh0
    go_enter Tryz.func23, Tryz.ntmps23
    go_wp2_with fail
    go_ret2
    exact ⟨by rw [hr.out]; rfl, rfl⟩
   ·have hcond : ¬ (l = [] ∨ 9 < l.length ∨ (l.head? = some 48 ∧ (1 < l.length ∨ false = true))) := by simp [h0, h9, h1]
    clear hh0
    go_enter Tryz.func23, Tryz.ntmps23
    go_wp2_with fail
    go_loopw [6, 7] (fun nv i wr => ∃ k : Nat, i = .int .i64 k ∧ 0 ≤ k ∧ k ≤ l.length ∧ (∀ c ∈ (l.take k).drop 0, dig c) ∧ nv = .int .i64 (val ((l.take k).drop 0) : Nat) ∧ wr = w) (fun _ i _ => l.length - intV4 i)
    case atStart => exact ⟨0, rfl, Nat.le_refl _, by omega, (by rw [tdrop_self l 0]; intro c hc; cases hc), by rw [tdrop_self l 0]; rfl, rfl⟩
    case round =>
     obtain ⟨k, rfl, hfk, hkl, hdg, rfl, rfl⟩ := hrel
     have hD := Lib.hid hdg
     clear hdg
     have hval : val ((l.take k).drop 0) < 1000000000 := val_small hD.out (by rw [List.length_drop, List.length_take]; omega)
     generalize hvn : val ((l.take k).drop 0) = vn at hval ⊢
     have HV := Lib.hid hvn
     clear hvn
     by_cases hkL : k = l.length
     ·subst hkL
      have hr := Lib.hid (show refNum l = some ((vn : Int)) by
       rw [HN.out]
       have e1 : (l.take l.length).drop 0 = l := by rw [List.take_length]; rfl
       have h1 := HV.out
       have h2 := hD.out
       rw [e1] at h1 h2
       exact refDs_is hcond h2 h1)
      clear HV hD
      go_wp2_with fail
      go_ret2
      exact ⟨by rw [hr.out]; rfl, rfl⟩
     ·have hlt : k < l.length := by omega
      have hbk : b[k]'(by omega) = l[k] := by
       have e1 : b[k]'(by omega) = b.data.toList[k]'(by rw [hb]; exact hlt) := rfl
       rw [e1]
       simp only [hb]
      have htk : (l.take (k + 1)).drop 0 = (l.take k).drop 0 ++ [l[k]] := by rw [List.take_succ_eq_append_getElem hlt, List.drop_append_of_le_length (by rw [List.length_take]; omega)]
      have HT := Lib.hid htk
      clear htk
      have hmem : l[k] ∈ l := List.getElem_mem hlt
      have hun : ¬ dig l[k] → refNum l = none := fun hn => by
       rw [HN.out]
       exact refDs_not (fun h => hn (h _ hmem))
      have HU := Lib.hid hun
      clear hun hmem
      have hbyte := (l[k]).toNat_lt
      have HB := Lib.hid hbk
      clear hbk
      by_cases h48 : l[k].toNat < 48
      ·have hv : ((((b[k]'(by omega)).toNat : Nat) : Int) < 48) := by rw [HB.out]; omega
       have hr := Lib.hid (HU.out (fun h => by have := h.1; omega))
       go_wp2_with fail
       go_ret2
       exact ⟨by rw [hr.out]; rfl, rfl⟩
      ·by_cases h57 : 57 < l[k].toNat
       ·have hv : ¬ ((((b[k]'(by omega)).toNat : Nat) : Int) < 48) := by rw [HB.out]; omega
        have hv2 : (57 : Int) < (((b[k]'(by omega)).toNat : Nat) : Int) := by rw [HB.out]; omega
        have hr := Lib.hid (HU.out (fun h => by have := h.2; omega))
        go_wp2_with fail
        go_ret2
        exact ⟨by rw [hr.out]; rfl, rfl⟩
       ·have hv : ¬ ((((b[k]'(by omega)).toNat : Nat) : Int) < 48) := by rw [HB.out]; omega
        have hv2 : ¬ ((57 : Int) < (((b[k]'(by omega)).toNat : Nat) : Int)) := by rw [HB.out]; omega
        go_wp2_with fail
        refine ⟨⟨k + 1, by first | rfl | simp, by omega, by omega, ?_, ?_, trivial⟩, by simp [intV4]; omega⟩
        ·intro c hc
         rw [HT.out, List.mem_append] at hc
         rcases hc with hc | hc
         ·exact hD.out c hc
         ·rw [List.mem_singleton] at hc
          subst hc
          exact ⟨by omega, by omega⟩
        ·rw [HT.out, val_snoc, HV.out, HB.out]
         congr 1
         omega
  ·have hv1 : ((((b[0]'(by omega)).toNat : Nat) : Int) == 48) = false := by
    rw [hb0, beq_eq_false_iff_ne]; intro h; apply h48; apply UInt8.toNat_inj.1; have h1 : l[0].toNat = 48 := by omega
    rw [h1]; rfl
   clear hb0
   have hcond : ¬ (l = [] ∨ 9 < l.length ∨ (l.head? = some 48 ∧ (1 < l.length ∨ false = true))) := by simp [h0, h9, hh0, h48]
   clear hh0
   go_enter Tryz.func23, Tryz.ntmps23
   go_wp2_with fail
   go_loopw [6, 7] (fun nv i wr => ∃ k : Nat, i = .int .i64 k ∧ 0 ≤ k ∧ k ≤ l.length ∧ (∀ c ∈ (l.take k).drop 0, dig c) ∧ nv = .int .i64 (val ((l.take k).drop 0) : Nat) ∧ wr = w) (fun _ i _ => l.length - intV4 i)
   case atStart => exact ⟨0, rfl, Nat.le_refl _, by omega, (by rw [tdrop_self l 0]; intro c hc; cases hc), by rw [tdrop_self l 0]; rfl, rfl⟩
   case round =>
    obtain ⟨k, rfl, hfk, hkl, hdg, rfl, rfl⟩ := hrel
    have hD := Lib.hid hdg
    clear hdg
    have hval : val ((l.take k).drop 0) < 1000000000 := val_small hD.out (by rw [List.length_drop, List.length_take]; omega)
    generalize hvn : val ((l.take k).drop 0) = vn at hval ⊢
    have HV := Lib.hid hvn
    clear hvn
    by_cases hkL : k = l.length
    ·subst hkL
     have hr := Lib.hid (show refNum l = some ((vn : Int)) by
      rw [HN.out]
      have e1 : (l.take l.length).drop 0 = l := by rw [List.take_length]; rfl
      have h1 := HV.out
      have h2 := hD.out
      rw [e1] at h1 h2
      exact refDs_is hcond h2 h1)
     clear HV hD
     go_wp2_with fail
     go_ret2
     exact ⟨by rw [hr.out]; rfl, rfl⟩
    ·have hlt : k < l.length := by omega
     have hbk : b[k]'(by omega) = l[k] := by
      have e1 : b[k]'(by omega) = b.data.toList[k]'(by rw [hb]; exact hlt) := rfl
      rw [e1]
      simp only [hb]
     have htk : (l.take (k + 1)).drop 0 = (l.take k).drop 0 ++ [l[k]] := by rw [List.take_succ_eq_append_getElem hlt, List.drop_append_of_le_length (by rw [List.length_take]; omega)]
     have HT := Lib.hid htk
     clear htk
     have hmem : l[k] ∈ l := List.getElem_mem hlt
     have hun : ¬ dig l[k] → refNum l = none := fun hn => by
      rw [HN.out]
      exact refDs_not (fun h => hn (h _ hmem))
     have HU := Lib.hid hun
     clear hun hmem
     have hbyte := (l[k]).toNat_lt
     have HB := Lib.hid hbk
     clear hbk
     by_cases h48 : l[k].toNat < 48
     ·have hv : ((((b[k]'(by omega)).toNat : Nat) : Int) < 48) := by rw [HB.out]; omega
      have hr := Lib.hid (HU.out (fun h => by have := h.1; omega))
      go_wp2_with fail
      go_ret2
      exact ⟨by rw [hr.out]; rfl, rfl⟩
     ·by_cases h57 : 57 < l[k].toNat
      ·have hv : ¬ ((((b[k]'(by omega)).toNat : Nat) : Int) < 48) := by rw [HB.out]; omega
       have hv2 : (57 : Int) < (((b[k]'(by omega)).toNat : Nat) : Int) := by rw [HB.out]; omega
       have hr := Lib.hid (HU.out (fun h => by have := h.2; omega))
       go_wp2_with fail
       go_ret2
       exact ⟨by rw [hr.out]; rfl, rfl⟩
      ·have hv : ¬ ((((b[k]'(by omega)).toNat : Nat) : Int) < 48) := by rw [HB.out]; omega
       have hv2 : ¬ ((57 : Int) < (((b[k]'(by omega)).toNat : Nat) : Int)) := by rw [HB.out]; omega
       go_wp2_with fail
       refine ⟨⟨k + 1, by first | rfl | simp, by omega, by omega, ?_, ?_, trivial⟩, by simp [intV4]; omega⟩
       ·intro c hc
        rw [HT.out, List.mem_append] at hc
        rcases hc with hc | hc
        ·exact hD.out c hc
        ·rw [List.mem_singleton] at hc
         subst hc
         exact ⟨by omega, by omega⟩
       ·rw [HT.out, val_snoc, HV.out, HB.out]
        congr 1
        omega
set_option maxRecDepth 100000 in
set_option maxHeartbeats 8000000 in
theorem number_minus (l : List UInt8) (w : World) (hlen : l.length < 1000000) (h45 : l.head? = some 45) : Calls Tryz.prog 23 #[.string ⟨l.toArray⟩] w fun e w' => e = .returned (numAns (refNum l)) ∧ w' = w := by
 have hnum : refNum l = refDs true (l.drop 1) := by unfold refNum; rw [if_pos h45, List.drop_one]
 have hb : (ByteArray.mk l.toArray).data.toList = l := rfl
 have hbs : (ByteArray.mk l.toArray).size = l.length := rfl
 generalize hbt : ByteArray.mk l.toArray = b at hb hbs ⊢
 clear hbt
 have hbl : b.toList = l := by rw [Go.ByteArray.toList_eq b, hb]
 have h0 : ¬ l = [] := fun h => by rw [h] at h45; cases h45
 have hpos : 0 < l.length := List.length_pos_iff.2 h0
 have hb0 : b[0]'(by omega) = l[0] := by
  have e1 : b[0]'(by omega) = b.data.toList[0]'(by rw [hb]; exact hpos) := rfl
  rw [e1]
  simp only [hb]
 have hh0 : l[0] = 45 := by
  rw [List.head?_eq_getElem?, List.getElem?_eq_getElem hpos] at h45
  injection h45
 have hv0 : ((((b[0]'(by omega)).toNat : Nat) : Int) == 45) = true := by rw [hb0, hh0]; rfl
 have hbn : ¬ b.toList = [] := by rw [hbl]; exact h0
 have hbe : b.toList.isEmpty = false := by rw [hbl]; cases l <;> simp_all
 clear hh0 hb0 h45
 have HN := Lib.hid hnum
 have HL := Lib.hid hbl
 clear hnum hbl
 have hdl : (l.drop 1).length = l.length - 1 := List.length_drop
 by_cases h1 : l.length = 1
 ·have hr := Lib.hid (show refNum l = none by rw [HN.out]; unfold refDs; rw [if_pos (.inl (List.eq_nil_of_length_eq_zero (by omega)))])
  clear hdl
  go_enter Tryz.func23, Tryz.ntmps23
  go_wp2_with fail
  go_ret2
  exact ⟨by rw [hr.out]; rfl, rfl⟩
 by_cases h9 : 9 < l.length - 1
 ·have hr := Lib.hid (show refNum l = none by rw [HN.out]; unfold refDs; rw [if_pos (.inr (.inl (by omega)))])
  clear hdl
  go_enter Tryz.func23, Tryz.ntmps23
  go_wp2_with fail
  go_ret2
  exact ⟨by rw [hr.out]; rfl, rfl⟩
 have h2 : 1 < l.length := by omega
 have hb1 : b[1]'(by omega) = l[1] := by
  have e1 : b[1]'(by omega) = b.data.toList[1]'(by rw [hb]; exact h2) := rfl
  rw [e1]
  simp only [hb]
 have hh1 : (l.drop 1).head? = some l[1] := by rw [List.head?_eq_getElem?]; simp [h2]
 by_cases h48 : l[1] = 48
 ·have hv1 : ((((b[1]'(by omega)).toNat : Nat) : Int) == 48) = true := by rw [hb1, h48]; rfl
  clear hb1
  have hr := Lib.hid (show refNum l = none by rw [HN.out]; unfold refDs; rw [if_pos (.inr (.inr (.inl ⟨by rw [hh1, h48], .inr rfl⟩)))])
  clear hh1 hdl
  by_cases h3 : 1 < l.length - 1
  ·go_enter Tryz.func23, Tryz.ntmps23
   go_wp2_with fail
   go_ret2
   exact ⟨by rw [hr.out]; rfl, rfl⟩
  ·go_enter Tryz.func23, Tryz.ntmps23
   go_wp2_with fail
   go_ret2
   exact ⟨by rw [hr.out]; rfl, rfl⟩
 ·have hv1 : ((((b[1]'(by omega)).toNat : Nat) : Int) == 48) = false := by
   rw [hb1, beq_eq_false_iff_ne]; intro h; apply h48; apply UInt8.toNat_inj.1; have h1 : l[1].toNat = 48 := by omega
   rw [h1]; rfl
  clear hb1
  have hcond : ¬ (l.drop 1 = [] ∨ 9 < (l.drop 1).length ∨ ((l.drop 1).head? = some 48 ∧ (1 < (l.drop 1).length ∨ true = true))) := by
   intro h
   rcases h with h | h | ⟨h, _⟩
   ·have := congrArg List.length h
    rw [hdl] at this
    have : l.length - 1 = 0 := this
    omega
   ·omega
   ·rw [hh1] at h
    injection h with h
    exact h48 h
  have HC := Lib.hid hcond
  clear hh1 hcond hdl
  go_enter Tryz.func23, Tryz.ntmps23
  go_wp2_with fail
  go_loopw [6, 7] (fun nv i wr => ∃ k : Nat, i = .int .i64 k ∧ 1 ≤ k ∧ k ≤ l.length ∧ (∀ c ∈ (l.take k).drop 1, dig c) ∧ nv = .int .i64 (val ((l.take k).drop 1) : Nat) ∧ wr = w) (fun _ i _ => l.length - intV4 i)
  case atStart => exact ⟨1, rfl, Nat.le_refl _, by omega, (by rw [tdrop_self l 1]; intro c hc; cases hc), by rw [tdrop_self l 1]; rfl, rfl⟩
  case round =>
   obtain ⟨k, rfl, hfk, hkl, hdg, rfl, rfl⟩ := hrel
   have hD := Lib.hid hdg
   clear hdg
   have hval : val ((l.take k).drop 1) < 1000000000 := val_small hD.out (by rw [List.length_drop, List.length_take]; omega)
   generalize hvn : val ((l.take k).drop 1) = vn at hval ⊢
   have HV := Lib.hid hvn
   clear hvn
   by_cases hkL : k = l.length
   ·subst hkL
    have hr := Lib.hid (show refNum l = some (-(vn : Int)) by
     rw [HN.out]
     have e1 : (l.take l.length).drop 1 = l.drop 1 := by rw [List.take_length]
     have h1 := HV.out
     have h2 := hD.out
     rw [e1] at h1 h2
     exact refDs_is (by have h' := HC.out; simp only [eq_self] at h' ⊢; exact h') h2 h1)
    clear HV hD
    go_wp2_with fail
    go_ret2
    exact ⟨by rw [hr.out]; rfl, rfl⟩
   ·have hlt : k < l.length := by omega
    have hbk : b[k]'(by omega) = l[k] := by
     have e1 : b[k]'(by omega) = b.data.toList[k]'(by rw [hb]; exact hlt) := rfl
     rw [e1]
     simp only [hb]
    have htk : (l.take (k + 1)).drop 1 = (l.take k).drop 1 ++ [l[k]] := by rw [List.take_succ_eq_append_getElem hlt, List.drop_append_of_le_length (by rw [List.length_take]; omega)]
    have HT := Lib.hid htk
    clear htk
    have hmem : l[k] ∈ l.drop 1 := by
     have e : l[k] = (l.drop 1)[k - 1]'(by rw [List.length_drop]; omega) := by simp only [List.getElem_drop, show 1 + (k - 1) = k by omega]
     rw [e]; exact List.getElem_mem _
    have hun : ¬ dig l[k] → refNum l = none := fun hn => by
     rw [HN.out]
     exact refDs_not (fun h => hn (h _ hmem))
    have HU := Lib.hid hun
    clear hun hmem
    have hbyte := (l[k]).toNat_lt
    have HB := Lib.hid hbk
    clear hbk
    by_cases h48 : l[k].toNat < 48
    ·have hv : ((((b[k]'(by omega)).toNat : Nat) : Int) < 48) := by rw [HB.out]; omega
     have hr := Lib.hid (HU.out (fun h => by have := h.1; omega))
     go_wp2_with fail
     go_ret2
     exact ⟨by rw [hr.out]; rfl, rfl⟩
    ·by_cases h57 : 57 < l[k].toNat
     ·have hv : ¬ ((((b[k]'(by omega)).toNat : Nat) : Int) < 48) := by rw [HB.out]; omega
      have hv2 : (57 : Int) < (((b[k]'(by omega)).toNat : Nat) : Int) := by rw [HB.out]; omega
      have hr := Lib.hid (HU.out (fun h => by have := h.2; omega))
      go_wp2_with fail
      go_ret2
      exact ⟨by rw [hr.out]; rfl, rfl⟩
     ·have hv : ¬ ((((b[k]'(by omega)).toNat : Nat) : Int) < 48) := by rw [HB.out]; omega
      have hv2 : ¬ ((57 : Int) < (((b[k]'(by omega)).toNat : Nat) : Int)) := by rw [HB.out]; omega
      go_wp2_with fail
      refine ⟨⟨k + 1, by first | rfl | simp, by omega, by omega, ?_, ?_, trivial⟩, by simp [intV4]; omega⟩
      ·intro c hc
       rw [HT.out, List.mem_append] at hc
       rcases hc with hc | hc
       ·exact hD.out c hc
       ·rw [List.mem_singleton] at hc
        subst hc
        exact ⟨by omega, by omega⟩
      ·rw [HT.out, val_snoc, HV.out, HB.out]
       congr 1
       omega
theorem number_walk (l : List UInt8) (w : World) (hlen : l.length < 1000000) : Calls Tryz.prog 23 #[.string ⟨l.toArray⟩] w fun e w' => e = .returned (numAns (refNum l)) ∧ w' = w := by
 by_cases h : l.head? = some 45
 ·exact number_minus l w hlen h
 ·exact number_plus l w hlen h
end Go.Proofs.YtkjdlganghbgaaaGreatDoor
