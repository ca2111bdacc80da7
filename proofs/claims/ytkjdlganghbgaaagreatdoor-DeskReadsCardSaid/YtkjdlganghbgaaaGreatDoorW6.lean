/- Meant, walked by hand. -/
import Derived.Test.YtkjdlganghbgaaaGreatDoorWA
import Derived.Test.YtkjdlganghbgaaaGreatDoorQD
import Derived.BigCall
import Derived.Maps.AppendAt
import Derived.Deep.RegionLaw
import Derived.Deep.RegionHeld3
namespace Go.Proofs.YtkjdlganghbgaaaGreatDoor
open Go.RowKit Go.Desk
def intV6 (v : Value) : Nat := match v with | .int _ n => n.toNat | _ => 0
theorem Tryz.info5 : (Tryz.prog.info? 5).map (fun i => (i.zero, i.size, i.bytes)) = some (some (.int .u8 0), 1, 1) := by kernel_rfl
theorem Tryz.under31b : Tryz.prog.underlying 31 = some (.slice 5) := by kernel_rfl
def byV (x : UInt8) : Value := .int .u8 (x.toNat : Nat)
theorem Tryz.conv_own {w W : World} {base : Nat} {v : Value} {bs : List UInt8} (hown : w.ownsRow base 5 1 v bs.length (bs.map byV)) (hW : Below w.heap.size w W) : (convert 31 9 v).run Tryz.prog W = .ok (.string ⟨bs.toArray⟩) W := by
 rcases hown.2 with ⟨rfl, h2⟩ | ⟨g, cap, cur, rfl, h1, h2, h3, h4, h5, h6⟩
 ·have hb : bs = [] := List.length_eq_zero_iff.1 h2
  subst hb
  rw [run_convert_bytes_string W 31 9 5 none 0 0 (by kernel_rfl) (by kernel_rfl) (by kernel_rfl)]
  rfl
 ·refine run_convert_bytes_back (P := Tryz.prog) W 31 9 5 ⟨g, 0, none⟩ cap bs (by kernel_rfl) (by kernel_rfl) (by kernel_rfl) (fun j hj => ?_)
  have hg : g < w.heap.size := (Array.getElem?_eq_some_iff.1 h2).1
  have ha : (⟨g, 0, none⟩ : Addr).add j = ⟨g, j, none⟩ := by simp [Addr.add]; exact fun h => h.symm
  rw [ha, hW.cell (p := ⟨g, j, none⟩) hg]
  have hc : cur[j]? = some (byV bs[j]) := by
   rw [← Array.getElem?_toList]
   have e : (cur.toList.take (bs.length * 1))[j]? = some (byV bs[j]) := by rw [h6]; simp [hj]
   rw [List.getElem?_take] at e
   rw [if_pos (by omega)] at e
   exact e
  unfold World.cell?
  rw [h2]
  exact hc
theorem mean_plain {u : UInt8 → Option Nat} {c : UInt8} (hc : c ≠ 37) (r : List UInt8) : mean u (c :: r) = (mean u r).map (c :: ·) := by
 rw [mean.eq_def]
 dsimp only
 rw [if_neg hc]
theorem mean_pct {u : UInt8 → Option Nat} (a b : UInt8) (r : List UInt8) : mean u (37 :: a :: b :: r) = match u a, u b with
  | some x, some y => (mean u r).map (UInt8.ofNat (16 * x + y) :: ·)
  | _, _ => none := by
 rw [mean.eq_def]
 rfl
theorem mean_short {u : UInt8 → Option Nat} (r : List UInt8) (h : r.length < 2) : mean u (37 :: r) = none := by
 match r, h with
 | [], _ => rw [mean.eq_def]; rfl
 | [_], _ => rw [mean.eq_def]; rfl
theorem digit_unx (a : UInt8) : unx a = if digitN a.toNat < 0 then none else some (digitN a.toNat).toNat := by
 unfold unx digitN
 split
 ·rename_i h
  rw [if_neg (by omega)]
  congr 1; omega
 ·split
  ·rw [if_neg (by omega)]
   congr 1; omega
  ·rfl
theorem wrap_small {x : Int} (h1 : -9223372036854775808 ≤ x) (h2 : x < 9223372036854775808) : IntKind.i64.wrap x = x := by
 unfold IntKind.wrap
 simp [IntKind.signed, IntKind.bits]
 omega
theorem step_append_own {P : Program} {ops : Array Oper} {o : Oper} {a : Act} {w : World} {K : Act → World → Prop} {Q : Exit → Act → World → Prop} {E : Prop} (hg : o.guard = none) (s x : Operand) (t : TypeId)
  (ho : o.op = .call { callee := .builtin .append, args := #[s, x], argTypes := #[t, t] })
  (base : Nat) (e : TypeId) (i : TypeInfo) (z : Value) (size bytes : Nat) (ht : P.underlying t = some (.slice e)) (hi : P.info? e = some i) (hz : i.zero = some z)
  (hsize : i.size = size) (hby : i.bytes = bytes) (hzs : z.cells.size = size) (hsz : 0 < size)
  (v : Value) (n : Nat) (xs : List Value) (hs : a.eval s = v) (hown : w.ownsRow base e size v n xs)
  (ad : Addr) (m c : Nat) (news : List Value) (hx : a.eval x = .slice (some ad) m c) (hl : news.length = m * size) (hnews : ∀ j u, news[j]? = some u → w.cell? (ad.add j) = some u) (h1 : ∀ u ∈ news, u.oneCell' = true)
  (h63 : n + m ≤ maxLen) (hbytes : (n + m) * bytes ≤ 140737488355328) (hbase : base ≤ w.heap.size)
  (h : ∀ v' w', w'.ownsRow base e size v' (n + m) (xs ++ news) → w.grownBy w' v.ownBlock → (v' = .slice none 0 0 ↔ v = .slice none 0 0 ∧ m = 0) → K (a.put o.dst v') w') :
  if Region.wanted o (yielded ops a.tmps) = true then Oper.wp P o a w K Q else E := by
 have hw : Region.wanted o (yielded ops a.tmps) = true := by simp [Region.wanted, hg]
 rw [if_pos hw]
 exact wp_append_own w s x t ho base e i z size bytes ht hi hz hsize hby hzs hsz v n xs hs hown ad m c news hx hl hnews h1 h63 hbytes hbase h
def MeantAns (l : List UInt8) (v : Value) : Prop := ∃ (t : ByteArray) (ok : Bool), v = .tuple #[.string t, .bool ok] ∧ Go.Desk.meant l = (if ok then some t.data.toList else none)
set_option maxRecDepth 100000 in
set_option maxHeartbeats 8000000 in
theorem meantR_walk (l : List UInt8) (w : World) (hlen : l.length < 1000000) : Calls Tryz.prog 24 #[.string ⟨l.toArray⟩] w fun e w' => ∃ v, e = .returned v ∧ MeantAns l v ∧ Below w.heap.size w w' := by
 obtain ⟨i0, hi, hz0, hz1, hz2⟩ := info_parts Tryz.info5
 have hb : (ByteArray.mk l.toArray).data.toList = l := rfl
 have hbs : (ByteArray.mk l.toArray).size = l.length := rfl
 generalize hbt : ByteArray.mk l.toArray = b at hb hbs ⊢
 have HT := Lib.hid hbt
 clear hbt
 have hbl : b.toList = l := by rw [Go.ByteArray.toList_eq b, hb]
 by_cases h37 : l = [37]
 ·have hv : (b.toList == [37]) = true := by rw [hbl, h37]; rfl
  have hm := Lib.hid (show Go.Desk.meant l = some [] by unfold Go.Desk.meant; rw [if_pos h37])
  clear hbl h37
  go_enter Tryz.func24, Tryz.ntmps24
  go_wp2
  go_ret2
  exact ⟨_, rfl, ⟨⟨#[]⟩, true, rfl, hm.out⟩, Below.refl _ _⟩
 ·have hv : (b.toList == [37]) = false := by rw [hbl]; simpa using h37
  have hm := Lib.hid (show Go.Desk.meant l = match mean unx l with | some t => if l ≠ [] ∧ wr t = l then some t else none | none => none by unfold Go.Desk.meant; rw [if_neg h37]; cases mean unx l <;> rfl)
  have HL := Lib.hid hbl
  clear hbl h37
  go_enter Tryz.func24, Tryz.ntmps24
  go_wp2
  go_loopw [4, 5] (fun v i wr => ∃ (k : Nat) (bs : List UInt8) (ao : Option Addr) (cv : Nat), i = .int .i64 k ∧ v = .slice ao bs.length cv ∧ k ≤ l.length ∧ bs.length ≤ k ∧ mean unx l = (mean unx (l.drop k)).map (bs ++ ·) ∧ wr.ownsRow w.heap.size 5 1 v bs.length (bs.map byV) ∧ Below w.heap.size w wr) (fun _ i _ => l.length - intV6 i)
  case atStart => exact ⟨0, [], none, 0, rfl, rfl, Nat.zero_le _, Nat.le_refl _, by simp, World.ownsRow_nil _ _ _ _, Below.refl _ _⟩
  case round =>
   obtain ⟨k, bs, ao, cv, rfl, rfl, hkl, hbk, hmean, hown, hnx⟩ := hrel
   have hsize := hnx.size
   have HM := Lib.hid hmean
   clear hmean
   by_cases hkL : k = l.length
   ·subst hkL
    go_wp2
    have hmm : mean unx l = some bs := by
     rw [HM.out, List.drop_length]
     rw [mean.eq_def]
     simp
    have hbR : bs.length < 1000000 := by omega
    have hc0 : ∀ W, Below wr.heap.size wr W → (convert 31 9 (.slice ao bs.length cv)).run Tryz.prog W = .ok (.string ⟨bs.toArray⟩) W := fun W hW => Tryz.conv_own hown hW
    have hT : ∀ W, Below wr.heap.size wr W → Calls Tryz.prog 49 #[.string ⟨bs.toArray⟩] W fun e W' => e = .returned (.string ⟨(Desk.wr bs).toArray⟩) ∧ Below wr.heap.size wr W' := fun W hW => (text_walk bs W hbR).mono fun _ _ h => ⟨h.1, hW.trans (h.2.mono hW.size)⟩
    have HMM := Lib.hid hmm
    clear hmm
    have hbL := HL.out
    by_cases hl0 : l = []
    ·have hans : Go.Desk.meant l = none := by rw [hm.out, HMM.out]; simp [hl0]
     have hbe : b.toList = [] := by rw [hbL, hl0]
     clear hbL
     have hbe1 : (b.toList != []) = false := by rw [hbe]; rfl
     have hbe2 : b.toList.isEmpty = true := by rw [hbe]; rfl
     have hc1 := hc0 wr.drew (below_drew (Below.refl _ _))
     have HA := Lib.hid hans
     clear hbe hl0 hans
     go_big_region
     go_wp2_with fail
     go_ret2
     exact ⟨_, rfl, ⟨⟨bs.toArray⟩, false, rfl, HA.out⟩, below_drew hnx⟩
    ·have hans : Go.Desk.meant l = if Desk.wr bs = l then some bs else none := by rw [hm.out, HMM.out]; simp [hl0]
     have hbe : ¬ b.toList = [] := by rw [hbL]; exact hl0
     have hbe2 : b.toList.isEmpty = false := by rw [hbL]; cases l <;> simp_all
     have hbe1 : (b.toList != []) = true := by rw [hbL]; cases l <;> simp_all
     have HA := Lib.hid hans
     clear hbL hans
     have hb0 : Below wr.heap.size wr wr.drew := below_drew (Below.refl _ _)
     have hc1 := hc0 wr.drew hb0
     go_region_held3 (fun W => Below wr.heap.size wr W ∧ (convert 31 9 (.slice ao bs.length cv)).run Tryz.prog W = .ok (.string ⟨bs.toArray⟩) W) (first | exact ⟨hb0, hc1⟩ | (refine ⟨?_, hc0 _ ?_⟩ <;> assumption))
      (first | (go_at_call 49; refine (hT _ (by first | assumption | exact hb0)).mono ?_; rintro e W' ⟨rfl, hbel⟩))
     all_goals go_wp2_with fail
     all_goals go_ret2
     all_goals refine ⟨_, rfl, ⟨⟨bs.toArray⟩, (Desk.wr bs == b.toList), rfl, ?_⟩, hnx.trans (Below.mono (by assumption) hsize)⟩
     all_goals
      rw [HA.out, HL.out]
      by_cases hq : Desk.wr bs = l
      ·rw [if_pos hq]; simp [hq]
      ·rw [if_neg hq]; simp [hq]
   ·have hlt : k < l.length := by omega
    have hbk2 : b[k]'(by omega) = l[k] := by
     have e1 : b[k]'(by omega) = b.data.toList[k]'(by rw [hb]; exact hlt) := rfl
     rw [e1]
     simp only [hb]
    have HB := Lib.hid hbk2
    clear hbk2
    have hd : l.drop k = l[k] :: l.drop (k + 1) := List.drop_eq_getElem_cons hlt
    by_cases hc : l[k] = 37
    ·have hv2 : ((((b[k]'(by omega)).toNat : Nat) : Int) != 37) = false := by rw [HB.out, hc]; rfl
     have hmk : mean unx l = (mean unx (37 :: l.drop (k + 1))).map (bs ++ ·) := by rw [HM.out, hd, hc]
     have HK := Lib.hid hmk
     clear hmk
     by_cases h3 : k + 3 ≤ l.length
     ·have hv3 : ¬ ((l.length : Int) < (k : Int) + 3) := by omega
      have hd1 : l.drop (k + 1) = l[k + 1] :: l[k + 2] :: l.drop (k + 3) := by
       rw [List.drop_eq_getElem_cons (by omega : k + 1 < l.length), List.drop_eq_getElem_cons (by omega : k + 1 + 1 < l.length)]
      have hb1 : b[k + 1]'(by omega) = l[k + 1] := by
       have e1 : b[k + 1]'(by omega) = b.data.toList[k + 1]'(by rw [hb]; omega) := rfl
       rw [e1]
       simp only [hb]
      have hb2 : b[k + 2]'(by omega) = l[k + 2] := by
       have e1 : b[k + 2]'(by omega) = b.data.toList[k + 2]'(by rw [hb]; omega) := rfl
       rw [e1]
       simp only [hb]
      have HB1 := Lib.hid hb1
      have HB2 := Lib.hid hb2
      have HD1 := Lib.hid hd1
      clear hb1 hb2 hd1
      have hlt1 := (b[k + 1]'(by omega)).toNat_lt
      have hlt2 := (b[k + 2]'(by omega)).toNat_lt
      have hdig : ∀ c, -1 ≤ digitN c ∧ digitN c ≤ 15 := fun c => by unfold digitN; split <;> (try split) <;> omega
      have hr1 := hdig (b[k + 1]'(by omega)).toNat
      have hr2 := hdig (b[k + 2]'(by omega)).toNat
      clear hdig
      have hu1 := digit_unx (b[k + 1]'(by omega))
      have hu2 := digit_unx (b[k + 2]'(by omega))
      have hw1 := fun W => digit_walk (b[k + 1]'(by omega)).toNat W hlt1
      have hw2 := fun W => digit_walk (b[k + 2]'(by omega)).toNat W hlt2
      generalize hd1 : digitN (b[k + 1]'(by omega)).toNat = d1 at hr1 hu1 hw1
      generalize hd2 : digitN (b[k + 2]'(by omega)).toNat = d2 at hr2 hu2 hw2
      have HU1 := Lib.hid hu1
      have HU2 := Lib.hid hu2
      have HW1 := Lib.hid hw1
      have HW2 := Lib.hid hw2
      clear hu1 hu2 hw1 hw2 hlt1 hlt2
      have hpc := Lib.hid (show mean unx l = (match unx l[k + 1], unx l[k + 2] with
       | some x, some y => (mean unx (l.drop (k + 3))).map (UInt8.ofNat (16 * x + y) :: ·)
       | _, _ => none).map (bs ++ ·) by rw [HK.out, HD1.out, mean_pct])
      by_cases hA : d1 < 0
      ·have hn := Lib.hid (show mean unx l = none by rw [hpc.out, ← HB1.out, HU1.out, if_pos hA]; rfl)
       go_wp2_with fail
       refine (HW1.out _).mono ?_
       rintro e w2 ⟨rfl, rfl⟩
       go_wp2_with fail
       go_ret2
       exact ⟨_, rfl, ⟨⟨#[]⟩, false, rfl, by rw [hm.out, hn.out]; rfl⟩, hnx⟩
      ·by_cases hB : d2 < 0
       ·have hn := Lib.hid (show mean unx l = none by rw [hpc.out, ← HB1.out, ← HB2.out, HU1.out, HU2.out, if_neg hA, if_pos hB]; rfl)
        go_wp2_with fail
        refine (HW1.out _).mono ?_
        rintro e w2 ⟨rfl, rfl⟩
        go_wp2_with fail
        refine (HW2.out _).mono ?_
        rintro e w2 ⟨rfl, rfl⟩
        go_wp2_with fail
        go_ret2
        exact ⟨_, rfl, ⟨⟨#[]⟩, false, rfl, by rw [hm.out, hn.out]; rfl⟩, hnx⟩
       ·have hn := Lib.hid (show mean unx l = (mean unx (l.drop (k + 3))).map ((bs ++ [UInt8.ofNat (16 * d1.toNat + d2.toNat)]) ++ ·) by
         rw [hpc.out, ← HB1.out, ← HB2.out, HU1.out, HU2.out, if_neg hA, if_neg hB]
         show ((mean unx (l.drop (k + 3))).map (UInt8.ofNat (16 * d1.toNat + d2.toNat) :: ·)).map (bs ++ ·) = _
         rw [Option.map_map]
         congr 1
         funext z
         simp)
        go_wp2_with fail
        refine (HW1.out _).mono ?_
        rintro e w2 ⟨rfl, rfl⟩
        go_wp2_with fail
        refine (HW2.out _).mono ?_
        rintro e w2 ⟨rfl, rfl⟩
        go_wp2_with fail
        have q1 : IntKind.i64.wrap ((k : Int) + 1) = (k : Int) + 1 := wrap_small (by omega) (by omega)
        have q2 : IntKind.i64.wrap ((k : Int) + 2) = (k : Int) + 2 := wrap_small (by omega) (by omega)
        have q3 : IntKind.i64.wrap (16 * d1) = 16 * d1 := wrap_small (by omega) (by omega)
        have q4 : IntKind.i64.wrap (16 * d1 + d2) = 16 * d1 + d2 := wrap_small (by omega) (by omega)
        have q5 : (0 : Int) ≤ (k : Int) + 1 := by omega
        have q6 : (k : Int) + 1 < (l.length : Int) := by omega
        have q7 : (0 : Int) ≤ (k : Int) + 2 := by omega
        have q8 : (k : Int) + 2 < (l.length : Int) := by omega
        have q9 : ((k : Int) + 1).toNat = k + 1 := by omega
        have q10 : ((k : Int) + 2).toNat = k + 2 := by omega
        go_region_held3 (fun _ => True) (exact trivial)
         (first | (go_at_call 48; refine (digit_walk _ _ (UInt8.toNat_lt _)).mono ?_; rintro e w2 ⟨rfl, rfl⟩) | (refine step_append_own rfl _ _ 31 rfl w.heap.size 5 i0 (.int .u8 0) 1 1 Tryz.under31b hi hz0 hz1 hz2 rfl (by decide) _ _ _ rfl (show World.ownsRow (World.drew _) _ _ _ _ _ _ from hown.alloc _) ⟨_, 0, none⟩ 1 _ [_] rfl rfl (cell_one_new _ _ _) (fun x hx => by simp at hx; subst hx; rfl) (by unfold maxLen; omega) (by omega) (by show _ ≤ (Array.push _ _).size; simp; omega) ?_; intro v' w3 hown' hgrow3 hnil3))
        all_goals go_wp2_with fail
        all_goals go_roundw
        all_goals first
         | (show _ < _; simp [intV6]; omega)
         | skip
        all_goals
         obtain ⟨g3, cap3, hv3⟩ : ∃ g3 cap3, v' = .slice (some ⟨g3, 0, none⟩) (bs.length + 1) cap3 := by
          rcases hown'.2 with ⟨_, h⟩ | ⟨g3, cap3, _, h, _⟩
          ·omega
          ·exact ⟨g3, cap3, h⟩
         have hq : Value.int .u8 (IntKind.u8.wrap (16 * d1 + d2)) = byV (UInt8.ofNat (16 * d1.toNat + d2.toNat)) := by
          unfold byV
          congr 1
          unfold IntKind.wrap
          simp [IntKind.signed, IntKind.bits]
          omega
         rw [hq] at hown'
         refine ⟨k + 3, bs ++ [UInt8.ofNat (16 * d1.toNat + d2.toNat)], some ⟨g3, 0, none⟩, cap3, by first | rfl | simp, by rw [hv3]; simp, h3, by simp; omega, hn.out, by rw [List.map_append, List.length_append]; exact hown', (below_drew (hnx.alloc hsize _)).grown hgrow3 (by show _ ≤ (Array.push _ _).size; simp; omega) (fun q hq => (hown.lt q hq).1)⟩
     ·have hv3 : (l.length : Int) < (k : Int) + 3 := by omega
      have hn := Lib.hid (show mean unx l = none by rw [HK.out, mean_short _ (by rw [List.length_drop]; omega)]; rfl)
      go_wp2_with fail
      go_ret2
      exact ⟨_, rfl, ⟨⟨#[]⟩, false, rfl, by rw [hm.out, hn.out]; rfl⟩, hnx⟩
    ·have hv2 : ((((b[k]'(by omega)).toNat : Nat) : Int) != 37) = true := by
      rw [HB.out]
      simp
      intro h
      apply hc
      apply UInt8.toNat_inj.1
      have h1 : l[k].toNat = 37 := by omega
      rw [h1]; rfl
     go_wp2_with (first
      | (at_builtin; refine wpList_append_own _ rfl _ _ 31 rfl w.heap.size 5 i0 (.int .u8 0) 1 1 Tryz.under31b hi hz0 hz1 hz2 rfl (by decide) _ _ _ rfl (hown.alloc _) ⟨wr.heap.size, 0, none⟩ 1 1 [.int .u8 ((b[k]'(by omega)).toNat : Nat)] rfl rfl (cell_one_new _ _ _) (fun x hx => by simp at hx; subst hx; rfl) (by unfold maxLen; omega) (by omega) (by simp; omega) ?_; intro v' w3 hown' hgrow3 hnil3))
     go_roundw
     case rel =>
      obtain ⟨g3, cap3, hv3⟩ : ∃ g3 cap3, v' = .slice (some ⟨g3, 0, none⟩) (bs.length + 1) cap3 := by
       rcases hown'.2 with ⟨_, h⟩ | ⟨g3, cap3, _, h, _⟩
       ·omega
       ·exact ⟨g3, cap3, h⟩
      have hq : Value.int .u8 ((b[k]'(by omega)).toNat : Nat) = byV l[k] := by rw [HB.out]; rfl
      rw [hq] at hown'
      refine ⟨k + 1, bs ++ [l[k]], some ⟨g3, 0, none⟩, cap3, by first | rfl | simp, by rw [hv3]; simp, hlt, by simp; omega, ?_, by rw [List.map_append, List.length_append]; exact hown', (hnx.alloc hsize _).grown hgrow3 (by simp; omega) (fun q hq => (hown.lt q hq).1)⟩
      rw [HM.out, hd, mean_plain hc, Option.map_map]
      congr 1
      funext z
      simp
     case measure => simp [intV6]; omega
end Go.Proofs.YtkjdlganghbgaaaGreatDoor
