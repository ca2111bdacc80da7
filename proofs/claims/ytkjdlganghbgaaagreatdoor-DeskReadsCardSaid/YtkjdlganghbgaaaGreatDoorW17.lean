/- the document's Read, walked by hand. -/
import Derived.Test.YtkjdlganghbgaaaGreatDoorWE
import Derived.Test.YtkjdlganghbgaaaGreatDoorW7
import Derived.Test.YtkjdlganghbgaaaGreatDoorW4
import Derived.Deep.Cut
import Derived.Deep.DeepCutAuto
namespace Go.Desk
structure RowOK (k t n : Nat) (first : Bool) : Prop where
 k1 : 1 ≤ k
 k20 : k ≤ 20
 t2 : t ≤ 2
 n2 : n ≤ 2
 f1 : first = true → 1 ≤ n
 fk : first = true → k ≠ 1
 left1 : first = true → n ≤ 2
 left0 : first = false → n ≤ 1
 opn : first = false → 1 ≤ n → k = 1
 pin : k = 15 → n = 0
def rowB (x : List UInt8 × Nat × Nat × Nat × Bool) : Bool := decide (1 ≤ x.2.1) && decide (x.2.1 ≤ 20) && decide (x.2.2.1 ≤ 2) && decide (x.2.2.2.1 ≤ 2) && (!x.2.2.2.2 || (decide (1 ≤ x.2.2.2.1) && decide (x.2.1 ≠ 1))) && (!decide (x.2.1 = 15) || decide (x.2.2.2.1 = 0)) && (x.2.2.2.2 || (decide (x.2.2.2.1 ≤ 1) && (decide (x.2.2.2.1 = 0) || decide (x.2.1 = 1))))
theorem rows_fine : refTab.all rowB = true := by decide
theorem refKind_mem {w : List UInt8} {t : List (List UInt8 × Nat × Nat × Nat × Bool)} {y : Nat × Nat × Nat × Bool} (h : refKind w t = some y) : ∃ x ∈ t, x.2 = y := by
 induction t with
 | nil => cases h
 | cons a r ih =>
  unfold refKind at h
  split at h
  ·injection h with h
   exact ⟨a, List.mem_cons_self .., h⟩
  ·obtain ⟨x, h1, h2⟩ := ih h
   exact ⟨x, List.mem_cons_of_mem _ h1, h2⟩
theorem row_ok {w : List UInt8} {k t n : Nat} {first : Bool} (h : refKind w refTab = some (k, t, n, first)) : RowOK k t n first := by
 obtain ⟨x, hx, he⟩ := refKind_mem h
 have hb := List.all_eq_true.1 rows_fine x hx
 obtain ⟨a, b⟩ := x
 dsimp only at he
 subst he
 simp only [rowB, Bool.and_eq_true, Bool.or_eq_true, decide_eq_true_eq, Bool.not_eq_true'] at hb
 obtain ⟨⟨⟨⟨⟨⟨h1, h2⟩, h3⟩, h4⟩, h5⟩, h7⟩, h6⟩ := hb
 refine ⟨h1, h2, h3, h4, ?_, ?_, fun _ => h4, ?_, ?_, fun h => h7.elim (fun q => absurd h (by simpa using q)) (fun q => q)⟩
 ·intro hf
  rcases h5 with h5 | h5
  ·rw [hf] at h5; cases h5
  ·exact h5.1
 ·intro hf
  rcases h5 with h5 | h5
  ·rw [hf] at h5; cases h5
  ·exact h5.2
 ·intro hf
  rcases h6 with h6 | h6
  ·rw [hf] at h6; cases h6
  ·exact h6.1
 ·intro hf hn
  rcases h6 with h6 | h6
  ·rw [hf] at h6; cases h6
  ·rcases h6.2 with h | h
   ·omega
   ·exact h
end Go.Desk
namespace Go.Proofs.YtkjdlganghbgaaaGreatDoor
open Go.RowKit Go.Desk Go.Shelf
structure RfW (w : World) (g cb : Nat) (ob : Obj) (c : CallV) (W : World) : Prop where
 res : W.heap[w.heap.size]? = some (.cells (callCells 0 {}) 34)
 row : W.heap[g]? = some ob
 call : W.heap[cb]? = some (.cells (callCells c.kind c) 34)
 bel : Below w.heap.size w W
 lo : w.heap.size < g
 hi : g < cb
theorem RfW.start {w w2 : World} {g : Nat} {ob : Obj} (h1 : w2.heap[w.heap.size]? = some (.cells (callCells 0 {}) 34)) (h2 : w2.heap[g]? = some ob) (h3 : Below w.heap.size w w2) (h4 : w.heap.size < g) (k : Nat) : RfW w g w2.heap.size ob { kind := k } (w2.alloc (.cells (callCells k {}) 34)) :=
 ⟨by rw [heap_alloc_old _ _ (Array.getElem?_eq_some_iff.1 h1).1]; exact h1, by rw [heap_alloc_old _ _ (Array.getElem?_eq_some_iff.1 h2).1]; exact h2, heap_alloc_new _ _, h3.alloc h3.size _, h4, (Array.getElem?_eq_some_iff.1 h2).1⟩
theorem wraps3 {t n f : Nat} (ht : t ≤ 2) (hn : n ≤ 2) (hf : f ≤ 1) : wrap64 (1 + (t : Int)) = 1 + (t : Int) ∧ wrap64 (1 + (t : Int) + (n : Int)) = 1 + (t : Int) + (n : Int) ∧ wrap64 (1 + (t : Int) + (n : Int) + (f : Int)) = 1 + (t : Int) + (n : Int) + (f : Int) ∧
  IntKind.i64.wrap (1 + (t : Int)) = 1 + (t : Int) ∧ IntKind.i64.wrap (1 + (t : Int) + (n : Int)) = 1 + (t : Int) + (n : Int) ∧ IntKind.i64.wrap (1 + (t : Int) + (n : Int) + (f : Int)) = 1 + (t : Int) + (n : Int) + (f : Int) := by
 refine ⟨?_, ?_, ?_, wrap_small (by omega) (by omega), wrap_small (by omega) (by omega), wrap_small (by omega) (by omega)⟩ <;> (unfold wrap64; omega)
theorem RfW.below {w W W' : World} {g cb : Nat} {ob : Obj} {c : CallV} (h : RfW w g cb ob c W) (hb : Below W.heap.size W W') : RfW w g cb ob c W' :=
 ⟨by rw [hb.block _ (Array.getElem?_eq_some_iff.1 h.res).1]; exact h.res, by rw [hb.block _ (Array.getElem?_eq_some_iff.1 h.row).1]; exact h.row, by rw [hb.block _ (Array.getElem?_eq_some_iff.1 h.call).1]; exact h.call, h.bel.trans (hb.mono h.bel.size), h.lo, h.hi⟩
theorem RfW.set {w W : World} {g cb i : Nat} {ob : Obj} {c d : CallV} {v : Value} (h : RfW w g cb ob c W) (e : (callCells c.kind c).setIfInBounds i v = callCells d.kind d) : RfW w g cb ob d (W.setCell ⟨cb, i, none⟩ v) := by
 have := h.lo
 have := h.hi
 exact ⟨by rw [Below.heap_setCell _ _ _ _ (by show _ ≠ cb; omega)]; exact h.res, by rw [Below.heap_setCell _ _ _ _ (by show _ ≠ cb; omega)]; exact h.row, set_to h.call e, h.bel.setCell (by show w.heap.size ≤ cb; omega) _, h.lo, h.hi⟩
theorem ret_cell6 {n : Nat} {W : World} {cs : Array Value} {tmps : Array Value} (h7 : cs.size = 7) (hn : tmps.getD 2 undef = .pointer (some ⟨n, 0, none⟩)) (hW : W.heap[n]? = some (.cells cs 34)) : (results Tryz.f10 tmps).run Tryz.prog W = .ok (.tuple #[.agg cs, tmps.getD 3 undef]) W := by
 rw [results_cell_tmp (p := 2) (u := 3) (ty := 34) rfl, hn]
 have h1 : (asAddr (.pointer (some ⟨n, 0, none⟩))).run Tryz.prog W = .ok ⟨n, 0, none⟩ W := rfl
 rw [h1]
 simp only [Result.andThen_ok]
 rw [run_loadVar_row W n 34 34 cs (0, 0) _ hW Tryz.underlying34 rfl (by rw [Tryz.size23, h7])]
 rfl
theorem sub_one {n : Nat} (h1 : 1 ≤ n) (h2 : n ≤ 2) : wrap64 ((n : Int) - 1) = ((n - 1 : Nat) : Int) ∧ IntKind.i64.wrap ((n : Int) - 1) = ((n - 1 : Nat) : Int) := by
 have : n = 1 ∨ n = 2 := by omega
 refine ⟨?_, by rw [wrap_small (by omega) (by omega)]; omega⟩
 unfold wrap64
 omega
structure RefAt (l : List UInt8) (wl : List (List UInt8)) (t n fl : Nat) (first : Bool) (c : CallV) (n' a sn k : Nat) : Prop where
 red : refRead l = takes c (List.replicate t .t ++ (if n' > 0 then [.n] else []) ++ (if k = 15 then [.f] else [])) 0 sn (wl.drop a)
 knd : c.kind = k
 num : n' = n - a
 seen : first = true → sn = 1
 one : a = sn ∧ a = (if first then 1 else 0) ∧ True
set_option maxRecDepth 100000 in
set_option maxHeartbeats 8000000 in
theorem refRead_walk (l : List UInt8) (w : World) (hlen : l.length < 1000000) :
  Calls Tryz.prog 10 #[.string ⟨l.toArray⟩] w fun e w' => e = .returned (readV (refRead l)) ∧ Below w.heap.size w w' := by
 go_enter Tryz.func10, Tryz.ntmps10
 go_wp2_with fail
 refine (words_walk l _ hlen).mono ?_
 rintro e w1 ⟨v, rfl, hown, hb1⟩
 obtain ⟨ww, wl, hws⟩ : ∃ ww wl, words l = ww :: wl := by
  cases h : words l with
  | nil => exact absurd h (words_ne l)
  | cons a b => exact ⟨a, b, rfl⟩
 obtain ⟨g, cap, ob, rfl, hg0, hgo, hcell⟩ : ∃ g cap ob, v = .slice (some ⟨g, 0, none⟩) (words l).length cap ∧ w.heap.size < g ∧ w1.heap[g]? = some ob ∧ ∀ W : World, W.heap[g]? = some ob → ∀ j x, (words l)[j]? = some x → W.cell? ⟨g, j, none⟩ = some (.string ⟨x.toArray⟩) := by
  rcases hown.2 with ⟨_, h2⟩ | ⟨g, cap, cur, rfl, h1, h2, h3, h4, h5, h6⟩
  ·rw [hws] at h2; cases h2
  ·refine ⟨g, cap, _, rfl, ?_, h2, fun W hW j x hx => ?_⟩
   ·have : (w.alloc (.cells #[.int .i64 0, .string ⟨#[]⟩, .string ⟨#[]⟩, .int .i64 0, .int .i64 0, .string ⟨#[]⟩, .bool false] 34)).heap.size = w.heap.size + 1 := by simp
    rw [this] at h1
    exact h1
   ·have hj : j < (words l).length := (List.getElem?_eq_some_iff.1 hx).1
    have hc : cur[j]? = some (strV x) := by
     rw [← Array.getElem?_toList]
     have e : (cur.toList.take ((words l).length * 1))[j]? = some (strV x) := by rw [h6, List.getElem?_map, hx]; rfl
     rw [List.getElem?_take, if_pos (by omega)] at e
     exact e
    unfold World.cell?
    rw [hW]
    exact hc
 have hres : w1.heap[w.heap.size]? = some (.cells (callCells 0 {}) 34) := by
  rw [hb1.block _ (by simp), heap_alloc_new]
  rfl
 have hbel : Below w.heap.size w w1 := below_al2 hb1
 have hg1 : g < w1.heap.size := (Array.getElem?_eq_some_iff.1 hgo).1
 have hlenx := fun x hx => Nat.lt_of_le_of_lt (words_len l x hx) hlen
 have c0 : w1.cell? ⟨g, 0, none⟩ = some (.string ⟨ww.toArray⟩) := hcell w1 hgo 0 ww (by rw [hws]; rfl)
 have HC := Lib.hid hcell
 have HWS := Lib.hid hws
 have HLX := Lib.hid hlenx
 generalize hnw : (words l).length = nw
 have HNW := Lib.hid (show nw = wl.length + 1 by rw [← hnw, hws]; rfl)
 have nw0 : 0 < nw := by rw [HNW.out]; omega
 have nwi : (0 : Int) < (nw : Int) := by omega
 have HR0 := Lib.hid hres
 have HB0 := Lib.hid hbel
 have HGO := Lib.hid hgo
 clear hcell hws hlenx hnw hown hb1 hres hbel hgo
 go_wp2_with fail
 refine (kinds_walk ww w1).mono ?_
 rintro e w2 ⟨rfl, rfl⟩
 cases hk : refKind ww refTab with
 | none =>
  have hd := Lib.hid (show refRead l = none by
   unfold refRead
   rw [HWS.out]
   dsimp only
   rw [hk])
  simp only [kindAns]
  clear hk
  go_upto_region 4 with fail
  have hW : RfW w g w2.heap.size ob {} (w2.alloc (.cells (callCells 0 {}) 34)) := RfW.start HR0.out HGO.out HB0.out hg0 0
  have HW := Lib.hid hW
  clear hW
  generalize hWW : w2.alloc (.cells (callCells 0 {}) 34) = W at HW
  have hWW : w2.alloc (.cells #[.int .i64 0, .string ⟨#[]⟩, .string ⟨#[]⟩, .int .i64 0, .int .i64 0, .string ⟨#[]⟩, .bool false] 34) = W := hWW
  rw [hWW]
  clear hWW
  obtain ⟨⟨r0, r1, r2, r3, r4, r5, r6⟩, f0, f1, f2, f3, f4, f5, f6⟩ := seven HW.out.res
  go_wp2_with fail
  refine bodyPost_ret (ret_cell6 (n := w.heap.size) rfl rfl (set7 HW.out.res _ _ _ _ _ _ _)) rfl ?_
  exact ⟨by rw [hd.out]; rfl, bel7 HW.out.bel (Nat.le_refl _) _ _ _ _ _ _ _⟩
 | some y =>
  obtain ⟨k, t, n, first⟩ := y
  simp only [kindAns]
  have hro := row_ok hk
  go_upto_region 4 with fail
  have hW : RfW w g w2.heap.size ob { kind := k } (w2.alloc (.cells (callCells k {}) 34)) := RfW.start HR0.out HGO.out HB0.out hg0 k
  have HW := Lib.hid hW
  clear hW
  generalize hWW : w2.alloc (.cells (callCells k {}) 34) = W at HW
  have hWW : w2.alloc (.cells #[.int .i64 k, .string ⟨#[]⟩, .string ⟨#[]⟩, .int .i64 0, .int .i64 0, .string ⟨#[]⟩, .bool false] 34) = W := hWW
  rw [hWW]
  clear hWW
  generalize w2.heap.size = cb at *
  go_upto_if 33 with fail
  go_cut [10] (fun fl Wx => fl = .int .i64 (flagOf k : Nat) ∧ Wx = W)
  case first =>
   by_cases h15 : k = 15
   ·have g15 : ((k : Int) == 15) = true := by rw [h15]; rfl
    have hf := Lib.hid (show flagOf k = 1 from if_pos h15)
    clear h15
    go_wp2_with fail
    go_meet
    exact ⟨by rw [hf.out]; rfl, rfl⟩
   ·have g15 : ((k : Int) == 15) = false := by rw [beq_eq_false_iff_ne]; omega
    have hf := Lib.hid (show flagOf k = 0 from if_neg h15)
    clear h15
    go_wp2_with fail
    go_meet
    exact ⟨by rw [hf.out]; rfl, rfl⟩
  case rest =>
   obtain ⟨rfl, rfl⟩ := hcut
   have hfl : flagOf k ≤ 1 := by unfold flagOf; split <;> omega
   generalize hfk : flagOf k = fl at hfl
   have HFK := Lib.hid hfk
   clear hfk
   have k0 : ((k : Int) == 0) = false := by rw [beq_eq_false_iff_ne]; have := hro.k1; omega
   have ht2 := hro.t2
   have hn2 := hro.n2
   have HQ := Lib.hid (wraps3 ht2 hn2 hfl)
   have hdk := Lib.hid (show refRead l = if wl.length = t + n + flagOf k then takes { kind := k } (partsOf k t n first) 0 0 wl else none by
    unfold refRead
    rw [HWS.out]
    dsimp only
    rw [hk])
   have HRO := Lib.hid hro
   clear hro hk
   by_cases hl : wl.length = t + n + fl
   ·have g1 : ((nw : Int) != 1 + (t : Int) + (n : Int) + (fl : Int)) = false := by rw [HNW.out]; simp; omega
    have HL := Lib.hid hl
    have hrd := Lib.hid (show refRead l = takes { kind := k } (partsOf k t n first) 0 0 wl by rw [hdk.out, HFK.out, if_pos hl])
    clear hl hdk
    have HQ2 := HQ.out
    obtain ⟨q1, q2, q3, q4, q5, q6⟩ := HQ2
    go_upto_if 48 with fail
    clear q1 q2 q3 q4 q5 q6
    go_cut [7, 11] (fun nv av Wx => ∃ (c : CallV) (n' a sn : Nat), nv = .int .i64 n' ∧ av = .int .i64 (a + 1 : Nat) ∧ Hid (RefAt l wl t n fl first c n' a sn k) ∧ Hid (RfW w g cb ob c Wx))
    case first =>
     cases first with
     | true =>
      have hn1 : 1 ≤ n := HRO.out.f1 rfl
      have hk1 : k ≠ 1 := HRO.out.fk rfl
      obtain ⟨x, hx⟩ : ∃ x, wl[0]? = some x := ⟨wl[0]'(by rw [HL.out]; omega), List.getElem?_eq_getElem _⟩
      have hmem : (words l)[1]? = some x := by rw [HWS.out]; exact hx
      have c1 : wc.cell? ⟨g, 1, none⟩ = some (.string ⟨x.toArray⟩) := HC.out wc HW.out.row 1 x hmem
      have hxl := HLX.out x (List.mem_of_getElem? hmem)
      have h1i : (1 : Int) < (nw : Int) := by have := HNW.out; have := HL.out; omega
      have h1n : 1 < nw := by omega
      have hnum := Lib.hid (number_walk x wc hxl)
      have hw0 : wl = x :: wl.drop 1 := by cases wl with | nil => cases hx | cons a b => simp at hx; subst hx; rfl
      have HX := Lib.hid hw0
      clear hx hmem hw0
      cases hv : refNum x with
      | none =>
       have hd := Lib.hid (show refRead l = none by
        rw [hrd.out, HX.out]
        exact takes_stop (p := .n) (ps := List.replicate t .t ++ (if n - 1 > 0 then [.n] else []) ++ (if k = 15 then [.f] else [])) (by show (refNum x).map _ = none; rw [hv]; rfl))
       have hnum2 := hnum.out
       rw [hv] at hnum2
       simp only [numAns] at hnum2
       have HN := Lib.hid hnum2
       obtain ⟨⟨r0, r1, r2, r3, r4, r5, r6⟩, f0, f1, f2, f3, f4, f5, f6⟩ := seven HW.out.res
       clear hnum2 hnum hv
       go_wp2_with fail
       refine HN.out.mono ?_
       rintro e w3 ⟨rfl, rfl⟩
       go_wp2_with fail
       refine bodyPost_ret (ret_cell6 (n := w.heap.size) rfl rfl (set7 HW.out.res _ _ _ _ _ _ _)) rfl ?_
       exact ⟨by rw [hd.out]; rfl, bel7 HW.out.bel (Nat.le_refl _) _ _ _ _ _ _ _⟩
      | some v =>
       have ht : take { kind := k } .n 0 x = some { kind := k, fd := v } := by
        show (refNum x).map _ = _
        rw [hv]
        exact congrArg some (if_pos ⟨rfl, hk1⟩)
       have HT := Lib.hid ht
       have hnum2 := hnum.out
       rw [hv] at hnum2
       simp only [numAns] at hnum2
       have HN := Lib.hid hnum2
       have d3 : wc.cell? ⟨cb, 3, none⟩ = some (.int .i64 0) := cell_at HW.out.call rfl
       have f3 : wc.frozen? ⟨cb, 3, none⟩ = false := frozen_at HW.out.call
       have hq := sub_one hn1 hn2
       obtain ⟨qa, qb⟩ := hq
       clear hnum2 hnum hv ht
       go_wp2_with fail
       refine HN.out.mono ?_
       rintro e w3 ⟨rfl, rfl⟩
       go_wp2_with fail
       go_meet
       refine ⟨{ kind := k, fd := v }, n - 1, 1, 1, by first | rfl | exact congrArg _ qb, rfl, Lib.hid ⟨?_, rfl, rfl, ?_, ?_⟩, Lib.hid (HW.out.set rfl)⟩
       ·rw [hrd.out, HX.out]
        exact takes_step (p := .n) HT.out
       ·intro _; rfl
       ·exact ⟨rfl, rfl, trivial⟩
     | false =>
      go_wp2_with fail
      go_meet
      refine ⟨{ kind := k }, n, 0, 0, rfl, rfl, Lib.hid ⟨hrd.out, rfl, rfl, fun h => (by cases h), rfl, rfl, trivial⟩, HW⟩
    case rest =>
     obtain ⟨c, n', a, sn, rfl, rfl, hat, hWc⟩ := hcut
     have han : a ≤ n := by
      have h1 := hat.out.one.2.1
      cases hf : first with
      | true => rw [hf] at h1; have := HRO.out.f1 hf; simp at h1; omega
      | false => rw [hf] at h1; simp at h1; omega
     have ha1 : a ≤ 1 := by have h1 := hat.out.one.2.1; split at h1 <;> omega
     have hn' : n' = n - a := hat.out.num
     obtain ⟨rest, hrest⟩ : ∃ rest, rest = (if n' > 0 then [Part.n] else []) ++ (if k = 15 then [Part.f] else []) := ⟨_, rfl⟩
     have hred := Lib.hid (show refRead l = takes c (List.replicate t .t ++ rest) 0 sn (wl.drop a) by rw [hrest, hat.out.red, List.append_assoc])
     have hknd := Lib.hid hat.out.knd
     have HREST := Lib.hid hrest
     have HN' := Lib.hid hn'
     clear hrest hn'
     go_upto_region 17 with fail
     go_wp2_with fail
     go_loopw [11, 14] (fun av iv Wx => ∃ (i : Nat) (d : CallV), iv = .int .i64 i ∧ av = .int .i64 (a + 1 + i : Nat) ∧ i ≤ t ∧ Hid (refRead l = takes d (List.replicate (t - i) .t ++ rest) i sn (wl.drop (a + i))) ∧ Hid (d.kind = k) ∧ Hid (RfW w g cb ob d Wx)) (fun _ iv _ => t - intV16 iv)
     case atStart => exact ⟨0, c, rfl, rfl, by omega, hred, hknd, hWc⟩
     case round =>
      obtain ⟨i, d, rfl, rfl, hi, hrd2, hkd, hWd⟩ := hrel
      by_cases hit : i = t
      ·subst hit
       have hrd3 := Lib.hid (show refRead l = takes d rest i sn (wl.drop (a + i)) by rw [hrd2.out, Nat.sub_self]; rfl)
       clear hrd2
       go_upto_if 94 with fail
       go_cut [] (fun Wx => ∃ (e : CallV) (m sm : Nat), Hid (refRead l = takes e (if k = 15 then [Part.f] else []) i sm (wl.drop m)) ∧ Hid (n' = 0 → m = a + i) ∧ Hid (RfW w g cb ob e Wx))
       case first =>
        by_cases hn0 : n' = 0
        ·have gn : decide ((0 : Int) < (n' : Int)) = false := by rw [hn0]; rfl
         have gn2 : ¬ ((0 : Int) < (n' : Int)) := by omega
         have h2 := Lib.hid (show refRead l = takes d (if k = 15 then [Part.f] else []) i sn (wl.drop (a + i)) by
          rw [hrd3.out, HREST.out, if_neg (by omega : ¬ n' > 0)]
          rfl)
         clear hn0 gn
         generalize a + 1 + i = ai at *
         go_wp2_with fail
         go_meet
         exact ⟨d, a + i, sn, h2, Lib.hid fun _ => rfl, hWd⟩
        ·have gn2 : (0 : Int) < (n' : Int) := by omega
         have hbnd : a + i < wl.length := by rw [HL.out]; have := HN'.out; omega
         obtain ⟨x, hx⟩ : ∃ x, wl[a + i]'hbnd = x := ⟨_, rfl⟩
         have hmem : (words l)[a + 1 + i]? = some x := by
          rw [HWS.out, show a + 1 + i = (a + i) + 1 by omega]
          simp [List.getElem?_eq_getElem hbnd, hx]
         have c1 : wr.cell? ⟨g, a + 1 + i, none⟩ = some (.string ⟨x.toArray⟩) := HC.out wr hWd.out.row _ x hmem
         have hxl := HLX.out x (List.mem_of_getElem? hmem)
         have h1n : a + 1 + i < nw := by rw [HNW.out]; omega
         have h1i : ((a + 1 + i : Nat) : Int) < (nw : Int) := by omega
         have hdw : wl.drop (a + i) = x :: wl.drop (a + i + 1) := by rw [List.drop_eq_getElem_cons hbnd, hx]
         have hsk : ¬ (sn = 0 ∧ d.kind ≠ 1) := by
          rintro ⟨h1, h2⟩
          cases hf : first with
          | true => have := hat.out.seen hf; omega
          | false =>
           have h3 := HRO.out.opn hf (by have := HN'.out; omega)
           exact h2 (by rw [hkd.out, h3])
         have hnum := number_walk x wr hxl
         have hrd4 : refRead l = takes d (Part.n :: (if k = 15 then [Part.f] else [])) i sn (x :: wl.drop (a + i + 1)) := by
          rw [hrd3.out, HREST.out, if_pos (by omega : n' > 0), hdw]
          rfl
         generalize a + 1 + i = ai at *
         cases hv : refNum x with
         | none =>
          have hd := Lib.hid (show refRead l = none by
           rw [hrd4]
           exact takes_stop (p := .n) (by show (refNum x).map _ = none; rw [hv]; rfl))
          rw [hv] at hnum
          simp only [numAns] at hnum
          have HN := Lib.hid hnum
          obtain ⟨⟨r0, r1, r2, r3, r4, r5, r6⟩, f0, f1, f2, f3, f4, f5, f6⟩ := seven hWd.out.res
          clear hnum hv hrd4 hdw hmem
          go_wp2_with fail
          refine HN.out.mono ?_
          rintro e w3 ⟨rfl, rfl⟩
          go_wp2_with fail
          refine bodyPost_ret (ret_cell6 (n := w.heap.size) rfl rfl (set7 hWd.out.res _ _ _ _ _ _ _)) rfl ?_
          exact ⟨by rw [hd.out]; rfl, bel7 hWd.out.bel (Nat.le_refl _) _ _ _ _ _ _ _⟩
         | some v =>
          have ht : take d .n sn x = some { d with n := v } := by
           show (refNum x).map _ = _
           rw [hv]
           exact congrArg some (if_neg hsk)
          have h2 := Lib.hid (show refRead l = takes { d with n := v } (if k = 15 then [Part.f] else []) i (sn + 1) (wl.drop (a + i + 1)) by
           rw [hrd4]
           exact takes_step (p := .n) ht)
          rw [hv] at hnum
          simp only [numAns] at hnum
          have HN := Lib.hid hnum
          have d4 : wr.cell? ⟨cb, 4, none⟩ = some (.int .i64 d.n) := cell_at hWd.out.call rfl
          have f4 : wr.frozen? ⟨cb, 4, none⟩ = false := frozen_at hWd.out.call
          clear hnum hv ht hrd4 hdw hmem hsk
          go_wp2_with fail
          refine HN.out.mono ?_
          rintro e w3 ⟨rfl, rfl⟩
          go_wp2_with fail
          go_meet
          exact ⟨{ d with n := v }, a + i + 1, sn + 1, h2, Lib.hid fun h => absurd h hn0, Lib.hid (hWd.out.set (by simp [callCells]))⟩
       case rest =>
        obtain ⟨e, m, sm, hrd4, hm, hWe⟩ := hcut
        by_cases h15 : k = 15
        ·have hfl1 : fl = 1 := by rw [← HFK.out]; exact if_pos h15
         have gfl : (0 : Int) < (fl : Int) := by omega
         have hn00 := HRO.out.pin h15
         have hm2 := hm.out (by have := HN'.out; omega)
         have hbnd : a + i < wl.length := by rw [HL.out]; omega
         obtain ⟨x, hx⟩ : ∃ x, wl[a + i]'hbnd = x := ⟨_, rfl⟩
         have hmem : (words l)[a + 1 + i]? = some x := by
          rw [HWS.out, show a + 1 + i = (a + i) + 1 by omega]
          simp [List.getElem?_eq_getElem hbnd, hx]
         have hcx : ∀ W : World, W.heap[g]? = some ob → W.cell? ⟨g, a + 1 + i, none⟩ = some (.string ⟨x.toArray⟩) := fun W hW => HC.out W hW _ x hmem
         have h1n : a + 1 + i < nw := by rw [HNW.out]; omega
         have h1i : ((a + 1 + i : Nat) : Int) < (nw : Int) := by omega
         have hdw : wl.drop (a + i) = x :: wl.drop (a + i + 1) := by rw [List.drop_eq_getElem_cons hbnd, hx]
         have hrd5 : refRead l = takes e [Part.f] i sm (x :: wl.drop (a + i + 1)) := by rw [hrd4.out, if_pos h15, hm2, hdw]
         have hxL : (ByteArray.mk x.toArray).toList = x := Go.ByteArray.toList_eq _
         generalize ByteArray.mk x.toArray = xb at hcx hxL
         have c1 := hcx wc hWe.out.row
         have HCX := Lib.hid hcx
         clear hcx
         have d6 : wc.cell? ⟨cb, 6, none⟩ = some (.bool e.on) := cell_at hWe.out.call rfl
         have f6 : wc.frozen? ⟨cb, 6, none⟩ = false := frozen_at hWe.out.call
         clear hmem hdw hrd4 hm hm2 hx h15 hfl1 hn00
         generalize hai : a + 1 + i = ai at *
         clear hai
         by_cases hon : x = [111, 110]
         ·have e1 : (xb.toList == [111, 110]) = true := by rw [hxL, hon]; rfl
          have hd := Lib.hid (show refRead l = some { e with on := true } by
           rw [hrd5]
           exact takes_step (p := .f) (ps := []) (if_pos hon))
          have HS := Lib.hid (hWe.out.set (i := 6) (d := { e with on := true }) (v := .bool true) (by simp [callCells]))
          clear hrd5 hxL hon
          go_upto_region 36 with fail
          generalize wc.setCell ⟨cb, 6, none⟩ (.bool true) = W5 at *
          have c5 := HCX.out W5 HS.out.row
          obtain ⟨⟨d0, d1, d2, d3, d4, d5, d6⟩, -⟩ := seven HS.out.call
          obtain ⟨⟨r0, r1, r2, r3, r4, r5, r6⟩, f0, f1, f2, f3, f4, f5, f6⟩ := seven HS.out.res
          go_wp2_with fail
          refine bodyPost_ret (ret_cell6 (n := w.heap.size) rfl rfl (set7 HS.out.res _ _ _ _ _ _ _)) rfl ?_
          exact ⟨by rw [hd.out]; rfl, bel7 HS.out.bel (Nat.le_refl _) _ _ _ _ _ _ _⟩
         ·have e1 : (xb.toList == [111, 110]) = false := by rw [hxL]; simpa using hon
          have HS := Lib.hid (hWe.out.set (i := 6) (d := { e with on := false }) (v := .bool false) (by simp [callCells]))
          by_cases hoff : x = [111, 102, 102]
          ·have e2 : (xb.toList == [111, 102, 102]) = true := by rw [hxL, hoff]; rfl
           have hd := Lib.hid (show refRead l = some { e with on := false } by
            rw [hrd5]
            exact takes_step (p := .f) (ps := []) ((if_neg hon).trans (if_pos hoff)))
           clear hrd5 hxL hon hoff
           go_upto_region 36 with fail
           generalize wc.setCell ⟨cb, 6, none⟩ (.bool false) = W5 at *
           have c5 := HCX.out W5 HS.out.row
           obtain ⟨⟨d0, d1, d2, d3, d4, d5, d6⟩, -⟩ := seven HS.out.call
           obtain ⟨⟨r0, r1, r2, r3, r4, r5, r6⟩, f0, f1, f2, f3, f4, f5, f6⟩ := seven HS.out.res
           go_wp2_with fail
           refine bodyPost_ret (ret_cell6 (n := w.heap.size) rfl rfl (set7 HS.out.res _ _ _ _ _ _ _)) rfl ?_
           exact ⟨by rw [hd.out]; rfl, bel7 HS.out.bel (Nat.le_refl _) _ _ _ _ _ _ _⟩
          ·have e2 : (xb.toList == [111, 102, 102]) = false := by rw [hxL]; simpa using hoff
           have hd := Lib.hid (show refRead l = none by
            rw [hrd5]
            exact takes_stop (p := .f) (ps := []) ((if_neg hon).trans (if_neg hoff)))
           clear hrd5 hxL hon hoff
           go_upto_region 36 with fail
           generalize wc.setCell ⟨cb, 6, none⟩ (.bool false) = W5 at *
           have c5 := HCX.out W5 HS.out.row
           obtain ⟨⟨r0, r1, r2, r3, r4, r5, r6⟩, f0, f1, f2, f3, f4, f5, f6⟩ := seven HS.out.res
           go_wp2_with fail
           refine bodyPost_ret (ret_cell6 (n := w.heap.size) rfl rfl (set7 HS.out.res _ _ _ _ _ _ _)) rfl ?_
           exact ⟨by rw [hd.out]; rfl, bel7 HS.out.bel (Nat.le_refl _) _ _ _ _ _ _ _⟩
        ·have hfl1 : fl = 0 := by rw [← HFK.out]; exact if_neg h15
         have gfl : ¬ ((0 : Int) < (fl : Int)) := by omega
         have hd := Lib.hid (show refRead l = some e by rw [hrd4.out, if_neg h15]; rfl)
         obtain ⟨⟨d0, d1, d2, d3, d4, d5, d6⟩, -⟩ := seven hWe.out.call
         obtain ⟨⟨r0, r1, r2, r3, r4, r5, r6⟩, f0, f1, f2, f3, f4, f5, f6⟩ := seven hWe.out.res
         clear h15 hfl1
         go_wp2_with fail
         refine bodyPost_ret (ret_cell6 (n := w.heap.size) rfl rfl (set7 hWe.out.res _ _ _ _ _ _ _)) rfl ?_
         exact ⟨by rw [hd.out]; rfl, bel7 hWe.out.bel (Nat.le_refl _) _ _ _ _ _ _ _⟩
      ·have hilt : i < t := by omega
       have hbnd : a + i < wl.length := by rw [HL.out]; omega
       obtain ⟨x, hx⟩ : ∃ x, wl[a + i]'hbnd = x := ⟨_, rfl⟩
       have hmem : (words l)[a + 1 + i]? = some x := by
        rw [HWS.out, show a + 1 + i = (a + i) + 1 by omega]
        simp [List.getElem?_eq_getElem hbnd, hx]
       have c1 : wr.cell? ⟨g, a + 1 + i, none⟩ = some (.string ⟨x.toArray⟩) := HC.out wr hWd.out.row _ x hmem
       have hxl := HLX.out x (List.mem_of_getElem? hmem)
       have h1n : a + 1 + i < nw := by rw [HNW.out]; omega
       have h1i : ((a + 1 + i : Nat) : Int) < (nw : Int) := by omega
       have hdw : wl.drop (a + i) = x :: wl.drop (a + i + 1) := by rw [List.drop_eq_getElem_cons hbnd, hx]
       have hrd4 : refRead l = takes d (Part.t :: (List.replicate (t - (i + 1)) .t ++ rest)) i sn (x :: wl.drop (a + i + 1)) := by
        rw [hrd2.out, hdw, show t - i = (t - (i + 1)) + 1 by omega]
        rfl
       have hM := Lib.hid (meantR_walk x wr hxl)
       have HAI := Lib.hid (show a + 1 + i + 1 = a + 1 + (i + 1) by omega)
       have HBI := Lib.hid (show a + i + 1 = a + (i + 1) by omega)
       have ham : a + 1 + i < 1000000 := by omega
       have qa := wrap64_next (a + 1 + i) ham
       have qb := i64_next (a + 1 + i) ham
       have HRD := Lib.hid hrd4
       clear hx hmem hdw hrd4 hrd2
       generalize a + 1 + i = ai at *
       go_wp2_with fail
       refine hM.out.mono ?_
       rintro e w3 ⟨v, rfl, ⟨tx, ok, rfl, hm⟩, hb3⟩
       have hW3 := Lib.hid (hWd.out.below hb3)
       cases ok with
       | false =>
        have hm : Go.Desk.meant x = none := hm
        have hd := Lib.hid (show refRead l = none by
         rw [HRD.out]
         exact takes_stop (p := .t) (by show (Go.Desk.meant x).map _ = none; rw [hm]; rfl))
        obtain ⟨⟨r0, r1, r2, r3, r4, r5, r6⟩, f0, f1, f2, f3, f4, f5, f6⟩ := seven hW3.out.res
        clear hm hb3
        go_wp2_with fail
        refine bodyPost_ret (ret_cell6 (n := w.heap.size) rfl rfl (set7 hW3.out.res _ _ _ _ _ _ _)) rfl ?_
        exact ⟨by rw [hd.out]; rfl, bel7 hW3.out.bel (Nat.le_refl _) _ _ _ _ _ _ _⟩
       | true =>
        have hm : Go.Desk.meant x = some tx.data.toList := hm
        have ht : ∀ d', (if d.kind = 4 then { d with data := tx.data.toList } else if i = 0 then { d with path := tx.data.toList } else { d with other := tx.data.toList }) = d' → refRead l = takes d' (List.replicate (t - (i + 1)) .t ++ rest) (i + 1) sn (wl.drop (a + (i + 1))) := fun d' hd' => by
         rw [HRD.out, ← HBI.out]
         refine takes_step (p := .t) ?_
         show (Go.Desk.meant x).map _ = _
         rw [hm, ← hd']
         rfl
        have HT := Lib.hid ht
        have h1 : w3.cell? ⟨cb, 1, none⟩ = some (strV d.path) := cell_at hW3.out.call rfl
        have h2 : w3.cell? ⟨cb, 2, none⟩ = some (strV d.other) := cell_at hW3.out.call rfl
        have h5 : w3.cell? ⟨cb, 5, none⟩ = some (strV d.data) := cell_at hW3.out.call rfl
        have f1 : w3.frozen? ⟨cb, 1, none⟩ = false := frozen_at hW3.out.call
        have f2 : w3.frozen? ⟨cb, 2, none⟩ = false := frozen_at hW3.out.call
        have f5 : w3.frozen? ⟨cb, 5, none⟩ = false := frozen_at hW3.out.call
        clear hm hb3 ht
        have hkd2 := hkd.out
        by_cases h4 : k = 4
        ·have g4 : ((k : Int) == 4) = true := by rw [h4]; rfl
         have hq := Lib.hid (HT.out { d with data := tx.data.toList } (if_pos (by rw [hkd2, h4])))
         have HS := Lib.hid (hW3.out.set (i := 5) (d := { d with data := tx.data.toList }) (v := .string tx) (by simp [callCells, strV]))
         clear h4 hkd2
         go_wp2_with fail
         exact ⟨⟨i + 1, { d with data := tx.data.toList }, by first | rfl | simp, by rw [← HAI.out]; rfl, hilt, hq, hkd, HS⟩, by simp [intV16]; omega⟩
        ·have g4 : ((k : Int) == 4) = false := by rw [beq_eq_false_iff_ne]; omega
         by_cases hi0 : i = 0
         ·have gi : ((i : Int) == 0) = true := by rw [hi0]; rfl
          have hq := Lib.hid (HT.out { d with path := tx.data.toList } ((if_neg (by rw [hkd2]; exact h4)).trans (if_pos hi0)))
          have HS := Lib.hid (hW3.out.set (i := 1) (d := { d with path := tx.data.toList }) (v := .string tx) (by simp [callCells, strV]))
          clear h4 hkd2 hi0
          go_wp2_with fail
          exact ⟨⟨i + 1, { d with path := tx.data.toList }, by first | rfl | simp, by rw [← HAI.out]; rfl, hilt, hq, hkd, HS⟩, by simp [intV16]; omega⟩
         ·have gi : ((i : Int) == 0) = false := by rw [beq_eq_false_iff_ne]; omega
          have hq := Lib.hid (HT.out { d with other := tx.data.toList } ((if_neg (by rw [hkd2]; exact h4)).trans (if_neg hi0)))
          have HS := Lib.hid (hW3.out.set (i := 2) (d := { d with other := tx.data.toList }) (v := .string tx) (by simp [callCells, strV]))
          clear h4 hkd2 hi0
          go_wp2_with fail
          exact ⟨⟨i + 1, { d with other := tx.data.toList }, by first | rfl | simp, by rw [← HAI.out]; rfl, hilt, hq, hkd, HS⟩, by simp [intV16]; omega⟩
   ·have g1 : ((nw : Int) != 1 + (t : Int) + (n : Int) + (fl : Int)) = true := by rw [HNW.out]; simp; omega
    have hd := Lib.hid (show refRead l = none by rw [hdk.out, HFK.out, if_neg hl])
    obtain ⟨⟨r0, r1, r2, r3, r4, r5, r6⟩, f0, f1, f2, f3, f4, f5, f6⟩ := seven HW.out.res
    clear hl
    have HQ2 := HQ.out
    obtain ⟨q1, q2, q3, q4, q5, q6⟩ := HQ2
    go_wp2_with fail
    refine bodyPost_ret (ret_cell6 (n := w.heap.size) rfl rfl (set7 HW.out.res _ _ _ _ _ _ _)) rfl ?_
    exact ⟨by rw [hd.out]; rfl, bel7 HW.out.bel (Nat.le_refl _) _ _ _ _ _ _ _⟩
end Go.Proofs.YtkjdlganghbgaaaGreatDoor
