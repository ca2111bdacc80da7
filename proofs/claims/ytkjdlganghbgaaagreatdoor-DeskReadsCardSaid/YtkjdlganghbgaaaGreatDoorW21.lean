/- The law DeskReads, walked by hand. -/
import Derived.Test.YtkjdlganghbgaaaGreatDoorFL
import Derived.Test.YtkjdlganghbgaaaGreatDoorW17
import Derived.Test.YtkjdlganghbgaaaGreatDoorWF
import Derived.Test.YtkjdlganghbgaaaGreatDoorQD
namespace Go.Proofs.YtkjdlganghbgaaaGreatDoor
open Go.RowKit Go.Desk Go.Shelf
theorem keep_blk {w w' : World} {b : Nat} {o : Obj} (hb : Below w.heap.size w w') (h : w.heap[b]? = some o) : w'.heap[b]? = some o := by
 rw [hb.block b (Array.getElem?_eq_some_iff.1 h).1]; exact h
theorem keep_al {w : World} {b : Nat} {o : Obj} (q : Obj) (h : w.heap[b]? = some o) : (w.alloc q).heap[b]? = some o := keep_blk (below_al w q) h
theorem below_then {w w1 w2 : World} (h : Below w.heap.size w w1) (k : Below w1.heap.size w1 w2) : Below w.heap.size w w2 := h.trans (k.mono h.size)
theorem kindForm_mem {k : Nat} {l : List Desk.Form} {f : Desk.Form} (h : kindForm k l = some f) : f ∈ l ∧ f.kind = k := by
 induction l with
 | nil => cases h
 | cons g r ih =>
  unfold kindForm at h
  split at h
  ·injection h with h
   subst h
   exact ⟨List.mem_cons_self .., by assumption⟩
  ·exact ⟨List.mem_cons_of_mem _ (ih h).1, (ih h).2⟩
theorem forms_small : ∀ f ∈ Desk.forms, 1 ≤ f.kind ∧ f.word.length ≤ 10 ∧ f.parts.length ≤ 2 := by decide
theorem write_parts (c : CallV) (hc : Small c) : ∃ (line : List UInt8) (ok : Bool), writeV c = .tuple #[.string ⟨line.toArray⟩, .bool ok] ∧ line.length < 1000000 ∧ (ok = true → deskRead line = some c ∧ 1 ≤ c.kind) := by
 unfold writeV
 cases h : kindForm c.kind Desk.forms with
 | none => exact ⟨[], false, rfl, by simp, fun h => by cases h⟩
 | some f =>
  obtain ⟨h1, h2⟩ := kindForm_mem h
  obtain ⟨h3, h4, h5⟩ := forms_small f h1
  refine ⟨_, _, rfl, ?_, fun h => ⟨of_decide_eq_true h, by omega⟩⟩
  have := lays_small hc f.parts 0 0
  rw [joinW_tail, List.length_append]
  omega
theorem readV_parts (x : Option CallV) : ∃ (d : CallV) (ok : Bool), readV x = .tuple #[.agg #[.int .i64 (d.kind : Nat), .string ⟨d.path.toArray⟩, .string ⟨d.other.toArray⟩, .int .i64 d.fd, .int .i64 d.n, .string ⟨d.data.toArray⟩, .bool d.on], .bool ok] ∧ (match x with
  | some c => d = c ∧ ok = true
  | none => d.kind = 0 ∧ ok = false) := by
 cases x with
 | some c => exact ⟨c, true, rfl, rfl, rfl⟩
 | none => exact ⟨{}, false, rfl, rfl, rfl⟩
set_option maxRecDepth 100000 in
set_option maxHeartbeats 8000000 in
theorem law_walk (line : ByteArray) (K f n : Int) (p o s : ByteArray) (b : Bool) (hf0 : -9223372036854775808 ≤ f) (hf1 : f ≤ 9223372036854775807) (hn0 : -9223372036854775808 ≤ n) (hn1 : n ≤ 9223372036854775807) (hp : p.size ≤ 281474976710656) (ho : o.size ≤ 281474976710656) (hs : s.size ≤ 281474976710656) (hln : line.size ≤ 281474976710656)
  (w : World) (hpin : Go.Ex.zC7 w) {m : Int} (hm : w.cell? ⟨0, 0, none⟩ = some (.int .i64 m)) {tp tp2 : TypeId} {pv pv2 : Value} (hsy : w.var? Tryz.prog "strconv.ErrSyntax" = some #[.iface tp pv]) (hra : w.var? Tryz.prog "strconv.ErrRange" = some #[.iface tp2 pv2]) (ht : Lib.TabIs Tryz.prog w "internal/strconv.uint64pow10" .u64 Lib.pow10Tab) :
  Calls Tryz.prog 4 #[.string line, .agg #[.int .i64 K, .string p, .string o, .int .i64 f, .int .i64 n, .string s, .bool b]] w fun e w' => e = .returned (.bool true) ∧ Below w.heap.size w w' := by
 have hw0 : 0 < w.heap.size := by
  rcases Nat.lt_or_ge 0 w.heap.size with h | h
  ·exact h
  ·unfold World.cell? at hm
   rw [Array.getElem?_eq_none h] at hm
   cases hm
 have HM := Lib.hid (fun (W : World) (hb : Below w.heap.size w W) => show W.cell? ⟨0, 0, none⟩ = some (.int .i64 m) by rw [hb.cell (p := ⟨0, 0, none⟩) hw0]; exact hm)
 have HS := Lib.hid hsy
 have HR := Lib.hid hra
 have HT := Lib.hid ht
 have HP := Lib.hid (fun (W : World) (hb : Below w.heap.size w W) => livesD W (pins_below hpin hb))
 clear hm hsy hra ht hw0 hpin
 have HBAL := Lib.hid (below_al w)
 by_cases hl : 3000 < line.size
 ·have hli : (3000 : Int) < (line.size : Int) := by omega
  go_enter Tryz.func4, Tryz.ntmps4
  go_wp2_with fail
  refine (HP.out _ (HBAL.out (.cells #[.int .i64 K, .string p, .string o, .int .i64 f, .int .i64 n, .string s, .bool b] 34))).mono ?_
  rintro e wz ⟨rfl, hbz⟩
  go_wp2_with fail
  go_ret
  exact ⟨rfl, below_then (HBAL.out (.cells #[.int .i64 K, .string p, .string o, .int .i64 f, .int .i64 n, .string s, .bool b] 34)) hbz⟩
 ·have hli : ¬ ((3000 : Int) < (line.size : Int)) := by omega
  go_enter Tryz.func4, Tryz.ntmps4
  go_wp2_with fail
  have hba : ((w.alloc (.cells #[.int .i64 K, .string p, .string o, .int .i64 f, .int .i64 n, .string s, .bool b] 34)).alloc (.cells #[.int .i64 K, .string p, .string o, .int .i64 f, .int .i64 n, .string s, .bool b] 34)).heap[w.heap.size + 1]? = some (.cells #[.int .i64 K, .string p, .string o, .int .i64 f, .int .i64 n, .string s, .bool b] 34) := heap_alloc2_new w _ _
  refine (beyond_walk (w.heap.size + 1) K f n p o s b hp ho hs _ hba).mono ?_
  rintro e w1 ⟨r, rfl, hb1, hsmall⟩
  have hbox1 : w1.heap[w.heap.size]? = some (.cells #[.int .i64 K, .string p, .string o, .int .i64 f, .int .i64 n, .string s, .bool b] 34) := keep_blk hb1 (heap_alloc2_old w _ _)
  have hbel1 : Below w.heap.size w w1 := below_then (below_then (below_al w _) (below_al _ _)) hb1
  have HB1 := Lib.hid hbel1
  clear hba hb1 hbel1 HBAL
  cases r with
  | true =>
   go_wp2_with fail
   refine (HP.out _ HB1.out).mono ?_
   rintro e wz ⟨rfl, hbz⟩
   go_wp2_with fail
   go_ret
   exact ⟨rfl, below_then HB1.out hbz⟩
  | false =>
   have hsz := hsmall rfl
   obtain ⟨l, hll⟩ : ∃ l : List UInt8, l = line.data.toList := ⟨_, rfl⟩
   have hline : line = ⟨l.toArray⟩ := by apply ByteArray.ext; rw [hll]
   have hlsz : l.length ≤ 3000 := by
    have : line.size = l.length := by rw [hll]; rfl
    omega
   subst hline
   clear hll
   obtain ⟨c, hc⟩ : ∃ c : CallV, c = { kind := K.toNat, path := p.data.toList, other := o.data.toList, fd := f, n := n, data := s.data.toList, on := b } := ⟨_, rfl⟩
   have hcells : (#[.int .i64 K, .string p, .string o, .int .i64 f, .int .i64 n, .string s, .bool b] : Array Value) = callCells K c := by
    rw [hc]
    unfold callCells strV
    rfl
   have hck : c.kind = K.toNat := by rw [hc]
   have hcs : Small c := by
    rw [hc]
    have e1 : p.size = p.data.toList.length := rfl
    have e2 : o.size = o.data.toList.length := rfl
    have e3 : s.size = s.data.toList.length := rfl
    exact ⟨by show p.data.toList.length ≤ 3000; omega, by show o.data.toList.length ≤ 3000; omega, by show s.data.toList.length ≤ 3000; omega, hf0, hf1, hn0, hn1⟩
   have hbox : w1.heap[w.heap.size]? = some (.cells (callCells K c) 34) := by rw [← hcells]; exact hbox1
   have hlen6 : l.length < 1000000 := by omega
   have hrd := read_walk l w1 hlen6 (HM.out _ HB1.out) (var_below HS.out HB1.out) (var_below HR.out HB1.out) (var_below HT.out HB1.out)
   have HRD := Lib.hid hrd
   have HBX := Lib.hid hbox
   have HCS := Lib.hid hcs
   have HCK := Lib.hid hck
   have HLS := Lib.hid hlsz
   clear hrd hbox hcs hck hbox1 hsmall hsz hlsz
   rw [hcells]
   clear hcells hc
   go_wp2_with fail
   obtain ⟨d, ok, hdv, hdd⟩ := readV_parts (deskRead l)
   have HDD := Lib.hid hdd
   have hr2 := HRD.out
   rw [hdv] at hr2
   refine hr2.mono ?_
   rintro e w2 ⟨rfl, hb2⟩
   have hbx2 := keep_blk hb2 HBX.out
   have hbel2 := below_then HB1.out hb2
   clear hr2 hb2
   go_upto_region 4 with fail
   have hW3c := heap_alloc_new w2 (.cells (callCells d.kind d) 34)
   have hW3b := below_al w2 (.cells (callCells d.kind d) 34)
   generalize hWW3 : w2.alloc (.cells (callCells d.kind d) 34) = W3 at hW3c hW3b
   have hWW3 : w2.alloc (.cells #[.int .i64 (d.kind : Nat), .string ⟨d.path.toArray⟩, .string ⟨d.other.toArray⟩, .int .i64 d.fd, .int .i64 d.n, .string ⟨d.data.toArray⟩, .bool d.on] 34) = W3 := hWW3
   rw [hWW3]
   clear hWW3
   have hbx3 := keep_blk hW3b hbx2
   have hbel3 := below_then hbel2 hW3b
   clear hW3b hbx2 hbel2
   generalize w2.heap.size = ab at *
   have hrf := refRead_walk l W3 hlen6
   rw [refRead_eq, hdv] at hrf
   have HRF := Lib.hid hrf
   clear hrf
   go_wp2_with fail
   refine HRF.out.mono ?_
   rintro e w4 ⟨rfl, hb4⟩
   have hbx4 := keep_blk hb4 hbx3
   have hac4 := keep_blk hb4 hW3c
   have hbel4 := below_then hbel3 hb4
   clear hb4 hbx3 hW3c hbel3 HRF
   go_upto_region 5 with fail
   have hW5c := heap_alloc_new w4 (.cells (callCells d.kind d) 34)
   have hW5b := below_al w4 (.cells (callCells d.kind d) 34)
   generalize hWW5 : w4.alloc (.cells (callCells d.kind d) 34) = W5 at hW5c hW5b
   have hWW5 : w4.alloc (.cells #[.int .i64 (d.kind : Nat), .string ⟨d.path.toArray⟩, .string ⟨d.other.toArray⟩, .int .i64 d.fd, .int .i64 d.n, .string ⟨d.data.toArray⟩, .bool d.on] 34) = W5 := hWW5
   rw [hWW5]
   clear hWW5
   have hbx5 := keep_blk hW5b hbx4
   have hac5 := keep_blk hW5b hac4
   have hbel5 := below_then hbel4 hW5b
   clear hW5b hbx4 hac4 hbel4
   generalize w4.heap.size = bb at *
   have hgd := Tryz.guard23
   obtain ⟨⟨x0, x1, x2, x3, x4, x5, x6⟩, -⟩ := seven hac5
   obtain ⟨⟨y0, y1, y2, y3, y4, y5, y6⟩, -⟩ := seven hW5c
   have heq := fun W => eq23 (d.kind : Nat) (d.kind : Nat) ⟨d.path.toArray⟩ ⟨d.path.toArray⟩ ⟨d.other.toArray⟩ ⟨d.other.toArray⟩ d.fd d.fd d.n d.n ⟨d.data.toArray⟩ ⟨d.data.toArray⟩ d.on d.on W
   simp only [beq_self_eq_true, Bool.and_self] at heq
   have hokok : (ok != ok) = false := by cases ok <;> rfl
   go_upto_region 7 with fail
   clear heq hgd hokok x0 x1 x2 x3 x4 x5 x6 y0 y1 y2 y3 y4 y5 y6 hac5
   obtain ⟨⟨x0, x1, x2, x3, x4, x5, x6⟩, -⟩ := seven hbx5
   obtain ⟨line2, ok2, hwv, hl2, hok2⟩ := write_parts c HCS.out
   have hwr := write_walk K c HCK.out HCS.out W5 (HM.out _ hbel5) (var_below HS.out hbel5) (var_below HR.out hbel5) (var_below HT.out hbel5)
   rw [hwv] at hwr
   have HWR := Lib.hid hwr
   have HOK2 := Lib.hid hok2
   clear hwr hwv hok2
   go_wp2_with fail
   refine HWR.out.mono ?_
   rintro e w6 ⟨rfl, hb6⟩
   have hbx6 := keep_blk hb6 hbx5
   have hbc6 := keep_blk hb6 hW5c
   have hbel6 := below_then hbel5 hb6
   clear hb6 hbx5 hW5c hbel5 HWR x0 x1 x2 x3 x4 x5 x6
   have hrf := refRead_walk line2 w6 hl2
   obtain ⟨e3, ok3, hev, hee⟩ := readV_parts (deskRead line2)
   rw [refRead_eq, hev] at hrf
   have HRF := Lib.hid hrf
   have HEE := Lib.hid hee
   clear hrf hev hee
   go_wp2_with fail
   refine HRF.out.mono ?_
   rintro e w7 ⟨rfl, hb7⟩
   have hbx7 := keep_blk hb7 hbx6
   have hbc7 := keep_blk hb7 hbc6
   have hbel7 := below_then hbel6 hb7
   clear hb7 hbx6 hbc6 hbel6 HRF
   go_upto_region 9 with fail
   have hW8c := heap_alloc_new w7 (.cells (callCells e3.kind e3) 34)
   have hW8b := below_al w7 (.cells (callCells e3.kind e3) 34)
   generalize hWW8 : w7.alloc (.cells (callCells e3.kind e3) 34) = W8 at hW8c hW8b
   have hWW8 : w7.alloc (.cells #[.int .i64 (e3.kind : Nat), .string ⟨e3.path.toArray⟩, .string ⟨e3.other.toArray⟩, .int .i64 e3.fd, .int .i64 e3.n, .string ⟨e3.data.toArray⟩, .bool e3.on] 34) = W8 := hWW8
   rw [hWW8]
   clear hWW8
   have hbx8 := keep_blk hW8b hbx7
   have hbc8 := keep_blk hW8b hbc7
   have hbel8 := below_then hbel7 hW8b
   clear hW8b hbx7 hbc7 hbel7
   generalize w7.heap.size = xb at *
   have hgd := Tryz.guard23
   obtain ⟨⟨x0, x1, x2, x3, x4, x5, x6⟩, -⟩ := seven hbx8
   obtain ⟨⟨y0, y1, y2, y3, y4, y5, y6⟩, -⟩ := seven hW8c
   have hfacts : ok2 = false ∨ (ok2 = true ∧ ok3 = true ∧ ∀ W, (Op.equalIn 10000 34 (.agg #[.int .i64 (e3.kind : Nat), .string ⟨e3.path.toArray⟩, .string ⟨e3.other.toArray⟩, .int .i64 e3.fd, .int .i64 e3.n, .string ⟨e3.data.toArray⟩, .bool e3.on]) (.agg #[.int .i64 K, .string ⟨c.path.toArray⟩, .string ⟨c.other.toArray⟩, .int .i64 c.fd, .int .i64 c.n, .string ⟨c.data.toArray⟩, .bool c.on])).run Tryz.prog W = .ok true W) := by
    cases hq : ok2 with
    | false => exact .inl rfl
    | true =>
     obtain ⟨q1, q2⟩ := HOK2.out hq
     have hee := HEE.out
     rw [q1] at hee
     obtain ⟨rfl, rfl⟩ := hee
     refine .inr ⟨rfl, rfl, fun W => ?_⟩
     have hKc : K = (e3.kind : Nat) := by have := HCK.out; omega
     rw [hKc, eq23]
     simp
   clear hW8c
   have HBC8 := Lib.hid hbc8
   go_cut [59] (fun v Wx => v = .bool false ∧ Wx = W8)
   case first =>
    rcases hfacts with rfl | ⟨rfl, rfl, heq⟩
    ·go_wp2_with fail
     go_meet
     exact ⟨rfl, rfl⟩
    ·go_wp2_with fail
     go_meet
     exact ⟨rfl, rfl⟩
   case rest =>
    obtain ⟨rfl, rfl⟩ := hcut
    have z0 : wc.cell? ⟨bb, 0, none⟩ = some (.int .i64 (d.kind : Nat)) := cell_at hbc8 rfl
    have hdd := HDD.out
    cases hrl : deskRead l with
    | none =>
     rw [hrl] at hdd
     obtain ⟨hd0, -⟩ := hdd
     have g0 : (((d.kind : Nat) : Int) != 0) = false := by rw [hd0]; rfl
     clear hd0
     go_wp2_with fail
     refine (HP.out _ hbel8).mono ?_
     rintro e wz ⟨rfl, hbz⟩
     go_wp2_with fail
     go_ret
     exact ⟨rfl, below_then hbel8 hbz⟩
    | some c' =>
     rw [hrl] at hdd
     obtain ⟨rfl, -⟩ := hdd
     obtain ⟨hds, hdk, fm, hfm, hjn⟩ := read_small HLS.out hrl
     have g0 : (((d.kind : Nat) : Int) != 0) = true := by simp; omega
     have hwr := write_walk (d.kind : Nat) d (by omega) hds wc (HM.out _ hbel8) (var_below HS.out hbel8) (var_below HR.out hbel8) (var_below HT.out hbel8)
     have hwv : writeV d = .tuple #[.string ⟨l.toArray⟩, .bool true] := by
      unfold writeV
      rw [hfm]
      dsimp only
      rw [hjn, hrl]
      simp [strV]
     rw [hwv] at hwr
     have HWR := Lib.hid hwr
     obtain ⟨⟨y0, y1, y2, y3, y4, y5, y6⟩, -⟩ := seven hbc8
     clear hwr hwv hds hdk hfm hjn hrl x0 x1 x2 x3 x4 x5 x6 hbx8 hbc8
     have hbel8' := hbel8
     go_wp2_with fail
     refine HWR.out.mono ?_
     rintro e w9 ⟨rfl, hb9⟩
     have hll : ((ByteArray.mk l.toArray).toList == (ByteArray.mk l.toArray).toList) = true := by simp
     have hbel9 := below_then hbel8 hb9
     go_wp2_with fail
     refine (HP.out _ hbel9).mono ?_
     rintro e wz ⟨rfl, hbz⟩
     go_wp2_with fail
     go_ret
     exact ⟨rfl, below_then hbel9 hbz⟩
end Go.Proofs.YtkjdlganghbgaaaGreatDoor
