/- Two calls compared. -/
import Derived.Test.YtkjdlganghbgaaaGreatDoorWE
import Derived.Laws.StructEq
import Derived.Laws.Cover2
import Derived.KernelRfl
import Derived.Deep.Cut
import Derived.Test.YtkjdlganghbgaaaGreatDoorQD
import Derived.Deep.RegionHeld3
namespace Go.Proofs.YtkjdlganghbgaaaGreatDoor
open Go.RowKit Go.Desk Go.Shelf
theorem Tryz.guard23 : Tryz.prog.eqGuardType Tryz.prog.depth 34 = false := by kernel_rfl
set_option maxRecDepth 100000 in
set_option maxHeartbeats 4000000 in
theorem eq23 (k k' : Int) (p p' o o' : ByteArray) (f f' n n' : Int) (s s' : ByteArray) (b b' : Bool) (w : World) : (Op.equalIn 10000 34 (.agg #[.int .i64 k, .string p, .string o, .int .i64 f, .int .i64 n, .string s, .bool b]) (.agg #[.int .i64 k', .string p', .string o', .int .i64 f', .int .i64 n', .string s', .bool b'])).run Tryz.prog w =
  .ok ((k == k') && ((p.toList == p'.toList) && ((o.toList == o'.toList) && ((f == f') && ((n == n') && ((s.toList == s'.toList) && (b == b'))))))) w := by
 have u3 := Tryz.underlying3
 have a3 := Tryz.isAgg3
 have z3 := Tryz.sizeOf3
 have u9 := Tryz.underlying9
 have a9 := Tryz.isAgg9
 have z9 := Tryz.sizeOf9
 have u4 := Tryz.underlying4
 have a4 := Tryz.isAgg4
 have z4 := Tryz.sizeOf4
 have hS : Tryz.prog.underlying 34 = some (.struct (Tryz.prog.fieldsOf 34)) := by kernel_rfl
 have hp : Tryz.prog.stoodInHeld 34 = false := by kernel_rfl
 rw [show (10000 : Nat) = 9999 + 1 from rfl, run_equalIn_agg w 9999 34 _ _ hS hp]
 simp only [Program.fieldsOf, Tryz.underlying34]
 go_simp
 by_cases h1 : k = k'
 ·by_cases h2 : p.toList = p'.toList
  ·by_cases h3 : o.toList = o'.toList
   ·by_cases h4 : f = f'
    ·by_cases h5 : n = n'
     ·by_cases h6 : s.toList = s'.toList
      ·by_cases h7 : b = b' <;> simp [h1, h2, h3, h4, h5, h6, h7]
      ·simp [h6]
     ·simp [h5]
    ·simp [h4]
   ·simp [h3]
  ·simp [h2]
 ·simp [h1]
theorem eq_calls (d c : CallV) : ((((d.kind : Nat) : Int) == ((c.kind : Nat) : Int)) && (((ByteArray.mk d.path.toArray).toList == (ByteArray.mk c.path.toArray).toList) && (((ByteArray.mk d.other.toArray).toList == (ByteArray.mk c.other.toArray).toList) && ((d.fd == c.fd) && ((d.n == c.n) && (((ByteArray.mk d.data.toArray).toList == (ByteArray.mk c.data.toArray).toList) && (d.on == c.on))))))) = decide (d = c) := by
 have hL : ∀ x : List UInt8, (ByteArray.mk x.toArray).toList = x := fun x => Go.ByteArray.toList_eq _
 rw [hL, hL, hL, hL, hL, hL]
 obtain ⟨k, p, o, f, n, s, b⟩ := d
 obtain ⟨k', p', o', f', n', s', b'⟩ := c
 rw [Bool.eq_iff_iff]
 simp only [Bool.and_eq_true, beq_iff_eq, decide_eq_true_eq, CallV.mk.injEq]
 constructor
 ·rintro ⟨h1, h2, h3, h4, h5, h6, h7⟩
  exact ⟨by omega, h2, h3, h4, h5, h6, h7⟩
 ·rintro ⟨h1, h2, h3, h4, h5, h6, h7⟩
  exact ⟨by omega, h2, h3, h4, h5, h6, h7⟩
end Go.Proofs.YtkjdlganghbgaaaGreatDoor
namespace Go.Proofs.YtkjdlganghbgaaaGreatDoor
open Go.RowKit Go.Desk Go.Shelf
theorem below_dn {n q : Nat} {w W : World} (h : Below n w W) : Below n w (W.drewN q) := ⟨h.os, h.tape, h.output, h.size, h.block⟩
theorem wraps_three {p o s : Nat} (hp : p ≤ 281474976710656) (ho : o ≤ 281474976710656) (hs : s ≤ 281474976710656) : wrap64 ((p : Int) + (o : Int)) = (p : Int) + (o : Int) ∧ wrap64 ((p : Int) + (o : Int) + (s : Int)) = (p : Int) + (o : Int) + (s : Int) ∧
  IntKind.i64.wrap ((p : Int) + (o : Int)) = (p : Int) + (o : Int) ∧ IntKind.i64.wrap ((p : Int) + (o : Int) + (s : Int)) = (p : Int) + (o : Int) + (s : Int) := by
 refine ⟨?_, ?_, wrap_small (by omega) (by omega), wrap_small (by omega) (by omega)⟩ <;> (unfold wrap64; omega)
def BeyAns (w : World) (T : Nat) (e : Ending) (w' : World) : Prop := ∃ r, e = .returned (.bool r) ∧ Below w.heap.size w w' ∧ (r = false → T ≤ 3000)
set_option maxRecDepth 100000 in
set_option maxHeartbeats 8000000 in
theorem beyond_walk (a : Nat) (K f n : Int) (p o s : ByteArray) (b : Bool) (hp : p.size ≤ 281474976710656) (ho : o.size ≤ 281474976710656) (hs : s.size ≤ 281474976710656) (w : World) (hrow : w.heap[a]? = some (.cells #[.int .i64 K, .string p, .string o, .int .i64 f, .int .i64 n, .string s, .bool b] 34)) :
  Calls Tryz.prog 8 #[.slice (some ⟨a, 0, none⟩) 1 1, .int .i64 1, .int .i64 3000] w fun e w' => BeyAns w (p.size + o.size + s.size) e w' := by
 have HROW := Lib.hid hrow
 clear hrow
 have HW3 := Lib.hid (wraps_three hp ho hs)
 go_enter Tryz.func8, Tryz.ntmps8
 go_wp2_with fail
 go_loopw [7, 8] (fun nv iv W => (W.heap[a]? = some (.cells #[.int .i64 K, .string p, .string o, .int .i64 f, .int .i64 n, .string s, .bool b] 34) ∧ Below w.heap.size w W) ∧ ((iv = .int .i64 0 ∧ nv = .int .i64 0) ∨ (iv = .int .i64 1 ∧ ∃ k, nv = .int .i64 k ∧ p.size + o.size + s.size ≤ 3000))) (fun _ iv _ => 1 - intV16 iv)
 case atStart => exact ⟨⟨HROW.out, Below.refl _ _⟩, .inl ⟨rfl, rfl⟩⟩
 case round =>
  obtain ⟨⟨hr, hbel⟩, hrel⟩ := hrel
  have HB0 := Lib.hid hbel
  clear hbel
  rcases hrel with ⟨rfl, rfl⟩ | ⟨rfl, k, rfl, hsz⟩
  ·have c1 : wr.cell? ⟨a, 1, none⟩ = some (.string p) := cell_at hr rfl
   have c2 : wr.cell? ⟨a, 2, none⟩ = some (.string o) := cell_at hr rfl
   have c5 : wr.cell? ⟨a, 5, none⟩ = some (.string s) := cell_at hr rfl
   go_upto_region 7 with fail
   go_quiet (fail)
   have hr2 : (wr.drewN nq).heap[a]? = some (.cells #[.int .i64 K, .string p, .string o, .int .i64 f, .int .i64 n, .string s, .bool b] 34) := hr
   have hb2 : Below w.heap.size w (wr.drewN nq) := below_dn HB0.out
   have HB := Lib.hid hb2
   clear hr c1 c2 c5 hb2
   generalize wr.drewN nq = W2 at *
   have c0 : W2.cell? ⟨a, 0, none⟩ = some (.int .i64 K) := cell_at hr2 rfl
   have c4 : W2.cell? ⟨a, 4, none⟩ = some (.int .i64 n) := cell_at hr2 rfl
   have HR2 := Lib.hid hr2
   clear hr2
   by_cases hbig : p.size + o.size + s.size ≤ 3000
   ·have g1 : ¬ ((3000 : Int) < (p.size : Int) + (o.size : Int) + (s.size : Int)) := by omega
    obtain ⟨q1, q2, q3, q4⟩ := HW3.out
    have HBIG := Lib.hid hbig
    clear hbig
    by_cases a5 : K = 5
    ·have b5 : (K == 5) = true := by rw [a5]; rfl
     clear a5
     by_cases a1 : 5000 < n
     ·by_cases a2 : n ≤ 262144
      ·go_wp2_with fail
       go_ret
       exact ⟨true, rfl, HB.out, fun h => by cases h⟩
      ·go_wp2_with fail
       exact ⟨⟨⟨HR2.out, HB.out⟩, .inr ⟨rfl, _, rfl, HBIG.out⟩⟩, by simp [intV16]⟩
     ·go_wp2_with fail
      exact ⟨⟨⟨HR2.out, HB.out⟩, .inr ⟨rfl, _, rfl, HBIG.out⟩⟩, by simp [intV16]⟩
    ·have b5 : (K == 5) = false := by simpa using a5
     clear a5
     by_cases a6 : K = 6
     ·have b6 : (K == 6) = true := by rw [a6]; rfl
      clear a6
      by_cases a1 : 5000 < n
      ·by_cases a2 : n ≤ 262144
       ·go_wp2_with fail
        go_ret
        exact ⟨true, rfl, HB.out, fun h => by cases h⟩
       ·go_wp2_with fail
        exact ⟨⟨⟨HR2.out, HB.out⟩, .inr ⟨rfl, _, rfl, HBIG.out⟩⟩, by simp [intV16]⟩
      ·go_wp2_with fail
       exact ⟨⟨⟨HR2.out, HB.out⟩, .inr ⟨rfl, _, rfl, HBIG.out⟩⟩, by simp [intV16]⟩
     ·have b6 : (K == 6) = false := by simpa using a6
      clear a6
      go_wp2_with fail
      exact ⟨⟨⟨HR2.out, HB.out⟩, .inr ⟨rfl, _, rfl, HBIG.out⟩⟩, by simp [intV16]⟩
   ·have g1 : (3000 : Int) < (p.size : Int) + (o.size : Int) + (s.size : Int) := by omega
    obtain ⟨q1, q2, q3, q4⟩ := HW3.out
    go_wp2_with fail
    go_ret
    exact ⟨true, rfl, HB.out, fun h => by cases h⟩
  ·go_wp2_with fail
   go_ret
   exact ⟨false, rfl, HB0.out, fun _ => hsz⟩
end Go.Proofs.YtkjdlganghbgaaaGreatDoor
namespace Go.Proofs.YtkjdlganghbgaaaGreatDoor
open Go.RowKit Go.Desk Go.Shelf
def writeV (c : CallV) : Value := match kindForm c.kind Desk.forms with
 | some f => .tuple #[strV (joinW (f.word :: lays c f.parts 0 0)), .bool (decide (deskRead (joinW (f.word :: lays c f.parts 0 0)) = some c))]
 | none => .tuple #[strV [], .bool false]
structure WrW (w : World) (K : Int) (c : CallV) (W : World) : Prop where
 box : W.heap[w.heap.size]? = some (.cells (callCells K c) 34)
 frm : W.heap[w.heap.size + 1]? = some (.cells formCells 54)
 bel : Below w.heap.size w W
theorem WrW.size {w W : World} {K : Int} {c : CallV} (h : WrW w K c W) : w.heap.size + 2 ≤ W.heap.size := (Array.getElem?_eq_some_iff.1 h.frm).1
theorem WrW.grown {w W W' : World} {K : Int} {c : CallV} {r : Option Nat} (h : WrW w K c W) (hg : W.grownBy W' r) (hr : ∀ k, r = some k → w.heap.size + 2 ≤ k) : WrW w K c W' := by
 have hs := h.size
 have key : ∀ i, i < w.heap.size + 2 → W'.heap[i]? = W.heap[i]? := fun i hi => hg.block i (by omega) (fun e => by have := hr i e.symm; omega)
 exact ⟨by rw [key _ (by omega)]; exact h.box, by rw [key _ (by omega)]; exact h.frm, h.bel.grown hg (by omega) (fun k hk => by have := hr k hk; omega)⟩
theorem WrW.alloc {w W : World} {K : Int} {c : CallV} (h : WrW w K c W) (o : Obj) : WrW w K c (W.alloc o) := h.grown (World.grownBy_alloc W o none) (by simp)
theorem WrW.start (w : World) (K : Int) (c : CallV) : WrW w K c ((w.alloc (.cells (callCells K c) 34)).alloc (.cells formCells 54)) := by
 refine ⟨?_, ?_, ?_⟩
 ·rw [heap_alloc_old _ _ (by simp), heap_alloc_new]
 ·rw [heap_alloc2_new]
 ·exact (below_al _ _).alloc (by simp) _
theorem noKind_next {k : Nat} {kd : Nat} {f : Desk.Form} {hlt : k < Desk.forms.length} (h : Hid (∀ j (_hj : j < k) (h20 : j < Desk.forms.length), ¬ Desk.forms[j].kind = kd)) (hf : Hid (Desk.forms[k]'hlt = f)) (hn : Hid (¬ f.kind = kd)) :
  ∀ j (_hj : j < k + 1) (h20 : j < Desk.forms.length), ¬ Desk.forms[j].kind = kd := fun j hj h20 => by
 rcases Nat.lt_succ_iff_lt_or_eq.1 hj with h1 | rfl
 ·exact h.out j h1 h20
 ·rw [hf.out]
  exact hn.out
theorem kindForm_hit {k : Nat} {f : Desk.Form} {r : List Desk.Form} (h : f.kind = k) : kindForm k (f :: r) = some f := by rw [kindForm, if_pos h]
theorem form_pos : ∀ k (h : k < 20), 1 ≤ (Desk.forms[k]'h).kind ∧ (Desk.forms[k]'h).word.length ≤ 10 := by
 have : ∀ k : Fin 20, 1 ≤ (Desk.forms[k.1]'k.2).kind ∧ (Desk.forms[k.1]'k.2).word.length ≤ 10 := by decide
 exact fun k h => this ⟨k, h⟩
theorem fit_small {c : CallV} (h : Small c) : FitC c := ⟨by have := h.path; omega, by have := h.other; omega, by have := h.data; omega, h.fd0, h.fd1, h.n0, h.n1⟩
theorem lay_any (c : CallV) (hc : FitC c) (p : Part) (sn : Int) (s : Nat) (hsn : p = .f ∨ sn = (s : Nat)) (w : World) (ht : Lib.TabIs Tryz.prog w "internal/strconv.uint64pow10" .u64 Lib.pow10Tab) :
  Calls Tryz.prog 25 #[.agg (callCells c.kind c), .int .u8 ((partB p).toNat : Nat), .int .i64 sn] w fun e w' => e = .returned (.string ⟨(lay c p s).toArray⟩) ∧ Below w.heap.size w w' := by
 cases p with
 | f => exact lay_f_walk c sn w
 | t =>
  rcases hsn with h | rfl
  ·cases h
  ·exact lay_t_walk c hc s w
 | n =>
  rcases hsn with h | rfl
  ·cases h
  ·exact lay_n_walk c hc s w ht
structure InX (w : World) (K : Int) (c : CallV) (fb mb : Nat) (fc : Array Value) (i : Nat) (D : DataW Unit) (W : World) : Prop where
 wr : WrW w K c W
 frm : W.heap[fb]? = some (.cells fc 54)
 map : W.ownsMap Tryz.prog 5 (plainElem Tryz.prog 3) mb i D
 lo : w.heap.size + 2 ≤ fb
 hi : fb < mb
theorem InX.drew {w W : World} {K : Int} {c : CallV} {fb mb i : Nat} {fc : Array Value} {D : DataW Unit} (h : InX w K c fb mb fc i D W) : InX w K c fb mb fc i D W.drew :=
 ⟨⟨h.wr.box, h.wr.frm, ⟨h.wr.bel.os, h.wr.bel.tape, h.wr.bel.output, h.wr.bel.size, h.wr.bel.block⟩⟩, h.frm, h.map, h.lo, h.hi⟩
theorem InX.below {w W W' : World} {K : Int} {c : CallV} {fb mb i : Nat} {fc : Array Value} {D : DataW Unit} (h : InX w K c fb mb fc i D W) (hb : Below W.heap.size W W') : InX w K c fb mb fc i D W' :=
 ⟨h.wr.grown (grown_of_below hb) (by simp), by rw [hb.block _ (Array.getElem?_eq_some_iff.1 h.frm).1]; exact h.frm, h.map.kept (grown_of_below hb) (by simp), h.lo, h.hi⟩
theorem InX.saw {w W W' : World} {K : Int} {c : CallV} {fb mb i : Nat} {fc : Array Value} {D D' : DataW Unit} (h : InX w K c fb mb fc i D W) (hg : W.grownBy W' (some mb)) (hm : W'.ownsMap Tryz.prog 5 (plainElem Tryz.prog 3) mb (i + 1) D') : InX w K c fb mb fc (i + 1) D' W' :=
 ⟨h.wr.grown hg (fun k hk => by have := h.lo; have := h.hi; injection hk with hk; omega), by
  have := h.hi
  rw [hg.block fb (Array.getElem?_eq_some_iff.1 h.frm).1 (fun e => by injection e with e; omega)]
  exact h.frm, hm, h.lo, h.hi⟩
theorem laid_next {s tb : ByteArray} {fw x : List UInt8} {L r : List (List UInt8)} {i : Nat} (hs : s.data.toList = fw ++ tailW (L.take i)) (ht : tb.data.toList = x) (hd : L.drop i = x :: r) : (s ++ (⟨#[32]⟩ ++ tb)).data.toList = fw ++ tailW (L.take (i + 1)) := by
 have hil : i < L.length := by
  rcases Nat.lt_or_ge i L.length with h | h
  ·exact h
  ·rw [List.drop_eq_nil_of_le h] at hd; cases hd
 have hx : L[i] = x := by
  rw [List.drop_eq_getElem_cons hil] at hd
  injection hd
 rw [List.take_succ_eq_append_getElem hil, tailW_app, hx, ByteArray.data_append, ByteArray.data_append, Array.toList_append, Array.toList_append, hs, ht]
 simp [tailW]
theorem laid_drop {L r : List (List UInt8)} {x : List UInt8} {i : Nat} (hd : L.drop i = x :: r) : L.drop (i + 1) = r := by
 have h : (L.drop i).drop 1 = r := by rw [hd]; rfl
 rw [List.drop_drop] at h
 exact h
theorem rdx {w W : World} {c : CallV} {fb i : Nat} {k0 : Int} {fw fp : ByteArray} {D : DataW Unit} {p : Part} {c0 : Int} (h : InX w c.kind c fb (fb + 1) #[.int .i64 k0, .string fw, .string fp] i D W) (hat : D.atKey (keyP p) (.lit (.int .i64 0)) = .lit (.int .i64 c0)) :
  W.cell? ⟨fb, 2, none⟩ = some (.string fp) ∧ W.cell? ⟨w.heap.size, 0, none⟩ = some (.int .i64 c.kind) ∧ W.cell? ⟨w.heap.size, 1, none⟩ = some (.string ⟨c.path.toArray⟩) ∧ W.cell? ⟨w.heap.size, 2, none⟩ = some (.string ⟨c.other.toArray⟩) ∧ W.cell? ⟨w.heap.size, 3, none⟩ = some (.int .i64 c.fd) ∧ W.cell? ⟨w.heap.size, 4, none⟩ = some (.int .i64 c.n) ∧ W.cell? ⟨w.heap.size, 5, none⟩ = some (.string ⟨c.data.toArray⟩) ∧ W.cell? ⟨w.heap.size, 6, none⟩ = some (.bool c.on) ∧ (Instr.lookup 55 (.map (some (fb + 1))) (.int .u8 ((partB p).toNat : Nat)) false).run Tryz.prog W = .ok (.int .i64 c0) W := by
 obtain ⟨⟨d0, d1, d2, d3, d4, d5, d6⟩, -⟩ := seven h.wr.box
 obtain ⟨c1, hrun, hat1, -⟩ := World.ownsMap.lookup_int h.map (Maps.int_keyed Tryz.underlying5) Tryz.underlying55 Tryz.underlying3 (Tryz.zeroValue3 _) (key := .int .u8 ((partB p).toNat : Nat)) (kl := keyP p) (Maps.keyOf_int_mk Tryz.underlying5 (by cases p <;> rfl))
 rw [hat] at hat1
 injection hat1 with hat1
 injection hat1 with _ hat1
 subst hat1
 exact ⟨cell_at h.frm rfl, d0, d1, d2, d3, d4, d5, d6, hrun⟩
set_option maxRecDepth 100000 in
set_option maxHeartbeats 8000000 in
theorem write_walk (K : Int) (c : CallV) (hk : c.kind = K.toNat) (hsm : Small c) (w : World) {m : Int} (hm : w.cell? ⟨0, 0, none⟩ = some (.int .i64 m)) {tp tp2 : TypeId} {p p2 : Value} (hs : w.var? Tryz.prog "strconv.ErrSyntax" = some #[.iface tp p]) (hr : w.var? Tryz.prog "strconv.ErrRange" = some #[.iface tp2 p2]) (ht : Lib.TabIs Tryz.prog w "internal/strconv.uint64pow10" .u64 Lib.pow10Tab) :
  Calls Tryz.prog 11 #[.agg (callCells K c)] w fun e w' => e = .returned (writeV c) ∧ Below w.heap.size w w' := by
 have hw0 : 0 < w.heap.size := by
  rcases Nat.lt_or_ge 0 w.heap.size with h | h
  ·exact h
  ·unfold World.cell? at hm
   rw [Array.getElem?_eq_none h] at hm
   cases hm
 have HM := Lib.hid (fun (W : World) (hb : Below w.heap.size w W) => show W.cell? ⟨0, 0, none⟩ = some (.int .i64 m) by rw [hb.cell (p := ⟨0, 0, none⟩) hw0]; exact hm)
 have HS := Lib.hid hs
 have HR := Lib.hid hr
 have HT := Lib.hid ht
 have HK := Lib.hid hk
 have HSM := Lib.hid hsm
 clear hm hs hr ht hw0 hk hsm
 unfold callCells
 go_enter Tryz.func11, Tryz.ntmps11
 go_wp2_with fail
 refine (forms_walk _).mono ?_
 rintro e w2 ⟨rfl, rfl⟩
 go_wp2_with fail
 have hst := Lib.hid (WrW.start w K c)
 go_loopw [13] (fun iv W => ∃ (k : Nat), iv = .int .i64 k ∧ k ≤ 20 ∧ Hid (∀ j (hj : j < k) (h20 : j < Desk.forms.length), ¬ Desk.forms[j].kind = c.kind) ∧ WrW w K c W) (fun iv _ => 20 - intV16 iv)
 case atStart => exact ⟨0, rfl, by omega, Lib.hid (fun j hj => by omega), hst.out⟩
 case round =>
  obtain ⟨k, rfl, hk, hno, hR⟩ := hrel
  by_cases h20 : k = 20
  ·subst h20
   have hd := Lib.hid (show writeV c = .tuple #[strV [], .bool false] by
    unfold writeV
    rw [kindForm_drop (j := 20) (by decide) (fun i hi => hno.out i hi (by have : Desk.forms.length = 20 := rfl; omega))]
    rfl)
   go_wp2_with fail
   go_ret2
   exact ⟨by rw [hd.out]; rfl, hR.bel⟩
  ·have hlt : k < 20 := by omega
   have hki : (k : Int) < 20 := by omega
   obtain ⟨q0, q1, q2⟩ := form_at k hlt
   have hp2 := form_two k hlt
   obtain ⟨hfp, hwl⟩ := form_pos k hlt
   have c0 := cell_at hR.frm q0
   have c1 : wr.cell? ⟨w.heap.size + 1, k * 3 + 1, none⟩ = some (.string ⟨(Desk.forms[k]'hlt).word.toArray⟩) := cell_at hR.frm q1
   have c2 : wr.cell? ⟨w.heap.size + 1, k * 3 + 2, none⟩ = some (.string ⟨((Desk.forms[k]'hlt).parts.map partB).toArray⟩) := cell_at hR.frm q2
   clear q0 q1 q2
   generalize hf : Desk.forms[k]'hlt = f at *
   have HF := Lib.hid hf
   clear hf
   have hfwl : (ByteArray.mk f.word.toArray).data.toList = f.word := rfl
   have hfps : (ByteArray.mk (f.parts.map partB).toArray).size = f.parts.length := by show (f.parts.map partB).length = _; simp
   generalize hnp : f.parts.length = np at hfps hp2
   have HNP := Lib.hid hnp
   clear hnp
   have hfpe : ∀ i (h : i < f.parts.length) (h2 : i < (ByteArray.mk (f.parts.map partB).toArray).size), (ByteArray.mk (f.parts.map partB).toArray)[i]'h2 = partB (f.parts[i]'h) := fun i h h2 => by
    show ((f.parts.map partB).toArray)[i]'(by simpa using h) = _
    simp
   generalize ByteArray.mk f.word.toArray = fw at *
   generalize ByteArray.mk (f.parts.map partB).toArray = fp at *
   have HFW := Lib.hid hfwl
   have HFP := Lib.hid hfpe
   clear hfwl hfpe
   go_upto_region 4 with fail
   have hR1 := hR.alloc (.cells #[.int .i64 f.kind, .string fw, .string fp] 54)
   have hfb := heap_alloc_new wr (.cells #[.int .i64 f.kind, .string fw, .string fp] 54)
   have hge := hR.size
   have hsz : (wr.alloc (.cells #[.int .i64 f.kind, .string fw, .string fp] 54)).heap.size = wr.heap.size + 1 := by simp
   clear c0 c1 c2 hR
   generalize wr.alloc (.cells #[.int .i64 f.kind, .string fw, .string fp] 54) = W at *
   generalize wr.heap.size = fb at *
   have e0 : W.cell? ⟨fb, 0, none⟩ = some (.int .i64 f.kind) := cell_at hfb rfl
   have e1 : W.cell? ⟨fb, 1, none⟩ = some (.string fw) := cell_at hfb rfl
   have e2 : W.cell? ⟨fb, 2, none⟩ = some (.string fp) := cell_at hfb rfl
   have e3 : W.cell? ⟨w.heap.size, 0, none⟩ = some (.int .i64 K) := cell_at hR1.box rfl
   by_cases hkk : f.kind = c.kind
   ·have hK := HK.out
    have hKK : K = (c.kind : Int) := by omega
    subst hKK
    have g1 : (((f.kind : Nat) : Int) != (c.kind : Int)) = false := by rw [hkk]; simp
    have HKK := Lib.hid hkk
    clear hkk hK
    have hmk : ∀ W, (Instr.makeMap 55 none).run Tryz.prog W = .ok (.map (some W.heap.size)) (W.alloc (.map #[] 0)) := fun W => run_makeMap 55 W
    have hfbs : fb < W.heap.size := (Array.getElem?_eq_some_iff.1 hfb).1
    go_wp2_with fail
    have hin : InX w c.kind c fb W.heap.size #[.int .i64 f.kind, .string fw, .string fp] 0 (.map []) (W.alloc (.map #[] 0)) :=
     ⟨hR1.alloc _, by rw [heap_alloc_old _ _ hfbs]; exact hfb, World.ownsMap_made W Tryz.prog 5 (plainElem (H := Unit) Tryz.prog 3), hge, hfbs⟩
    rw [hsz] at hin
    have HIN := Lib.hid hin
    clear hin hR1 hfb e0 e1 e2 e3 hmk hfbs hsz g1
    go_loopw [6, 28] (fun lv iv W => ∃ (i st sn : Nat) (D : DataW Unit) (s : ByteArray), iv = .int .i64 i ∧ lv = .string s ∧ i ≤ np ∧ Hid (s.data.toList = f.word ++ tailW ((lays c f.parts 0 0).take i)) ∧ Hid ((lays c f.parts 0 0).drop i = lays c (f.parts.drop i) st sn) ∧ Hid (SeenAt i D st sn) ∧ Hid (InX w c.kind c fb (fb + 1) #[.int .i64 f.kind, .string fw, .string fp] i D W)) (fun _ iv _ => np - intV16 iv)
    case atStart => exact ⟨0, 0, 0, .map [], fw, rfl, rfl, by omega, Lib.hid (by rw [HFW.out]; simp [tailW]), Lib.hid rfl, Lib.hid (.inl ⟨rfl, rfl, rfl, rfl⟩), HIN⟩
    case round =>
     obtain ⟨i, st, sn, D, s, rfl, rfl, hi, hsv, hly, hsn, hI⟩ := hrel
     by_cases hin2 : i = np
     ·subst hin2
      have hall : (lays c f.parts 0 0).take i = lays c f.parts 0 0 := List.take_of_length_le (by rw [lays_len, HNP.out]; exact Nat.le_refl _)
      have hsl : s.data.toList = joinW (f.word :: lays c f.parts 0 0) := by rw [hsv.out, hall, joinW_tail]
      obtain ⟨line, hline⟩ : ∃ line, line = joinW (f.word :: lays c f.parts 0 0) := ⟨_, rfl⟩
      rw [← hline] at hsl
      have hse : s = ⟨line.toArray⟩ := by
       apply ByteArray.ext
       rw [← hsl]
      have hll : line.length < 1000000 := by
       have h2 := lays_small HSM.out f.parts 0 0
       rw [hline, joinW_tail, List.length_append]
       have := HNP.out
       omega
      have hwv : writeV c = .tuple #[strV line, .bool (decide (deskRead line = some c))] := by
       unfold writeV
       have hkl : k ≤ Desk.forms.length := by have : Desk.forms.length = 20 := rfl; omega
       rw [kindForm_drop hkl (fun j hj => hno.out j hj (by omega)), drop_form HF, kindForm_hit HKK.out]
       dsimp only
       rw [← hline]
      subst hse
      have hrw := read_walk line wr hll (HM.out _ hI.out.wr.bel) (var_below HS.out hI.out.wr.bel) (var_below HR.out hI.out.wr.bel) (var_below HT.out hI.out.wr.bel)
      have HWV := Lib.hid hwv
      clear hall hsl hline hll hwv
      cases hdr : deskRead line with
      | none =>
       rw [hdr] at hrw
       simp only [readV, callCells, strV] at hrw
       have HRW := Lib.hid hrw
       have hd := Lib.hid (show writeV c = .tuple #[strV line, .bool false] by rw [HWV.out, hdr]; rfl)
       clear hrw hdr
       go_wp2_with fail
       refine HRW.out.mono ?_
       rintro e w5 ⟨rfl, hb5⟩
       go_upto_region 14 with fail
       have hb6 : ∀ o, Below w.heap.size w (w5.alloc o) := fun o => (hI.out.wr.bel.trans (hb5.mono hI.out.wr.bel.size)).alloc (Nat.le_trans hI.out.wr.bel.size hb5.size) o
       have HB6 := Lib.hid hb6
       clear hb6
       go_quiet (fail)
       go_wp2_with fail
       go_ret2
       exact ⟨by rw [hd.out]; rfl, (HB6.out _).trans ⟨rfl, rfl, rfl, Nat.le_refl _, fun _ _ => rfl⟩⟩
      | some d =>
       rw [hdr] at hrw
       simp only [readV, callCells, strV] at hrw
       have HRW := Lib.hid hrw
       have hd := Lib.hid (show writeV c = .tuple #[strV line, .bool (decide (d = c))] by rw [HWV.out, hdr]; simp)
       clear hrw hdr
       go_wp2_with fail
       refine HRW.out.mono ?_
       rintro e w5 ⟨rfl, hb5⟩
       go_upto_region 14 with fail
       have hbx : w5.heap[w.heap.size]? = some (.cells (callCells c.kind c) 34) := by
        rw [hb5.block _ (Array.getElem?_eq_some_iff.1 hI.out.wr.box).1]
        exact hI.out.wr.box
       have hb6 : ∀ o, Below w.heap.size w (w5.alloc o) := fun o => (hI.out.wr.bel.trans (hb5.mono hI.out.wr.bel.size)).alloc (Nat.le_trans hI.out.wr.bel.size hb5.size) o
       have HB6 := Lib.hid (hb6 (.cells (callCells d.kind d) 34))
       have hx6 := heap_alloc_new w5 (.cells (callCells d.kind d) 34)
       have hbx6 : (w5.alloc (.cells (callCells d.kind d) 34)).heap[w.heap.size]? = some (.cells (callCells c.kind c) 34) := by
        rw [heap_alloc_old _ _ (Array.getElem?_eq_some_iff.1 hbx).1]
        exact hbx
       clear hb6 hbx
       unfold callCells strV at HB6
       generalize hW6 : w5.alloc (.cells (callCells d.kind d) 34) = W6 at hx6 hbx6
       have hW6 : w5.alloc (.cells #[.int .i64 d.kind, .string ⟨d.path.toArray⟩, .string ⟨d.other.toArray⟩, .int .i64 d.fd, .int .i64 d.n, .string ⟨d.data.toArray⟩, .bool d.on] 34) = W6 := hW6
       rw [hW6] at HB6 ⊢
       clear hW6
       generalize w5.heap.size = xb at *
       obtain ⟨⟨d0, d1, d2, d3, d4, d5, d6⟩, -⟩ := seven hbx6
       obtain ⟨⟨x0, x1, x2, x3, x4, x5, x6⟩, -⟩ := seven hx6
       have hgd := Tryz.guard23
       have heq := fun W => eq23 (d.kind : Nat) (c.kind : Nat) ⟨d.path.toArray⟩ ⟨c.path.toArray⟩ ⟨d.other.toArray⟩ ⟨c.other.toArray⟩ d.fd c.fd d.n c.n ⟨d.data.toArray⟩ ⟨c.data.toArray⟩ d.on c.on W
       rw [eq_calls] at heq
       go_quiet (fail)
       go_wp2_with fail
       go_ret2
       exact ⟨by rw [hd.out]; rfl, HB6.out.trans ⟨rfl, rfl, rfl, Nat.le_refl _, fun _ _ => rfl⟩⟩
     ·have hilt : i < np := by omega
      have hilt2 : i < f.parts.length := by rw [HNP.out]; exact hilt
      obtain ⟨p, hp⟩ : ∃ p, f.parts[i] = p := ⟨_, rfl⟩
      have hbyte : fp[i]'(by omega) = partB p := by rw [HFP.out i hilt2, hp]
      have hi2 : i < 2 := by omega
      have hI2 := hI.out.drew
      obtain ⟨c0, hrun, hat, -⟩ := World.ownsMap.lookup_int hI2.map (Maps.int_keyed Tryz.underlying5) Tryz.underlying55 Tryz.underlying3 (Tryz.zeroValue3 _) (key := .int .u8 ((partB p).toNat : Nat)) (kl := keyP p) (Maps.keyOf_int_mk Tryz.underlying5 (by cases p <;> rfl))
      obtain ⟨hsn0, hc00, hc01, hsn1⟩ := seen_look hsn.out hi2 p hat
      have e2 : wr.drew.cell? ⟨fb, 2, none⟩ = some (.string fp) := cell_at hI2.frm rfl
      obtain ⟨⟨d0, d1, d2, d3, d4, d5, d6⟩, -⟩ := seven hI2.wr.box
      have hly2 : (lays c f.parts 0 0).drop i = lay c p (seenOf p st sn) :: lays c (f.parts.drop (i + 1)) (stOf p st) (snOf p sn) := by
       rw [hly.out, List.drop_eq_getElem_cons hilt2, hp]
       rfl
      have hLy := lay_any c (fit_small HSM.out) p c0 (seenOf p st sn) hsn0 wr.drew (var_below HT.out hI2.wr.bel)
      have htl := lay_len HSM.out p (seenOf p st sn)
      have htl2 : (ByteArray.mk (lay c p (seenOf p st sn)).toArray).data.toList = lay c p (seenOf p st sn) := rfl
      have htl3 : (ByteArray.mk (lay c p (seenOf p st sn)).toArray).size ≤ 9001 := htl
      generalize ByteArray.mk (lay c p (seenOf p st sn)).toArray = tb at hLy htl2 htl3
      have HTB := Lib.hid htl2
      clear htl htl2
      have hLy := Lib.hid hLy
      have HSN := Lib.hid hsn1
      have HI2 := Lib.hid hI2
      have HP := Lib.hid hp
      have HL2 := Lib.hid hly2
      have hss : s.size ≤ 30000 := by
       have h1 : s.size = s.data.toList.length := rfl
       have h2 := tail_take HSM.out f.parts 0 0 i
       rw [h1, hsv.out, List.length_append]
       have := HNP.out
       omega
      have hcA : ¬ (9223372036854775807 < 1 + tb.size) := by omega
      have hcB : ¬ (9223372036854775807 < s.size + (1 + tb.size)) := by omega
      have HAT := Lib.hid hat
      have HRX := Lib.hid (rdx hI2 hat)
      clear hsn1 hI2 hp hat hsn0 hly2 hrun e2 d0 d1 d2 d3 d4 d5 d6
      go_upto_region 10 with fail
      go_region_held3 (fun W => W.cell? ⟨fb, 2, none⟩ = some (.string fp) ∧ W.cell? ⟨w.heap.size, 0, none⟩ = some (.int .i64 c.kind) ∧ W.cell? ⟨w.heap.size, 1, none⟩ = some (.string ⟨c.path.toArray⟩) ∧ W.cell? ⟨w.heap.size, 2, none⟩ = some (.string ⟨c.other.toArray⟩) ∧ W.cell? ⟨w.heap.size, 3, none⟩ = some (.int .i64 c.fd) ∧ W.cell? ⟨w.heap.size, 4, none⟩ = some (.int .i64 c.n) ∧ W.cell? ⟨w.heap.size, 5, none⟩ = some (.string ⟨c.data.toArray⟩) ∧ W.cell? ⟨w.heap.size, 6, none⟩ = some (.bool c.on) ∧ (Instr.lookup 55 (.map (some (fb + 1))) (.int .u8 ((partB p).toNat : Nat)) false).run Tryz.prog W = .ok (.int .i64 c0) W)
       (first | (with_reducible exact HRX.out) | (with_reducible exact rdx (HI2.out.below hb4) HAT.out))
       (first | (go_at_call 25; refine hLy.out.mono ?_; rintro e W4 ⟨rfl, hb4⟩))
      all_goals
       have hI5 := HI2.out.below hb4
       have e2 : W4.cell? ⟨fb, 2, none⟩ = some (.string fp) := cell_at hI5.frm rfl
       have hcw := wrap64_one hc00 hc01
       have hcw2 := i64_one hc00 hc01
       have hval : plainElem (H := Unit) Tryz.prog 3 (.int .i64 (c0 + 1)) = some (.lit (.int .i64 (c0 + 1)), []) := plainElem_int Tryz.underlying3 (wf_one hc00 hc01)
       have hkey : keyOf Tryz.prog 5 (.int .u8 ((partB p).toNat : Nat)) = some (keyP p) := Maps.keyOf_int_mk Tryz.underlying5 (by cases p <;> rfl)
       have HI5 := Lib.hid hI5
       have hsv2 := Lib.hid (laid_next hsv.out HTB.out HL2.out)
       have hly3 := Lib.hid (laid_drop HL2.out)
       have himx : i < maxLen := Nat.lt_of_lt_of_le hi2 (by decide)
       clear hI5 hb4
       go_wp2_with (at_mapUpdate; refine wpList_mapUpdate_own _ rfl _ _ _ 55 rfl 5 3 (Maps.int_keyed Tryz.underlying5) Tryz.underlying55 (plainElem Tryz.prog 3) (fb + 1) i D rfl HI5.out.map himx _ _ (keyP p) rfl rfl hkey (.lit (.int .i64 (c0 + 1))) [] hval ?_; intro W6 hm6 hg6)
       exact ⟨⟨i + 1, stOf p st, snOf p sn, _, _, by first | rfl | simp, rfl, hilt, hsv2, hly3, HSN, Lib.hid (HI5.out.saw hg6 hm6)⟩, by simp [intV16]; omega⟩
   ·have hK := HK.out
    have g1 : (((f.kind : Nat) : Int) != K) = true := by simp; omega
    have hno2 := Lib.hid hkk
    clear hkk hK
    go_wp2_with fail
    exact ⟨⟨k + 1, by first | rfl | simp, hlt, Lib.hid (noKind_next hno HF hno2), hR1⟩, by simp [intV16]; omega⟩
end Go.Proofs.YtkjdlganghbgaaaGreatDoor
