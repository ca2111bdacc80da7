/- lay and forms, walked by hand. -/
import Derived.Test.YtkjdlganghbgaaaGreatDoorWC
import Derived.Maps.OwnOps
import Derived.Laws.ResultCell
import Derived.BigQuiet
import Derived.Deep.QuietTactic
import Derived.StillTailTactics
namespace Go.Proofs.YtkjdlganghbgaaaGreatDoor
open Go.RowKit Go.Desk Go.Shelf
structure FitC (c : CallV) : Prop where
 path : c.path.length < 1000000
 other : c.other.length < 1000000
 data : c.data.length < 1000000
 fd0 : -9223372036854775808 ≤ c.fd
 fd1 : c.fd ≤ 9223372036854775807
 n0 : -9223372036854775808 ≤ c.n
 n1 : c.n ≤ 9223372036854775807
theorem itoa_any (v : Int) (h0 : -9223372036854775808 ≤ v) (h1 : v ≤ 9223372036854775807) (w : World) (ht : Lib.TabIs Tryz.prog w "internal/strconv.uint64pow10" .u64 Lib.pow10Tab) :
  Calls Tryz.prog 41 #[.int .i64 v] w fun e w' => e = .returned (.string ⟨(Lib.itoa v).toArray⟩) ∧ Below w.heap.size w w' := by
 refine (Any.strconv_Itoa Tryz.lays171 v (by omega) (by omega) w ht).mono ?_
 rintro e w2 ⟨rfl, k, os, rfl⟩
 exact ⟨rfl, Lib.below_grow w.heap.size w (Nat.le_refl _) k os⟩
set_option maxRecDepth 100000 in
set_option maxHeartbeats 8000000 in
theorem lay_f_walk (c : CallV) (seen : Int) (w : World) :
  Calls Tryz.prog 25 #[.agg (callCells c.kind c), .int .u8 102, .int .i64 seen] w fun e w' => e = .returned (.string ⟨(lay c .f 0).toArray⟩) ∧ Below w.heap.size w w' := by
 unfold callCells
 have hb : ∀ o, Below w.heap.size w (w.alloc o) := fun o => (Below.refl w.heap.size w).alloc (Nat.le_refl _) o
 cases ho : c.on with
 | true =>
  have hr := Lib.hid (show lay c .f 0 = [111, 110] from if_pos ho)
  have HB := Lib.hid hb
  clear ho hb
  go_enter Tryz.func25, Tryz.ntmps25
  go_wp2_with fail
  go_ret
  exact ⟨by rw [hr.out]; rfl, HB.out _⟩
 | false =>
  have hr := Lib.hid (show lay c .f 0 = [111, 102, 102] from if_neg (by rw [ho]; decide))
  have HB := Lib.hid hb
  clear ho hb
  go_enter Tryz.func25, Tryz.ntmps25
  go_wp2_with fail
  go_ret
  exact ⟨by rw [hr.out]; rfl, HB.out _⟩
def formCell (f : Desk.Form) : List Value := [.int .i64 f.kind, strV f.word, strV (f.parts.map partB)]
def formCells : Array Value := (Desk.forms.flatMap formCell).toArray
set_option maxRecDepth 100000 in
set_option maxHeartbeats 8000000 in
theorem forms_walk (w : World) : Calls Tryz.prog 19 #[] w fun e w' => e = .returned (.slice (some ⟨w.heap.size, 0, none⟩) 20 20) ∧ w' = w.alloc (.cells formCells 54) := by
 go_enter Tryz.func19, Tryz.ntmps19
 go_wp2_with fail
 go_ret
 exact ⟨rfl, rfl⟩
theorem below_al (w : World) (o : Obj) : Below w.heap.size w (w.alloc o) := (Below.refl w.heap.size w).alloc (Nat.le_refl _) o
theorem below_al2 {w w' : World} {o : Obj} (h : Below (w.alloc o).heap.size (w.alloc o) w') : Below w.heap.size w w' := (below_al w o).trans (h.mono (by simp))
set_option maxRecDepth 100000 in
set_option maxHeartbeats 8000000 in
theorem lay_t_walk (c : CallV) (hc : FitC c) (seen : Nat) (w : World) :
  Calls Tryz.prog 25 #[.agg (callCells c.kind c), .int .u8 116, .int .i64 seen] w fun e w' => e = .returned (.string ⟨(lay c .t seen).toArray⟩) ∧ Below w.heap.size w w' := by
 unfold callCells
 have hw : ∀ x, x.length < 1000000 → ∀ W, Calls Tryz.prog 40 #[strV x] W fun e w' => e = .returned (.string ⟨(wr x).toArray⟩) ∧ Below W.heap.size W w' := fun x hx W => written_walk x W hx
 have h1 := Lib.hid (hw c.data hc.data)
 have h2 := Lib.hid (hw c.path hc.path)
 have h3 := Lib.hid (hw c.other hc.other)
 clear hw hc
 by_cases hk : c.kind = 4
 ·have hk1 : (((c.kind : Nat) : Int) == 4) = true := by rw [hk]; rfl
  have hr := Lib.hid (show lay c .t seen = wr c.data from if_pos hk)
  clear hk
  go_enter Tryz.func25, Tryz.ntmps25
  go_wp2_with fail
  refine (h1.out _).mono ?_
  rintro e w1 ⟨rfl, b1⟩
  go_wp2_with fail
  go_ret
  exact ⟨by rw [hr.out]; rfl, below_al2 b1⟩
 ·have hk1 : (((c.kind : Nat) : Int) == 4) = false := by rw [beq_eq_false_iff_ne]; omega
  by_cases hs0 : seen = 0
  ·have hs1 : (((seen : Nat) : Int) == 0) = true := by rw [hs0]; rfl
   have hr := Lib.hid (show lay c .t seen = wr c.path from (if_neg hk).trans (if_pos hs0))
   clear hk hs0
   go_enter Tryz.func25, Tryz.ntmps25
   go_wp2_with fail
   refine (h2.out _).mono ?_
   rintro e w1 ⟨rfl, b1⟩
   go_wp2_with fail
   go_ret
   exact ⟨by rw [hr.out]; rfl, below_al2 b1⟩
  ·have hs1 : (((seen : Nat) : Int) == 0) = false := by rw [beq_eq_false_iff_ne]; omega
   have hr := Lib.hid (show lay c .t seen = wr c.other from (if_neg hk).trans (if_neg hs0))
   clear hk hs0
   go_enter Tryz.func25, Tryz.ntmps25
   go_wp2_with fail
   refine (h3.out _).mono ?_
   rintro e w1 ⟨rfl, b1⟩
   go_wp2_with fail
   go_ret
   exact ⟨by rw [hr.out]; rfl, below_al2 b1⟩
set_option maxRecDepth 100000 in
set_option maxHeartbeats 8000000 in
theorem lay_n_walk (c : CallV) (hc : FitC c) (seen : Nat) (w : World) (ht : Lib.TabIs Tryz.prog w "internal/strconv.uint64pow10" .u64 Lib.pow10Tab) :
  Calls Tryz.prog 25 #[.agg (callCells c.kind c), .int .u8 110, .int .i64 seen] w fun e w' => e = .returned (.string ⟨(lay c .n seen).toArray⟩) ∧ Below w.heap.size w w' := by
 unfold callCells
 have ht2 : ∀ o, Lib.TabIs Tryz.prog (w.alloc o) "internal/strconv.uint64pow10" .u64 Lib.pow10Tab := fun o => var_below ht (below_al w o)
 have h1 := Lib.hid (fun o => itoa_any c.fd hc.fd0 hc.fd1 (w.alloc o) (ht2 o))
 have h2 := Lib.hid (fun o => itoa_any c.n hc.n0 hc.n1 (w.alloc o) (ht2 o))
 clear hc ht ht2
 by_cases hs0 : seen = 0
 ·have hs1 : (((seen : Nat) : Int) == 0) = true := by rw [hs0]; rfl
  by_cases hk : c.kind = 1
  ·have hk1 : (((c.kind : Nat) : Int) != 1) = false := by rw [hk]; rfl
   have hr := Lib.hid (show lay c .n seen = Lib.itoa c.n from if_neg (fun h => h.2 hk))
   clear hk hs0
   go_enter Tryz.func25, Tryz.ntmps25
   go_wp2_with fail
   refine (h2.out _).mono ?_
   rintro e w1 ⟨rfl, b1⟩
   go_wp2_with fail
   go_ret
   exact ⟨by rw [hr.out]; rfl, below_al2 b1⟩
  ·have hk1 : (((c.kind : Nat) : Int) != 1) = true := by simp; omega
   have hr := Lib.hid (show lay c .n seen = Lib.itoa c.fd from if_pos ⟨hs0, hk⟩)
   clear hk hs0
   go_enter Tryz.func25, Tryz.ntmps25
   go_wp2_with fail
   refine (h1.out _).mono ?_
   rintro e w1 ⟨rfl, b1⟩
   go_wp2_with fail
   go_ret
   exact ⟨by rw [hr.out]; rfl, below_al2 b1⟩
 ·have hs1 : (((seen : Nat) : Int) == 0) = false := by rw [beq_eq_false_iff_ne]; omega
  have hr := Lib.hid (show lay c .n seen = Lib.itoa c.n from if_neg (fun h => hs0 h.1))
  clear hs0
  go_enter Tryz.func25, Tryz.ntmps25
  go_wp2_with fail
  refine (h2.out _).mono ?_
  rintro e w1 ⟨rfl, b1⟩
  go_wp2_with fail
  go_ret
  exact ⟨by rw [hr.out]; rfl, below_al2 b1⟩
end Go.Proofs.YtkjdlganghbgaaaGreatDoor
namespace Go.Proofs.YtkjdlganghbgaaaGreatDoor
open Go.RowKit Go.Desk Go.Shelf
def readV : Option CallV → Value
 | some c => .tuple #[.agg (callCells c.kind c), .bool true]
 | none => .tuple #[.agg (callCells 0 {}), .bool false]
def intV16 (v : Value) : Nat := match v with | .int _ n => n.toNat | _ => 0
theorem form_at : ∀ k (h : k < 20), formCells[k * 3]? = some (.int .i64 ((Desk.forms[k]'h).kind : Nat)) ∧ formCells[k * 3 + 1]? = some (strV (Desk.forms[k]'h).word) ∧ formCells[k * 3 + 2]? = some (strV ((Desk.forms[k]'h).parts.map partB)) := fun k h => match k, h with
 | 0, _ => ⟨rfl, rfl, rfl⟩
 | 1, _ => ⟨rfl, rfl, rfl⟩
 | 2, _ => ⟨rfl, rfl, rfl⟩
 | 3, _ => ⟨rfl, rfl, rfl⟩
 | 4, _ => ⟨rfl, rfl, rfl⟩
 | 5, _ => ⟨rfl, rfl, rfl⟩
 | 6, _ => ⟨rfl, rfl, rfl⟩
 | 7, _ => ⟨rfl, rfl, rfl⟩
 | 8, _ => ⟨rfl, rfl, rfl⟩
 | 9, _ => ⟨rfl, rfl, rfl⟩
 | 10, _ => ⟨rfl, rfl, rfl⟩
 | 11, _ => ⟨rfl, rfl, rfl⟩
 | 12, _ => ⟨rfl, rfl, rfl⟩
 | 13, _ => ⟨rfl, rfl, rfl⟩
 | 14, _ => ⟨rfl, rfl, rfl⟩
 | 15, _ => ⟨rfl, rfl, rfl⟩
 | 16, _ => ⟨rfl, rfl, rfl⟩
 | 17, _ => ⟨rfl, rfl, rfl⟩
 | 18, _ => ⟨rfl, rfl, rfl⟩
 | 19, _ => ⟨rfl, rfl, rfl⟩
 | n + 20, h => absurd h (by omega)
theorem wrap64_next (i : Nat) (h : i < 1000000) : wrap64 ((i : Int) + 1) = (i : Int) + 1 := by unfold wrap64; omega
theorem i64_next (i : Nat) (h : i < 1000000) : IntKind.i64.wrap ((i : Int) + 1) = (i : Int) + 1 := wrap_small (by omega) (by omega)
theorem wrap64_one {c : Int} (h0 : 0 ≤ c) (h1 : c ≤ 1) : wrap64 (c + 1) = c + 1 := by unfold wrap64; omega
theorem i64_one {c : Int} (h0 : 0 ≤ c) (h1 : c ≤ 1) : IntKind.i64.wrap (c + 1) = c + 1 := wrap_small (by omega) (by omega)
theorem wf_one {c : Int} (h0 : 0 ≤ c) (h1 : c ≤ 1) : (Lit.int .i64 (c + 1)).wf = true := by
 have : c = 0 ∨ c = 1 := by omega
 rcases this with rfl | rfl <;> rfl
theorem form_two : ∀ k (h : k < 20), (Desk.forms[k]'h).parts.length ≤ 2 := by
 have : ∀ k : Fin 20, (Desk.forms[k.1]'k.2).parts.length ≤ 2 := by decide
 exact fun k h => this ⟨k, h⟩
theorem Tryz.size23 : (Tryz.prog.info? 34).map (·.size) = some 7 := by kernel_rfl
theorem ret_cell {n : Nat} {W : World} {cs : Array Value} {tmps : Array Value} (h7 : cs.size = 7) (hn : tmps.getD 2 undef = .pointer (some ⟨n, 0, none⟩)) (hW : W.heap[n]? = some (.cells cs 34)) : (results Tryz.f9 tmps).run Tryz.prog W = .ok (.tuple #[.agg cs, tmps.getD 3 undef]) W := by
 rw [results_cell_tmp (p := 2) (u := 3) (ty := 34) rfl, hn]
 have h1 : (asAddr (.pointer (some ⟨n, 0, none⟩))).run Tryz.prog W = .ok ⟨n, 0, none⟩ W := rfl
 rw [h1]
 simp only [Result.andThen_ok]
 rw [run_loadVar_row W n 34 34 cs (0, 0) _ hW Tryz.underlying34 rfl (by rw [Tryz.size23, h7])]
 rfl
theorem seven {w : World} {b : Nat} {k : Int} {c : CallV} (h : w.heap[b]? = some (.cells (callCells k c) 34)) :
  (w.cell? ⟨b, 0, none⟩ = some (.int .i64 k) ∧ w.cell? ⟨b, 1, none⟩ = some (.string ⟨c.path.toArray⟩) ∧ w.cell? ⟨b, 2, none⟩ = some (.string ⟨c.other.toArray⟩) ∧ w.cell? ⟨b, 3, none⟩ = some (.int .i64 c.fd) ∧ w.cell? ⟨b, 4, none⟩ = some (.int .i64 c.n) ∧ w.cell? ⟨b, 5, none⟩ = some (.string ⟨c.data.toArray⟩) ∧ w.cell? ⟨b, 6, none⟩ = some (.bool c.on)) ∧
  (w.frozen? ⟨b, 0, none⟩ = false ∧ w.frozen? ⟨b, 1, none⟩ = false ∧ w.frozen? ⟨b, 2, none⟩ = false ∧ w.frozen? ⟨b, 3, none⟩ = false ∧ w.frozen? ⟨b, 4, none⟩ = false ∧ w.frozen? ⟨b, 5, none⟩ = false ∧ w.frozen? ⟨b, 6, none⟩ = false) :=
 ⟨⟨cell_at h rfl, cell_at h rfl, cell_at h rfl, cell_at h rfl, cell_at h rfl, cell_at h rfl, cell_at h rfl⟩, frozen_at h, frozen_at h, frozen_at h, frozen_at h, frozen_at h, frozen_at h, frozen_at h⟩
theorem set_to {w : World} {cb i : Nat} {cs cs' : Array Value} {T : TypeId} {v : Value} (h : w.heap[cb]? = some (.cells cs T)) (e : cs.setIfInBounds i v = cs') : (w.setCell ⟨cb, i, none⟩ v).heap[cb]? = some (.cells cs' T) := by
 rw [← e]
 exact set_at h v
theorem set7 {w : World} {b : Nat} {k : Int} {c : CallV} (h : w.heap[b]? = some (.cells (callCells k c) 34)) (k' : Int) (s1 s2 s5 : ByteArray) (n3 n4 : Int) (b6 : Bool) :
  (((((((w.setCell ⟨b, 0, none⟩ (.int .i64 k')).setCell ⟨b, 1, none⟩ (.string s1)).setCell ⟨b, 2, none⟩ (.string s2)).setCell ⟨b, 3, none⟩ (.int .i64 n3)).setCell ⟨b, 4, none⟩ (.int .i64 n4)).setCell ⟨b, 5, none⟩ (.string s5)).setCell ⟨b, 6, none⟩ (.bool b6)).heap[b]? = some (.cells #[.int .i64 k', .string s1, .string s2, .int .i64 n3, .int .i64 n4, .string s5, .bool b6] 34) := by
 unfold callCells at h
 have h0 := set_to (i := 0) (v := (.int .i64 k')) (cs' := #[.int .i64 k', strV c.path, strV c.other, .int .i64 c.fd, .int .i64 c.n, strV c.data, .bool c.on]) h (by simp)
 have h1 := set_to (i := 1) (v := (.string s1)) (cs' := #[.int .i64 k', .string s1, strV c.other, .int .i64 c.fd, .int .i64 c.n, strV c.data, .bool c.on]) h0 (by simp)
 have h2 := set_to (i := 2) (v := (.string s2)) (cs' := #[.int .i64 k', .string s1, .string s2, .int .i64 c.fd, .int .i64 c.n, strV c.data, .bool c.on]) h1 (by simp)
 have h3 := set_to (i := 3) (v := (.int .i64 n3)) (cs' := #[.int .i64 k', .string s1, .string s2, .int .i64 n3, .int .i64 c.n, strV c.data, .bool c.on]) h2 (by simp)
 have h4 := set_to (i := 4) (v := (.int .i64 n4)) (cs' := #[.int .i64 k', .string s1, .string s2, .int .i64 n3, .int .i64 n4, strV c.data, .bool c.on]) h3 (by simp)
 have h5 := set_to (i := 5) (v := (.string s5)) (cs' := #[.int .i64 k', .string s1, .string s2, .int .i64 n3, .int .i64 n4, .string s5, .bool c.on]) h4 (by simp)
 have h6 := set_to (i := 6) (v := (.bool b6)) (cs' := #[.int .i64 k', .string s1, .string s2, .int .i64 n3, .int .i64 n4, .string s5, .bool b6]) h5 (by simp)
 exact h6
theorem bel7 {w W : World} {b : Nat} (h : Below w.heap.size w W) (hb : w.heap.size ≤ b) (v0 v1 v2 v3 v4 v5 v6 : Value) :
  Below w.heap.size w (((((((W.setCell ⟨b, 0, none⟩ v0).setCell ⟨b, 1, none⟩ v1).setCell ⟨b, 2, none⟩ v2).setCell ⟨b, 3, none⟩ v3).setCell ⟨b, 4, none⟩ v4).setCell ⟨b, 5, none⟩ v5).setCell ⟨b, 6, none⟩ v6) :=
 ((((((h.setCell hb _).setCell hb _).setCell hb _).setCell hb _).setCell hb _).setCell hb _).setCell hb _
theorem drop_form {k : Nat} {f : Desk.Form} {hlt : k < Desk.forms.length} (hf : Hid (Desk.forms[k]'hlt = f)) : Desk.forms.drop k = f :: Desk.forms.drop (k + 1) := by
 rw [List.drop_eq_getElem_cons hlt, hf.out]
theorem noFit_next {k : Nat} {ww : List UInt8} {wl : List (List UInt8)} {f : Desk.Form} {hlt : k < Desk.forms.length} (h : Hid (∀ j (_hj : j < k) (h20 : j < Desk.forms.length), ¬ (Desk.forms[j].word = ww ∧ wl.length = Desk.forms[j].parts.length))) (hf : Hid (Desk.forms[k]'hlt = f)) (hn : Hid (¬ (f.word = ww ∧ wl.length = f.parts.length))) :
  ∀ j (_hj : j < k + 1) (h20 : j < Desk.forms.length), ¬ (Desk.forms[j].word = ww ∧ wl.length = Desk.forms[j].parts.length) := fun j hj h20 => by
 rcases Nat.lt_succ_iff_lt_or_eq.1 hj with h1 | rfl
 ·exact h.out j h1 h20
 ·rw [hf.out]
  exact hn.out
structure RdW (w : World) (ws : List (List UInt8)) (W : World) : Prop where
 res : W.heap[w.heap.size]? = some (.cells (callCells 0 {}) 34)
 row : W.heap[w.heap.size + 1]? = some (.cells (ws.map strV).toArray 9)
 frm : W.heap[w.heap.size + 2]? = some (.cells formCells 54)
 bel : Below w.heap.size w W
theorem RdW.size {w W : World} {ws : List (List UInt8)} (h : RdW w ws W) : w.heap.size + 3 ≤ W.heap.size := (Array.getElem?_eq_some_iff.1 h.frm).1
theorem RdW.grown {w W W' : World} {ws : List (List UInt8)} {r : Option Nat} (h : RdW w ws W) (hg : W.grownBy W' r) (hr : ∀ k, r = some k → w.heap.size + 3 ≤ k) : RdW w ws W' := by
 have hs := h.size
 have key : ∀ i, i < w.heap.size + 3 → W'.heap[i]? = W.heap[i]? := fun i hi => hg.block i (by omega) (fun e => by have := hr i e.symm; omega)
 exact ⟨by rw [key _ (by omega)]; exact h.res, by rw [key _ (by omega)]; exact h.row, by rw [key _ (by omega)]; exact h.frm, h.bel.grown hg (by omega) (fun k hk => by have := hr k hk; omega)⟩
theorem RdW.alloc {w W : World} {ws : List (List UInt8)} (h : RdW w ws W) (o : Obj) : RdW w ws (W.alloc o) := h.grown (World.grownBy_alloc W o none) (by simp)
theorem RdW.drewN {w W : World} {ws : List (List UInt8)} (h : RdW w ws W) (n : Nat) : RdW w ws (W.drewN n) := ⟨h.res, h.row, h.frm, ⟨h.bel.os, h.bel.tape, h.bel.output, h.bel.size, h.bel.block⟩⟩
theorem RdW.start (w : World) (ws : List (List UInt8)) : RdW w ws (((w.alloc (.cells (callCells 0 {}) 34)).alloc (.cells (ws.map strV).toArray 9)).alloc (.cells formCells 54)) := by
 refine ⟨?_, ?_, ?_, ?_⟩
 ·rw [heap_alloc_old _ _ (by simp; omega), heap_alloc_old _ _ (by simp), heap_alloc_new]
 ·rw [heap_alloc_old _ _ (by simp), heap_alloc2_new]
 ·have := heap_alloc_new ((w.alloc (.cells (callCells 0 {}) 34)).alloc (.cells (ws.map strV).toArray 9)) (.cells formCells 54)
  simpa using this
 ·exact ((below_al _ _).alloc (by simp) _).alloc (by simp; omega) _
theorem words_len (l : List UInt8) : ∀ x ∈ words l, x.length ≤ l.length := by
 induction l with
 | nil => intro x hx; simp [words] at hx; simp [hx]
 | cons c r ih =>
  intro x hx
  unfold words at hx
  split at hx
  ·rcases List.mem_cons.1 hx with rfl | hx
   ·simp
   ·have := ih x hx
    simp; omega
  ·split at hx
   ·rename_i w ws hw
    rcases List.mem_cons.1 hx with rfl | hx
    ·have := ih w (by rw [hw]; exact List.mem_cons_self ..)
     simp; omega
    ·have := ih x (by rw [hw]; exact List.mem_cons_of_mem _ hx)
     simp; omega
   ·simp at hx
    subst hx
    simp
def keyP (p : Part) : Lit := .int .u8 ((partB p).toNat : Nat)
def SeenAt (i : Nat) (D : DataW Unit) (st sn : Nat) : Prop :=
 (i = 0 ∧ D = .map [] ∧ st = 0 ∧ sn = 0) ∨ (i = 1 ∧ ∃ p, D = (DataW.map []).put (keyP p) (.lit (.int .i64 1)) ∧ st = stOf p 0 ∧ sn = snOf p 0) ∨ i = 2
theorem seen_look {i : Nat} {D : DataW Unit} {st sn : Nat} (h : SeenAt i D st sn) (hi : i < 2) (p : Part) {c : Int} (hc : D.atKey (keyP p) (.lit (.int .i64 0)) = .lit (.int .i64 c)) : (p = .f ∨ c = (seenOf p st sn : Nat)) ∧ 0 ≤ c ∧ c ≤ 1 ∧ SeenAt (i + 1) (D.put (keyP p) (.lit (.int .i64 (c + 1)))) (stOf p st) (snOf p sn) := by
 rcases h with ⟨rfl, rfl, rfl, rfl⟩ | ⟨rfl, q, rfl, rfl, rfl⟩ | rfl
 ·have h0 : (DataW.lit (.int .i64 0) : DataW Unit) = .lit (.int .i64 c) := hc
  have h0 : c = 0 := by injection h0 with h0; injection h0 with _ h0; exact h0.symm
  subst h0
  refine ⟨?_, by omega, by omega, .inr (.inl ⟨rfl, p, rfl, rfl, rfl⟩)⟩
  cases p
  ·exact .inr rfl
  ·exact .inr rfl
  ·exact .inl rfl
 ·have h0 : (DataW.map []).put (keyP q) (.lit (.int .i64 1)) = (DataW.map [(keyP q, .lit (.int .i64 1))] : DataW Unit) := rfl
  rw [h0] at hc
  have h1 : (DataW.map [(keyP q, .lit (.int .i64 1))] : DataW Unit).atKey (keyP p) (.lit (.int .i64 0)) = if p = q then .lit (.int .i64 1) else .lit (.int .i64 0) := by
   cases p <;> cases q <;> rfl
  rw [h1] at hc
  have h2 : c = if p = q then 1 else 0 := by
   by_cases e : p = q
   ·rw [if_pos e] at hc ⊢; injection hc with hc; injection hc with _ hc; exact hc.symm
   ·rw [if_neg e] at hc ⊢; injection hc with hc; injection hc with _ hc; exact hc.symm
  subst h2
  refine ⟨?_, by split <;> omega, by split <;> omega, .inr (.inr rfl)⟩
  cases p <;> cases q <;> first | exact .inl rfl | exact .inr rfl
 ·omega
theorem take_any (cb : Nat) (c : CallV) (p : Part) (sn : Int) (s : Nat) (hsn : p = .f ∨ sn = (s : Nat)) (x : List UInt8) (w : World) (hx : x.length < 1000000) (hc : w.heap[cb]? = some (.cells (callCells c.kind c) 34)) {tp tp2 : TypeId} {v v2 : Value} (hs : w.var? Tryz.prog "strconv.ErrSyntax" = some #[.iface tp v]) (hr : w.var? Tryz.prog "strconv.ErrRange" = some #[.iface tp2 v2]) (ht : Lib.TabIs Tryz.prog w "internal/strconv.uint64pow10" .u64 Lib.pow10Tab) :
  Calls Tryz.prog 20 #[.pointer (some ⟨cb, 0, none⟩), .int .u8 ((partB p).toNat : Nat), .int .i64 sn, .string ⟨x.toArray⟩] w fun e w' => TakeAns cb w (take c p s x) e w' := by
 cases p with
 | f => exact take_f_walk cb c sn x w hc
 | t =>
  rcases hsn with h | rfl
  ·cases h
  ·exact take_t_walk cb c s x w hx hc hs
 | n =>
  rcases hsn with h | rfl
  ·cases h
  ·exact take_n_walk cb c s x w hx hc hs hr ht
structure InW (w : World) (ws : List (List UInt8)) (fb cb : Nat) (fc : Array Value) (c : CallV) (i : Nat) (D : DataW Unit) (W : World) : Prop where
 rd : RdW w ws W
 frm : W.heap[fb]? = some (.cells fc 54)
 call : W.heap[cb]? = some (.cells (callCells c.kind c) 34)
 map : W.ownsMap Tryz.prog 5 (plainElem Tryz.prog 3) (cb + 1) i D
 lo : w.heap.size + 3 ≤ fb
 hi : fb < cb
theorem InW.drew {w W : World} {ws : List (List UInt8)} {fb cb i : Nat} {fc : Array Value} {c : CallV} {D : DataW Unit} (h : InW w ws fb cb fc c i D W) : InW w ws fb cb fc c i D W.drew :=
 ⟨⟨h.rd.res, h.rd.row, h.rd.frm, ⟨h.rd.bel.os, h.rd.bel.tape, h.rd.bel.output, h.rd.bel.size, h.rd.bel.block⟩⟩, h.frm, h.call, h.map, h.lo, h.hi⟩
theorem InW.took {w W W' : World} {ws : List (List UInt8)} {fb cb i : Nat} {fc : Array Value} {c d : CallV} {D : DataW Unit} (h : InW w ws fb cb fc c i D W) (hg : W.grownBy W' (some cb)) (hd : W'.heap[cb]? = some (.cells (callCells d.kind d) 34)) : InW w ws fb cb fc d i D W' :=
 ⟨h.rd.grown hg (fun k hk => by have := h.lo; have := h.hi; injection hk with hk; omega), by
  have := h.hi
  rw [hg.block fb (Array.getElem?_eq_some_iff.1 h.frm).1 (fun e => by injection e with e; omega)]
  exact h.frm, hd, h.map.kept hg (fun e => by injection e with e; omega), h.lo, h.hi⟩
theorem InW.saw {w W W' : World} {ws : List (List UInt8)} {fb cb i : Nat} {fc : Array Value} {c : CallV} {D D' : DataW Unit} (h : InW w ws fb cb fc c i D W) (hg : W.grownBy W' (some (cb + 1))) (hm : W'.ownsMap Tryz.prog 5 (plainElem Tryz.prog 3) (cb + 1) (i + 1) D') : InW w ws fb cb fc c (i + 1) D' W' :=
 ⟨h.rd.grown hg (fun k hk => by have := h.lo; have := h.hi; injection hk with hk; omega), by
  have := h.hi
  rw [hg.block fb (Array.getElem?_eq_some_iff.1 h.frm).1 (fun e => by injection e with e; omega)]
  exact h.frm, by
  rw [hg.block cb (Array.getElem?_eq_some_iff.1 h.call).1 (fun e => by injection e with e; omega)]
  exact h.call, hm, h.lo, h.hi⟩
set_option maxRecDepth 100000 in
set_option maxHeartbeats 8000000 in
theorem read_walk (l : List UInt8) (w : World) (hlen : l.length < 1000000) {m : Int} (hm : w.cell? ⟨0, 0, none⟩ = some (.int .i64 m)) {tp tp2 : TypeId} {p p2 : Value} (hs : w.var? Tryz.prog "strconv.ErrSyntax" = some #[.iface tp p]) (hr : w.var? Tryz.prog "strconv.ErrRange" = some #[.iface tp2 p2]) (ht : Lib.TabIs Tryz.prog w "internal/strconv.uint64pow10" .u64 Lib.pow10Tab) :
  Calls Tryz.prog 9 #[.string ⟨l.toArray⟩] w fun e w' => e = .returned (readV (deskRead l)) ∧ Below w.heap.size w w' := by
 have hw0 : 0 < w.heap.size := by
  rcases Nat.lt_or_ge 0 w.heap.size with h | h
  ·exact h
  ·unfold World.cell? at hm
   rw [Array.getElem?_eq_none h] at hm
   cases hm
 have hsp := Lib.hid (fun (W : World) (hb : Below w.heap.size w W) => split_walk l W hlen (m := m) (by rw [hb.cell (p := ⟨0, 0, none⟩) hw0]; exact hm))
 have HS := Lib.hid hs
 have HR := Lib.hid hr
 have HT := Lib.hid ht
 have HW0 := Lib.hid hw0
 clear hm hs hr ht hw0
 go_enter Tryz.func9, Tryz.ntmps9
 go_wp2_with fail
 refine (hsp.out _ (below_al _ _)).mono ?_
 rintro e w1 ⟨rfl, rfl⟩
 go_wp2_with fail
 refine (forms_walk _).mono ?_
 rintro e w2 ⟨rfl, rfl⟩
 go_wp2_with fail
 have hst := Lib.hid (RdW.start w (words l))
 obtain ⟨ww, wl, hws⟩ : ∃ ww wl, words l = ww :: wl := by
  cases h : words l with
  | nil => exact absurd h (words_ne l)
  | cons a b => exact ⟨a, b, rfl⟩
 have HWS := Lib.hid hws
 generalize hnw : (words l).length = nw
 have HNW := Lib.hid (show nw = wl.length + 1 by rw [← hnw, hws]; rfl)
 have nw0 : 0 < nw := by rw [HNW.out]; omega
 have nwi : (0 : Int) < (nw : Int) := by omega
 clear hws hnw
 go_loopw [14] (fun i W => ∃ (k : Nat), i = .int .i64 k ∧ k ≤ 20 ∧ Hid (∀ j (hj : j < k) (h20 : j < forms.length), ¬ (forms[j].word = ww ∧ wl.length = forms[j].parts.length)) ∧ RdW w (words l) W) (fun i _ => 20 - intV16 i)
 case atStart => exact ⟨0, rfl, by omega, Lib.hid (fun j hj => by omega), hst.out⟩
 case round =>
  obtain ⟨k, rfl, hk, hno, hR⟩ := hrel
  by_cases h20 : k = 20
  ·subst h20
   obtain ⟨⟨d0, d1, d2, d3, d4, d5, d6⟩, f0, f1, f2, f3, f4, f5, f6⟩ := seven hR.res
   go_wp2_with fail
   have hd := Lib.hid (show deskRead l = none by
    unfold deskRead
    rw [HWS.out]
    dsimp only
    rw [formOf_drop (j := 20) (by decide) (fun i hi => hno.out i hi (by have : Desk.forms.length = 20 := rfl; omega))]
    rfl)
   refine bodyPost_ret (ret_cell (n := w.heap.size) rfl rfl (set7 hR.res _ _ _ _ _ _ _)) rfl ?_
   exact ⟨by rw [hd.out]; rfl, bel7 hR.bel (Nat.le_refl _) _ _ _ _ _ _ _⟩
  ·have hlt : k < 20 := by omega
   have hki : (k : Int) < 20 := by omega
   obtain ⟨q0, q1, q2⟩ := form_at k hlt
   have hp2 := form_two k hlt
   have c0 := cell_at hR.frm q0
   have c1 : wr.cell? ⟨w.heap.size + 1 + 1, k * 3 + 1, none⟩ = some (.string ⟨(Desk.forms[k]'hlt).word.toArray⟩) := cell_at hR.frm q1
   have c2 : wr.cell? ⟨w.heap.size + 1 + 1, k * 3 + 2, none⟩ = some (.string ⟨((Desk.forms[k]'hlt).parts.map partB).toArray⟩) := cell_at hR.frm q2
   have c3 : wr.cell? ⟨w.heap.size + 1, 0, none⟩ = some (.string ⟨ww.toArray⟩) := cell_at hR.row (by rw [HWS.out]; rfl)
   clear q0 q1 q2
   generalize hf : Desk.forms[k]'hlt = f at *
   have HF := Lib.hid hf
   clear hf
   have hfwl : (ByteArray.mk f.word.toArray).toList = f.word := Go.ByteArray.toList_eq _
   have hwwl : (ByteArray.mk ww.toArray).toList = ww := Go.ByteArray.toList_eq _
   have hfps : (ByteArray.mk (f.parts.map partB).toArray).size = f.parts.length := by show (f.parts.map partB).length = _; simp
   generalize hnp : f.parts.length = np at hfps hp2
   have hwr := wrap64_next np (by omega)
   have HNP := Lib.hid hnp
   clear hnp
   have hfpe : ∀ i (h : i < f.parts.length) (h2 : i < (ByteArray.mk (f.parts.map partB).toArray).size), (ByteArray.mk (f.parts.map partB).toArray)[i]'h2 = partB (f.parts[i]'h) := fun i h h2 => by
    show ((f.parts.map partB).toArray)[i]'(by simpa using h) = _
    simp
   generalize ByteArray.mk f.word.toArray = fw at *
   generalize hwb : ByteArray.mk ww.toArray = wwB at *
   have HWB := Lib.hid hwb
   clear hwb
   generalize ByteArray.mk (f.parts.map partB).toArray = fp at *
   have HFW := Lib.hid hfwl
   have HWW := Lib.hid hwwl
   have HFP := Lib.hid hfpe
   clear hfwl hwwl hfpe
   go_wp2_with fail
   have hR1 := hR.alloc (.cells #[.int .i64 f.kind, .string fw, .string fp] 54)
   have hfb := heap_alloc_new wr (.cells #[.int .i64 f.kind, .string fw, .string fp] 54)
   have hsz : (wr.alloc (.cells #[.int .i64 f.kind, .string fw, .string fp] 54)).heap.size = wr.heap.size + 1 := by simp
   have hge := hR.size
   clear c0 c1 c2 c3 hR
   generalize wr.alloc (.cells #[.int .i64 f.kind, .string fw, .string fp] 54) = W at *
   generalize wr.heap.size = fb at *
   have e0 : W.cell? ⟨fb, 0, none⟩ = some (.int .i64 f.kind) := cell_at hfb rfl
   have e1 : W.cell? ⟨fb, 1, none⟩ = some (.string fw) := cell_at hfb rfl
   have e2 : W.cell? ⟨fb, 2, none⟩ = some (.string fp) := cell_at hfb rfl
   have e3 : W.cell? ⟨w.heap.size + 1, 0, none⟩ = some (.string wwB) := by
    have := cell_at (i := 0) (v := strV ww) hR1.row (by rw [HWS.out]; rfl)
    rw [this, ← HWB.out]
    rfl
   by_cases hfit : f.word = ww
   ·have g1 : (fw.toList == wwB.toList) = true := by rw [HFW.out, HWW.out, hfit]; simp
    by_cases hlen2 : wl.length = f.parts.length
    ·have g2 : ((nw : Int) != (np : Int) + 1) = false := by rw [HNW.out, ← HNP.out]; simp; omega
     have HFit := Lib.hid (show f.word = ww ∧ wl.length = f.parts.length from ⟨hfit, hlen2⟩)
     clear hfit hlen2
     go_quiet (fail)
     have hR2 := hR1.drewN nq
     have hfb2 : (W.drewN nq).heap[fb]? = some (.cells #[.int .i64 f.kind, .string fw, .string fp] 54) := hfb
     clear e0 e1 e2 e3 g1 g2 hfb hR1
     generalize W.drewN nq = W2 at *
     have a0 : W2.cell? ⟨fb, 0, none⟩ = some (.int .i64 f.kind) := cell_at hfb2 rfl
     have a1 : W2.cell? ⟨fb, 1, none⟩ = some (.string fw) := cell_at hfb2 rfl
     have a2 : W2.cell? ⟨fb, 2, none⟩ = some (.string fp) := cell_at hfb2 rfl
     have hfbs : fb < W2.heap.size := (Array.getElem?_eq_some_iff.1 hfb2).1
     have hmk : ∀ W, (Instr.makeMap 55 none).run Tryz.prog W = .ok (.map (some W.heap.size)) (W.alloc (.map #[] 0)) := fun W => run_makeMap 55 W
     go_wp2_with fail
     have hin : InW w (words l) fb W2.heap.size #[.int .i64 f.kind, .string fw, .string fp] { kind := f.kind } 0 (.map []) ((W2.alloc (.cells (callCells f.kind {}) 34)).alloc (.map #[] 0)) := by
      have hm0 := World.ownsMap_made (W2.alloc (.cells (callCells f.kind {}) 34)) Tryz.prog 5 (plainElem (H := Unit) Tryz.prog 3)
      have hsz2 : (W2.alloc (.cells (callCells f.kind {}) 34)).heap.size = W2.heap.size + 1 := by simp
      rw [hsz2] at hm0
      refine ⟨(hR2.alloc _).alloc _, ?_, ?_, hm0, hge, hfbs⟩
      ·rw [heap_alloc_old _ _ (by simp; omega), heap_alloc_old _ _ hfbs]; exact hfb2
      ·rw [heap_alloc_old _ _ (by simp), heap_alloc_new]; rfl
     have HIN := Lib.hid hin
     clear hin hR2 hfb2 a0 a1 a2 hmk hfbs
     generalize W2.heap.size = cb at *
     go_loopw [40] (fun iv W => ∃ (i st sn : Nat) (c : CallV) (D : DataW Unit), iv = .int .i64 i ∧ i ≤ np ∧ Hid (takes { kind := f.kind } f.parts 0 0 wl = takes c (f.parts.drop i) st sn (wl.drop i)) ∧ Hid (SeenAt i D st sn) ∧ Hid (InW w (words l) fb cb #[.int .i64 f.kind, .string fw, .string fp] c i D W)) (fun iv _ => np - intV16 iv)
     case atStart => exact ⟨0, 0, 0, { kind := f.kind }, .map [], rfl, by omega, Lib.hid rfl, Lib.hid (.inl ⟨rfl, rfl, rfl, rfl⟩), HIN⟩
     case round =>
      obtain ⟨i, st, sn, c, D, rfl, hi, htk, hsn, hI⟩ := hrel
      by_cases hin2 : i = np
      ·subst hin2
       have hd := Lib.hid (show deskRead l = some c by
        unfold deskRead
        rw [HWS.out]
        dsimp only
        have hkl : k ≤ Desk.forms.length := by have : Desk.forms.length = 20 := rfl; omega
        rw [formOf_drop hkl (fun j hj => hno.out j hj (by omega)), drop_form HF, formOf_hit HFit.out]
        dsimp only
        rw [htk.out, ← HNP.out, List.drop_length]
        rfl)
       obtain ⟨⟨d0, d1, d2, d3, d4, d5, d6⟩, -⟩ := seven hI.out.call
       obtain ⟨⟨r0, r1, r2, r3, r4, r5, r6⟩, f0, f1, f2, f3, f4, f5, f6⟩ := seven hI.out.rd.res
       go_wp2_with fail
       refine bodyPost_ret (ret_cell (n := w.heap.size) rfl rfl (set7 hI.out.rd.res _ _ _ _ _ _ _)) rfl ?_
       exact ⟨by rw [hd.out]; rfl, bel7 hI.out.rd.bel (Nat.le_refl _) _ _ _ _ _ _ _⟩
      ·have hilt : i < np := by omega
       have hilt2 : i < f.parts.length := by rw [HNP.out]; exact hilt
       obtain ⟨p, hp⟩ : ∃ p, f.parts[i] = p := ⟨_, rfl⟩
       have hwll : wl.length = f.parts.length := HFit.out.2
       have hiwl : i < wl.length := by rw [hwll]; exact hilt2
       obtain ⟨x, hx⟩ : ∃ x, wl[i]'hiwl = x := ⟨_, rfl⟩
       have hbyte : fp[i]'(by omega) = partB p := by rw [HFP.out i hilt2, hp]
       have hxl : x.length < 1000000 := by
        have := words_len l x (by rw [HWS.out, ← hx]; exact List.mem_cons_of_mem _ (List.getElem_mem _))
        omega
       have hi2 : i < 2 := by omega
       have hI2 := hI.out.drew
       have hmm := hI2.map
       obtain ⟨c0, hrun, hat, -⟩ := World.ownsMap.lookup_int hmm (Maps.int_keyed Tryz.underlying5) Tryz.underlying55 Tryz.underlying3 (Tryz.zeroValue3 _) (key := .int .u8 ((partB p).toNat : Nat)) (kl := keyP p) (Maps.keyOf_int_mk Tryz.underlying5 (by cases p <;> rfl))
       obtain ⟨hsn0, hc00, hc01, hsn1⟩ := seen_look hsn.out hi2 p hat
       have e2 : wr.drew.cell? ⟨fb, 2, none⟩ = some (.string fp) := cell_at hI2.frm rfl
       have e3 : wr.drew.cell? ⟨w.heap.size + 1, i + 1, none⟩ = some (.string ⟨x.toArray⟩) := by
        refine cell_at (i := i + 1) (v := strV x) hI2.rd.row ?_
        rw [HWS.out]
        simp [List.getElem?_eq_getElem (show i < wl.length by omega), hx]
       have hii : (i : Int) + 1 < (nw : Int) := by have := HNW.out; omega
       have hii0 : (0 : Int) ≤ (i : Int) + 1 := by omega
       have hii1 : ((i : Int) + 1).toNat = i + 1 := by omega
       have hism : i < 1000000 := Nat.lt_trans hi2 (by decide)
       have hii2 := wrap64_next i hism
       have hii3 := i64_next i hism
       have hTk := Lib.hid (take_any cb c p c0 (seenOf p st sn) hsn0 x wr.drew hxl hI2.call (var_below HS.out hI2.rd.bel) (var_below HR.out hI2.rd.bel) (var_below HT.out hI2.rd.bel))
       have HSN := Lib.hid hsn1
       have HI2 := Lib.hid hI2
       have HX := Lib.hid hx
       have HP := Lib.hid hp
       clear hsn1 hI2 hx hp hat hmm hsn0
       go_wp2_with fail
       go_still_tail 15, (by kernel_rfl)
       change wpList _ _ _ _ _ wr.drew
       generalize wr.drew = W4 at *
       go_wp2_with fail
       refine hTk.out.mono ?_
       rintro e W5 ⟨ok, rfl, hg5, h5⟩
       have hdp : f.parts.drop i = p :: f.parts.drop (i + 1) := by rw [List.drop_eq_getElem_cons hilt2, HP.out]
       have hdw : wl.drop i = x :: wl.drop (i + 1) := by rw [List.drop_eq_getElem_cons hiwl, HX.out]
       clear hrun e2 e3 hii hii2 hii3 hii0 hii1
       cases hta : take c p (seenOf p st sn) x with
       | none =>
        rw [hta] at h5
        have h5 : ok = false := h5
        subst h5
        have hd := Lib.hid (show deskRead l = none by
         unfold deskRead
         rw [HWS.out]
         dsimp only
         have hkl : k ≤ Desk.forms.length := by have : Desk.forms.length = 20 := rfl; omega
         rw [formOf_drop hkl (fun j hj => hno.out j hj (by omega)), drop_form HF, formOf_hit HFit.out]
         dsimp only
         rw [htk.out, hdp, hdw, takes_stop hta])
        have hR5 : RdW w (words l) W5 := HI2.out.rd.grown hg5 (fun q hq => by have := HI2.out.lo; have := HI2.out.hi; injection hq with hq; omega)
        obtain ⟨⟨r0, r1, r2, r3, r4, r5, r6⟩, f0, f1, f2, f3, f4, f5, f6⟩ := seven hR5.res
        clear hdp hdw hta
        go_wp2_with fail
        refine bodyPost_ret (ret_cell (n := w.heap.size) rfl rfl (set7 hR5.res _ _ _ _ _ _ _)) rfl ?_
        exact ⟨by rw [hd.out]; rfl, bel7 hR5.bel (Nat.le_refl _) _ _ _ _ _ _ _⟩
       | some d =>
        rw [hta] at h5
        obtain ⟨h5, hcb5⟩ : ok = true ∧ W5.heap[cb]? = some (.cells (callCells d.kind d) 34) := h5
        subst h5
        have hI5 := HI2.out.took hg5 hcb5
        have htk2 := Lib.hid (show takes { kind := f.kind } f.parts 0 0 wl = takes d (f.parts.drop (i + 1)) (stOf p st) (snOf p sn) (wl.drop (i + 1)) by
         rw [htk.out, hdp, hdw, takes_step hta])
        clear hdp hdw hta
        obtain ⟨c1, hrun, hat, -⟩ := World.ownsMap.lookup_int hI5.map (Maps.int_keyed Tryz.underlying5) Tryz.underlying55 Tryz.underlying3 (Tryz.zeroValue3 _) (key := .int .u8 ((partB p).toNat : Nat)) (kl := keyP p) (Maps.keyOf_int_mk Tryz.underlying5 (by cases p <;> rfl))
        obtain ⟨-, hc10, hc11, hsn1⟩ := seen_look hsn.out hi2 p hat
        have e2 : W5.cell? ⟨fb, 2, none⟩ = some (.string fp) := cell_at hI5.frm rfl
        have hcw := wrap64_one hc10 hc11
        have hcw2 := i64_one hc10 hc11
        have hval : plainElem (H := Unit) Tryz.prog 3 (.int .i64 (c1 + 1)) = some (.lit (.int .i64 (c1 + 1)), []) := plainElem_int Tryz.underlying3 (wf_one hc10 hc11)
        have hkey : keyOf Tryz.prog 5 (.int .u8 ((partB p).toNat : Nat)) = some (keyP p) := Maps.keyOf_int_mk Tryz.underlying5 (by cases p <;> rfl)
        have HSN1 := Lib.hid hsn1
        have HI5 := Lib.hid hI5
        clear hat hsn1 hI5 hcb5 hg5
        go_wp2_with (at_mapUpdate; refine wpList_mapUpdate_own _ rfl _ _ _ 55 rfl 5 3 (Maps.int_keyed Tryz.underlying5) Tryz.underlying55 (plainElem Tryz.prog 3) (cb + 1) i D rfl HI5.out.map (by unfold maxLen; omega) _ _ (keyP p) rfl rfl hkey (.lit (.int .i64 (c1 + 1))) [] hval ?_; intro W6 hm6 hg6)
        exact ⟨⟨i + 1, stOf p st, snOf p sn, d, _, by first | rfl | simp, hilt, htk2, HSN1, Lib.hid (HI5.out.saw hg6 hm6)⟩, by simp [intV16]; omega⟩
    ·have g2 : ((nw : Int) != (np : Int) + 1) = true := by rw [HNW.out, ← HNP.out]; simp; omega
     have hno2 := Lib.hid (show ¬ (f.word = ww ∧ wl.length = f.parts.length) from fun h => hlen2 h.2)
     clear hfit hlen2
     go_quiet (fail)
     have hR2 := hR1.drewN nq
     generalize W.drewN nq = W2 at *
     go_wp2_with fail
     exact ⟨⟨k + 1, by first | rfl | simp, hlt, Lib.hid (noFit_next hno HF hno2), hR2⟩, by simp [intV16]; omega⟩
   ·have g1 : (fw.toList == wwB.toList) = false := by rw [HFW.out, HWW.out]; simpa using hfit
    have hno2 := Lib.hid (show ¬ (f.word = ww ∧ wl.length = f.parts.length) from fun h => hfit h.1)
    clear hfit
    go_quiet (fail)
    have hR2 := hR1.drewN nq
    generalize W.drewN nq = W2 at *
    go_wp2_with fail
    exact ⟨⟨k + 1, by first | rfl | simp, hlt, Lib.hid (noFit_next hno HF hno2), hR2⟩, by simp [intV16]; omega⟩
end Go.Proofs.YtkjdlganghbgaaaGreatDoor
