/- A tree that has nothing, walked. -/
import Derived.Test.YtbamnpenkjfgkaaGreatUK
import Derived.Laws.OwnMore
import Derived.OwnWalk
import Derived.Test.YtbamnpenkjfgkaaGreatUA
import Derived.Maps.OwnSet
import Derived.Test.YtbamnpenkjfgkaaGreatUG
namespace Go.Proofs.YtbamnpenkjfgkaaGreat
open Go.RowKit
def BlkNil : Prop:=∀ w : World,Calls Tryz.prog 113 #[.slice none 0 0] w fun e w'=>(∃ (A : Option Addr) (c : Nat),e=.returned (.slice A 0 c))∧Below w.heap.size w w'
set_option maxRecDepth 100000 in
set_option maxHeartbeats 8000000 in
theorem extsCheck0 (A : Option Addr) (c : Nat) (w : World) : Calls Tryz.prog 162 #[.slice A 0 c] w fun e w'=>e=.returned (.bool true)∧w'=w:=by
  go_enter Tryz.func162,Tryz.ntmps162
  go_wp2
  go_loopw [7] (fun i wr=>i=.int .i64 0∧wr=w) (fun i _=>0)
  case atStart=>exact ⟨rfl,rfl⟩
  case round =>
    obtain ⟨rfl,rfl⟩:=hrel
    go_wp2
    go_ret
    exact ⟨rfl,rfl⟩
set_option maxRecDepth 100000 in
set_option maxHeartbeats 8000000 in
theorem extsEnd0 (A : Option Addr) (c : Nat) (w : World) : Calls Tryz.prog 101 #[.slice A 0 c] w fun e w'=>e=.returned (.int .i64 0)∧w'=w:=by
  go_enter Tryz.func101,Tryz.ntmps101
  go_wp2_with (go_at_call 162;refine (extsCheck0 A c _).mono ?_;rintro e w3 ⟨rfl,rfl⟩)
  go_ret
  exact ⟨rfl,rfl⟩
set_option maxRecDepth 100000 in
set_option maxHeartbeats 8000000 in
theorem add0 (g : Nat) (A : Option Addr) (c : Nat) (w : World) : Calls Tryz.prog 227 #[pV g,.slice A 0 c] w fun e w'=>e=.returned (.tuple #[])∧w'=w:=by
  unfold pV
  go_enter Tryz.func227,Tryz.ntmps227
  go_wp2
  go_loopw [8] (fun i wr=>i=.int .i64 0∧wr=w) (fun i _=>0)
  case atStart=>exact ⟨rfl,rfl⟩
  case round =>
    obtain ⟨rfl,rfl⟩:=hrel
    go_wp2
    exact bodyPost_end (results_none rfl _ _ _) rfl ⟨rfl,rfl⟩
def WkIs (w : World) (g : Nat) : Prop:=∃ (v0 v1 : Value) (h : Nat),w.heap[g]?=some (.cells #[v0,v1,.slice none 0 0,.slice (some ⟨h,0,none⟩) 4096 4096] 271 (0,0))∧h < w.heap.size∧∀ k,k < 4096→w.cell? ⟨h,k,none⟩=some (.string ⟨#[]⟩)
theorem WkIs.below {w w' : World} {g : Nat} (h : WkIs w g) (hb : Below w.heap.size w w') : WkIs w' g:=by
  obtain ⟨v0,v1,h,h1,h2,h3⟩:=h
  exact ⟨v0,v1,h,row_below h1 hb,Nat.lt_of_lt_of_le h2 hb.size,fun k hk=>(hb.cell (p:=⟨h,k,none⟩) h2).trans (h3 k hk)⟩
set_option maxRecDepth 100000 in
set_option maxHeartbeats 8000000 in
theorem nodes0 {w : World} {g : Nat} (hW : WkIs w g) : Calls Tryz.prog 159 #[pV g] w fun e w'=>e=.returned (.slice none 0 0)∧w'=w:=by
  obtain ⟨v0,v1,h,h1,h2,h3⟩:=hW
  have lg:=row_lt h1
  have c3:=row_cell (i:=3) h1 rfl
  have H3:=Lib.hid h3
  clear h1 h3
  unfold pV
  go_enter Tryz.func159,Tryz.ntmps159
  go_wp2
  go_loopw [3,11] (fun o i wr=>∃ k : Nat,o=.slice none 0 0∧i=.int .i64 k∧k≤4096∧wr=w) (fun _ i _=>4096 - intV i)
  case atStart=>exact ⟨0,rfl,rfl,by omega,rfl⟩
  case round =>
    obtain ⟨k,rfl,rfl,hk,rfl⟩:=hrel
    by_cases hkn : k=4096
    · subst hkn
      go_wp2
      go_ret
      exact ⟨rfl,rfl⟩
    · have ck:=H3.out k (by omega)
      have hk2 : (k : Int) < 4096:=by omega
      go_wp2
      exact ⟨⟨k+1,by first | rfl | trivial,by first | rfl | simp,by omega,by first | rfl | trivial⟩,by simp [intV];omega⟩
set_option maxRecDepth 100000 in
set_option maxHeartbeats 8000000 in
theorem meets0 (HB : BlkNil) {w : World} {g : Nat} (hW : WkIs w g) : Calls Tryz.prog 229 #[pV g,.slice none 0 0] w fun e w'=>e=.returned (.bool false)∧Below w.heap.size w w':=by
  have HBl:=Lib.hid HB
  have HW:=Lib.hid hW
  clear hW HB
  unfold pV
  go_enter Tryz.func229,Tryz.ntmps229
  go_wp2_with (first
    | (go_at_call 113;refine (HBl.out _).mono ?_;rintro e w1 ⟨⟨A,c,rfl⟩,hb1⟩;have HB1:=Lib.hid hb1;clear hb1)
    | (go_at_call 159;refine (nodes0 (WkIs.below (WkIs.below HW.out HB1.out) (below_one _ _))).mono ?_;rintro e w3 ⟨rfl,rfl⟩)
    | (go_at_call 210;refine (contains0 _ _ _ _).mono ?_;rintro e w3 ⟨rfl,rfl⟩))
  go_ret
  exact ⟨rfl,bl_alloc HB1.out _⟩
theorem wk_new (W : World) (v0 v1 : Value) (h n : Nat) (hn : n=W.heap.size) (hh : h < W.heap.size) (hc : ∀ k,k < 4096→W.cell? ⟨h,k,none⟩=some (.string ⟨#[]⟩)) : WkIs (W.alloc (.cells #[v0,v1,.slice none 0 0,.slice (some ⟨h,0,none⟩) 4096 4096] 271)).drew n:=by
  subst hn
  exact ⟨v0,v1,h,row_new W _,by rw [show (W.alloc (.cells #[v0,v1,.slice none 0 0,.slice (some ⟨h,0,none⟩) 4096 4096] 271)).drew.heap.size=W.heap.size+1 from alloc_sz W _];omega,fun k hk=>((below_one W _).cell (p:=⟨h,k,none⟩) hh).trans (hc k hk)⟩
theorem four4 {w : World} {n : Nat} {T : TypeId} {v0 v1 v2 v3 : Value} (h : w.heap[n]?=some (.cells #[v0,v1,v2,v3] T (0,0))) : n < w.heap.size∧w.cell? ⟨n,2,none⟩=some v2 :=
  ⟨row_lt h,row_cell h rfl⟩
theorem WkIs.row {w : World} {g : Nat} (h : WkIs w g) : g < w.heap.size∧w.cell? ⟨g,2,none⟩=some (.slice none 0 0):=by
  obtain ⟨v0,v1,h,h1,_⟩:=h
  exact four4 h1
theorem Tryz.info402 : (Tryz.prog.info? 402).map (fun i=>(i.zero,i.size,i.bytes))=some (some (.slice none 0 0),1,24):=by kernel_rfl
theorem Tryz.info9' : (Tryz.prog.info? 9).map (fun i=>(i.zero,i.size,i.bytes))=some (some (.string ⟨#[]⟩),1,16):=by kernel_rfl
theorem make_lv : ∃ M,∀ W,(Instr.makeSlice 269 (.int .i64 0) (.int .i64 0)).run Tryz.prog W=.ok (.slice (some ⟨W.heap.size,0,none⟩) 0 0) (W.alloc (.cells M 402)):=by
  obtain ⟨i0,hi,hz0,hz1,hz2⟩:=info_parts Tryz.info402
  refine ⟨madeCells (Value.slice none 0 0).cells (0 * i0.size),fun W=>?_⟩
  have hr:=run_make (P:=Tryz.prog) W 269 402 i0 (.slice none 0 0) Tryz.underlying269 hi hz0 .i64 .i64 0 0 (by omega) (Int.le_refl _) (by rw [hz2];omega) (by omega)
  simpa using hr
theorem make_texts : ∃ M : Array Value,(∀ k,k < 4096→M[k]?=some (.string ⟨#[]⟩))∧∀ W,(Instr.makeSlice 38 (.int .i64 4096) (.int .i64 4096)).run Tryz.prog W=.ok (.slice (some ⟨W.heap.size,0,none⟩) 4096 4096) (W.alloc (.cells M 9)):=by
  obtain ⟨i0,hi,hz0,hz1,hz2⟩:=info_parts Tryz.info9'
  refine ⟨madeCells #[Value.string ⟨#[]⟩] 4096,fun k hk=>?_,fun W=>?_⟩
  · rw [← Array.getElem?_toList,toList_madeCells_one,List.getElem?_replicate,if_pos hk]
  · have hr:=run_make (P:=Tryz.prog) W 38 9 i0 (.string ⟨#[]⟩) Tryz.underlying38 hi hz0 .i64 .i64 4096 4096 (by omega) (Int.le_refl _) (by rw [hz2];omega) (by omega)
    rw [hz1] at hr
    exact hr
set_option maxRecDepth 100000 in
set_option maxHeartbeats 8000000 in
theorem fwalk0 (HB : BlkNil) (A : Option Addr) (c : Nat) (d : Nat) (w : World) : Calls Tryz.prog 158 #[.agg #[.int .i64 0,.slice A 0 c],.func (.func 18) #[pV d] #[]] w fun e w'=>(∃ g,e=.returned (.tuple #[pV g,.int .i64 0])∧WkIs w' g)∧Below w.heap.size w w':=by
  obtain ⟨M1,hm1⟩:=make_lv
  obtain ⟨M2,hc2,hm2⟩:=make_texts
  have HE:=Lib.hid (fun W=>(entCheck_walk (.slice A 0 c) [] true (by simp) (by simp) W ⟨A,c,rfl,fun j x h=>by simp at h⟩).mono fun e w' h=>(⟨by obtain ⟨⟨q,he,hq⟩,_⟩:=h;cases q;exact absurd (hq.2 (fun i x hi=>by simp at hi)) (by decide);exact he,h.2⟩ : e=.returned (.bool true)∧Below W.heap.size W w'))
  have HB':=Lib.hid HB
  have HC2:=Lib.hid hc2
  clear HB hc2
  unfold pV at *
  have hr0:=Lib.hid (row_new w (.cells #[.int .i64 0,.slice A 0 c] 180))
  have hb0:=Lib.hid (below_one w (.cells #[.int .i64 0,.slice A 0 c] 180))
  go_enter Tryz.func158,Tryz.ntmps158
  go_upto_region 3 with (go_at_call 226;refine (HE.out _).mono ?_;rintro e w1 ⟨rfl,hb1⟩;have HB1:=Lib.hid (bl_trans hb0.out hb1);have hr1:=Lib.hid (row_below hr0.out hb1);clear hb1;obtain ⟨l1,c0,c1,f0,f1⟩:=two hr1.out)
  go_region
  · have HW2:=Lib.hid (wk_new ((w1.alloc (.cells M1 402)).alloc (.cells M2 9)) (.func (.func 18) #[.pointer (some ⟨d,0,none⟩)] #[]) (.slice (some ⟨w1.heap.size,0,none⟩) 0 0) (w1.heap.size+1) (w1.heap.size+1+1) (by rw [alloc_sz,alloc_sz]) (by rw [alloc_sz,alloc_sz];omega) (fun k hk=>row_cell (row_new2 w1 _ _) (HC2.out k hk)))
    have HB2 : Hid (Below w.heap.size w (((w1.alloc (.cells M1 402)).alloc (.cells M2 9)).alloc (.cells #[.func (.func 18) #[.pointer (some ⟨d,0,none⟩)] #[],.slice (some ⟨w1.heap.size,0,none⟩) 0 0,.slice none 0 0,.slice (some ⟨w1.heap.size+1,0,none⟩) 4096 4096] 271)).drew):=Lib.hid (bl_drewN (bl_alloc (bl_alloc (bl_alloc HB1.out _) _) _) 1)
    have hr2 : Hid ((((w1.alloc (.cells M1 402)).alloc (.cells M2 9)).alloc (.cells #[.func (.func 18) #[.pointer (some ⟨d,0,none⟩)] #[],.slice (some ⟨w1.heap.size,0,none⟩) 0 0,.slice none 0 0,.slice (some ⟨w1.heap.size+1,0,none⟩) 4096 4096] 271)).drew.heap[w.heap.size]?=some (.cells #[.int .i64 0,.slice A 0 c] 180 (0,0))):=Lib.hid (row_old (row_old (row_old hr1.out)))
    generalize (((w1.alloc (.cells M1 402)).alloc (.cells M2 9)).alloc (.cells #[.func (.func 18) #[.pointer (some ⟨d,0,none⟩)] #[],.slice (some ⟨w1.heap.size,0,none⟩) 0 0,.slice none 0 0,.slice (some ⟨w1.heap.size+1,0,none⟩) 4096 4096] 271)).drew=w2 at HW2 HB2 hr2 ⊢
    generalize w1.heap.size+1+1=g at *
    clear c0 c1 f0 f1
    obtain ⟨l2,c0,c1,f0,f1⟩:=two hr2.out
    obtain ⟨lg,e2⟩:=HW2.out.row
    go_wp2_with (first
      | (go_at_call 227;refine (add0 g A c _).mono ?_;rintro e w3 ⟨rfl,rfl⟩)
      | (go_at_call 162;refine (extsCheck0 _ _ _).mono ?_;rintro e w3 ⟨rfl,rfl⟩)
      | (go_at_call 229;refine (meets0 HB'.out HW2.out).mono ?_;rintro e w3 ⟨rfl,hb3⟩;have HB3:=Lib.hid (bl_trans HB2.out hb3);have HW3:=Lib.hid (HW2.out.below hb3);clear hb3))
    go_ret2
    exact ⟨⟨g,rfl,HW3.out⟩,HB3.out⟩
  · have HW2:=Lib.hid (wk_new ((w1.alloc (.cells M2 9)).alloc (.cells M1 402)) (.func (.func 18) #[.pointer (some ⟨d,0,none⟩)] #[]) (.slice (some ⟨w1.heap.size+1,0,none⟩) 0 0) (w1.heap.size) (w1.heap.size+1+1) (by rw [alloc_sz,alloc_sz]) (by rw [alloc_sz,alloc_sz];omega) (fun k hk=>row_cell (row_old (row_new w1 _)) (HC2.out k hk)))
    have HB2 : Hid (Below w.heap.size w (((w1.alloc (.cells M2 9)).alloc (.cells M1 402)).alloc (.cells #[.func (.func 18) #[.pointer (some ⟨d,0,none⟩)] #[],.slice (some ⟨w1.heap.size+1,0,none⟩) 0 0,.slice none 0 0,.slice (some ⟨w1.heap.size,0,none⟩) 4096 4096] 271)).drew):=Lib.hid (bl_drewN (bl_alloc (bl_alloc (bl_alloc HB1.out _) _) _) 1)
    have hr2 : Hid ((((w1.alloc (.cells M2 9)).alloc (.cells M1 402)).alloc (.cells #[.func (.func 18) #[.pointer (some ⟨d,0,none⟩)] #[],.slice (some ⟨w1.heap.size+1,0,none⟩) 0 0,.slice none 0 0,.slice (some ⟨w1.heap.size,0,none⟩) 4096 4096] 271)).drew.heap[w.heap.size]?=some (.cells #[.int .i64 0,.slice A 0 c] 180 (0,0))):=Lib.hid (row_old (row_old (row_old hr1.out)))
    generalize (((w1.alloc (.cells M2 9)).alloc (.cells M1 402)).alloc (.cells #[.func (.func 18) #[.pointer (some ⟨d,0,none⟩)] #[],.slice (some ⟨w1.heap.size+1,0,none⟩) 0 0,.slice none 0 0,.slice (some ⟨w1.heap.size,0,none⟩) 4096 4096] 271)).drew=w2 at HW2 HB2 hr2 ⊢
    generalize w1.heap.size+1+1=g at *
    clear c0 c1 f0 f1
    obtain ⟨l2,c0,c1,f0,f1⟩:=two hr2.out
    obtain ⟨lg,e2⟩:=HW2.out.row
    go_wp2_with (first
      | (go_at_call 227;refine (add0 g A c _).mono ?_;rintro e w3 ⟨rfl,rfl⟩)
      | (go_at_call 162;refine (extsCheck0 _ _ _).mono ?_;rintro e w3 ⟨rfl,rfl⟩)
      | (go_at_call 229;refine (meets0 HB'.out HW2.out).mono ?_;rintro e w3 ⟨rfl,hb3⟩;have HB3:=Lib.hid (bl_trans HB2.out hb3);have HW3:=Lib.hid (HW2.out.below hb3);clear hb3))
    go_ret2
    exact ⟨⟨g,rfl,HW3.out⟩,HB3.out⟩
theorem wk3 {w : World} {g : Nat} (h : WkIs w g) (n : Nat) : WkIs (w.drewN n) g:=h
set_option maxRecDepth 100000 in
set_option maxHeartbeats 8000000 in
theorem fWalk0 (HB : BlkNil) (A : Option Addr) (c : Nat) (d : Nat) (w : World) : Calls Tryz.prog 98 #[.agg #[.int .i64 0,.slice A 0 c],.func (.func 18) #[pV d] #[]] w fun e w'=>e=.returned (.tuple #[.slice none 0 0,.slice none 0 0,.int .i64 0])∧Below w.heap.size w w':=by
  have HF:=Lib.hid (fwalk0 HB A c d)
  have hb0:=Lib.hid (below_one w (.cells #[.int .i64 0,.slice A 0 c] 180))
  clear HB
  unfold pV at *
  go_enter Tryz.func98,Tryz.ntmps98
  go_upto_region 4 with (go_at_call 158;refine (HF.out _).mono ?_;rintro e w1 ⟨⟨g,rfl,hw1⟩,hb1⟩;have HB1:=Lib.hid (bl_trans hb0.out hb1);have HW1:=Lib.hid hw1;clear hb1 hw1;obtain ⟨lg,e2⟩:=HW1.out.row)
  have HN:=Lib.hid (fun n=>nodes0 (wk3 HW1.out n))
  unfold pV at HN
  go_quiet ((go_at_call 159;exact Calls.quiet_of_same (HN.out _)))
  go_wp2
  go_ret3
  exact ⟨rfl,bl_drewN HB1.out _⟩
end Go.Proofs.YtbamnpenkjfgkaaGreat
namespace Go.Proofs.YtbamnpenkjfgkaaGreat
open Go.RowKit Go.Maps
structure KC where
  d : Nat
  b : Nat
  l : Nat
  m : Nat
  y4 : Nat
  y5 : Nat
  y6 : Nat
  y7 : Nat
  y8 : Nat
  k : Nat
  N : Nat
  X : Nat
  O : Nat
  P : Nat
  B : Nat
  s : Sup
def NodeV (v : Value) (n : Nat) : Prop:=∃ (p : Bool) (li si : Nat) (A : Option Addr) (cp : Nat),v=.agg #[.int .i64 n,.bool p,.int .i64 li,.int .i64 si,.int .i64 0,.slice A 0 cp]∧n≤2∧li≤100∧si≤262144
open Classical in
noncomputable def RN (v : Value) : Option (DataW Unit × List MemPlace):=if h : ∃ n,NodeV v n then some (.lit (.int .i64 h.choose),[]) else none
theorem NodeV.one {v : Value} {n n' : Nat} (h : NodeV v n) (h' : NodeV v n') : n=n':=by
  obtain ⟨p,li,si,A,cp,rfl,_⟩:=h
  obtain ⟨p',li',si',A',cp',e,_⟩:=h'
  simp at e
  omega
theorem RN_mk {v : Value} {n : Nat} (h : NodeV v n) : RN v=some (.lit (.int .i64 n),[]):=by
  have hx : ∃ n,NodeV v n:=⟨n,h⟩
  unfold RN
  rw [dif_pos hx,NodeV.one hx.choose_spec h]
theorem RN_inv {v : Value} {z : DataW Unit × List MemPlace} (h : RN v=some z) : ∃ n,NodeV v n∧z.1=.lit (.int .i64 (n : Nat)):=by
  unfold RN at h
  split at h
  · rename_i hx
    cases h
    exact ⟨_,hx.choose_spec,rfl⟩
  · cases h
def RX (v : Value) : Option (DataW Unit × List MemPlace):=match v with
  | .slice none 0 0=>some (.lit (.bool true),[])
  | _=>none
theorem RX_inv {v : Value} {z : DataW Unit × List MemPlace} (h : RX v=some z) : v=.slice none 0 0:=by
  unfold RX at h
  split at h
  · rfl
  · cases h
noncomputable def RI : Value→Option (DataW Unit × List MemPlace):=plainElem Tryz.prog 3
structure KC.ok (c : KC) (n0 : Nat) : Prop where
  k : n0≤c.k∧c.k < c.B
  N : n0≤c.N∧c.N < c.B
  X : n0≤c.X∧c.X < c.B
  O : n0≤c.O∧c.O < c.B
  P : n0≤c.P∧c.P < c.B
  ne : c.k ≠ c.N∧c.k ≠ c.X∧c.k ≠ c.O∧c.k ≠ c.P∧c.N ≠ c.X∧c.N ≠ c.O∧c.N ≠ c.P∧c.X ≠ c.O∧c.X ≠ c.P∧c.O ≠ c.P
def kCells (c : KC) (fv : Value) : Array Value:=#[.int .i64 c.b,.int .i64 c.l,.int .i64 c.m,.int .i64 1,.int .i64 c.y4,.int .i64 c.y5,.int .i64 c.y6,.int .i64 c.y7,.int .i64 c.y8,.func (.func 18) #[.pointer (some ⟨c.d,0,none⟩)] #[],fv,.map (some c.N),.map (some c.X),.map (some c.O),.slice none 0 0,.map (some c.P),.int .i64 c.s.b,.int .i64 c.s.l,.int .i64 c.s.m,.int .i64 c.s.cur,.int .i64 c.s.ino,.int .i64 c.s.log,.int .i64 c.s.frm,.int .i64 c.s.tto,.int .i64 c.s.len,.int .i64 c.s.mov]
structure KS (w0 : World) (c : KC) (F nn : Nat) (Dn : DataW Unit) (nx : Nat) (Dx : DataW Unit) (fv : Value) (xs : List Value) (w : World) : Prop where
  row : w.heap[c.k]?=some (.cells (kCells c fv) 100 (0,0))
  own : w.ownsRow c.B 93 2 fv F xs
  ints : ∀ v ∈ xs,∃ n : Int,v=.int .i64 n
  mn : w.ownsMap Tryz.prog 3 RN c.N nn Dn
  mx : w.ownsMap Tryz.prog 3 RX c.X nx Dx
  mo : w.ownsMap Tryz.prog 3 RI c.O 0 (.map [])
  mp : w.ownsMap Tryz.prog 3 RI c.P 0 (.map [])
  bl : Below w0.heap.size w0 w
  sz : c.B≤w.heap.size
def KI (w0 : World) (c : KC) (F nn : Nat) (Dn : DataW Unit) (nx : Nat) (Dx : DataW Unit) (w : World) : Prop:=∃ fv xs,KS w0 c F nn Dn nx Dx fv xs w
section
variable {w0 : World} {c : KC} {F nn nx : Nat} {Dn Dx : DataW Unit} {fv : Value} {xs : List Value} {w w' : World}
theorem KS.below (h : KS w0 c F nn Dn nx Dx fv xs w) (hc : c.ok w0.heap.size) (hb : Below w.heap.size w w') : KS w0 c F nn Dn nx Dx fv xs w':=by
  have hg:=below_grown none hb
  exact ⟨row_below h.row hb,own_below h.own hb,h.ints,h.mn.kept hg (by simp),h.mx.kept hg (by simp),h.mo.kept hg (by simp),h.mp.kept hg (by simp),bl_trans h.bl hb,Nat.le_trans h.sz hb.size⟩
theorem KI.below (h : KI w0 c F nn Dn nx Dx w) (hc : c.ok w0.heap.size) (hb : Below w.heap.size w w') : KI w0 c F nn Dn nx Dx w':=by
  obtain ⟨fv,xs,h⟩:=h
  exact ⟨fv,xs,h.below hc hb⟩
theorem KS.appended (h : KS w0 c F nn Dn nx Dx fv xs w) (hc : c.ok w0.heap.size) (o : Obj) {w3 : World} {fv' : Value} {ys : List Value} {F' : Nat} (hi : ∀ v ∈ ys,∃ n : Int,v=.int .i64 n) (ho : w3.ownsRow c.B 93 2 fv' F' ys) (hg : (w.alloc o).grownBy w3 fv.ownBlock) : KS w0 c F' nn Dn nx Dx fv' ys (w3.setCell ⟨c.k,10,none⟩ fv'):=by
  have h1:=h.below hc (below_one w o)
  have hB : ∀ q,fv.ownBlock=some q→c.B≤q:=fun q hq=>(h.own.lt q hq).1
  have hne : ∀ q,q < c.B→some q ≠ fv.ownBlock:=fun q hq e=>by have:=hB q e.symm;omega
  have k:=hc.k
  have N:=hc.N
  have X:=hc.X
  have O:=hc.O
  have P:=hc.P
  have ne:=hc.ne
  have hrow : w3.heap[c.k]?=some (.cells (kCells c fv) 100 (0,0)):=by
    rw [hg.block c.k (Nat.lt_of_lt_of_le k.2 h1.sz) (hne _ k.2)];exact h1.row
  refine ⟨?_,own_set ho k.2 _ _,hi,(h1.mn.kept hg (hne _ N.2)).setCell (Ne.symm ne.1) _,(h1.mx.kept hg (hne _ X.2)).setCell (Ne.symm ne.2.1) _,(h1.mo.kept hg (hne _ O.2)).setCell (Ne.symm ne.2.2.1) _,(h1.mp.kept hg (hne _ P.2)).setCell (Ne.symm ne.2.2.2.1) _,?_,?_⟩
  · have:=row_set (i:=10) hrow fv'
    unfold kCells at *
    simpa using this
  · exact be_set (h1.bl.grown hg (Nat.le_trans (Nat.le_trans k.1 (Nat.le_of_lt k.2)) h1.sz) (fun q hq=>Nat.le_trans (Nat.le_trans k.1 (Nat.le_of_lt k.2)) (hB q hq))) k.1 _ _
  · rw [size_set];exact Nat.le_trans h1.sz hg.size
end
def Kept (w w' : World) : Prop:=∀ (q : Nat) (cs : Array Value) (t : TypeId) (fz : Nat × Nat),w.heap[q]?=some (.cells cs t fz)→t ≠ 93→t ≠ 100→w'.heap[q]?=some (.cells cs t fz)
def KeptM (w w' : World) : Prop:=∀ (q : Nat) (es : Array MapEntry) (ck : Nat),w.heap[q]?=some (.map es ck)→w'.heap[q]?=some (.map es ck)
theorem KeptM.below {a b : World} (h : Below a.heap.size a b) : KeptM a b:=fun q es ck hq=>row_below hq h
theorem KeptM.own {w w' : World} (h : KeptM w w') {R : Value→Option (DataW Unit × List MemPlace)} {b n : Nat} {D : DataW Unit} (hm : w.ownsMap Tryz.prog 3 R b n D) : w'.ownsMap Tryz.prog 3 R b n D:=by
  obtain ⟨es,ck,hb,h1⟩:=hm
  exact ⟨es,ck,h b es ck hb,h1⟩
theorem Kept.trans {a b c : World} (h : Kept a b) (h' : Kept b c) : Kept a c:=fun q cs t fz hq h1 h2=>h' q cs t fz (h q cs t fz hq h1 h2) h1 h2
theorem Kept.below {a b : World} (h : Below a.heap.size a b) : Kept a b:=fun q cs t fz hq _ _=>row_below hq h
theorem Kept.refl (a : World) : Kept a a:=fun _ _ _ _ hq _ _=>hq
theorem KS.keeps {w0 : World} {c : KC} {F nn nx : Nat} {Dn Dx : DataW Unit} {fv : Value} {xs : List Value} {w : World} (h : KS w0 c F nn Dn nx Dx fv xs w) (o : Obj) {w3 : World} {fv' : Value} (hg : (w.alloc o).grownBy w3 fv.ownBlock) : Kept w (w3.setCell ⟨c.k,10,none⟩ fv'):=fun q cs t fz hq h1 h2=>by
  have hk : q ≠ c.k:=fun e=>by
    have:=h.row
    rw [← e,hq] at this
    simp at this
    exact h2 this.2.1
  have hf : some q ≠ fv.ownBlock:=fun e=>by
    rcases h.own.2 with ⟨hv,_⟩ | ⟨g,cap,cur,hv,_,hgr,_⟩
    · rw [hv] at e;simp [Value.ownBlock] at e
    · rw [hv] at e
      have e2 : q=g:=by simpa [Value.ownBlock] using e
      rw [← e2,hq] at hgr
      simp at hgr
      exact h1 hgr.2.1
  refine row_setO ?_ (Ne.symm hk) _
  rw [hg.block q (by have:=row_lt hq;rw [alloc_sz];omega) hf]
  exact row_old hq
theorem KS.keepsM {w0 : World} {c : KC} {F nn nx : Nat} {Dn Dx : DataW Unit} {fv : Value} {xs : List Value} {w : World} (h : KS w0 c F nn Dn nx Dx fv xs w) (o : Obj) {w3 : World} {fv' : Value} (hg : (w.alloc o).grownBy w3 fv.ownBlock) : KeptM w (w3.setCell ⟨c.k,10,none⟩ fv'):=fun q es ck hq=>by
  have hk : q ≠ c.k:=fun e=>by
    have:=h.row
    rw [← e,hq] at this
    cases this
  have hf : some q ≠ fv.ownBlock:=fun e=>by
    rcases h.own.2 with ⟨hv,_⟩ | ⟨g,cap,cur,hv,_,hgr,_⟩
    · rw [hv] at e;simp [Value.ownBlock] at e
    · rw [hv] at e
      have e2 : q=g:=by simpa [Value.ownBlock] using e
      rw [← e2,hq] at hgr
      cases hgr
  refine row_setO ?_ (Ne.symm hk) _
  rw [hg.block q (by have:=row_lt hq;rw [alloc_sz];omega) hf]
  exact row_old hq
theorem cell_two_new (w : World) (x y : Value) (t : TypeId) : ∀ j u,[x,y][j]?=some u→(w.alloc (.cells #[x,y] t)).cell? ((⟨w.heap.size,0,none⟩ : Addr).add j)=some u:=by
  intro j u hj
  have hr:=row_new w (.cells #[x,y] t)
  match j,hj with
  | 0,hj=>simp at hj;subst hj;exact row_cell (i:=0) hr rfl
  | 1,hj=>simp at hj;subst hj;exact row_cell (i:=1) hr rfl
  | j+2,hj=>simp at hj
theorem Tryz.info93 : (Tryz.prog.info? 93).map (fun i=>(i.zero,i.size,i.bytes))=some (some (.agg #[.int .i64 0,.int .i64 0]),2,16):=by kernel_rfl
set_option maxRecDepth 100000 in
set_option maxHeartbeats 8000000 in
theorem finds_walk {w0 : World} {c : KC} {F nn nx : Nat} {Dn Dx : DataW Unit} {w : World} (hc : c.ok w0.heap.size) (h : KI w0 c F nn Dn nx Dx w) (hF : F < 1000000) (kd a : Int) : Calls Tryz.prog 45 #[pV c.k,.int .i64 kd,.int .i64 a] w fun e w'=>e=.returned (.tuple #[])∧KI w0 c (F+1) nn Dn nx Dx w'∧Kept w w'∧KeptM w w':=by
  obtain ⟨fv,xs,h⟩:=h
  have HS:=Lib.hid h
  have HC:=Lib.hid hc
  have c10 : w.cell? ⟨c.k,10,none⟩=some fv:=row_cell h.row rfl
  have f10 : ∀ W : World,W.heap[c.k]?=some (.cells (kCells c fv) 100 (0,0))→W.cell? ⟨c.k,10,none⟩=some fv∧W.frozen? ⟨c.k,10,none⟩=false:=fun W hW=>⟨row_cell hW rfl,row_frozen hW⟩
  have F10:=Lib.hid f10
  have lk:=row_lt h.row
  obtain ⟨A0,cp0,hfv⟩:=own_form h.own
  subst hfv
  obtain ⟨i0,hi,hz0,hz1,hz2⟩:=info_parts Tryz.info93
  have HI:=Lib.hid hi
  have H0:=Lib.hid hz0
  have H1:=Lib.hid hz1
  have H2:=Lib.hid hz2
  have hB:=HS.out.sz
  have hkB:=hc.k.2
  clear hi hz0 hz1 hz2 h hc f10
  unfold pV
  go_enter Tryz.func45,Tryz.ntmps45
  go_wp2_with (at_builtin;refine wpList_append_own _ rfl _ _ 31 rfl c.B 93 i0 (.agg #[.int .i64 0,.int .i64 0]) 2 16 Tryz.underlying31 HI.out H0.out H1.out H2.out rfl (by decide) _ _ _ rfl (HS.out.own.alloc _) ⟨w.heap.size,0,none⟩ 1 1 [.int .i64 kd,.int .i64 a] rfl rfl (cell_two_new _ _ _ _) (fun x hx=>by simp at hx;rcases hx with rfl | rfl <;> rfl) (by unfold maxLen;omega) (by omega) (by rw [alloc_sz];omega) ?_;intro v' w3 hown' hgrow3 hnil3;clear hnil3;obtain ⟨A1,cp1,hv'⟩:=own_form hown';subst hv';have HO:=Lib.hid hown';have HG:=Lib.hid hgrow3;clear hown' hgrow3;obtain ⟨g10,g11⟩:=F10.out w3 (by rw [HG.out.block c.k (by rw [alloc_sz];omega) (fun e=>by have:=(HS.out.own.lt c.k e.symm).1;omega)];exact row_old HS.out.row))
  refine bodyPost_end (results_none rfl _ _ _) rfl ⟨rfl,⟨_,_,HS.out.appended HC.out _ ?_ HO.out HG.out⟩,HS.out.keeps _ HG.out,HS.out.keepsM _ HG.out⟩
  intro v hv
  rcases List.mem_append.mp hv with hv | hv
  · exact HS.out.ints v hv
  · simp at hv
    rcases hv with rfl | rfl <;> exact ⟨_,rfl⟩
end Go.Proofs.YtbamnpenkjfgkaaGreat
namespace Go.Proofs.YtbamnpenkjfgkaaGreat
open Go.RowKit Go.Maps
theorem keyI (i : Nat) (h : i < 4611686018427387904) : keyOf Tryz.prog 3 (.int .i64 (i : Int))=some (.int .i64 (i : Int)) :=
  keyOf_int_mk Tryz.underlying3 (by simp [Lit.wf,IntKind.min,IntKind.max,IntKind.signed,IntKind.bits];omega)
theorem cell_one_at (w : World) (x : Value) (t : TypeId) (n : Nat) (hn : n=w.heap.size) : ∀ j u,[x][j]?=some u→(w.alloc (.cells #[x] t)).cell? ((⟨n,0,none⟩ : Addr).add j)=some u:=by
  subst hn
  exact cell_one_new w x t
def zIno : Value:=.agg #[.int .i64 0,.bool false,.int .i64 0,.int .i64 0,.int .i64 0,.slice none 0 0]
theorem zNode : NodeV zIno 0:=⟨false,0,0,none,0,rfl,by omega,by omega,by omega⟩
theorem zero125 (w : World) : (zeroValue 125).run Tryz.prog w=.ok zIno w:=by kernel_rfl
theorem look125 {w : World} {N nn : Nat} {Dn : DataW Unit} (h : w.ownsMap Tryz.prog 3 RN N nn Dn) (i : Nat) (hi : i < 4611686018427387904) : ∃ (n : Nat) (p : Bool) (li si : Nat) (A : Option Addr) (cp : Nat),n≤2∧li≤100∧si≤262144∧(Instr.lookup 95 (.map (some N)) (.int .i64 (i : Int)) true).run Tryz.prog w=.ok (.tuple #[.agg #[.int .i64 n,.bool p,.int .i64 li,.int .i64 si,.int .i64 0,.slice A 0 cp],.bool (has Dn (.int .i64 (i : Int)))]) w∧Dn.atKey (.int .i64 (i : Int)) (.lit (.int .i64 0))=.lit (.int .i64 (n : Int)):=by
  obtain ⟨v,ps,hrun,hv⟩:=h.look_ok (int_keyed Tryz.underlying3) Tryz.underlying95 (zero125 w) (RN_mk zNode) (keyI i hi)
  obtain ⟨n,hn,he⟩:=RN_inv hv
  obtain ⟨p,li,si,A,cp,rfl,h1,h2,h3⟩:=hn
  exact ⟨n,p,li,si,A,cp,h1,h2,h3,hrun,he⟩
def IntsR (w : World) (v : Value) (l : List Nat) : Prop:=∃ A cap,v=.slice A l.length cap∧∀ (j x : Nat),l[j]?=some x→∃ g cs,A=some ⟨g,0,none⟩∧w.heap[g]?=some (.cells cs 3 (0,0))∧cs[j]?=some (iV x)
theorem IntsR.kept {w w' : World} {v : Value} {l : List Nat} (h : IntsR w v l) (hk : Kept w w') : IntsR w' v l:=by
  obtain ⟨A,cap,hv,hc⟩:=h
  refine ⟨A,cap,hv,fun j x hx=>?_⟩
  obtain ⟨g,cs,h1,h2,h3⟩:=hc j x hx
  exact ⟨g,cs,h1,hk g cs 3 _ h2 (by decide) (by decide),h3⟩
theorem intsR_own {w : World} {B : Nat} {v : Value} {ns : List Nat} (h : w.ownsRow B 3 1 v ns.length (ns.map iV)) : IntsR w v ns:=by
  rcases h.2 with ⟨rfl,h0⟩ | ⟨g,cap,cur,h1,h2,h3,h4,h5,h6,h7⟩
  · refine ⟨none,0,by rw [h0],fun j x hx=>?_⟩
    have:=(List.getElem?_eq_some_iff.mp hx).1
    omega
  · refine ⟨_,cap,h1,fun j x hx=>⟨g,cur,rfl,h3,?_⟩⟩
    have hu : (ns.map iV)[j]?=some (iV x):=by rw [List.getElem?_map,hx];rfl
    rw [← h7] at hu
    rw [List.getElem?_take] at hu
    split at hu
    · rw [← Array.getElem?_toList];exact hu
    · cases hu
def SortedSays (Dn : DataW Unit) (m : Nat) (w' : World) (e : Ending) : Prop:=∃ v ns,e=.returned v∧IntsR w' v ns∧(∀ x ∈ ns,x < m)∧(has Dn (.int .i64 0)=true→ns[0]?=some 0)∧ns.length≤m
set_option maxRecDepth 100000 in
set_option maxHeartbeats 8000000 in
theorem sorted_walk {w0 : World} {c : KC} {F nn nx : Nat} {Dn Dx : DataW Unit} {w : World} (hc : c.ok w0.heap.size) (h : KI w0 c F nn Dn nx Dx w) (hm : c.m≤512) (hm1 : 1≤c.m) : Calls Tryz.prog 97 #[pV c.k] w fun e w'=>SortedSays Dn c.m w' e∧Below w.heap.size w w':=by
  obtain ⟨fv,xs,h⟩:=h
  have HS:=Lib.hid h
  have HC:=Lib.hid hc
  have c2 : w.cell? ⟨c.k,2,none⟩=some (.int .i64 c.m):=row_cell h.row rfl
  have lk:=row_lt h.row
  have HM:=Lib.hid (fun (W : World) (hb : Below w.heap.size w W)=>(⟨row_cell (h.below hc hb).row rfl,row_lt (h.below hc hb).row,fun i hi=>look125 (h.below hc hb).mn i hi⟩ : W.cell? ⟨c.k,11,none⟩=some (.map (some c.N))∧c.k < W.heap.size∧∀ i : Nat,i < 4611686018427387904→∃ (n : Nat) (p : Bool) (li si : Nat) (A : Option Addr) (cp : Nat),n≤2∧li≤100∧si≤262144∧(Instr.lookup 95 (.map (some c.N)) (.int .i64 (i : Int)) true).run Tryz.prog W=.ok (.tuple #[.agg #[.int .i64 n,.bool p,.int .i64 li,.int .i64 si,.int .i64 0,.slice A 0 cp],.bool (has Dn (.int .i64 (i : Int)))]) W∧Dn.atKey (.int .i64 (i : Int)) (.lit (.int .i64 0))=.lit (.int .i64 (n : Int))))
  obtain ⟨i0,hi,hz0,hz1,hz2⟩:=info_parts Tryz.info3
  have HI:=Lib.hid hi
  have H0:=Lib.hid hz0
  have H1:=Lib.hid hz1
  have H2:=Lib.hid hz2
  clear hi hz0 hz1 hz2 h hc
  unfold pV
  go_enter Tryz.func97,Tryz.ntmps97
  go_wp2
  go_loopw [3,12] (fun o i wr=>∃ (k : Nat) (ns : List Nat),i=.int .i64 k∧k≤c.m∧Hid (wr.ownsRow w.heap.size 3 1 o ns.length (ns.map iV))∧Hid (∀ x ∈ ns,x < k)∧Hid (0 < k→has Dn (.int .i64 0)=true→ns[0]?=some 0)∧Hid (ns.length≤k)∧Hid (Below w.heap.size w wr)) (fun _ i _=>c.m - intV i)
  case atStart=>exact ⟨0,[],rfl,by omega,⟨rfl,.inl ⟨rfl,rfl⟩⟩,Lib.hid (by simp),Lib.hid (fun h=>by omega),Lib.hid (Nat.le_refl _),Below.refl _ _⟩
  case round =>
    obtain ⟨k,ns,rfl,hk,hO,hX,hZ,hL,hB⟩:=hrel
    by_cases hkn : k=c.m
    · have hkn2 : ¬ ((k : Int) < (c.m : Int)):=by omega
      have hE : Hid (∃ v ns,u3=v∧IntsR wr v ns∧(∀ x ∈ ns,x < c.m)∧(has Dn (.int .i64 0)=true→ns[0]?=some 0)∧ns.length≤c.m):=Lib.hid (by
        exact ⟨u3,ns,rfl,intsR_own hO.out,fun x hx=>by have:=hX.out x hx;omega,fun h=>hZ.out (by omega) h,by have:=hL.out;omega⟩)
      go_wp2
      go_ret
      obtain ⟨v,ns2,hv,h1,h2,h3,h4⟩:=hE.out
      exact ⟨⟨v,ns2,congrArg Ending.returned hv,h1,h2,h3,h4⟩,hB.out⟩
    · have hk2 : (k : Int) < (c.m : Int):=by omega
      obtain ⟨c11,lk2,hlk⟩:=HM.out wr hB.out
      obtain ⟨n,p,li,si,A,cp,h1,h2,h3,hrun,hat⟩:=hlk k (by omega)
      have HN:=Lib.hid (And.intro h1 (And.intro h2 (And.intro h3 hat)))
      obtain ⟨q,hq⟩ : ∃ q,has Dn (.int .i64 (k : Int))=q:=⟨_,rfl⟩
      rw [hq] at hrun
      have HQ:=Lib.hid hq
      have hsz:=hB.out.size
      have hns:=hL.out
      obtain ⟨Ao,co,rfl⟩:=own_form hO.out
      clear h1 h2 h3 hat hq hlk
      cases q
      · go_wp2
        refine ⟨⟨k+1,ns,by first | rfl | simp,by omega,Lib.hid (hO.out.alloc _),Lib.hid (fun x hx=>by have:=hX.out x hx;omega),Lib.hid (fun _ h0=>?_),Lib.hid (by omega),Lib.hid (bl_alloc hB.out _)⟩,by simp [intV];omega⟩
        rcases Nat.eq_zero_or_pos k with rfl | hp
        · rw [show ((0 : Nat) : Int)=0 from rfl] at HQ
          rw [HQ.out] at h0
          exact absurd h0 (by decide)
        · exact hZ.out hp h0
      · go_wp2_with (at_builtin;refine wpList_append_own _ rfl _ _ 82 rfl w.heap.size 3 i0 (.int .i64 0) 1 8 Tryz.underlying82 HI.out H0.out H1.out H2.out rfl (by decide) _ _ _ rfl ((hO.out.alloc _).alloc _) ⟨wr.heap.size+1,0,none⟩ 1 1 [.int .i64 k] rfl rfl (cell_one_at _ _ _ _ (by rw [alloc_sz])) (fun x hx=>by simp at hx;subst hx;rfl) (by unfold maxLen;omega) (by omega) (by rw [alloc_sz,alloc_sz];omega) ?_;intro v' w3 hown' hgrow3 hnil3)
        refine ⟨⟨k+1,ns ++ [k],by first | rfl | simp,by omega,Lib.hid ?_,Lib.hid (fun x hx=>?_),Lib.hid (fun _ h0=>?_),Lib.hid (by simp;omega),Lib.hid ?_⟩,by simp [intV];omega⟩
        · rw [List.map_append,List.length_append];exact hown'
        · rcases List.mem_append.mp hx with h | h
          · have:=hX.out x h;omega
          · rw [List.mem_singleton.mp h];omega
        · rcases Nat.eq_zero_or_pos k with rfl | hp
          · have : ns=[]:=List.eq_nil_of_length_eq_zero (by omega)
            rw [this];rfl
          · have h1:=hZ.out hp h0
            rw [List.getElem?_append_left (List.getElem?_eq_some_iff.mp h1).1]
            exact h1
        · exact (bl_alloc (bl_alloc hB.out _) _).grown hgrow3 (by rw [alloc_sz,alloc_sz];omega) (fun q hq=>(hO.out.lt q hq).1)
end Go.Proofs.YtbamnpenkjfgkaaGreat
namespace Go.Proofs.YtbamnpenkjfgkaaGreat
open Go.RowKit Go.Maps
section
variable {w0 : World} {c : KC} {F nn nx : Nat} {Dn Dx : DataW Unit} {fv : Value} {xs : List Value} {w w' : World}
theorem KS.other (h : KS w0 c F nn Dn nx Dx fv xs w) (hc : c.ok w0.heap.size) {row : Option Nat} (hg : w.grownBy w' row) (hr : ∀ q,row=some q→c.B≤q∧fv.ownBlock ≠ some q) : KS w0 c F nn Dn nx Dx fv xs w':=by
  have hne : ∀ q,q < c.B→some q ≠ row:=fun q hq e=>by have:=(hr q e.symm).1;omega
  have hk:=Nat.lt_of_lt_of_le hc.k.2 h.sz
  refine ⟨by rw [hg.block c.k hk (hne _ hc.k.2)];exact h.row,h.own.kept hg ?_,h.ints,h.mn.kept hg (hne _ hc.N.2),h.mx.kept hg (hne _ hc.X.2),h.mo.kept hg (hne _ hc.O.2),h.mp.kept hg (hne _ hc.P.2),h.bl.grown hg (Nat.le_trans (Nat.le_trans hc.k.1 (Nat.le_of_lt hc.k.2)) h.sz) (fun q hq=>Nat.le_trans (Nat.le_trans hc.k.1 (Nat.le_of_lt hc.k.2)) (hr q hq).1),Nat.le_trans h.sz hg.size⟩
  cases hrow : row with
  | none=>cases ho : fv.ownBlock with
    | none=>exact .inl rfl
    | some q=>exact .inr (by simp)
  | some q=>exact .inr (fun e=>(hr q hrow).2 e)
theorem KS.drew (h : KS w0 c F nn Dn nx Dx fv xs w) (n : Nat) : KS w0 c F nn Dn nx Dx fv xs (w.drewN n) :=
  ⟨h.row,h.own,h.ints,h.mn,h.mx,h.mo,h.mp,bl_drewN h.bl n,h.sz⟩
theorem KS.drew1 (h : KS w0 c F nn Dn nx Dx fv xs w) : KS w0 c F nn Dn nx Dx fv xs w.drew :=
  ⟨h.row,h.own,h.ints,h.mn,h.mx,h.mo,h.mp,⟨h.bl.os,h.bl.tape,h.bl.output,h.bl.size,h.bl.block⟩,h.sz⟩
theorem KS.mono (h : KS w0 c F nn Dn nx Dx fv xs w) {nn' nx' : Nat} (h1 : nn≤nn') (h2 : nx≤nx') : KS w0 c F nn' Dn nx' Dx fv xs w :=
  ⟨h.row,h.own,h.ints,h.mn.mono h1,h.mx.mono h2,h.mo,h.mp,h.bl,h.sz⟩
theorem KI.mono (h : KI w0 c F nn Dn nx Dx w) {nn' nx' : Nat} (h1 : nn≤nn') (h2 : nx≤nx') : KI w0 c F nn' Dn nx' Dx w:=by
  obtain ⟨fv,xs,h⟩:=h
  exact ⟨fv,xs,h.mono h1 h2⟩
theorem KS.putN (h : KS w0 c F nn Dn nx Dx fv xs w) (hc : c.ok w0.heap.size) {Dn' : DataW Unit} {nn' : Nat} (hg : w.grownBy w' (some c.N)) (hm : w'.ownsMap Tryz.prog 3 RN c.N nn' Dn') : KS w0 c F nn' Dn' nx Dx fv xs w':=by
  have ne:=hc.ne
  have hk:=Nat.lt_of_lt_of_le hc.k.2 h.sz
  refine ⟨by rw [hg.block c.k hk (fun e=>ne.1 (Option.some.inj e))];exact h.row,h.own.kept hg (.inr fun e=>?_),h.ints,hm,h.mx.kept hg (fun e=>ne.2.2.2.2.1 (Option.some.inj e).symm),h.mo.kept hg (fun e=>ne.2.2.2.2.2.1 (Option.some.inj e).symm),h.mp.kept hg (fun e=>ne.2.2.2.2.2.2.1 (Option.some.inj e).symm),h.bl.grown hg (Nat.le_trans (Nat.le_trans hc.k.1 (Nat.le_of_lt hc.k.2)) h.sz) (fun q hq=>by rw [← Option.some.inj hq];exact hc.N.1),Nat.le_trans h.sz hg.size⟩
  have:=(h.own.lt _ e).1
  have:=hc.N.2
  omega
end
def DecNo (e : Ending) : Prop:=(∃ (n : Nat) (p : Bool) (li si : Nat) (A : Option Addr) (cp : Nat),n≤2∧li≤100∧si≤262144∧e=.returned (.tuple #[.agg #[.int .i64 n,.bool p,.int .i64 li,.int .i64 si,.int .i64 0,.slice A 0 cp],.int .i64 0]))∨e=.returned (.tuple #[.agg #[.int .i64 0,.bool false,.int .i64 0,.int .i64 0,.int .i64 0,.slice none 0 0],.int .i64 80])
theorem inoDec_no (HRep : RepIs) (b : ByteArray) (l : List UInt8) (hl : b.data.toList=l) (hlen : l.length=64) (hno : inoGood l→decE l=[]) (w : World) : Calls Tryz.prog 96 #[.string b] w fun e w'=>DecNo e∧Below w.heap.size w w':=by
  refine (inoDec_walk HRep b l hl hlen w).mono fun e w' h=>⟨?_,h.2⟩
  rcases h.1 with ⟨hg,r,he,ho⟩ | ⟨_,he⟩
  · have hE:=hno hg
    rw [hE] at ho
    obtain ⟨A,cap,hr⟩:=own_form ho
    have hok:=hg.2.1
    rw [hE] at hok
    refine .inl ⟨(decI l).kind,(decI l).pin,(decI l).links,(decI l).size,A,cap,?_,?_,?_,?_⟩
    · rcases hok with h | h <;> omega
    · rcases hok with h | h <;> omega
    · rcases hok with h | h <;> omega
    · have hd : (decI l).depth=0:=by
        rcases hok with h | h
        · exact h.2.2.2.2.1
        · rcases h.2.2.2.2.2.1 with h | h
          · exact h
          · simp at h
      rw [he,hr]
      unfold Ino.v iV
      rw [hd]
      rfl
  · exact .inr he
def NoEnt (bs : List ByteArray) : Prop:=∀ (k : Nat) (b : ByteArray),bs[k]?=some b→∀ o : Nat,o=0∨o=64→inoGood ((b.data.toList.drop o).take 64)→decE ((b.data.toList.drop o).take 64)=[]
def Good (D : DataW Unit) : Prop:=has D (.int .i64 0)=true∧D.atKey (.int .i64 0) (.lit (.int .i64 0))=.lit (.int .i64 2)
theorem good_put {D : DataW Unit} (hD : IsMap D) (h : Good D) (i n : Nat) (hi : i ≠ 0) : Good (D.put (.int .i64 (i : Int)) (.lit (.int .i64 (n : Int)))):=by
  have hne : (Lit.int .i64 0) ≠ (Lit.int .i64 (i : Int)):=fun e=>by simp at e;omega
  exact ⟨by rw [has_put_other hne];exact h.1,by rw [atKey_put_other hne];exact h.2⟩
theorem good_new {D : DataW Unit} (hD : IsMap D) : Good (D.put (.int .i64 0) (.lit (.int .i64 2))):=by
  have hk : WideAt.IsKeyLit (.int .i64 0):=trivial
  exact ⟨has_put_same hD hk _,atKey_put_same hD hk _ _⟩
structure KC.geo (c : KC) (bs : List ByteArray) : Prop where
  ok : geoOk c.b c.l c.m
  n : c.b=bs.length
  e4 : c.y4=1+c.l
  e5 : c.y5=(c.b+1023) / 1024
  e6 : c.y6=1+c.l+(c.b+1023) / 1024
  e7 : c.y7=c.m / 2
  e8 : c.y8=dataAt c.b c.l c.m
theorem inoAt_g {c : KC} {bs : List ByteArray} (hg : c.geo bs) (n : Nat) (hn : n < c.m) (w : World) : Calls Tryz.prog 95 #[.agg #[.int .i64 c.b,.int .i64 c.l,.int .i64 c.m,.int .i64 1,.int .i64 c.y4,.int .i64 c.y5,.int .i64 c.y6,.int .i64 c.y7,.int .i64 c.y8],.int .i64 n] w fun e w'=>(∃ k o : Nat,e=.returned (.tuple #[.int .i64 k,.int .i64 o,.int .i64 0])∧k < bs.length∧(o=0∨o=64))∧Below w.heap.size w w':=by
  have h:=inoAt_walk c.b c.l c.m n hg.ok hn w
  unfold geoV iV at h
  rw [← hg.e4,← hg.e5,← hg.e7,← hg.e8] at h
  rw [show c.y4+c.y5=c.y6 by rw [hg.e6,hg.e5,hg.e4]] at h
  refine h.mono fun e w' hh=>⟨⟨_,_,hh.1,?_,by omega⟩,hh.2⟩
  have h1:=hg.ok
  have h2:=hg.n
  have h3:=hg.e8
  unfold geoOk at h1
  have h4:=hg.e7
  have : c.m / 2≤dataAt c.b c.l c.m:=by unfold dataAt;omega
  omega
theorem nineten {w : World} {n : Nat} {c : KC} {fv : Value} (h : w.heap[n]?=some (.cells (kCells c fv) 100 (0,0))) : n < w.heap.size∧w.cell? ⟨n,0,none⟩=some (.int .i64 c.b)∧w.cell? ⟨n,1,none⟩=some (.int .i64 c.l)∧w.cell? ⟨n,2,none⟩=some (.int .i64 c.m)∧w.cell? ⟨n,3,none⟩=some (.int .i64 1)∧w.cell? ⟨n,4,none⟩=some (.int .i64 c.y4)∧w.cell? ⟨n,5,none⟩=some (.int .i64 c.y5)∧w.cell? ⟨n,6,none⟩=some (.int .i64 c.y6)∧w.cell? ⟨n,7,none⟩=some (.int .i64 c.y7)∧w.cell? ⟨n,8,none⟩=some (.int .i64 c.y8)∧w.cell? ⟨n,9,none⟩=some (.func (.func 18) #[.pointer (some ⟨c.d,0,none⟩)] #[])∧w.cell? ⟨n,11,none⟩=some (.map (some c.N)) :=
  ⟨row_lt h,row_cell h rfl,row_cell h rfl,row_cell h rfl,row_cell h rfl,row_cell h rfl,row_cell h rfl,row_cell h rfl,row_cell h rfl,row_cell h rfl,row_cell h rfl,row_cell h rfl⟩
def TableSays (w0 : World) (c : KC) (w' : World) : Prop:=∃ F Dn,F≤c.m∧KI w0 c F c.m Dn 0 (.map []) w'∧(1≤F∨Good Dn)
set_option maxRecDepth 100000 in
set_option maxHeartbeats 8000000 in
theorem table_walk (HRep : RepIs) {w0 : World} {c : KC} {bs : List ByteArray} (hD : DevIs w0 c.d bs) (hg : c.geo bs) (h128 : ∀ (k : Nat) (b : ByteArray),bs[k]?=some b→b.data.toList.length=128) (hno : NoEnt bs) (hc : c.ok w0.heap.size) {w : World} (h : KI w0 c 0 0 (.map []) 0 (.map []) w) :
    Calls Tryz.prog 43 #[pV c.k] w fun e w'=>e=.returned (.tuple #[])∧TableSays w0 c w':=by
  have hm1 : 8≤c.m∧c.m≤512:=by have:=hg.ok;unfold geoOk at this;omega
  have HA:=Lib.hid (fun n hn W=>inoAt_g hg n hn W)
  have HR:=Lib.hid (fun (W : World) (hB : Below w0.heap.size w0 W) (k : Nat) (b : ByteArray) (hb : bs[k]?=some b)=>read_walk (dev_below hD hB) hb)
  have HDec:=Lib.hid (fun (k : Nat) (b : ByteArray) (hb : bs[k]?=some b) (o : Nat) (ho : o=0∨o=64)=>inoDec_no HRep (b.extract o (o+64)) ((b.data.toList.drop o).take 64) (by rw [ByteArray.data_extract,Array.toList_extract];simp) (by rw [List.length_take,List.length_drop,h128 k b hb];omega) (hno k b hb o ho))
  have HSz:=Lib.hid (fun (k : Nat) (b : ByteArray) (hb : bs[k]?=some b)=>(show b.size=128 from h128 k b hb))
  have HC:=Lib.hid hc
  have HF:=Lib.hid (fun (F nn : Nat) (Dn : DataW Unit) (W : World) (hk : KI w0 c F nn Dn 0 (.map []) W) (hF : F < 1000000) (kd a : Int)=>finds_walk hc hk hF kd a)
  obtain ⟨fv0,xs0,h0⟩:=h
  have HS0:=Lib.hid h0
  obtain ⟨lk0,q0,q1,q2,q3,q4,q5,q6,q7,q8,q9,q11⟩:=nineten h0.row
  clear hD hg h128 hno hc h0 q0 q1 q3 q4 q5 q6 q7 q8 q9 q11
  unfold pV at *
  go_enter Tryz.func43,Tryz.ntmps43
  go_wp2
  go_loopw [14] (fun i wr=>∃ (k F : Nat) (Dn : DataW Unit),i=.int .i64 k∧k≤c.m∧F≤k∧Hid (KI w0 c F k Dn 0 (.map []) wr)∧Hid (0 < k→1≤F∨Good Dn)) (fun i _=>c.m - intV i)
  case atStart=>exact ⟨0,0,_,rfl,by omega,by omega,⟨_,_,HS0.out⟩,Lib.hid (fun h=>by omega)⟩
  case round =>
    obtain ⟨k,F,Dn,rfl,hk,hF,hS,hG⟩:=hrel
    by_cases hkn : k=c.m
    · have hkn2 : ¬ ((k : Int) < (c.m : Int)):=by omega
      go_wp2
      exact bodyPost_end (results_none rfl _ _ _) rfl ⟨rfl,F,Dn,by omega,by rw [← hkn];exact hS.out,hG.out (by omega)⟩
    · have hk2 : (k : Int) < (c.m : Int):=by omega
      obtain ⟨fv,xs,hS⟩:=hS.out
      have HS:=Lib.hid hS
      obtain ⟨lk,q0,q1,q2',q3,q4,q5,q6,q7,q8,q9,q11⟩:=nineten hS.row
      clear hS
      go_upto_region 5 with (first
        | (go_at_call 95;refine (HA.out k (by omega) _).mono ?_;rintro e w1 ⟨⟨kb,o,rfl,hkb,ho⟩,hb1⟩;have HS1:=Lib.hid (HS.out.below HC.out hb1);have HX:=Lib.hid (And.intro hkb ho);clear hb1 hkb ho q0 q1 q2' q3 q4 q5 q6 q7 q8 q9 q11;obtain ⟨lk1,q0,q1,q2',q3,q4,q5,q6,q7,q8,q9,q11⟩:=nineten HS1.out.row;obtain ⟨b,hb⟩ : ∃ b,bs[kb]?=some b:=⟨_,List.getElem?_eq_getElem HX.out.1⟩;have Hb:=Lib.hid hb;clear hb)
        | (go_at_call 18;refine (HR.out _ HS1.out.bl kb b Hb.out).mono ?_;rintro e w2 ⟨rfl,rfl⟩))
      obtain ⟨g,hgx⟩ : ∃ g,w2.heap.size=g:=⟨_,rfl⟩
      have hgo : Hid (∀ q,some g=some q→c.B≤q∧fv.ownBlock ≠ some q):=Lib.hid (fun q hq=>by
        have:=Option.some.inj hq
        subst this
        refine ⟨by rw [← hgx];exact HS1.out.sz,fun e=>?_⟩
        have:=(HS1.out.own.lt _ e).2
        omega)
      have hbs:=HSz.out kb b Hb.out
      have ho:=HX.out.2
      rcases ho with rfl | rfl
      all_goals
        go_upto_region 8 with (go_at_call 96;refine (HDec.out kb b Hb.out _ (by first | exact .inl rfl | exact .inr rfl) _).mono ?_;rintro e w3 ⟨he,hb3⟩;have HS3:=Lib.hid ((HS1.out.below HC.out (below_one _ (.cells #[.int .i64 0,.bool false,.int .i64 0,.int .i64 0,.int .i64 0,.slice none 0 0] 125))).below HC.out hb3);have hx3:=row_below (row_new _ (.cells #[.int .i64 0,.bool false,.int .i64 0,.int .i64 0,.int .i64 0,.slice none 0 0] 125)) hb3;rw [hgx] at hx3;(try rw [hgx]);have hx3:=Lib.hid hx3;clear hb3;obtain ⟨lx,c0,c1,c2,c3,c4,c5⟩:=six0 hx3.out;obtain ⟨f0,f1,f2,f3,f4,f5⟩:=sixF hx3.out;rcases he with ⟨n,p,li,si,A,cp,h1,h2,h3,rfl⟩ | rfl)
        · have HSx : Hid (KS w0 c F k Dn 0 (.map []) fv xs ((((((w3.setCell ⟨g,0,none⟩ (.int .i64 n)).setCell ⟨g,1,none⟩ (.bool p)).setCell ⟨g,2,none⟩ (.int .i64 li)).setCell ⟨g,3,none⟩ (.int .i64 si)).setCell ⟨g,4,none⟩ (.int .i64 0)).setCell ⟨g,5,none⟩ (.slice A 0 cp))):=Lib.hid (HS3.out.other HC.out ((((((grown_set w3 g 0 _).trans (grown_set _ g 1 _)).trans (grown_set _ g 2 _)).trans (grown_set _ g 3 _)).trans (grown_set _ g 4 _)).trans (grown_set _ g 5 _)) hgo.out)
          have hxx : Hid (((((((w3.setCell ⟨g,0,none⟩ (.int .i64 n)).setCell ⟨g,1,none⟩ (.bool p)).setCell ⟨g,2,none⟩ (.int .i64 li)).setCell ⟨g,3,none⟩ (.int .i64 si)).setCell ⟨g,4,none⟩ (.int .i64 0)).setCell ⟨g,5,none⟩ (.slice A 0 cp)).heap[g]?=some (.cells #[.int .i64 n,.bool p,.int .i64 li,.int .i64 si,.int .i64 0,.slice A 0 cp] 125 (0,0))):=Lib.hid (row_set6 hx3.out)
          generalize ((((((w3.setCell ⟨g,0,none⟩ (.int .i64 n)).setCell ⟨g,1,none⟩ (.bool p)).setCell ⟨g,2,none⟩ (.int .i64 li)).setCell ⟨g,3,none⟩ (.int .i64 si)).setCell ⟨g,4,none⟩ (.int .i64 0)).setCell ⟨g,5,none⟩ (.slice A 0 cp))=wx at HSx hxx ⊢
          clear c0 c1 c2 c3 c4 c5 f0 f1 f2 f3 f4 f5 lx q0 q1 q2' q3 q4 q5 q6 q7 q8 q9 q11
          obtain ⟨lx,c0,c1,c2,c3,c4,c5⟩:=six0 hxx.out
          obtain ⟨lk3,q0,q1,q2',q3,q4,q5,q6,q7,q8,q9,q11⟩:=nineten HSx.out.row
          clear q0 q1 q2' q3 q4 q5 q6 q7 q8 q9
          have HN:=Lib.hid (⟨p,li,si,A,cp,rfl,h1,h2,h3⟩ : NodeV (.agg #[.int .i64 n,.bool p,.int .i64 li,.int .i64 si,.int .i64 0,.slice A 0 cp]) n)
          clear h1 h2 h3
          by_cases hk0 : k=0
          · have ek : ((k : Int) == 0)=true:=by simp [hk0]
            have HK0:=Lib.hid hk0
            clear hk0
            by_cases hn2 : n=2
            · have en : ((n : Int) != 2)=false:=by simp;omega
              have en0 : ((n : Int) != 0)=true:=by simp;omega
              obtain ⟨w6,hrun,hown6,hgr6⟩:=HSx.out.drew1.mn.update (int_keyed Tryz.underlying3) Tryz.underlying95 (by unfold maxLen;omega) (keyI k (by omega)) (RN_mk HN.out)
              have HP:=Lib.hid (HSx.out.drew1.putN HC.out hgr6 hown6)
              have HM:=Lib.hid HSx.out.mn.isMap
              have HN2:=Lib.hid hn2
              clear hown6 hgr6 hn2
              go_upto_region 11 with fail
              go_region
              all_goals go_wp2
              all_goals
                refine ⟨⟨k+1,F,_,by first | rfl | simp,by omega,by omega,Lib.hid ⟨_,_,HP.out⟩,Lib.hid (fun _=>.inr ?_)⟩,by simp [intV];omega⟩
                rw [HK0.out,HN2.out]
                exact good_new HM.out
            · have en : ((n : Int) != 2)=true:=by simp;omega
              go_wp2_with (go_at_call 45;refine (HF.out F k Dn _ ⟨_,_,HSx.out⟩ (by omega) _ _).mono ?_;rintro e w5 ⟨rfl,hk5,_⟩)
              exact ⟨⟨k+1,F+1,Dn,by first | rfl | simp,by omega,by omega,Lib.hid (hk5.mono (Nat.le_succ _) (Nat.le_refl _)),Lib.hid (fun _=>.inl (by omega))⟩,by simp [intV];omega⟩
          · have ek : ((k : Int) == 0)=false:=by simp;omega
            have HK0:=Lib.hid hk0
            clear hk0
            by_cases hn0 : n=0
            · have en0 : ((n : Int) != 0)=false:=by simp;omega
              clear hn0
              go_wp2
              exact ⟨⟨k+1,F,Dn,by first | rfl | simp,by omega,by omega,Lib.hid ⟨_,_,HSx.out.mono (Nat.le_succ _) (Nat.le_refl _)⟩,Lib.hid (fun _=>hG.out (by have:=HK0.out;omega))⟩,by simp [intV];omega⟩
            · have en0 : ((n : Int) != 0)=true:=by simp;omega
              obtain ⟨w6,hrun,hown6,hgr6⟩:=HSx.out.drew1.mn.update (int_keyed Tryz.underlying3) Tryz.underlying95 (by unfold maxLen;omega) (keyI k (by omega)) (RN_mk HN.out)
              have HP:=Lib.hid (HSx.out.drew1.putN HC.out hgr6 hown6)
              have HM:=Lib.hid HSx.out.mn.isMap
              clear hown6 hgr6 hn0
              go_upto_region 11 with fail
              go_region
              all_goals go_wp2
              all_goals
                refine ⟨⟨k+1,F,_,by first | rfl | simp,by omega,by omega,Lib.hid ⟨_,_,HP.out⟩,Lib.hid (fun _=>?_)⟩,by simp [intV];omega⟩
                rcases hG.out (by have:=HK0.out;omega) with h | h
                · exact .inl h
                · exact .inr (good_put HM.out h k n HK0.out)
        · have HSx : Hid (KS w0 c F k Dn 0 (.map []) fv xs ((((((w3.setCell ⟨g,0,none⟩ (.int .i64 0)).setCell ⟨g,1,none⟩ (.bool false)).setCell ⟨g,2,none⟩ (.int .i64 0)).setCell ⟨g,3,none⟩ (.int .i64 0)).setCell ⟨g,4,none⟩ (.int .i64 0)).setCell ⟨g,5,none⟩ (.slice none 0 0))):=Lib.hid (HS3.out.other HC.out ((((((grown_set w3 g 0 _).trans (grown_set _ g 1 _)).trans (grown_set _ g 2 _)).trans (grown_set _ g 3 _)).trans (grown_set _ g 4 _)).trans (grown_set _ g 5 _)) hgo.out)
          have hxx : Hid (((((((w3.setCell ⟨g,0,none⟩ (.int .i64 0)).setCell ⟨g,1,none⟩ (.bool false)).setCell ⟨g,2,none⟩ (.int .i64 0)).setCell ⟨g,3,none⟩ (.int .i64 0)).setCell ⟨g,4,none⟩ (.int .i64 0)).setCell ⟨g,5,none⟩ (.slice none 0 0)).heap[g]?=some (.cells #[.int .i64 0,.bool false,.int .i64 0,.int .i64 0,.int .i64 0,.slice none 0 0] 125 (0,0))):=Lib.hid (row_set6 hx3.out)
          generalize ((((((w3.setCell ⟨g,0,none⟩ (.int .i64 0)).setCell ⟨g,1,none⟩ (.bool false)).setCell ⟨g,2,none⟩ (.int .i64 0)).setCell ⟨g,3,none⟩ (.int .i64 0)).setCell ⟨g,4,none⟩ (.int .i64 0)).setCell ⟨g,5,none⟩ (.slice none 0 0))=wx at HSx hxx ⊢
          clear c0 c1 c2 c3 c4 c5 f0 f1 f2 f3 f4 f5 lx q0 q1 q2' q3 q4 q5 q6 q7 q8 q9 q11
          obtain ⟨lx,c0,c1,c2,c3,c4,c5⟩:=six0 hxx.out
          obtain ⟨lk3,q0,q1,q2',q3,q4,q5,q6,q7,q8,q9,q11⟩:=nineten HSx.out.row
          clear q0 q1 q2' q3 q4 q5 q6 q7 q8 q9
          go_wp2_with (go_at_call 45;refine (HF.out F k Dn _ ⟨_,_,HSx.out⟩ (by omega) _ _).mono ?_;rintro e w5 ⟨rfl,hk5,_⟩)
          exact ⟨⟨k+1,F+1,Dn,by first | rfl | simp,by omega,by omega,Lib.hid (hk5.mono (Nat.le_succ _) (Nat.le_refl _)),Lib.hid (fun _=>.inl (by omega))⟩,by simp [intV];omega⟩
end Go.Proofs.YtbamnpenkjfgkaaGreat
namespace Go.Proofs.YtbamnpenkjfgkaaGreat
open Go.RowKit Go.Maps
set_option maxRecDepth 100000 in
set_option maxHeartbeats 8000000 in
theorem index0 (x : Value) (a b d : Int) (hx : x=.agg #[.int .i64 a,.int .i64 b,.int .i64 d]) (w : World) : Calls Tryz.prog 160 #[.slice none 0 0,x] w fun e w'=>e=.returned (.int .i64 (-1))∧Below w.heap.size w w':=by
  subst hx
  have hb:=Lib.hid (below_one w (.cells #[.int .i64 a,.int .i64 b,.int .i64 d] 183))
  go_enter Tryz.func160,Tryz.ntmps160
  go_wp2
  generalize w.alloc (.cells #[.int .i64 a,.int .i64 b,.int .i64 d] 183)=w1 at hb ⊢
  go_loopw [8] (fun i wr=>i=.int .i64 0∧wr=w1) (fun i _=>0)
  case atStart=>exact ⟨rfl,rfl⟩
  case round =>
    obtain ⟨rfl,rfl⟩:=hrel
    go_wp2
    go_ret
    exact ⟨rfl,hb.out⟩
theorem supCells {w : World} {n : Nat} {c : KC} {fv : Value} (h : w.heap[n]?=some (.cells (kCells c fv) 100 (0,0))) : n < w.heap.size∧w.cell? ⟨n,16,none⟩=some (.int .i64 c.s.b)∧w.cell? ⟨n,17,none⟩=some (.int .i64 c.s.l)∧w.cell? ⟨n,18,none⟩=some (.int .i64 c.s.m)∧w.cell? ⟨n,19,none⟩=some (.int .i64 c.s.cur)∧w.cell? ⟨n,20,none⟩=some (.int .i64 c.s.ino)∧w.cell? ⟨n,21,none⟩=some (.int .i64 c.s.log)∧w.cell? ⟨n,22,none⟩=some (.int .i64 c.s.frm)∧w.cell? ⟨n,23,none⟩=some (.int .i64 c.s.tto)∧w.cell? ⟨n,24,none⟩=some (.int .i64 c.s.len)∧w.cell? ⟨n,25,none⟩=some (.int .i64 c.s.mov) :=
  ⟨row_lt h,row_cell h rfl,row_cell h rfl,row_cell h rfl,row_cell h rfl,row_cell h rfl,row_cell h rfl,row_cell h rfl,row_cell h rfl,row_cell h rfl,row_cell h rfl⟩
set_option maxRecDepth 100000 in
set_option maxHeartbeats 8000000 in
theorem slid_walk {c : KC} {fv : Value} {w : World} (h : w.heap[c.k]?=some (.cells (kCells c fv) 100 (0,0))) (n : Nat) : Calls Tryz.prog 99 #[pV c.k,.int .i64 n,.slice none 0 0] w fun e w'=>e=.returned (.slice none 0 0)∧Below w.heap.size w w':=by
  obtain ⟨lk,q0,q1,q2,q3,q4,q5,q6,q7,q8,q9⟩:=supCells h
  have HI:=Lib.hid (fun (a b d : Int) (W : World)=>index0 _ a b d rfl W)
  have hb:=Lib.hid (below_one w (.cells #[.int .i64 c.s.b,.int .i64 c.s.l,.int .i64 c.s.m,.int .i64 c.s.cur,.int .i64 c.s.ino,.int .i64 c.s.log,.int .i64 c.s.frm,.int .i64 c.s.tto,.int .i64 c.s.len,.int .i64 c.s.mov] 67))
  clear h
  unfold pV
  by_cases h1 : ((c.s.len : Int) == 0)=true
  · go_enter Tryz.func99,Tryz.ntmps99
    go_wp2
    go_ret
    exact ⟨rfl,hb.out⟩
  · have h1 : ((c.s.len : Int) == 0)=false:=by simpa using h1
    by_cases h2 : ((c.s.ino : Int) != (n : Int))=true
    · go_enter Tryz.func99,Tryz.ntmps99
      go_wp2
      go_ret
      exact ⟨rfl,hb.out⟩
    · have h2 : ((c.s.ino : Int) != (n : Int))=false:=by simpa using h2
      go_enter Tryz.func99,Tryz.ntmps99
      go_wp2_with (go_at_call 160;refine (HI.out _ _ _ _).mono ?_;rintro e w3 ⟨rfl,hb3⟩;have HB3:=Lib.hid (bl_trans hb.out hb3);clear hb3)
      go_ret
      exact ⟨rfl,HB3.out⟩
theorem zero176 (w : World) : (zeroValue 176).run Tryz.prog w=.ok (.slice none 0 0) w:=by kernel_rfl
theorem look125' {w : World} {N nn : Nat} {Dn : DataW Unit} (h : w.ownsMap Tryz.prog 3 RN N nn Dn) (i : Nat) (hi : i < 4611686018427387904) : ∃ (n : Nat) (p : Bool) (li si : Nat) (A : Option Addr) (cp : Nat),n≤2∧li≤100∧si≤262144∧(Instr.lookup 95 (.map (some N)) (.int .i64 (i : Int)) false).run Tryz.prog w=.ok (.agg #[.int .i64 n,.bool p,.int .i64 li,.int .i64 si,.int .i64 0,.slice A 0 cp]) w∧Dn.atKey (.int .i64 (i : Int)) (.lit (.int .i64 0))=.lit (.int .i64 (n : Int)):=by
  obtain ⟨v,ps,hrun,hv⟩:=h.lookup (int_keyed Tryz.underlying3) Tryz.underlying95 (zero125 w) (RN_mk zNode) (keyI i hi)
  obtain ⟨n,hn,he⟩:=RN_inv hv
  obtain ⟨p,li,si,A,cp,rfl,h1,h2,h3⟩:=hn
  exact ⟨n,p,li,si,A,cp,h1,h2,h3,hrun,he⟩
theorem KS.putX {w0 : World} {c : KC} {F nn nx : Nat} {Dn Dx : DataW Unit} {fv : Value} {xs : List Value} {w w' : World} (h : KS w0 c F nn Dn nx Dx fv xs w) (hc : c.ok w0.heap.size) {Dx' : DataW Unit} {nx' : Nat} (hg : w.grownBy w' (some c.X)) (hm : w'.ownsMap Tryz.prog 3 RX c.X nx' Dx') : KS w0 c F nn Dn nx' Dx' fv xs w':=by
  have ne:=hc.ne
  have hk:=Nat.lt_of_lt_of_le hc.k.2 h.sz
  refine ⟨by rw [hg.block c.k hk (fun e=>ne.2.1 (Option.some.inj e))];exact h.row,h.own.kept hg (.inr fun e=>?_),h.ints,h.mn.kept hg (fun e=>ne.2.2.2.2.1 (Option.some.inj e)),hm,h.mo.kept hg (fun e=>ne.2.2.2.2.2.2.2.1 (Option.some.inj e).symm),h.mp.kept hg (fun e=>ne.2.2.2.2.2.2.2.2.1 (Option.some.inj e).symm),h.bl.grown hg (Nat.le_trans (Nat.le_trans hc.k.1 (Nat.le_of_lt hc.k.2)) h.sz) (fun q hq=>by rw [← Option.some.inj hq];exact hc.X.1),Nat.le_trans h.sz hg.size⟩
  have:=(h.own.lt _ e).1
  have:=hc.X.2
  omega
theorem kept_map {w w' : World} {b : Nat} {R : Value→Option (DataW Unit × List MemPlace)} {n : Nat} {D : DataW Unit} (h : w.ownsMap Tryz.prog 3 R b n D) (hg : w.grownBy w' (some b)) : Kept w w':=fun q cs t fz hq _ _=>by
  rw [hg.block q (row_lt hq) (fun e=>?_)]
  · exact hq
  · obtain ⟨es,ck,hb,_⟩:=h
    rw [← Option.some.inj e,hq] at hb
    cases hb
def TreesSays (w0 : World) (c : KC) (F nn : Nat) (Dn : DataW Unit) (w' : World) : Prop:=∃ (F' nx' : Nat) (Dx : DataW Unit),F≤F'∧F'≤F+c.m∧nx'≤512∧KI w0 c F' nn Dn nx' Dx w'∧(has Dn (.int .i64 0)=true→has Dx (.int .i64 0)=true)
theorem look3 {w : World} {n : Nat} {v0 v1 v2 v3 v4 v5 : Value} (h : w.heap[n]?=some (.cells #[v0,v1,v2,v3,v4,v5] 125 (0,0))) : n < w.heap.size∧w.cell? ⟨n,0,none⟩=some v0∧w.cell? ⟨n,3,none⟩=some v3∧w.cell? ⟨n,4,none⟩=some v4∧w.cell? ⟨n,5,none⟩=some v5 :=
  ⟨row_lt h,row_cell h rfl,row_cell h rfl,row_cell h rfl,row_cell h rfl⟩
theorem kmaps {w : World} {n : Nat} {c : KC} {fv : Value} (h : w.heap[n]?=some (.cells (kCells c fv) 100 (0,0))) : n < w.heap.size∧w.cell? ⟨n,9,none⟩=some (.func (.func 18) #[.pointer (some ⟨c.d,0,none⟩)] #[])∧w.cell? ⟨n,11,none⟩=some (.map (some c.N))∧w.cell? ⟨n,12,none⟩=some (.map (some c.X))∧w.cell? ⟨n,13,none⟩=some (.map (some c.O))∧w.cell? ⟨n,14,none⟩=some (.slice none 0 0)∧w.cell? ⟨n,15,none⟩=some (.map (some c.P)) :=
  ⟨row_lt h,row_cell h rfl,row_cell h rfl,row_cell h rfl,row_cell h rfl,row_cell h rfl,row_cell h rfl⟩
set_option maxRecDepth 100000 in
set_option maxHeartbeats 16000000 in
theorem trees_walk (HB : BlkNil) {w0 : World} {c : KC} {F nn : Nat} {Dn : DataW Unit} {w : World} (hc : c.ok w0.heap.size) (h : KI w0 c F nn Dn 0 (.map []) w) (hF : F≤5000) (hm : c.m≤512) (hm1 : 1≤c.m) :
    Calls Tryz.prog 44 #[pV c.k] w fun e w'=>e=.returned (.tuple #[])∧TreesSays w0 c F nn Dn w':=by
  have HC:=Lib.hid hc
  have HSo:=Lib.hid (sorted_walk hc h hm hm1)
  have HKI:=Lib.hid h
  have HFd:=Lib.hid (fun (F' nx : Nat) (Dx : DataW Unit) (W : World) (hk : KI w0 c F' nn Dn nx Dx W) (hF : F' < 1000000) (kd a : Int)=>finds_walk hc hk hF kd a)
  have HW:=Lib.hid (fun (A : Option Addr) (cp : Nat) (W : World)=>fWalk0 HB A cp c.d W)
  have HSl:=Lib.hid (fun (fv : Value) (W : World) (hr : W.heap[c.k]?=some (.cells (kCells c fv) 100 (0,0))) (n : Nat)=>slid_walk hr n)
  have HE:=Lib.hid (fun (W : World)=>extsEnd0 none 0 W)
  clear hc h HB
  unfold pV at *
  go_enter Tryz.func44,Tryz.ntmps44
  go_wp2_with (go_at_call 97;refine HSo.out.mono ?_;rintro e w1 ⟨⟨v,ns,rfl,hI,hX,hZ,hL⟩,hb1⟩;have HI:=Lib.hid hI;have HX:=Lib.hid hX;have HZ:=Lib.hid hZ;have HL:=Lib.hid hL;have HK1:=Lib.hid (HKI.out.below HC.out hb1);clear hI hX hZ hL hb1;obtain ⟨Av,cv,hv,hcv⟩:=HI.out;have HCV:=Lib.hid hcv;clear hcv;subst hv)
  obtain ⟨nl,hnl⟩ : ∃ nl,ns.length=nl:=⟨_,rfl⟩
  have HNL:=Lib.hid hnl
  have hnl2 : nl≤512:=by have:=HL.out;omega
  rw [hnl] at HI ⊢
  clear hnl
  go_loopw [16] (fun i wr=>∃ (j F' : Nat) (Dx : DataW Unit),i=.int .i64 j∧j≤nl∧F≤F'∧F'≤F+j∧Hid (KI w0 c F' nn Dn j Dx wr)∧Hid (IntsR wr (.slice Av nl cv) ns)∧Hid (0 < j→has Dn (.int .i64 0)=true→has Dx (.int .i64 0)=true)) (fun i _=>nl - intV i)
  case atStart=>exact ⟨0,F,_,rfl,by omega,by omega,by omega,HK1.out,HI.out,Lib.hid (fun h=>by omega)⟩
  case round =>
    obtain ⟨j,F',Dx,rfl,hj,hF1,hF2,hK,hIw,hG⟩:=hrel
    obtain ⟨wo,hwo⟩ : ∃ wo,wo=wr:=⟨_,rfl⟩
    subst hwo
    by_cases hjn : j=nl
    · have hjn2 : ¬ ((j : Int) < (nl : Int)):=by omega
      have HJ:=Lib.hid hjn
      clear hjn
      go_wp2
      refine bodyPost_end (results_none rfl _ _ _) rfl ⟨rfl,F',j,Dx,hF1,?_,by omega,hK.out,fun h0=>?_⟩
      · have:=HL.out;have:=HNL.out;omega
      · refine hG.out ?_ h0
        have h1:=HZ.out h0
        have:=(List.getElem?_eq_some_iff.mp h1).1
        have:=HNL.out
        have:=HJ.out
        omega
    · have hj2 : (j : Int) < (nl : Int):=by omega
      obtain ⟨fv,xs,hS⟩:=hK.out
      have HS:=Lib.hid hS
      obtain ⟨lk,q9,q11,q12,q13,q14,q15⟩:=kmaps hS.row
      obtain ⟨x,hx⟩ : ∃ x,ns[j]?=some x:=⟨_,List.getElem?_eq_getElem (by have:=HNL.out;omega)⟩
      have hxm : x < c.m:=HX.out x (List.mem_of_getElem? hx)
      obtain ⟨A',cp',hv',hcv⟩:=hIw.out
      obtain ⟨g,cs,hA,hgr,hgc⟩:=hcv j x hx
      have hAv : Av=some ⟨g,0,none⟩:=by simp at hv';rw [hv'.1,hA]
      subst hAv
      have cx:=row_cell (i:=j) hgr hgc
      unfold iV at cx
      have lg:=row_lt hgr
      obtain ⟨n,p,li,si,Ax,cx',b1,b2,b3,hrun,hat⟩:=look125' hS.mn x (by omega)
      have HB3:=Lib.hid (And.intro b1 (And.intro b2 b3))
      have HXX:=Lib.hid hx
      clear b1 b2 b3 hat hx hA hgr hgc hcv hv' hS q12 q13 q14 q15 hjn
      go_upto_region 4 with fail
      have hxa:=Lib.hid (row_new wo (.cells #[.int .i64 n,.bool p,.int .i64 li,.int .i64 si,.int .i64 0,.slice Ax 0 cx'] 125))
      have HSa:=Lib.hid (HS.out.below HC.out (below_one wo (.cells #[.int .i64 n,.bool p,.int .i64 li,.int .i64 si,.int .i64 0,.slice Ax 0 cx'] 125)))
      have hIa:=Lib.hid (hIw.out.kept (Kept.below (below_one wo (.cells #[.int .i64 n,.bool p,.int .i64 li,.int .i64 si,.int .i64 0,.slice Ax 0 cx'] 125))))
      generalize wo.alloc (.cells #[.int .i64 n,.bool p,.int .i64 li,.int .i64 si,.int .i64 0,.slice Ax 0 cx'] 125)=wa at hxa HSa hIa ⊢
      generalize wo.heap.size=g1 at *
      clear lk q9 q11 cx lg hrun
      obtain ⟨lk,q9,q11,q12,q13,q14,q15⟩:=kmaps HSa.out.row
      obtain ⟨lx,x0,x3,x4,x5⟩:=look3 hxa.out
      clear q11 q12 q13 q14 q15 x0 x3
      go_region_held3 (fun W=>W.cell? ⟨g1,4,none⟩=some (.int .i64 0)∧W.cell? ⟨g1,5,none⟩=some (.slice Ax 0 cx')∧W.cell? ⟨c.k,9,none⟩=some (.func (.func 18) #[.pointer (some ⟨c.d,0,none⟩)] #[])) (first | exact ⟨x4,x5,q9⟩ | exact ⟨y4,y5,r9⟩)
        (first | (go_at_call 98;refine (HW.out Ax cx' _).mono ?_;rintro e w2 ⟨rfl,hb2⟩;have HS2:=Lib.hid (HSa.out.drew1.below HC.out hb2);have hx2:=Lib.hid (row_below (row_drew hxa.out) hb2);have hI2:=Lib.hid (hIa.out.kept (Kept.below (undrew hb2)));clear hb2;obtain ⟨lk2,r9,r11,r12,r13,r14,r15⟩:=kmaps HS2.out.row;obtain ⟨lx2,y0,y3,y4,y5⟩:=look3 hx2.out;clear r11 r13 r14 r15 y0 y3))
      rename_i hHeld
      clear hHeld x4 x5 q9 lk lx y4 y5 r9
      have hput : has Dn (.int .i64 0)=true→has (Dx.put (.int .i64 (x : Int)) (.lit (.bool true))) (.int .i64 0)=true:=fun h0=>by
        have hM:=HS2.out.mx.isMap
        rcases Nat.eq_zero_or_pos x with rfl | hp
        · exact has_put_same hM (show WideAt.IsKeyLit (.int .i64 0) from trivial) _
        · rw [has_put_other (fun e=>by simp at e;omega)]
          refine hG.out ?_ h0
          rcases Nat.eq_zero_or_pos j with rfl | hj0
          · have:=HZ.out h0
            rw [HXX.out] at this
            have:=Option.some.inj this
            omega
          · exact hj0
      have HPut:=Lib.hid hput
      clear hput
      go_wp2_with (go_at_call 99;refine (HSl.out fv _ HS2.out.row x).mono ?_;rintro e w3 ⟨rfl,hb3⟩;have HS3:=Lib.hid (HS2.out.below HC.out hb3);have hx3:=row_below hx2.out hb3;have hI3:=hI2.out.kept (Kept.below hb3);clear hb3 lk2 r12 lx2;obtain ⟨lk3,r9,r11,r12,r13,r14,r15⟩:=kmaps HS3.out.row;clear r9 r11 r13 r14 r15;obtain ⟨w4,hrun4,hown4,hgr4⟩:=HS3.out.mx.update (int_keyed Tryz.underlying3) Tryz.underlying96 (by unfold maxLen;omega) (keyI x (by omega)) (show RX (.slice none 0 0)=some (.lit (.bool true),[]) from rfl);have hx4:=Lib.hid (kept_map HS3.out.mx hgr4 _ _ _ _ hx3 (by decide) (by decide));have hI4:=Lib.hid (hI3.kept (kept_map HS3.out.mx hgr4));have HS4:=Lib.hid (HS3.out.putX HC.out hgr4 hown4);clear hx3 hI3 hown4 hgr4)
      clear hrun4 lk3 r12
      go_loopw [57] (fun i wr=>i=.int .i64 0∧wr=w4) (fun i _=>0)
      case atStart=>exact ⟨rfl,rfl⟩
      case round =>
        obtain ⟨rfl,hwr⟩:=hrel
        subst hwr
        go_wp2
        obtain ⟨w4',hw4'⟩ : ∃ w4',w4'=wr:=⟨_,rfl⟩
        subst hw4'
        go_loopw [79] (fun i wr=>i=.int .i64 0∧wr=w4') (fun i _=>0)
        case atStart=>exact ⟨rfl,rfl⟩
        case round =>
          obtain ⟨rfl,hwr⟩:=hrel
          subst hwr
          obtain ⟨lx,x0,x3,x4,x5⟩:=look3 hx4.out
          clear x4 x5
          by_cases hn1 : n=1
          · have en : ((n : Int) == 1)=true:=by simp;omega
            clear hn1
            go_upto_region 22 with fail
            go_quiet ((go_at_call 101;exact Calls.quiet_of_same (HE.out _)))
            go_wp2_with (go_at_call 45;refine (HFd.out F' (j+1) _ _ ⟨_,_,HS4.out.drew nq⟩ (by omega) _ _).mono ?_;rintro e w5 ⟨rfl,hk5,hkp5,_⟩)
            all_goals first
              | exact ⟨⟨j+1,F'+1,_,by first | rfl | simp,by omega,by omega,by omega,Lib.hid hk5,Lib.hid (IntsR.kept (show IntsR (World.drewN _ nq) _ _ from hI4.out) hkp5),Lib.hid (fun _ h0=>HPut.out h0)⟩,by simp [intV];omega⟩
              | exact ⟨⟨j+1,F',_,by first | rfl | simp,by omega,by omega,by omega,Lib.hid ⟨_,_,HS4.out.drew nq⟩,hI4,Lib.hid (fun _ h0=>HPut.out h0)⟩,by simp [intV];omega⟩
          · have en : ((n : Int) == 1)=false:=by simp;omega
            clear hn1
            go_upto_region 22 with fail
            go_quiet (fail)
            go_wp2
            exact ⟨⟨j+1,F',_,by first | rfl | simp,by omega,by omega,by omega,Lib.hid ⟨_,_,HS4.out.drew nq⟩,hI4,Lib.hid (fun _ h0=>HPut.out h0)⟩,by simp [intV];omega⟩
end Go.Proofs.YtbamnpenkjfgkaaGreat
