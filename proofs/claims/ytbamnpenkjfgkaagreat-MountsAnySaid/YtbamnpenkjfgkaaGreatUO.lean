/- Faults compared. -/
import Derived.Test.YtbamnpenkjfgkaaGreatUM
import Derived.Laws.StructEq
import Derived.Sort.Grow
import Derived.Deep.RegionHeldLaw
import Derived.Test.YtbamnpenkjfgkaaGreatUN
import Derived.Test.YtbamnpenkjfgkaaGreatUK
namespace Go.Proofs.YtbamnpenkjfgkaaGreat
open Go.RowKit Go.Sort
set_option maxRecDepth 100000 in
theorem eq93 (a b c d : Int) (w : World) : (binOp .eql 93 (.agg #[.int .i64 a,.int .i64 b]) (.agg #[.int .i64 c,.int .i64 d])).run Tryz.prog w=.ok (.bool (a == c && b == d)) w:=by
  have u3:=Tryz.underlying3
  have a3:=Tryz.isAgg3
  have z3:=Tryz.sizeOf3
  have hS : Tryz.prog.underlying 93=some (.struct (Tryz.prog.fieldsOf 93)):=by kernel_rfl
  have hp : Tryz.prog.stoodInHeld 93=false:=by kernel_rfl
  rw [run_eql_struct,show (10000 : Nat)=9999+1 from rfl,run_equalIn_agg w 9999 93 _ _ hS hp]
  simp only [Program.fieldsOf,Tryz.underlying93]
  go_simp
  by_cases h1 : a=c <;> by_cases h2 : b=d <;> simp [h1,h2]
def cmpI (x y : Int) : Int:=if x < y then -1 else if y < x then 1 else 0
set_option maxRecDepth 100000 in
set_option maxHeartbeats 8000000 in
theorem nan_walk (x : Int) (w : World) : Calls Tryz.prog 109 #[.int .i64 x] w fun e w'=>e=.returned (.bool false)∧w'=w:=by
  have h : (x != x)=false:=by simp
  go_enter Tryz.func109,Tryz.ntmps109
  go_wp2
  go_ret
  exact ⟨rfl,rfl⟩
set_option maxRecDepth 100000 in
set_option maxHeartbeats 8000000 in
theorem compare_walk (x y : Int) (w : World) : Calls Tryz.prog 52 #[.int .i64 x,.int .i64 y] w fun e w'=>e=.returned (.int .i64 (cmpI x y))∧w'=w:=by
  unfold cmpI
  by_cases h1 : x < y
  · rw [if_pos h1]
    go_enter Tryz.func52,Tryz.ntmps52
    go_wp2_with (go_at_call 109;refine (nan_walk _ _).mono ?_;rintro e w3 ⟨rfl,rfl⟩)
    go_ret
    exact ⟨rfl,rfl⟩
  · rw [if_neg h1]
    by_cases h2 : y < x
    · rw [if_pos h2]
      go_enter Tryz.func52,Tryz.ntmps52
      go_wp2_with (go_at_call 109;refine (nan_walk _ _).mono ?_;rintro e w3 ⟨rfl,rfl⟩)
      go_ret
      exact ⟨rfl,rfl⟩
    · rw [if_neg h2]
      go_enter Tryz.func52,Tryz.ntmps52
      go_wp2_with (go_at_call 109;refine (nan_walk _ _).mono ?_;rintro e w3 ⟨rfl,rfl⟩)
      go_ret
      exact ⟨rfl,rfl⟩
def orI (x y : Int) : Int:=if x ≠ 0 then x else y
set_option maxRecDepth 100000 in
set_option maxHeartbeats 8000000 in
theorem or_walk (x y : Int) (g : Nat) (w : World) (h : w.heap[g]?=some (.cells #[.int .i64 x,.int .i64 y] 3 (0,0))) : Calls Tryz.prog 51 #[.slice (some ⟨g,0,none⟩) 2 2] w fun e w'=>e=.returned (.int .i64 (orI x y))∧w'=w:=by
  have c0:=row_cell (i:=0) h rfl
  have c1:=row_cell (i:=1) h rfl
  have lg:=row_lt h
  have HO:=Lib.hid (rfl : orI x y=orI x y)
  clear h
  go_enter Tryz.func51,Tryz.ntmps51
  go_wp2
  go_loopw [8] (fun i wr=>∃ k : Nat,i=.int .i64 k∧k≤2∧wr=w∧Hid (1≤k→x=0)∧Hid (2≤k→y=0)) (fun i _=>2 - intV i)
  case atStart=>exact ⟨0,rfl,by omega,rfl,Lib.hid (fun h=>by omega),Lib.hid (fun h=>by omega)⟩
  case round =>
    obtain ⟨k,rfl,hk,hwr,hX,hY⟩:=hrel
    subst hwr
    have hkk : k=0∨k=1∨k=2:=by omega
    rcases hkk with rfl | rfl | rfl
    · by_cases hx : x=0
      · have ex : (x != 0)=false:=by simp [hx]
        have HX:=Lib.hid hx
        clear hx
        go_wp2
        exact ⟨⟨1,by first | rfl | simp,by omega,by first | rfl | trivial,Lib.hid (fun _=>HX.out),Lib.hid (fun h=>by omega)⟩,by simp [intV]⟩
      · have ex : (x != 0)=true:=by simp [hx]
        have HX:=Lib.hid hx
        clear hx
        go_wp2
        go_ret
        exact ⟨by unfold orI;rw [if_pos HX.out];rfl,rfl⟩
    · by_cases hx : y=0
      · have ex : (y != 0)=false:=by simp [hx]
        have HX:=Lib.hid hx
        clear hx
        go_wp2
        exact ⟨⟨2,by first | rfl | simp,by omega,by first | rfl | trivial,Lib.hid (fun _=>hX.out (by omega)),Lib.hid (fun _=>HX.out)⟩,by simp [intV]⟩
      · have ex : (y != 0)=true:=by simp [hx]
        have HX:=Lib.hid hx
        clear hx
        go_wp2
        go_ret
        exact ⟨by unfold orI;rw [if_neg (by have:=hX.out (by omega);omega)];rfl,rfl⟩
    · go_wp2
      go_ret
      exact ⟨by unfold orI;rw [if_neg (by have:=hX.out (by omega);omega),hY.out (by omega)];rfl,rfl⟩
def GD (w w' : World) : Prop:=∃ q os,w'=grow (w.drewN q) os
theorem GD.refl (w : World) : GD w w:=⟨0,#[],by rw [grow_empty];rfl⟩
end Go.Proofs.YtbamnpenkjfgkaaGreat
namespace Go.Proofs.YtbamnpenkjfgkaaGreat
open Go.RowKit Go.Sort
theorem GD.drew {w W : World} (h : GD w W) : GD w W.drew:=by
  obtain ⟨q,os,rfl⟩:=h
  exact ⟨q+1,os,rfl⟩
theorem GD.alloc {w W : World} (h : GD w W) (o : Obj) : GD w (W.alloc o):=by
  obtain ⟨q,os,rfl⟩:=h
  exact ⟨q,os ++ #[o],by rw [alloc_eq_grow,grow_grow]⟩
theorem GD.lt {w W : World} (h : GD w W) : w.heap.size≤W.heap.size:=by
  obtain ⟨q,os,rfl⟩:=h
  simp
theorem cell_al {w : World} {a : Addr} {v : Value} {o : Obj} (h : w.cell? a=some v) : (w.alloc o).cell? a=some v:=by rw [World.cell?_alloc_some w a o (by rw [h];rfl)];exact h
abbrev S50 (w : World) (x1 x2 y1 y2 : Int) (W : World) : Prop:=W.cell? ⟨w.heap.size,0,none⟩=some (.int .i64 x1)∧W.cell? ⟨w.heap.size,1,none⟩=some (.int .i64 x2)∧W.cell? ⟨w.heap.size+1,0,none⟩=some (.int .i64 y1)∧W.cell? ⟨w.heap.size+1,1,none⟩=some (.int .i64 y2)∧GD w W∧w.heap.size+2≤W.heap.size
theorem s50_alloc {w : World} {x1 x2 y1 y2 : Int} {W : World} (h : S50 w x1 x2 y1 y2 W) (o : Obj) : S50 w x1 x2 y1 y2 (W.alloc o):=by
  obtain ⟨h1,h2,h3,h4,h5,h6⟩:=h
  exact ⟨cell_al h1,cell_al h2,cell_al h3,cell_al h4,h5.alloc o,by rw [alloc_sz];omega⟩
theorem s50_next {w : World} {x1 x2 y1 y2 : Int} {W : World} (h : S50 w x1 x2 y1 y2 W.drew) (o : Obj) : S50 w x1 x2 y1 y2 (W.alloc o).drew:=s50_alloc h o
theorem s50_start (w : World) (x1 x2 y1 y2 : Int) : S50 w x1 x2 y1 y2 ((w.alloc (Obj.cells #[Value.int IntKind.i64 x1,Value.int IntKind.i64 x2] 93)).alloc (Obj.cells #[Value.int IntKind.i64 y1,Value.int IntKind.i64 y2] 93)).drew:=by
  have a : (w.alloc (Obj.cells #[Value.int IntKind.i64 x1,Value.int IntKind.i64 x2] 93)).heap[w.heap.size]?=some (.cells #[.int .i64 x1,.int .i64 x2] 93 (0,0)):=heap_alloc_new _ _
  have b:=heap_alloc_new (w.alloc (Obj.cells #[Value.int IntKind.i64 x1,Value.int IntKind.i64 x2] 93)) (Obj.cells #[Value.int IntKind.i64 y1,Value.int IntKind.i64 y2] 93)
  rw [alloc_sz] at b
  have c1:=cell_al (o:=Obj.cells #[Value.int IntKind.i64 y1,Value.int IntKind.i64 y2] 93) (row_cell (i:=0) a rfl)
  have c2:=cell_al (o:=Obj.cells #[Value.int IntKind.i64 y1,Value.int IntKind.i64 y2] 93) (row_cell (i:=1) a rfl)
  exact ⟨c1,c2,row_cell (i:=0) b rfl,row_cell (i:=1) b rfl,((GD.refl w).alloc _).alloc _ |>.drew,by show _≤((w.alloc _).alloc _).heap.size;rw [alloc_sz,alloc_sz];omega⟩
theorem row3 (w : World) (a b c : Obj) : (((w.alloc a).alloc b).alloc c).drew.heap[w.heap.size+1+1]?=some c:=by
  have h:=heap_alloc_new ((w.alloc a).alloc b) c
  rw [alloc_sz,alloc_sz] at h
  exact h
set_option maxRecDepth 100000 in
set_option maxHeartbeats 16000000 in
theorem order_walk (x y : Int × Int) (w : World) : Calls Tryz.prog 50 #[.agg #[.int .i64 x.1,.int .i64 x.2],.agg #[.int .i64 y.1,.int .i64 y.2]] w fun e w'=>e=.returned (.int .i64 (orI (cmpI x.1 y.1) (cmpI x.2 y.2)))∧GD w w':=by
  obtain ⟨x1,x2⟩:=x
  obtain ⟨y1,y2⟩:=y
  show Calls Tryz.prog 50 #[.agg #[.int .i64 x1,.int .i64 x2],.agg #[.int .i64 y1,.int .i64 y2]] w fun e w'=>e=.returned (.int .i64 (orI (cmpI x1 y1) (cmpI x2 y2)))∧GD w w'
  generalize hc1 : cmpI x1 y1=r1
  generalize hc2 : cmpI x2 y2=r2
  go_enter Tryz.func50,Tryz.ntmps50
  go_wp2_with fail
  go_region_held_law (fun W=>W.cell? ⟨w.heap.size,0,none⟩=some (.int .i64 x1)∧W.cell? ⟨w.heap.size,1,none⟩=some (.int .i64 x2)∧W.cell? ⟨w.heap.size+1,0,none⟩=some (.int .i64 y1)∧W.cell? ⟨w.heap.size+1,1,none⟩=some (.int .i64 y2)∧GD w W∧w.heap.size+2≤W.heap.size) (first | assumption | exact s50_start w x1 x2 y1 y2 | exact s50_next (by assumption) _ | trace_state) (first | (go_at_call 52;refine (compare_walk _ _ _).mono ?_;rintro e w3 ⟨rfl,rfl⟩) | (go_at_call 51;refine (or_walk r1 r2 (w.heap.size+1+1) _ (row3 w _ _ _)).mono ?_;rintro e w3 ⟨rfl,rfl⟩))
  go_wp2
  go_ret
  exact ⟨rfl,(((GD.refl w).alloc _).alloc _).alloc _ |>.drew⟩
end Go.Proofs.YtbamnpenkjfgkaaGreat
namespace Go.Proofs.YtbamnpenkjfgkaaGreat
open Go.RowKit Go.Sort
theorem eqIn93 (a b c d : Int) (w : World) : (Op.equalIn 10000 93 (.agg #[.int .i64 a,.int .i64 b]) (.agg #[.int .i64 c,.int .i64 d])).run Tryz.prog w=.ok (a == c && b == d) w:=by
  have h:=eq93 a b c d w
  rw [run_eql_struct] at h
  cases hh : (Op.equalIn 10000 93 (.agg #[.int .i64 a,.int .i64 b]) (.agg #[.int .i64 c,.int .i64 d])).run Tryz.prog w <;> rw [hh] at h <;> simp [Result.andThen] at h ⊢
  exact h
theorem ne93 (a b c d : Int) (w : World) : (binOp .neq 93 (.agg #[.int .i64 a,.int .i64 b]) (.agg #[.int .i64 c,.int .i64 d])).run Tryz.prog w=.ok (.bool (!(a == c && b == d))) w:=by
  rw [run_neq_struct,eqIn93]
  rfl
def Pairs (g F n0 : Nat) (w0 w : World) : Prop:=∃ cs,w.heap[g]?=some (.cells cs 93 (0,0))∧(∀ j,j < 2 * F→∃ n : Int,cs[j]?=some (.int .i64 n))∧Below n0 w0 w
section
variable {g F n0 : Nat} {w0 w : World}
theorem Pairs.drewN (h : Pairs g F n0 w0 w) (q : Nat) : Pairs g F n0 w0 (w.drewN q):=by
  obtain ⟨cs,h1,h2,h3⟩:=h
  exact ⟨cs,row_drewN h1 _,h2,⟨h3.os,h3.tape,h3.output,h3.size,h3.block⟩⟩
theorem Pairs.cell (h : Pairs g F n0 w0 w) {j : Nat} (hj : j < 2 * F) : ∃ n : Int,w.cell? ⟨g,j,none⟩=some (.int .i64 n)∧w.frozen? ⟨g,j,none⟩=false:=by
  obtain ⟨cs,h1,h2,h3⟩:=h
  obtain ⟨n,hn⟩:=h2 j hj
  exact ⟨n,row_cell h1 hn,row_frozen h1⟩
theorem Pairs.two (h : Pairs g F n0 w0 w) {k : Nat} (hj : k < F) : ∃ a b : Int,w.cell? ⟨g,k * 2,none⟩=some (.int .i64 a)∧w.cell? ⟨g,k * 2+1,none⟩=some (.int .i64 b)∧w.frozen? ⟨g,k * 2,none⟩=false∧w.frozen? ⟨g,k * 2+1,none⟩=false:=by
  obtain ⟨a,ha,fa⟩:=h.cell (j:=k * 2) (by omega)
  obtain ⟨b,hb,fb⟩:=h.cell (j:=k * 2+1) (by omega)
  exact ⟨a,b,ha,hb,fa,fb⟩
theorem Pairs.at2 (h : Pairs g F n0 w0 w) {o k m : Nat} (ho : o=m * 2) (hk : m+k < F) : ∃ a b : Int,w.cell? ⟨g,o+k * 2,none⟩=some (.int .i64 a)∧w.cell? ⟨g,o+k * 2+1,none⟩=some (.int .i64 b)∧w.frozen? ⟨g,o+k * 2,none⟩=false∧w.frozen? ⟨g,o+k * 2+1,none⟩=false:=by
  subst ho
  rw [show m * 2+k * 2=(m+k) * 2 by omega]
  exact h.two hk
theorem Pairs.set (h : Pairs g F n0 w0 w) (hn : n0≤g) (j : Nat) (n : Int) : Pairs g F n0 w0 (w.setCell ⟨g,j,none⟩ (.int .i64 n)):=by
  obtain ⟨cs,h1,h2,h3⟩:=h
  refine ⟨_,row_set h1 _,fun i hi=>?_,be_set h3 hn _ _⟩
  obtain ⟨m,hm⟩:=h2 i hi
  rw [Array.getElem?_setIfInBounds]
  by_cases e : j=i
  · have : i < cs.size:=by
      rcases Nat.lt_or_ge i cs.size with h | h
      · exact h
      · rw [Array.getElem?_eq_none h] at hm;cases hm
    exact ⟨n,by simp [e,this]⟩
  · exact ⟨m,by simp [e,hm]⟩
theorem Pairs.wiped (h : Pairs g F n0 w0 w) (hn : n0≤g) (o n : Nat) : Pairs g F n0 w0 (w.setCells g o (List.replicate n (.int .i64 0))):=by
  induction n generalizing o w with
  | zero=>exact h
  | succ n ih=>rw [List.replicate_succ];exact ih (h.set hn o 0) (o+1)
theorem Pairs.clears (h : Pairs g F n0 w0 w) (k : Nat) (hk : k < F) {cap : Nat} (ty : TypeId) : (Builtin.clear_ #[31] ty #[.slice (some ⟨g,k * 2,none⟩) (F - k) (cap - k)]).run Tryz.prog w=.ok (.tuple #[]) (w.setCells g (k * 2) (List.replicate ((F - k) * 2) (.int .i64 0))):=by
  have hz : ∀ w,(zeroValue 93).run Tryz.prog w=.ok (.agg #[.int .i64 0,.int .i64 0]) w:=Tryz.zeroValue93
  have hzc : (Builtin.zeroCells (Value.agg #[.int .i64 0,.int .i64 0]).cells (F - k)).toList=List.replicate ((F - k) * 2) (.int .i64 0):=by
    have e : (Value.agg #[.int .i64 0,.int .i64 0]).cells=#[.int .i64 0,.int .i64 0]:=by kernel_rfl
    rw [e]
    unfold Builtin.zeroCells
    apply List.ext_getElem
    · simp
    · intro i h1 h2
      simp
      have : i % 2=0∨i % 2=1:=by omega
      rcases this with e | e <;> simp [e]
  have hst:=run_storeCells_cells (P:=Tryz.prog) g (k * 2) (List.replicate ((F - k) * 2) (.int .i64 0)) 0 w
    (fun j hj=>by obtain ⟨n,hc,_⟩:=h.cell (j:=k * 2+0+j) (by simp at hj;omega);rw [hc];rfl)
    (fun j hj=>by obtain ⟨n,_,hf⟩:=h.cell (j:=k * 2+0+j) (by simp at hj;omega);exact hf)
    (by intro v hv';rw [List.eq_of_mem_replicate hv'];rfl)
  simp only [Nat.add_zero] at hst
  obtain ⟨m,hm⟩ : ∃ m,F - k=m+1:=⟨F - k - 1,by omega⟩
  rw [hm] at hzc hst ⊢
  simp [Builtin.clear_,run_underlying Tryz.underlying31,hz,hzc,hst]
end
set_option maxRecDepth 100000 in
set_option maxHeartbeats 16000000 in
theorem compact_walk (g F cap n0 : Nat) (hF : F≤1000000) (hcap : F≤cap) (hn : n0≤g) (w0 w : World) (h : Pairs g F n0 w0 w) : Calls Tryz.prog 53 #[.slice (some ⟨g,0,none⟩) F cap] w fun e w'=>(∃ A n cp,e=.returned (.slice A n cp)∧(1≤F→1≤n))∧Below n0 w0 w':=by
  have HP:=Lib.hid h
  have HB : Below n0 w0 w:=h.choose_spec.2.2
  have HB':=Lib.hid HB
  clear h HB
  by_cases h2 : F < 2
  · go_enter Tryz.func53,Tryz.ntmps53
    go_wp2
    go_ret
    exact ⟨⟨_,_,_,rfl,fun h=>h⟩,HB'.out⟩
  · go_enter Tryz.func53,Tryz.ntmps53
    go_wp2
    go_loopw [3] (fun k wr=>∃ kn : Nat,k=.int .i64 kn∧1≤kn∧kn≤F∧Hid (Pairs g F n0 w0 wr)) (fun k _=>F - intV k)
    case atStart=>exact ⟨1,rfl,by omega,by omega,HP⟩
    case round =>
      obtain ⟨kn,rfl,hk1,hk2,HPr⟩:=hrel
      by_cases hlt : kn < F
      · obtain ⟨m,rfl⟩ : ∃ m,kn=m+1:=⟨kn - 1,by omega⟩
        obtain ⟨a,b,ca,cb,_,_⟩:=HPr.out.two hlt
        obtain ⟨a',b',ca',cb',_,_⟩:=HPr.out.two (k:=m) (by omega)
        have hcm : m+1 < cap:=by omega
        have hcm2 : cap ≠ m+1:=by omega
        have he:=fun W=>eq93 a b a' b' W
        have he2:=fun W=>eqIn93 a b a' b' W
        generalize (a == a' && b == b')=E at he he2
        push_cast at *
        cases E
        · go_wp2_with fail
          go_quiet (fail)
          go_wp2
          exact ⟨⟨m+1+1,by first | rfl | simp,by omega,by omega,Lib.hid (HPr.out.drewN _)⟩,by simp [intV];omega⟩
        · go_wp2_with fail
          go_quiet (fail)
          go_wp2
          have HX:=Lib.hid (HPr.out.drewN nq)
          clear ca cb ca' cb' he he2
          generalize wr.drewN nq=wx at *
          clear HPr
          generalize hO : (m+1) * 2=o1
          generalize hL : F - (m+1)=L
          generalize cap - (m+1)=c1
          have HO:=Lib.hid hO.symm
          have HL:=Lib.hid hL
          have hLF : L < F:=by omega
          clear hO hL
          go_loopw [3,5] (fun s3 s5 W=>∃ kk k2 : Nat,s3=.int .i64 kk∧s5=.int .i64 k2∧1≤kk∧1≤k2∧k2≤L∧Hid (kk≤m+k2)∧Hid (Pairs g F n0 w0 W)) (fun _ s5 _=>L - intV s5)
          case atStart=>exact ⟨m+1,1,by first | rfl | simp,rfl,by omega,by omega,by have:=HL.out;omega,Lib.hid (by omega),HX⟩
          case round =>
            obtain ⟨kk,k2,rfl,rfl,h1,h3,h4,h5,HQ⟩:=hrel
            by_cases hl2 : k2 < L
            · obtain ⟨k3,rfl⟩ : ∃ k3,k2=k3+1:=⟨k2 - 1,by omega⟩
              have hkF : kk < F:=by have:=h5.out;have:=HL.out;omega
              obtain ⟨x,y,cx,cy,fx,fy⟩:=HQ.out.two hkF
              obtain ⟨a,b,ca,cb,_,_⟩:=HQ.out.at2 (k:=k3+1) HO.out (by have:=HL.out;omega)
              obtain ⟨a',b',ca',cb',_,_⟩:=HQ.out.at2 (k:=k3) HO.out (by have:=HL.out;omega)
              have he:=fun W=>ne93 a b a' b' W
              have he2:=fun W=>eqIn93 a b a' b' W
              generalize (a == a' && b == b')=E at he he2
              push_cast at *
              cases E
              · go_wp2_with fail
                go_quiet (fail)
                go_wp2
                exact ⟨⟨kk+1,k3+1+1,by first | rfl | simp,by first | rfl | simp,by omega,by omega,by omega,Lib.hid (by have:=h5.out;omega),Lib.hid (((HQ.out.drewN _).set hn _ _).set hn _ _)⟩,by simp [intV];omega⟩
              · go_wp2_with fail
                go_quiet (fail)
                go_wp2
                exact ⟨⟨kk,k3+1+1,rfl,by first | rfl | simp,by omega,by omega,by omega,Lib.hid (by have:=h5.out;omega),Lib.hid (HQ.out.drewN _)⟩,by simp [intV];omega⟩
            · have hkF : kk < F:=by have:=h5.out;have:=HL.out;omega
              have hkc : cap ≠ kk:=by omega
              have hcl:=fun ty=>HQ.out.clears kk hkF (cap:=cap) ty
              go_wp2
              go_ret
              exact ⟨⟨_,_,_,rfl,fun _=>h1⟩,(HQ.out.wiped hn _ _).choose_spec.2.2⟩
      · go_wp2
        go_ret
        exact ⟨⟨_,_,_,rfl,fun h=>h⟩,HPr.out.choose_spec.2.2⟩
end Go.Proofs.YtbamnpenkjfgkaaGreat
namespace Go.Proofs.YtbamnpenkjfgkaaGreat
open Go.RowKit Go.Sort Go.Maps
def SortIs : Prop:=∀ (g F cap n0 : Nat) (w0 w : World),F≤1000000→n0≤g→Pairs g F n0 w0 w→Calls Tryz.prog 49 #[.slice (some ⟨g,0,none⟩) F cap,.func (.func 50) #[] #[]] w fun e w'=>e=.returned (.tuple #[])∧Pairs g F n0 w0 w'
set_option maxRecDepth 100000 in
theorem geoEq (x0 x1 x2 x3 x4 x5 x6 x7 x8 : Int) (w : World) : (Op.equalIn 10000 42 (.agg #[.int .i64 x0,.int .i64 x1,.int .i64 x2,.int .i64 x3,.int .i64 x4,.int .i64 x5,.int .i64 x6,.int .i64 x7,.int .i64 x8]) (.agg #[.int .i64 x0,.int .i64 x1,.int .i64 x2,.int .i64 x3,.int .i64 x4,.int .i64 x5,.int .i64 x6,.int .i64 x7,.int .i64 x8])).run Tryz.prog w=.ok true w:=by
  have u3:=Tryz.underlying3
  have a3:=Tryz.isAgg3
  have z3:=Tryz.sizeOf3
  have hS : Tryz.prog.underlying 42=some (.struct (Tryz.prog.fieldsOf 42)):=by kernel_rfl
  have hp : Tryz.prog.stoodInHeld 42=false:=by kernel_rfl
  rw [show (10000 : Nat)=9999+1 from rfl,run_equalIn_agg w 9999 42 _ _ hS hp]
  simp only [Program.fieldsOf,Tryz.underlying42]
  go_simp
theorem geoNe (x0 x1 x2 x3 x4 x5 x6 x7 x8 : Int) (w : World) : (binOp .neq 42 (.agg #[.int .i64 x0,.int .i64 x1,.int .i64 x2,.int .i64 x3,.int .i64 x4,.int .i64 x5,.int .i64 x6,.int .i64 x7,.int .i64 x8]) (.agg #[.int .i64 x0,.int .i64 x1,.int .i64 x2,.int .i64 x3,.int .i64 x4,.int .i64 x5,.int .i64 x6,.int .i64 x7,.int .i64 x8])).run Tryz.prog w=.ok (.bool false) w:=by
  rw [run_neq_struct,geoEq]
  rfl
theorem fnNilIn (n : Nat) (f : Fn) (cs bs : Array Value) (w : World) : (Op.equalIn (n+1) 50 (.func f cs bs) Value.nilFunc).run Tryz.prog w=.ok false w:=by
  simp [Op.equalIn,run_underlying Tryz.underlying50]
theorem fnNil (f : Fn) (cs bs : Array Value) (w : World) : (binOp .eql 50 (.func f cs bs) Value.nilFunc).run Tryz.prog w=.ok (.bool false) w:=by
  simp only [binOp]
  simp [Op.equal,Op.maxDepth,fnNilIn 9999]
theorem ki_new {w w2 : World} (hB : Below w.heap.size w w2) (d sb sl sm y4 y5 y6 y7 y8 : Nat) (s : Sup) (o : Obj) : ∃ c : KC,c.k=w2.heap.size+1+1+1+1+1∧c.d=d∧c.b=sb∧c.l=sl∧c.m=sm∧c.y4=y4∧c.y5=y5∧c.y6=y6∧c.y7=y7∧c.y8=y8∧c.s=s∧c.ok w.heap.size ∧
    KI w c 0 0 (.map []) 0 (.map []) ((((((w2.alloc o).alloc (.map #[] 0)).alloc (.map #[] 0)).alloc (.map #[] 0)).alloc (.map #[] 0)).alloc (.cells #[.int .i64 sb,.int .i64 sl,.int .i64 sm,.int .i64 1,.int .i64 y4,.int .i64 y5,.int .i64 y6,.int .i64 y7,.int .i64 y8,.func (.func 18) #[.pointer (some ⟨d,0,none⟩)] #[],.slice none 0 0,.map (some (w2.heap.size+1)),.map (some (w2.heap.size+1+1)),.map (some (w2.heap.size+1+1+1)),.slice none 0 0,.map (some (w2.heap.size+1+1+1+1)),.int .i64 s.b,.int .i64 s.l,.int .i64 s.m,.int .i64 s.cur,.int .i64 s.ino,.int .i64 s.log,.int .i64 s.frm,.int .i64 s.tto,.int .i64 s.len,.int .i64 s.mov] 100)):=by
  have hs:=hB.size
  have z1 : (w2.alloc o).heap.size=w2.heap.size+1:=alloc_sz _ _
  have m1:=World.ownsMap_made (w2.alloc o) Tryz.prog 3 RN
  have m2:=World.ownsMap_made ((w2.alloc o).alloc (.map #[] 0)) Tryz.prog 3 RX
  have m3:=World.ownsMap_made (((w2.alloc o).alloc (.map #[] 0)).alloc (.map #[] 0)) Tryz.prog 3 RI
  have m4:=World.ownsMap_made ((((w2.alloc o).alloc (.map #[] 0)).alloc (.map #[] 0)).alloc (.map #[] 0)) Tryz.prog 3 RI
  simp only [alloc_sz] at m1 m2 m3 m4
  refine ⟨⟨d,sb,sl,sm,y4,y5,y6,y7,y8,w2.heap.size+1+1+1+1+1,w2.heap.size+1,w2.heap.size+1+1,w2.heap.size+1+1+1,w2.heap.size+1+1+1+1,w2.heap.size+1+1+1+1+1+1,s⟩,rfl,rfl,rfl,rfl,rfl,rfl,rfl,rfl,rfl,rfl,rfl,?_,.slice none 0 0,[],?_⟩
  · constructor <;> dsimp only <;> omega
  · refine ⟨?_,⟨rfl,.inl ⟨rfl,rfl⟩⟩,fun v hv=>(List.not_mem_nil hv).elim,(((m1.alloc _).alloc _).alloc _).alloc _,((m2.alloc _).alloc _).alloc _,(m3.alloc _).alloc _,m4.alloc _,bl_alloc (bl_alloc (bl_alloc (bl_alloc (bl_alloc (bl_alloc hB _) _) _) _) _) _,?_⟩
    · have h:=row_new (((((w2.alloc o).alloc (.map #[] 0)).alloc (.map #[] 0)).alloc (.map #[] 0)).alloc (.map #[] 0)) (.cells #[.int .i64 sb,.int .i64 sl,.int .i64 sm,.int .i64 1,.int .i64 y4,.int .i64 y5,.int .i64 y6,.int .i64 y7,.int .i64 y8,.func (.func 18) #[.pointer (some ⟨d,0,none⟩)] #[],.slice none 0 0,.map (some (w2.heap.size+1)),.map (some (w2.heap.size+1+1)),.map (some (w2.heap.size+1+1+1)),.slice none 0 0,.map (some (w2.heap.size+1+1+1+1)),.int .i64 s.b,.int .i64 s.l,.int .i64 s.m,.int .i64 s.cur,.int .i64 s.ino,.int .i64 s.log,.int .i64 s.frm,.int .i64 s.tto,.int .i64 s.len,.int .i64 s.mov] 100)
      simp only [alloc_sz] at h
      exact h
    · simp only [alloc_sz];omega
theorem KI.len {w0 w : World} {c : KC} {F nn nx : Nat} {Dn Dx : DataW Unit} (h : KI w0 c F nn Dn nx Dx w) : w.cell? ⟨c.k,24,none⟩=some (.int .i64 c.s.len):=by
  obtain ⟨fv,xs,h⟩:=h
  exact row_cell h.row rfl
theorem row_lt' {w0 w : World} {c : KC} {F nn nx : Nat} {Dn Dx : DataW Unit} (h : KI w0 c F nn Dn nx Dx w) : c.k < w.heap.size:=by
  obtain ⟨fv,xs,h⟩:=h
  exact row_lt h.row
theorem cellB {B : Nat} {w w' : World} (h : Below B w w') {k i : Nat} (hk : k < B) : w'.cell? ⟨k,i,none⟩=w.cell? ⟨k,i,none⟩:=by
  simp only [World.cell?,h.block k hk]
theorem KI.faults {w0 w : World} {c : KC} {F nn nx : Nat} {Dn Dx : DataW Unit} (h : KI w0 c F nn Dn nx Dx w) (hF : 1≤F) : ∃ g cap,w.cell? ⟨c.k,10,none⟩=some (.slice (some ⟨g,0,none⟩) F cap)∧F≤cap∧c.B≤g∧Pairs g F c.B w w∧Below w0.heap.size w0 w:=by
  obtain ⟨fv,xs,h⟩:=h
  have hr : w.cell? ⟨c.k,10,none⟩=some fv:=row_cell h.row rfl
  rcases h.own.2 with ⟨_,h0⟩ | ⟨g,cap,cur,rfl,hg,hrow,hn,hm,hsz,htk⟩
  · omega
  · refine ⟨g,cap,hr,hn,hg,⟨cur,hrow,fun j hj=>?_,Below.refl _ _⟩,h.bl⟩
    have hx:=h.ints
    have hl : xs.length=F * 2:=h.own.1
    have hj' : j < xs.length:=by omega
    obtain ⟨n,hn'⟩:=hx xs[j] (List.getElem_mem hj')
    refine ⟨n,?_⟩
    have e : xs[j]?=some (.int .i64 n):=by rw [List.getElem?_eq_getElem hj',hn']
    rw [← htk,List.getElem?_take,if_pos (by omega),Array.getElem?_toList] at e
    exact e
set_option maxRecDepth 100000 in
set_option maxHeartbeats 32000000 in
theorem look_walk (HRep : RepIs) (HB : BlkNil) (HBW : BWrite) (HBS : BString) (HSort : SortIs) {w : World} {d : Nat} {bs : List ByteArray} (h : DevIs w d bs) {b : ByteArray} {l : List UInt8} (hb : bs[0]?=some b) (hl : b.data.toList=l) (hlen : l.length=128) (hsup : supGood l bs.length) (h128 : ∀ (k : Nat) (b : ByteArray),bs[k]?=some b→b.data.toList.length=128) (hno : NoEnt bs) :
    Calls Tryz.prog 17 #[geoV (decS l).b (decS l).l (decS l).m,.func (.func 18) #[pV d] #[]] w fun e w'=>(∃ A n cp,e=.returned (.slice A n cp)∧1≤n)∧Below w.heap.size w w':=by
  have hyes : (decS l).ok∧(decS l).enc=l:=⟨hsup.1,hsup.2.1⟩
  have hne:=hsup.2.2
  have HS:=fun W=>(supDec_walk HRep b l hl hlen W).mono fun e w' hh=>(⟨hh.1.elim (fun x=>x.2) (fun x=>absurd hyes x.1),hh.2⟩ : e=.returned (.tuple #[(decS l).v,.int .i64 0])∧Below W.heap.size W w')
  generalize hs : decS l=s at *
  have hg : geoOk s.b s.l s.m:=hyes.1.1
  have hm1 : 1≤s.m∧s.m≤512∧s.b≤4096:=by unfold geoOk at hg;omega
  have hO:=fun W=>of_walk s.b s.l s.m (by unfold geoOk at hg;omega) (by unfold geoOk at hg;omega) (by unfold geoOk at hg;omega) W
  unfold geoPost at hO
  have HO:=Lib.hid (fun W=>(hO W).mono fun e w' hh=>(⟨hh.1.elim (fun x=>x.2) (fun x=>absurd hg x.1),hh.2⟩ : e=.returned (.tuple #[geoV s.b s.l s.m,.int .i64 0])∧Below W.heap.size W w'))
  have HS:=Lib.hid HS
  have HRd:=Lib.hid (fun (W : World) (hB : Below w.heap.size w W)=>read_walk (k:=0) (dev_below h hB) hb)
  have hmk1:=fun W : World=>run_makeMap (P:=Tryz.prog) 95 W
  have hmk2:=fun W : World=>run_makeMap (P:=Tryz.prog) 96 W
  have hmk3:=fun W : World=>run_makeMap (P:=Tryz.prog) 97 W
  have HNew:=Lib.hid (fun (w2 : World) (hB : Below w.heap.size w w2) (o : Obj)=>ki_new hB d s.b s.l s.m (1+s.l) ((s.b+1023) / 1024) (1+s.l+(s.b+1023) / 1024) (s.m / 2) (dataAt s.b s.l s.m) s o)
  have HTab:=Lib.hid (fun (c : KC) (hd : c.d=d) (h1 : c.b=s.b) (h2 : c.l=s.l) (h3 : c.m=s.m) (h4 : c.y4=1+s.l) (h5 : c.y5=(s.b+1023) / 1024) (h6 : c.y6=1+s.l+(s.b+1023) / 1024) (h7 : c.y7=s.m / 2) (h8 : c.y8=dataAt s.b s.l s.m) (hc : c.ok w.heap.size) (W : World) (hk : KI w c 0 0 (.map []) 0 (.map []) W)=>table_walk HRep (by rw [hd];exact h) (show c.geo bs from ⟨by rw [h1,h2,h3];exact hg,by rw [h1];exact hne,by rw [h4,h2],by rw [h5,h1],by rw [h6,h2,h1],by rw [h7,h3],by rw [h8,h1,h2,h3]⟩) h128 hno hc hk)
  have HBit:=Lib.hid (fun (c : KC) (hd : c.d=d) (h1 : c.b=s.b) (h2 : c.l=s.l) (h3 : c.m=s.m) (h4 : c.y4=1+s.l) (h5 : c.y5=(s.b+1023) / 1024) (h6 : c.y6=1+s.l+(s.b+1023) / 1024) (h7 : c.y7=s.m / 2) (h8 : c.y8=dataAt s.b s.l s.m) (hc : c.ok w.heap.size) (F nn nx : Nat) (Dn Dx : DataW Unit) (W : World) (hk : KI w c F nn Dn nx Dx W) (hF : F≤10000)=>bitmap_walk HBW HBS (show DevIs w c.d bs by rw [hd];exact h) (show c.geo bs from ⟨by rw [h1,h2,h3];exact hg,by rw [h1];exact hne,by rw [h4,h2],by rw [h5,h1],by rw [h6,h2,h1],by rw [h7,h3],by rw [h8,h1,h2,h3]⟩) h128 hc hk hF)
  have HTr:=Lib.hid (fun (c : KC) (hc : c.ok w.heap.size) (F nn : Nat) (Dn : DataW Unit) (W : World) (hk : KI w c F nn Dn 0 (.map []) W) (hF : F≤5000) (hm : c.m≤512) (hm1 : 1≤c.m)=>trees_walk HB hc hk hF hm hm1)
  obtain ⟨sb,sl,sm,s3,s4,s5,s6,s7,s8,s9⟩:=s
  dsimp only at *
  have HM:=Lib.hid hm1
  have HR0:=Lib.hid (row_new w (.cells #[iV sb,iV sl,iV sm,iV 1,iV (1+sl),iV ((sb+1023) / 1024),iV (1+sl+(sb+1023) / 1024),iV (sm / 2),iV (dataAt sb sl sm)] 42))
  have HB0:=Lib.hid (below_one w (.cells #[iV sb,iV sl,iV sm,iV 1,iV (1+sl),iV ((sb+1023) / 1024),iV (1+sl+(sb+1023) / 1024),iV (sm / 2),iV (dataAt sb sl sm)] 42))
  have HSo:=Lib.hid HSort
  clear hO hg h hb hl hlen hsup hyes hne hs HRep hm1 HB HBW HBS HSort h128 hno
  unfold geoV pV Sup.v iV at *
  generalize (1+sl+(sb+1023) / 1024 : Nat)=y6 at *
  generalize (1+sl : Nat)=y4 at *
  generalize ((sb+1023) / 1024 : Nat)=y5 at *
  generalize (sm / 2 : Nat)=y7 at *
  generalize (dataAt sb sl sm : Nat)=y8 at *
  have hfn:=fun W=>fnNil (.func 18) #[.pointer (some ⟨d,0,none⟩)] #[] W
  have hgn:=fun W=>geoNe (sb : Int) sl sm (1 : Nat) y4 y5 y6 y7 y8 W
  have hge:=fun W=>geoEq (sb : Int) sl sm (1 : Nat) y4 y5 y6 y7 y8 W
  dsimp only at *
  go_enter Tryz.func17,Tryz.ntmps17
  go_wp2_with first
    | (go_at_call 23;refine (HO.out _).mono ?_;rintro e w1 ⟨rfl,hb1⟩;have HB1:=Lib.hid (bl_trans HB0.out hb1);have HR1:=Lib.hid (row_below HR0.out hb1);obtain ⟨l1,c0,c1,c2,c3,c4,c5,c6,c7,c8⟩:=nine HR1.out;clear hb1)
    | (go_at_call 18;refine (HRd.out _ (bl_alloc HB1.out _)).mono ?_;rintro e wz ⟨rfl,rfl⟩)
    | (go_at_call 34;refine (HS.out _).mono ?_;rintro e w2 ⟨rfl,hb2⟩;have HB2:=Lib.hid (bl_trans (bl_alloc HB1.out _) hb2);have HR2:=Lib.hid (row_below (row_old HR1.out) hb2);clear c0 c1 c2 c3 c4 c5 c6 c7 c8 hb2;obtain ⟨l2,c0,c1,c2,c3,c4,c5,c6,c7,c8⟩:=nine HR2.out)
  go_at_call 43
  obtain ⟨c,ek,ed,e1,e2,e3,e4,e5,e6,e7,e8,es,hc,hk⟩:=HNew.out w2 HB2.out (.cells #[.int .i64 sb,.int .i64 sl,.int .i64 sm,.int .i64 s3,.int .i64 s4,.int .i64 s5,.int .i64 s6,.int .i64 s7,.int .i64 s8,.int .i64 s9] 67)
  rw [← ek]
  refine (HTab.out c ed e1 e2 e3 e4 e5 e6 e7 e8 hc _ hk).mono ?_
  rintro e w3 ⟨rfl,hsays⟩
  obtain ⟨F1,Dn,hF1,hK3,hor⟩:=hsays
  have HE:=Lib.hid hor
  have hcm:=Lib.hid (show 1≤c.m∧c.m≤512∧c.b≤4096 by rw [e3,e1];exact HM.out)
  have HEq:=Lib.hid (show c.d=d∧c.b=sb∧c.l=sl∧c.m=sm∧c.y4=y4∧c.y5=y5∧c.y6=y6∧c.y7=y7∧c.y8=y8 from ⟨ed,e1,e2,e3,e4,e5,e6,e7,e8⟩)
  clear ek ed e1 e2 e3 e4 e5 e6 e7 e8 es
  clear hk hor hmk1 hmk2 hmk3 hfn hgn hge c0 c1 c2 c3 c4 c5 c6 c7 c8
  go_wp2_with (go_at_call 44;refine (HTr.out c hc _ _ _ _ hK3 (by have:=hcm.out;omega) hcm.out.2.1 hcm.out.1).mono ?_;rintro e w4 ⟨rfl,hsays⟩;obtain ⟨F2,nx,Dx,hF2,hF2',hnx,hK4,hH4⟩:=hsays;have HH:=Lib.hid hH4;have c24:=hK4.len;have lk:=row_lt' hK4;clear hH4 hK3)
  all_goals
    go_wp2_with first
      | (go_at_call 45;refine (finds_walk hc hK4 (by have:=hcm.out;omega) _ _).mono ?_;rintro e w5 ⟨rfl,hK5,_,_⟩)
      | (go_at_call 46;refine (HBit.out c HEq.out.1 HEq.out.2.1 HEq.out.2.2.1 HEq.out.2.2.2.1 HEq.out.2.2.2.2.1 HEq.out.2.2.2.2.2.1 HEq.out.2.2.2.2.2.2.1 HEq.out.2.2.2.2.2.2.2.1 HEq.out.2.2.2.2.2.2.2.2 hc _ _ _ _ _ _ (by assumption) (by have:=hcm.out;omega)).mono ?_;rintro e w6 ⟨rfl,hs6⟩;obtain ⟨F3,hF3,hF3',hK6⟩:=hs6)
      | (go_at_call 47;refine (dirs_walk hc hK6 (by have:=hcm.out;omega) hcm.out.2.1 hcm.out.1).mono ?_;rintro e w7 ⟨rfl,hs7⟩;obtain ⟨F4,hF4,hF4',hK7,hd7⟩:=hs7;have H1 : 1≤F4:=HE.out.elim (fun h=>by omega) (fun g=>hd7 g (HH.out g.1));clear hd7)
      | (go_at_call 48;refine (links_walk hc hK7 (by have:=hcm.out;omega) hcm.out.2.1 hcm.out.1).mono ?_;rintro e w8 ⟨rfl,hs8⟩;obtain ⟨F5,hF5,hF5',hK8⟩:=hs8;obtain ⟨g,cap,c10,hcap,hBg,hP,hBl⟩:=hK8.faults (by omega);have HP:=Lib.hid hP;have HBl:=Lib.hid hBl;have lk8:=row_lt' hK8;clear hP hBl)
      | (go_at_call 49;refine (HSo.out g F5 cap c.B w8 w8 (by have:=hcm.out;omega) hBg HP.out).mono ?_;rintro e w9 ⟨rfl,hP9⟩;have HP9:=Lib.hid hP9;have c10':=(cellB (i:=10) hP9.choose_spec.2.2 hc.k.2).trans c10;clear hP9)
      | (go_at_call 53;refine (compact_walk g F5 cap c.B (by have:=hcm.out;omega) hcap hBg w8 w9 HP9.out).mono ?_;rintro e w10 ⟨he,hB10⟩;obtain ⟨A,n,cp,rfl,hn⟩:=he;have HB10:=Lib.hid hB10;clear hB10)
    go_ret
    exact ⟨⟨_,_,_,rfl,hn (by omega)⟩,HBl.out.trans (HB10.out.mono (Nat.le_of_lt (Nat.lt_of_le_of_lt hc.k.1 hc.k.2)))⟩
end Go.Proofs.YtbamnpenkjfgkaaGreat
