/- Entries: may one be? -/
import Derived.Test.YtbamnpenkjfgkaaGreatUA
import Derived.BigQuiet
import Derived.Deep.QuietTactic
import Derived.Laws.OwnMore
import Derived.Maps.AppendAt
import Derived.OwnWalk
namespace Go.Proofs.YtbamnpenkjfgkaaGreat
open Go.RowKit
structure Ent where
  lg : Nat
  ph : Nat
  ln : Nat
def Ent.v (x : Ent) : Value:=.agg #[iV x.lg,iV x.ph,iV x.ln]
def Ent.cs (x : Ent) : List Value:=[iV x.lg,iV x.ph,iV x.ln]
def Ent.small (x : Ent) : Prop:=x.lg < 4294967296∧x.ph < 4294967296∧x.ln < 4294967296
def Ent.may (x : Ent) : Bool→Prop
  | true=>1≤x.ln∧x.ln≤4096∧x.lg+x.ln≤2048∧1≤x.ph∧x.ph+x.ln≤4096
  | false=>x.ln=0∧x.lg+1≤2048∧1≤x.ph∧x.ph+1≤4096
instance (x : Ent) (b : Bool) : Decidable (x.may b):=by cases b <;> (unfold Ent.may;exact inferInstance)
set_option maxRecDepth 100000 in
set_option maxHeartbeats 8000000 in
theorem entMay_walk (x : Ent) (hx : x.small) (leaf : Bool) (w : World) : Calls Tryz.prog 276 #[x.v,.bool leaf] w fun e w'=>Ans e (x.may leaf)∧Below w.heap.size w w':=by
  obtain ⟨lg,ph,ln⟩:=x
  unfold Ent.v iV
  unfold Ent.small at hx
  dsimp only at hx ⊢
  obtain ⟨h1,h2,h3⟩:=hx
  cases leaf
  all_goals
    go_enter Tryz.func276,Tryz.ntmps276
    go_wp2
    all_goals
      go_ret
      refine ⟨⟨_,rfl,?_⟩,below_one _ _⟩
      unfold Ent.may
      dsimp only
      first | (simp;omega) | (simp_all;done) | (simp_all;omega) | trace_state
end Go.Proofs.YtbamnpenkjfgkaaGreat
namespace Go.Proofs.YtbamnpenkjfgkaaGreat
open Go.RowKit
def Ents (w : World) (v : Value) (es : List Ent) : Prop:=∃ A cap,v=.slice A es.length cap∧∀ (j : Nat) (x : Ent),es[j]?=some x→∃ g,A=some ⟨g,0,none⟩∧g < w.heap.size∧w.cell? ⟨g,j * 3,none⟩=some (iV x.lg)∧w.cell? ⟨g,j * 3+1,none⟩=some (iV x.ph)∧w.cell? ⟨g,j * 3+2,none⟩=some (iV x.ln)
theorem Ents.below {w w' : World} {v : Value} {es : List Ent} (h : Ents w v es) (hb : Below w.heap.size w w') : Ents w' v es:=by
  obtain ⟨A,cap,rfl,hc⟩:=h
  refine ⟨A,cap,rfl,fun j x hx=>?_⟩
  obtain ⟨g,rfl,hg,c0,c1,c2⟩:=hc j x hx
  have hs:=hb.size
  exact ⟨g,rfl,by omega,by rw [hb.cell hg];exact c0,by rw [hb.cell hg];exact c1,by rw [hb.cell hg];exact c2⟩
theorem below_drews {B : Nat} {a w : World} (h : Below B a w) (n : Nat) : Below B a (w.drewN n):=⟨h.os,h.tape,h.output,h.size,h.block⟩
def entsTo (es : List Ent) (leaf : Bool) (k : Nat) : Prop:=∀ i x,i < k→es[i]?=some x→x.may leaf∧∀ y,0 < i→es[i - 1]?=some y→y.lg < x.lg∧y.lg+y.ln≤x.lg
set_option maxRecDepth 100000 in
set_option maxHeartbeats 8000000 in
theorem entCheck_walk (v : Value) (es : List Ent) (leaf : Bool) (hes : ∀ x ∈ es,x.small) (hn : es.length < 100) (w : World) (hv : Ents w v es) : Calls Tryz.prog 226 #[v,.bool leaf] w fun e w'=>Ans e (entsTo es leaf es.length)∧Below w.heap.size w w':=by
  have hM:=fun (x : Ent) (hx : x ∈ es) (W : World)=>(entMay_walk x (hes x hx) leaf W)
  obtain ⟨A,cap,rfl,hc⟩:=hv
  go_enter Tryz.func226,Tryz.ntmps226
  go_wp2
  go_loopw [10] (fun i wr=>∃ (k : Nat),i=.int .i64 k∧k≤es.length∧Hid (entsTo es leaf k)∧Hid (Below w.heap.size w wr)) (fun i _=>es.length - intV i)
  case atStart=>exact ⟨0,rfl,by omega,fun i x hi=>by omega,Below.refl _ _⟩
  case round =>
    obtain ⟨k,rfl,hk,hT,hB⟩:=hrel
    by_cases hkn : k=es.length
    · subst hkn
      go_wp2
      go_ret
      exact ⟨⟨true,rfl,by simp;exact hT.out⟩,hB.out⟩
    · obtain ⟨x,hx⟩ : ∃ x,es[k]?=some x:=⟨es[k]'(by omega),List.getElem?_eq_getElem (by omega)⟩
      obtain ⟨g,rfl,hg,c0,c1,c2⟩:=hc k x hx
      have hs:=hB.out.size
      have d0:=(hB.out.cell (p:=⟨g,k * 3,none⟩) hg).trans c0
      have d1:=(hB.out.cell (p:=⟨g,k * 3+1,none⟩) hg).trans c1
      have d2:=(hB.out.cell (p:=⟨g,k * 3+2,none⟩) hg).trans c2
      have hm:=hM x (List.mem_of_getElem? hx)
      have HX:=Lib.hid hx
      have HC:=Lib.hid hc
      have HM:=Lib.hid hM
      have HES:=Lib.hid hes
      clear hx hc hM c0 c1 c2 hes
      have hno : ¬ x.may leaf→¬ entsTo es leaf es.length:=fun h he=>h (he k x (by omega) HX.out).1
      have HNO:=Lib.hid hno
      clear hno
      have hsm:=HES.out x (List.mem_of_getElem? HX.out)
      cases k with
      | zero =>
        have hnx : x.may leaf→entsTo es leaf 1:=fun h i y hi hy=>by
          have : i=0:=by omega
          subst this
          rw [HX.out] at hy
          injection hy with hy
          subst hy
          exact ⟨h,fun _ h0=>absurd h0 (Nat.lt_irrefl 0)⟩
        have HNX:=Lib.hid hnx
        clear hnx
        generalize x.may leaf=MM at *
        obtain ⟨lg,ph,ln⟩:=x
        unfold Ent.v iV at *
        dsimp only at d0 d1 d2 hm
        go_wp2_with (go_at_call 276;refine (hm _).mono ?_;rintro e w0 ⟨⟨c,rfl,hcc⟩,hbl⟩;have HCC:=Lib.hid hcc;clear hcc;cases c)
        · go_ret
          exact ⟨⟨false,rfl,by simp;exact HNO.out (by have:=HCC.out;simpa using this)⟩,bl_trans (bl_alloc hB.out _) hbl⟩
        · exact ⟨⟨1,rfl,by omega,Lib.hid (HNX.out (by have:=HCC.out;simpa using this)),Lib.hid (bl_trans (bl_alloc hB.out _) hbl)⟩,by simp [intV];omega⟩
      | succ q =>
        obtain ⟨y,hy⟩ : ∃ y,es[q]?=some y:=⟨es[q]'(by omega),List.getElem?_eq_getElem (by omega)⟩
        obtain ⟨g',hgg,_,e0,e1,e2⟩:=HC.out q y hy
        injection hgg with hgg
        injection hgg with hgg
        subst hgg
        have hys:=HES.out y (List.mem_of_getElem? hy)
        have p0:=(hB.out.cell (p:=⟨g,q * 3,none⟩) hg).trans e0
        have p2:=(hB.out.cell (p:=⟨g,q * 3+2,none⟩) hg).trans e2
        clear e0 e1 e2
        have hnx : x.may leaf→y.lg < x.lg→y.lg+y.ln≤x.lg→entsTo es leaf (q+1+1):=fun h h1 h2 i z hi hz=>by
          by_cases hiq : i < q+1
          · exact hT.out i z hiq hz
          · have : i=q+1:=by omega
            subst this
            rw [HX.out] at hz
            injection hz with hz
            subst hz
            refine ⟨h,fun y' _ hy'=>?_⟩
            have hy' : es[q]?=some y':=hy'
            rw [hy] at hy'
            injection hy' with hy'
            subst hy'
            exact ⟨h1,h2⟩
        have hno2 : ¬ (y.lg < x.lg∧y.lg+y.ln≤x.lg)→¬ entsTo es leaf es.length:=fun h he=>h ((he (q+1) x (by omega) HX.out).2 y (Nat.succ_pos q) hy)
        have HNX:=Lib.hid hnx
        have HN2:=Lib.hid hno2
        clear hnx hno2 hy
        generalize x.may leaf=MM at *
        obtain ⟨lg,ph,ln⟩:=x
        obtain ⟨lg',ph',ln'⟩:=y
        unfold Ent.small at hsm hys
        unfold Ent.v iV at *
        dsimp only at d0 d1 d2 hm p0 p2 hsm hys
        obtain ⟨s1,s2,s3⟩:=hsm
        obtain ⟨s4,s5,s6⟩:=hys
        go_wp2_with (go_at_call 276;refine (hm _).mono ?_;rintro e w0 ⟨⟨c,rfl,hcc⟩,hbl⟩;have HCC:=Lib.hid hcc;clear hcc;cases c)
        · go_ret
          exact ⟨⟨false,rfl,by simp;exact HNO.out (by have:=HCC.out;simpa using this)⟩,bl_trans (bl_alloc hB.out _) hbl⟩
        · have hr:=Lib.hid (row_below (row_new _ _) hbl)
          have b0:=row_cell (i:=0) hr.out rfl
          have lt0:=row_lt hr.out
          have hbl2:=bl_trans (below_one wr _) hbl
          have t0:=(hbl2.cell (p:=⟨g,q * 3,none⟩) (show g < wr.heap.size from by omega)).trans p0
          have t2:=(hbl2.cell (p:=⟨g,q * 3+2,none⟩) (show g < wr.heap.size from by omega)).trans p2
          have HB0:=Lib.hid (bl_trans (bl_alloc hB.out _) hbl)
          clear p0 p2 d0 d1 d2 hbl hbl2 hm
          go_quiet (fail)
          go_wp2
          · go_ret
            exact ⟨⟨false,rfl,by simp;exact HN2.out (by omega)⟩,below_drews HB0.out _⟩
          · exact ⟨⟨q+1+1,rfl,by omega,Lib.hid (HNX.out (by have:=HCC.out;simpa using this) (by omega) (by omega)),Lib.hid (below_drews HB0.out _)⟩,by simp [intV];omega⟩
          · go_ret
            exact ⟨⟨false,rfl,by simp;exact HN2.out (by omega)⟩,below_drews HB0.out _⟩
end Go.Proofs.YtbamnpenkjfgkaaGreat
namespace Go.Proofs.YtbamnpenkjfgkaaGreat
open Go.RowKit
def putX (l : List UInt8) (a : Nat) (x : Ent) : Nat→List UInt8
  | 0=>l
  | 1=>putL l a 4 x.lg
  | 2=>putL (putL l a 4 x.lg) (a+4) 4 x.ph
  | _=>putL (putL (putL l a 4 x.lg) (a+4) 4 x.ph) (a+8) 4 x.ln
theorem putX_len (l : List UInt8) (a : Nat) (x : Ent) (j : Nat) (h : a+12≤l.length) : (putX l a x j).length=l.length:=by
  match j with
  | 0=>rfl
  | 1=>unfold putX;exact putL_len _ _ _ _ (by omega)
  | 2 =>
    show (putL (putL l a 4 x.lg) (a+4) 4 x.ph).length=_
    have h1:=putL_len l a 4 x.lg (by omega)
    rw [putL_len _ _ _ _ (by omega),h1]
  | n+3 =>
    show (putL (putL (putL l a 4 x.lg) (a+4) 4 x.ph) (a+8) 4 x.ln).length=_
    have h1:=putL_len l a 4 x.lg (by omega)
    have h2:=putL_len (putL l a 4 x.lg) (a+4) 4 x.ph (by omega)
    rw [putL_len _ _ _ _ (by omega),h2,h1]
def putE (l : List UInt8) (a : Nat) : List Ent→List UInt8
  | []=>l
  | x :: r=>putE (putX l a x 3) (a+12) r
theorem putE_len (l : List UInt8) (a : Nat) (es : List Ent) (h : a+12 * es.length≤l.length) : (putE l a es).length=l.length:=by
  induction es generalizing l a with
  | nil=>rfl
  | cons x r ih =>
    have hl:=putX_len l a x 3 (by simp at h;omega)
    unfold putE
    rw [ih _ _ (by rw [hl];simp at h ⊢;omega),hl]
theorem putE_snoc (l : List UInt8) (a : Nat) (es : List Ent) (x : Ent) : putE l a (es ++ [x])=putX (putE l a es) (a+12 * es.length) x 3:=by
  induction es generalizing l a with
  | nil=>rfl
  | cons y r ih =>
    rw [List.cons_append,putE,ih,putE]
    congr 1
    simp
    omega
set_option maxRecDepth 100000 in
set_option maxHeartbeats 8000000 in
theorem entPut_walk (v : Value) (es : List Ent) (hes : ∀ x ∈ es,x.small) (b : ByteArray) (l : List UInt8) (hl : b.data.toList=l) (a : Nat) (hln : l.length < 1000000) (ha : a+12 * es.length≤l.length) (w : World) (hv : Ents w v es) : Calls Tryz.prog 225 #[.string b,.int .i64 a,v] w fun e w'=>e=.returned (.string ⟨(putE l a es).toArray⟩)∧Below w.heap.size w w':=by
  obtain ⟨A,cap,rfl,hc⟩:=hv
  have HL:=Lib.hid hl
  clear hl
  go_enter Tryz.func225,Tryz.ntmps225
  go_wp2
  go_loopw [0,1,15] (fun s at_ i wr=>∃ (k : Nat) (bs : ByteArray),i=.int .i64 k∧k≤es.length∧s=.string bs∧at_=.int .i64 ((a+12 * k : Nat) : Int)∧Hid (bs.data.toList=putE l a (es.take k))∧Hid (Below w.heap.size w wr)) (fun _ _ i _=>es.length - intV i)
  case atStart=>exact ⟨0,b,rfl,by omega,rfl,rfl,by rw [List.take_zero];exact HL.out,Below.refl _ _⟩
  case round =>
    obtain ⟨k,bs,rfl,hk,rfl,rfl,hb,hB⟩:=hrel
    by_cases hkn : k=es.length
    · subst hkn
      go_wp2
      go_ret
      refine ⟨?_,hB.out⟩
      have : bs=⟨(putE l a es).toArray⟩:=by
        apply ByteArray.ext
        apply Array.toList_inj.1
        rw [hb.out,List.take_length]
      rw [this]
      rfl
    · obtain ⟨x,hx⟩ : ∃ x,es[k]?=some x:=⟨es[k]'(by omega),List.getElem?_eq_getElem (by omega)⟩
      obtain ⟨g,rfl,hg,c0,c1,c2⟩:=hc k x hx
      have hs:=hB.out.size
      have d0:=(hB.out.cell (p:=⟨g,k * 3,none⟩) hg).trans c0
      have d1:=(hB.out.cell (p:=⟨g,k * 3+1,none⟩) hg).trans c1
      have d2:=(hB.out.cell (p:=⟨g,k * 3+2,none⟩) hg).trans c2
      have hsm:=hes x (List.mem_of_getElem? hx)
      have hlenk : (putE l a (es.take k)).length=l.length:=putE_len _ _ _ (by rw [List.length_take];omega)
      have hnext : putE l a (es.take (k+1))=putX (putE l a (es.take k)) (a+12 * k) x 3:=by
        rw [List.take_add_one,hx,Option.toList_some,putE_snoc,List.length_take,Nat.min_eq_left hk]
      have HN:=Lib.hid hnext
      generalize hL0 : putE l a (es.take k)=L0 at *
      have HC:=Lib.hid hc
      have HES:=Lib.hid hes
      clear hx hc c0 c1 c2 hes hnext hL0
      have hput:=fun (j : Nat) (y : Nat) (bs' : ByteArray) (hb' : bs'.data.toList=putX L0 (a+12 * k) x j) (hj : j < 3) (hy : y < 4294967296) (W : World)=>putInt_walk bs' _ hb' (a+12 * k+4 * j) 4 y (by unfold sz;omega) (by omega) (by rw [putX_len _ _ _ _ (by omega)];omega) (by rw [putX_len _ _ _ _ (by omega)];omega) (by omega) (by omega) W
      have HP:=Lib.hid hput
      clear hput
      obtain ⟨lg,ph,ln⟩:=x
      unfold Ent.small at hsm
      unfold iV at *
      dsimp only at d0 d1 d2 hsm
      obtain ⟨s1,s2,s3⟩:=hsm
      have hX1 : putX L0 (a+12 * k) ⟨lg,ph,ln⟩ 1=putL (putX L0 (a+12 * k) ⟨lg,ph,ln⟩ 0) (a+12 * k+4 * 0) 4 lg:=rfl
      have hX2 : putX L0 (a+12 * k) ⟨lg,ph,ln⟩ 2=putL (putX L0 (a+12 * k) ⟨lg,ph,ln⟩ 1) (a+12 * k+4 * 1) 4 ph:=rfl
      have hX3 : putX L0 (a+12 * k) ⟨lg,ph,ln⟩ 3=putL (putX L0 (a+12 * k) ⟨lg,ph,ln⟩ 2) (a+12 * k+4 * 2) 4 ln:=rfl
      have H1:=Lib.hid hX1
      have H2:=Lib.hid hX2
      have H3:=Lib.hid hX3
      clear hX1 hX2 hX3
      go_wp2
      have hklt : decide (k < es.length)=true:=by simp;omega
      rw [hklt]
      have HB2:=Lib.hid (bl_alloc hB.out (.cells #[.int .i64 (lg : Int),.int .i64 (ph : Int),.int .i64 (ln : Int)] 326))
      generalize wr.alloc (.cells #[.int .i64 (lg : Int),.int .i64 (ph : Int),.int .i64 (ln : Int)] 326)=wa at HB2 ⊢
      generalize harr : Value.agg #[Value.int IntKind.i64 (lg : Int),Value.int IntKind.i64 (ph : Int),Value.int IntKind.i64 (ln : Int)]=arr
      have HA:=Lib.hid harr.symm
      clear harr d0 d1 d2
      go_loopw [0,1,26] (fun s at_ i ws=>∃ (j : Nat) (bs' : ByteArray) (z : Int),i=.int .i64 j∧j≤3∧s=.string bs'∧at_=.int .i64 z∧(0≤z∧z < 2000000)∧Hid (z=((a+12 * k+4 * j : Nat) : Int))∧Hid (bs'.data.toList=putX L0 (a+12 * k) ⟨lg,ph,ln⟩ j)∧Hid (Below w.heap.size w ws)) (fun _ _ i _=>3 - intV i)
      case atStart=>exact ⟨0,bs,_,rfl,by omega,rfl,rfl,by omega,rfl,hb.out,HB2.out⟩
      case round =>
        obtain ⟨j,bs',z,rfl,hj,rfl,rfl,hz,HZ,hb',hB'⟩:=hrel
        have hjj : j=0∨j=1∨j=2∨j=3:=by omega
        rcases hjj with rfl | rfl | rfl | rfl
        · have hp:=HP.out 0 lg bs' hb'.out (by omega) s1
          rw [← H1.out,← HZ.out] at hp
          have hi : ∀ W,(Instr.index 377 arr (.int .i64 0)).run Tryz.prog W=.ok (.int .i64 lg) W:=fun W=>by rw [HA.out];exact idx_arr Tryz.underlying377 _ 0 _ (by omega) rfl W
          go_wp2_with (go_at_call 146;refine (hp _).mono ?_;rintro e w3 ⟨rfl,hb3⟩)
          refine ⟨⟨1,_,_,rfl,by omega,rfl,rfl,?_,?_,?_,Lib.hid (bl_trans hB'.out hb3)⟩,by simp [intV]⟩
          · have:=HZ.out;omega
          · exact Lib.hid (by have:=HZ.out;push_cast at this ⊢;omega)
          · exact Lib.hid rfl
        · have hp:=HP.out 1 ph bs' hb'.out (by omega) s2
          rw [← H2.out,← HZ.out] at hp
          have hi : ∀ W,(Instr.index 377 arr (.int .i64 1)).run Tryz.prog W=.ok (.int .i64 ph) W:=fun W=>by rw [HA.out];exact idx_arr Tryz.underlying377 _ 1 _ (by omega) rfl W
          go_wp2_with (go_at_call 146;refine (hp _).mono ?_;rintro e w3 ⟨rfl,hb3⟩)
          refine ⟨⟨2,_,_,rfl,by omega,rfl,rfl,?_,?_,?_,Lib.hid (bl_trans hB'.out hb3)⟩,by simp [intV]⟩
          · have:=HZ.out;omega
          · exact Lib.hid (by have:=HZ.out;push_cast at this ⊢;omega)
          · exact Lib.hid rfl
        · have hp:=HP.out 2 ln bs' hb'.out (by omega) s3
          rw [← H3.out,← HZ.out] at hp
          have hi : ∀ W,(Instr.index 377 arr (.int .i64 2)).run Tryz.prog W=.ok (.int .i64 ln) W:=fun W=>by rw [HA.out];exact idx_arr Tryz.underlying377 _ 2 _ (by omega) rfl W
          go_wp2_with (go_at_call 146;refine (hp _).mono ?_;rintro e w3 ⟨rfl,hb3⟩)
          refine ⟨⟨3,_,_,rfl,by omega,rfl,rfl,?_,?_,?_,Lib.hid (bl_trans hB'.out hb3)⟩,by simp [intV]⟩
          · have:=HZ.out;omega
          · exact Lib.hid (by have:=HZ.out;push_cast at this ⊢;omega)
          · exact Lib.hid rfl
        · go_wp2
          go_roundw
          case rel=>exact ⟨k+1,bs',by first | rfl | simp,by omega,rfl,by (have:=HZ.out;first | rfl | (congr 1;done) | (congr 1;push_cast at this ⊢;omega)),Lib.hid (by rw [HN.out];exact hb'.out),hB'⟩
          case measure=>simp [intV];omega
end Go.Proofs.YtbamnpenkjfgkaaGreat
namespace Go.Proofs.YtbamnpenkjfgkaaGreat
open Go.RowKit
theorem own_below {w w' : World} {B : Nat} {e : TypeId} {k : Nat} {v : Value} {n : Nat} {xs : List Value} (h : w.ownsRow B e k v n xs) (hb : Below w.heap.size w w') : w'.ownsRow B e k v n xs:=by
  rcases h with ⟨h0,h1 | ⟨g,cap,cur,h1,h2,h3,h4,h5,h6,h7⟩⟩
  · exact ⟨h0,.inl h1⟩
  · exact ⟨h0,.inr ⟨g,cap,cur,h1,h2,row_below h3 hb,h4,h5,h6,h7⟩⟩
def getX (l : List UInt8) (a : Nat) : Ent:=⟨le4 l a,le4 l (a+4),le4 l (a+8)⟩
def getE (l : List UInt8) (a : Nat) : Nat→List Ent
  | 0=>[]
  | n+1=>getE l a n ++ [getX l (a+12 * n)]
theorem getE_len (l : List UInt8) (a n : Nat) : (getE l a n).length=n:=by
  induction n with
  | zero=>rfl
  | succ n ih=>simp [getE,ih]
theorem getX_small (l : List UInt8) (a : Nat) : (getX l a).small:=⟨le4_lt _ _,le4_lt _ _,le4_lt _ _⟩
theorem getE_small (l : List UInt8) (a n : Nat) : ∀ x ∈ getE l a n,x.small:=by
  induction n with
  | zero=>intro x hx;cases hx
  | succ n ih =>
    intro x hx
    unfold getE at hx
    rcases List.mem_append.1 hx with hx | hx
    · exact ih x hx
    · rw [List.mem_singleton] at hx
      subst hx
      exact getX_small _ _
def esC (es : List Ent) : List Value:=es.flatMap Ent.cs
theorem esC_snoc (es : List Ent) (x : Ent) : esC (es ++ [x])=esC es ++ [iV x.lg,iV x.ph,iV x.ln]:=by
  unfold esC
  rw [List.flatMap_append]
  simp [Ent.cs]
theorem esC_at (es : List Ent) (j : Nat) (x : Ent) (h : es[j]?=some x) : (esC es)[j * 3]?=some (iV x.lg)∧(esC es)[j * 3+1]?=some (iV x.ph)∧(esC es)[j * 3+2]?=some (iV x.ln):=by
  induction es generalizing j with
  | nil=>simp at h
  | cons y r ih =>
    have e : esC (y :: r)=iV y.lg :: iV y.ph :: iV y.ln :: esC r:=rfl
    rw [e]
    cases j with
    | zero =>
      simp at h
      subst h
      exact ⟨rfl,rfl,rfl⟩
    | succ j =>
      have h : r[j]?=some x:=by simpa using h
      obtain ⟨h1,h2,h3⟩:=ih j h
      have a1 : (j+1) * 3=j * 3+1+1+1:=by omega
      rw [a1]
      exact ⟨h1,h2,h3⟩
theorem ents_own {w : World} {B : Nat} {v : Value} {es : List Ent} (h : w.ownsRow B 326 3 v es.length (esC es)) : Ents w v es:=by
  rcases h with ⟨h0,⟨rfl,h1⟩ | ⟨g,cap,cur,rfl,h2,h3,h4,h5,h6,h7⟩⟩
  · have : es=[]:=List.length_eq_zero_iff.1 h1
    subst this
    exact ⟨none,0,rfl,fun j x hx=>by simp at hx⟩
  · refine ⟨some ⟨g,0,none⟩,cap,rfl,fun j x hx=>⟨g,rfl,row_lt h3,?_⟩⟩
    have hj : j < es.length:=(List.getElem?_eq_some_iff.1 hx).1
    obtain ⟨e1,e2,e3⟩:=esC_at es j x hx
    have hc : ∀ i v,(esC es)[i]?=some v→w.cell? ⟨g,i,none⟩=some v:=fun i v hi=>by
      refine row_cell h3 ?_
      rw [← h7,List.getElem?_take] at hi
      split at hi
      · rw [← hi];simp
      · cases hi
    exact ⟨hc _ _ e1,hc _ _ e2,hc _ _ e3⟩
theorem Tryz.info326 : (Tryz.prog.info? 326).map (fun i=>(i.zero,i.size,i.bytes))=some (some (.agg #[.int .i64 0,.int .i64 0,.int .i64 0]),3,24):=by kernel_rfl
theorem cells_three_new (w : World) (x y z : Value) (t : TypeId) : ∀ j u,[x,y,z][j]?=some u→(w.alloc (.cells #[x,y,z] t)).cell? ((⟨w.heap.size,0,none⟩ : Addr).add j)=some u:=by
  intro j u hj
  have hr:=row_new w (.cells #[x,y,z] t)
  have ha : (⟨w.heap.size,0,none⟩ : Addr).add j=⟨w.heap.size,j,none⟩:=by simp [Addr.add];exact fun h=>h.symm
  rw [ha]
  exact row_cell hr (by simpa using hj)
def trip (l : List UInt8) (a j : Nat) : Array Value:=#[if 0 < j then iV (le4 l a) else .int .i64 0,if 1 < j then iV (le4 l (a+4)) else .int .i64 0,if 2 < j then iV (le4 l (a+8)) else .int .i64 0]
set_option maxRecDepth 100000 in
set_option maxHeartbeats 8000000 in
theorem entGet_walk (b : ByteArray) (l : List UInt8) (hl : b.data.toList=l) (a n : Nat) (hln : l.length < 1000000) (han : a+12 * n≤l.length) (w : World) : Calls Tryz.prog 156 #[.string b,.int .i64 a,.int .i64 n] w fun e w'=>(∃ v,e=.returned v∧w'.ownsRow w.heap.size 326 3 v n (esC (getE l a n)))∧Below w.heap.size w w':=by
  obtain ⟨i0,hi,hz0,hz1,hz2⟩:=info_parts Tryz.info326
  have hget:=fun (c : Nat) (hc : c+4≤l.length) (W : World)=>getInt_ok b l hl c 4 (le4 l c) (by unfold sz;omega) (by omega) hln hc rfl (by have:=le4_lt l c;omega) W
  have HG:=Lib.hid hget
  clear hget
  have HI:=Lib.hid hi
  have H0:=Lib.hid hz0
  have H1:=Lib.hid hz1
  have H2:=Lib.hid hz2
  clear hi hz0 hz1 hz2
  go_enter Tryz.func156,Tryz.ntmps156
  go_wp2
  go_loopw [1,7,12] (fun at_ out i wr=>∃ (k : Nat) (z : Int) (ao : Option Addr) (cv : Nat),i=.int .i64 k∧k≤n∧at_=.int .i64 z∧(0≤z∧z < 1000000)∧out=.slice ao k cv∧Hid (z=((a+12 * k : Nat) : Int))∧Hid (wr.ownsRow w.heap.size 326 3 (.slice ao k cv) k (esC (getE l a k)))∧Hid (Below w.heap.size w wr)) (fun _ _ i _=>n - intV i)
  case atStart=>exact ⟨0,a,none,0,rfl,by omega,rfl,by omega,rfl,rfl,World.ownsRow_nil _ _ _ _,Below.refl _ _⟩
  case round =>
    obtain ⟨k,z,ao,cv,rfl,hk,rfl,hz,rfl,HZ,HO,hB⟩:=hrel
    by_cases hkn : k=n
    · subst hkn
      go_wp2
      go_ret
      exact ⟨⟨_,rfl,HO.out⟩,hB.out⟩
    · have hklt : decide (k < n)=true:=by simp;omega
      go_wp2
      have hr0:=row_new wr (.cells #[.int .i64 0,.int .i64 0,.int .i64 0] 326)
      have hb0:=below_one wr (.cells #[.int .i64 0,.int .i64 0,.int .i64 0] 326)
      have HR0:=Lib.hid hr0
      have HB0:=Lib.hid hb0
      clear hr0 hb0
      generalize wr.alloc (.cells #[.int .i64 0,.int .i64 0,.int .i64 0] 326)=wa at HR0 HB0 ⊢
      generalize harr : Value.agg #[Value.pointer (some { block:=wr.heap.size,off:=0 }),Value.pointer (some { block:=wr.heap.size,off:=1 }),Value.pointer (some { block:=wr.heap.size,off:=2 })]=arr
      have HA:=Lib.hid harr.symm
      clear harr
      have hsz:=hB.out.size
      obtain ⟨wo,hwo⟩ : ∃ wo,wo=wr:=⟨_,rfl⟩
      subst hwo
      go_loopw [1,18] (fun at_ i wr=>∃ (j : Nat) (z' : Int),i=.int .i64 j∧j≤3∧at_=.int .i64 z'∧(0≤z'∧z' < 1000000)∧Hid (z'=((a+12 * k+4 * j : Nat) : Int))∧Hid (wr.heap[wo.heap.size]?=some (.cells (trip l (a+12 * k) j) 326 (0,0)))∧Hid (Below wo.heap.size wo wr)) (fun _ i _=>3 - intV i)
      case atStart=>exact ⟨0,z,rfl,by omega,rfl,hz,HZ.out,HR0.out,HB0.out⟩
      case round =>
        obtain ⟨j,z',rfl,hj,rfl,hz',HZ',HR,HB⟩:=hrel
        have hjj : j=0∨j=1∨j=2∨j=3:=by omega
        rcases hjj with rfl | rfl | rfl | rfl
        · have hp:=fun W=>HG.out (a+12 * k+4 * 0) (by omega) W
          rw [← HZ'.out] at hp
          have hi : ∀ W,(Instr.index 327 arr (.int .i64 0)).run Tryz.prog W=.ok (.pointer (some ⟨wo.heap.size,0,none⟩)) W:=fun W=>by rw [HA.out];exact idx_arrE Tryz.underlying327 Tryz.sizeOf151 Tryz.isAgg151 _ 0 _ (by omega) rfl W
          have hc:=row_cell (i:=0) HR.out rfl
          have hf : wr.frozen? ⟨wo.heap.size,0,none⟩=false:=row_frozen HR.out
          go_wp2_with (go_at_call 85;refine (hp _).mono ?_;rintro e w3 ⟨rfl,rfl⟩)
          refine ⟨⟨1,_,rfl,by omega,rfl,by have:=HZ'.out;omega,Lib.hid (by have:=HZ'.out;push_cast at this ⊢;omega),Lib.hid (row_set HR.out _),Lib.hid (HB.out.setCell (Nat.le_refl _) _)⟩,by simp [intV]⟩
        · have hp:=fun W=>HG.out (a+12 * k+4 * 1) (by omega) W
          rw [← HZ'.out] at hp
          have hi : ∀ W,(Instr.index 327 arr (.int .i64 1)).run Tryz.prog W=.ok (.pointer (some ⟨wo.heap.size,1,none⟩)) W:=fun W=>by rw [HA.out];exact idx_arrE Tryz.underlying327 Tryz.sizeOf151 Tryz.isAgg151 _ 1 _ (by omega) rfl W
          have hc:=row_cell (i:=1) HR.out rfl
          have hf : wr.frozen? ⟨wo.heap.size,1,none⟩=false:=row_frozen HR.out
          go_wp2_with (go_at_call 85;refine (hp _).mono ?_;rintro e w3 ⟨rfl,rfl⟩)
          refine ⟨⟨2,_,rfl,by omega,rfl,by have:=HZ'.out;omega,Lib.hid (by have:=HZ'.out;push_cast at this ⊢;omega),Lib.hid (row_set HR.out _),Lib.hid (HB.out.setCell (Nat.le_refl _) _)⟩,by simp [intV]⟩
        · have hp:=fun W=>HG.out (a+12 * k+4 * 2) (by omega) W
          rw [← HZ'.out] at hp
          have hi : ∀ W,(Instr.index 327 arr (.int .i64 2)).run Tryz.prog W=.ok (.pointer (some ⟨wo.heap.size,2,none⟩)) W:=fun W=>by rw [HA.out];exact idx_arrE Tryz.underlying327 Tryz.sizeOf151 Tryz.isAgg151 _ 2 _ (by omega) rfl W
          have hc:=row_cell (i:=2) HR.out rfl
          have hf : wr.frozen? ⟨wo.heap.size,2,none⟩=false:=row_frozen HR.out
          go_wp2_with (go_at_call 85;refine (hp _).mono ?_;rintro e w3 ⟨rfl,rfl⟩)
          refine ⟨⟨3,_,rfl,by omega,rfl,by have:=HZ'.out;omega,Lib.hid (by have:=HZ'.out;push_cast at this ⊢;omega),Lib.hid (row_set HR.out _),Lib.hid (HB.out.setCell (Nat.le_refl _) _)⟩,by simp [intV]⟩
        · have hr:=HR.out
          have e3 : trip l (a+12 * k) 3=#[.int .i64 (le4 l (a+12 * k) : Nat),.int .i64 (le4 l (a+12 * k+4) : Nat),.int .i64 (le4 l (a+12 * k+8) : Nat)]:=rfl
          rw [e3] at hr
          have c0:=row_cell (i:=0) hr rfl
          have c1:=row_cell (i:=1) hr rfl
          have c2:=row_cell (i:=2) hr rfl
          clear hr e3
          have hown:=own_below HO.out HB.out
          go_wp2_with (at_builtin;refine wpList_append_own _ rfl _ _ 123 rfl w.heap.size 326 i0 (.agg #[.int .i64 0,.int .i64 0,.int .i64 0]) 3 24 Tryz.underlying123 HI.out H0.out H1.out H2.out rfl (by decide) _ _ _ rfl (hown.alloc _) ⟨wr.heap.size,0,none⟩ 1 1 [.int .i64 (le4 l (a+12 * k) : Nat),.int .i64 (le4 l (a+12 * k+4) : Nat),.int .i64 (le4 l (a+12 * k+8) : Nat)] rfl rfl (cells_three_new _ _ _ _ _) (fun x hx=>by simp at hx;rcases hx with rfl | rfl | rfl <;> rfl) (by unfold maxLen;omega) (by omega) (by have:=HB.out.size;simp;omega) ?_;intro v' w3 hown' hgrow3 hnil3)
          obtain ⟨g3,cap3,hv3⟩ : ∃ g3 cap3,v'=.slice (some ⟨g3,0,none⟩) (k+1) cap3:=by
            rcases hown'.2 with ⟨_,h⟩ | ⟨g3,cap3,_,h,_⟩
            · omega
            · exact ⟨g3,cap3,h⟩
          have hsz2:=HB.out.size
          have hbw:=bl_trans hB.out HB.out
          refine ⟨⟨k+1,z',some ⟨g3,0,none⟩,cap3,rfl,by omega,rfl,hz',hv3,?_,?_,?_⟩,by simp [intV];omega⟩
          · exact Lib.hid (by have:=HZ'.out;push_cast at this ⊢;omega)
          · refine Lib.hid ?_
            rw [← hv3]
            have e1 : esC (getE l a (k+1))=esC (getE l a k) ++ [.int .i64 (le4 l (a+12 * k) : Nat),.int .i64 (le4 l (a+12 * k+4) : Nat),.int .i64 (le4 l (a+12 * k+8) : Nat)]:=by
              rw [getE,esC_snoc]
              rfl
            rw [e1]
            exact hown'
          · exact Lib.hid ((bl_alloc hbw _).grown hgrow3 (by have:=hbw.size;simp;omega) (fun q hq=>(hown.lt q hq).1))
end Go.Proofs.YtbamnpenkjfgkaaGreat
namespace Go.Proofs.YtbamnpenkjfgkaaGreat
open Go.RowKit
structure Ino where
  kind : Nat
  pin : Bool
  links : Nat
  size : Nat
  depth : Nat
def Ino.v (x : Ino) (r : Value) : Value:=.agg #[iV x.kind,.bool x.pin,iV x.links,iV x.size,iV x.depth,r]
def Ino.small (x : Ino) : Prop:=x.kind < 4294967296∧x.links < 4294967296∧x.size≤9223372036854775807∧x.depth < 4294967296
def Ino.ok (x : Ino) (es : List Ent) : Prop:=(x.kind=0∧x.pin=false∧x.links=0∧x.size=0∧x.depth=0∧es.length=0)∨((x.kind=1∨x.kind=2)∧x.links≤100∧x.size≤262144∧x.depth≤4∧es.length≤4∧(x.depth=0∨0 < es.length)∧entsTo es (decide (x.depth=0)) es.length)
theorem six {w : World} {n : Nat} {T : TypeId} {v0 v1 v2 v3 v4 v5 : Value} (h : w.heap[n]?=some (.cells #[v0,v1,v2,v3,v4,v5] T)) :
    n < w.heap.size∧w.cell? ⟨n,0,none⟩=some v0∧w.cell? ⟨n,1,none⟩=some v1∧w.cell? ⟨n,2,none⟩=some v2∧w.cell? ⟨n,3,none⟩=some v3∧w.cell? ⟨n,4,none⟩=some v4∧w.cell? ⟨n,5,none⟩=some v5 :=
  ⟨row_lt h,row_cell h rfl,row_cell h rfl,row_cell h rfl,row_cell h rfl,row_cell h rfl,row_cell h rfl⟩
set_option maxRecDepth 100000 in
set_option maxHeartbeats 8000000 in
theorem inoCheck_other (x : Ino) (hx : x.small) (r : Value) (hk : 2 < x.kind) (w : World) : Calls Tryz.prog 223 #[x.v r] w fun e w'=>e=.returned (.bool false)∧Below w.heap.size w w':=by
  obtain ⟨kind,pin,links,size,depth⟩:=x
  unfold Ino.v iV
  unfold Ino.small at hx
  dsimp only at hx hk ⊢
  obtain ⟨h1,h2,h3,h4⟩:=hx
  have k0 : ((kind : Int) == 0)=false:=by simp;omega
  have k1 : ((kind : Int) == 1)=false:=by simp;omega
  have k2 : ((kind : Int) == 2)=false:=by simp;omega
  clear hk
  go_enter Tryz.func223,Tryz.ntmps223
  go_wp2
  go_ret
  exact ⟨rfl,below_one w _⟩
set_option maxRecDepth 100000 in
set_option maxHeartbeats 8000000 in
theorem inoCheck_free (x : Ino) (hx : x.small) (r : Value) (es : List Ent) (hn : es.length < 100) (hk : x.kind=0) (w : World) (hr : Ents w r es) : Calls Tryz.prog 223 #[x.v r] w fun e w'=>Ans e (x.pin=false∧x.links=0∧x.size=0∧x.depth=0∧es.length=0)∧Below w.heap.size w w':=by
  obtain ⟨A,cap,rfl,_⟩:=hr
  obtain ⟨kind,pin,links,size,depth⟩:=x
  unfold Ino.v iV
  unfold Ino.small at hx
  dsimp only at hx hk ⊢
  subst hk
  obtain ⟨h1,h2,h3,h4⟩:=hx
  generalize es.length=m at *
  by_cases hg : pin=false∧links=0∧size=0∧depth=0∧m=0
  · obtain ⟨rfl,rfl,rfl,rfl,rfl⟩:=hg
    go_enter Tryz.func223,Tryz.ntmps223
    go_wp2
    go_ret
    exact ⟨⟨true,rfl,by simp⟩,below_one w _⟩
  · have HG:=Lib.hid hg
    have hbad : pin=true∨(pin=false∧links ≠ 0)∨(pin=false∧links=0∧size ≠ 0)∨(pin=false∧links=0∧size=0∧depth ≠ 0)∨(pin=false∧links=0∧size=0∧depth=0∧m ≠ 0):=by
      cases pin <;> simp at hg ⊢ <;> omega
    clear hg
    have fin : ∀ c : Bool,c=false→(c=true ↔ (pin=false∧links=0∧size=0∧depth=0∧m=0)):=fun c h=>by
      subst h
      constructor
      · intro h;cases h
      · intro h;exact absurd h HG.out
    have FIN:=Lib.hid fin
    clear fin HG
    rcases hbad with rfl | ⟨rfl,h⟩ | ⟨rfl,rfl,h⟩ | ⟨rfl,rfl,rfl,h⟩ | ⟨rfl,rfl,rfl,rfl,h⟩
    · go_enter Tryz.func223,Tryz.ntmps223
      go_wp2
      go_ret
      exact ⟨⟨false,rfl,by simp⟩,below_one w _⟩
    all_goals
      first
      | (have hb : ((links : Int) == 0)=false:=by simp;omega)
      | (have hb : ((size : Int) == 0)=false:=by simp;omega)
      | (have hb : ((depth : Int) == 0)=false:=by simp;omega)
      | (have hb : ((m : Int) == 0)=false:=by simp;omega)
      clear h
      go_enter Tryz.func223,Tryz.ntmps223
      go_wp2
      go_ret
      exact ⟨⟨false,rfl,by have:=FIN.out false rfl;simpa using this⟩,below_one w _⟩
set_option maxRecDepth 100000 in
set_option maxHeartbeats 8000000 in
theorem inoCheck_bad (x : Ino) (hx : x.small) (r : Value) (hk : x.kind=1∨x.kind=2) (hb : ¬ (x.links≤100∧x.size≤262144∧x.depth≤4)) (w : World) : Calls Tryz.prog 223 #[x.v r] w fun e w'=>e=.returned (.bool false)∧Below w.heap.size w w':=by
  obtain ⟨kind,pin,links,size,depth⟩:=x
  unfold Ino.v iV
  unfold Ino.small at hx
  dsimp only at hx hk hb ⊢
  obtain ⟨h1,h2,h3,h4⟩:=hx
  have hc : 100 < links∨(links≤100∧262144 < size)∨(links≤100∧size≤262144∧4 < depth):=by omega
  clear hb
  rcases hk with rfl | rfl
  all_goals
    rcases hc with h | ⟨h,h'⟩ | ⟨h,h',h''⟩
    all_goals
      go_enter Tryz.func223,Tryz.ntmps223
      go_wp2
      go_ret
      exact ⟨rfl,below_one w _⟩
set_option maxRecDepth 100000 in
set_option maxHeartbeats 8000000 in
theorem inoCheck_good (x : Ino) (hx : x.small) (r : Value) (es : List Ent) (hes : ∀ x ∈ es,x.small) (hn : es.length < 100) (hk : x.kind=1∨x.kind=2) (hb : x.links≤100∧x.size≤262144∧x.depth≤4) (w : World) (hr : Ents w r es) : Calls Tryz.prog 223 #[x.v r] w fun e w'=>Ans e (es.length≤4∧(x.depth=0∨0 < es.length)∧entsTo es (decide (x.depth=0)) es.length)∧Below w.heap.size w w':=by
  have hE:=fun (W : World) (hW : Below w.heap.size w W)=>entCheck_walk r es (decide (x.depth=0)) hes hn W (hr.below hW)
  generalize entsTo es _ es.length=EE at hE ⊢
  clear hes
  obtain ⟨A,cap,rfl,_⟩:=hr
  obtain ⟨kind,pin,links,size,depth⟩:=x
  unfold Ino.v iV
  unfold Ino.small at hx
  dsimp only at hx hk hb hE ⊢
  obtain ⟨h1,h2,h3,h4⟩:=hx
  obtain ⟨b1,b2,b3⟩:=hb
  generalize es.length=m at *
  have fin : ∀ c : Bool,(¬ (m≤4∧(depth=0∨0 < m))→(false=true ↔ (m≤4∧(depth=0∨0 < m)∧EE)))∧((m≤4∧(depth=0∨0 < m))→(c=true ↔ EE)→(c=true ↔ (m≤4∧(depth=0∨0 < m)∧EE))):=fun c=>by
    refine ⟨fun h=>⟨fun h'=>(by cases h'),fun h'=>absurd ⟨h'.1,h'.2.1⟩ h⟩,fun h hc=>⟨fun h'=>⟨h.1,h.2,hc.1 h'⟩,fun h'=>hc.2 h'.2.2⟩⟩
  have FIN:=Lib.hid fin
  clear fin
  generalize hP : (m≤4∧(depth=0∨0 < m)∧EE)=PP at *
  clear hP
  by_cases hm : m≤4
  · by_cases hd : depth=0
    · subst hd
      have HE:=Lib.hid hE
      clear hE
      rcases hk with rfl | rfl
      all_goals
        go_enter Tryz.func223,Tryz.ntmps223
        go_wp2_with (go_at_call 226;refine (HE.out _ (below_one w _)).mono ?_;rintro e w0 ⟨⟨c,rfl,hc⟩,hbl⟩;have HC:=Lib.hid hc;clear hc)
        go_ret
        exact ⟨⟨c,rfl,(FIN.out c).2 ⟨hm,.inl (by first | rfl | trivial)⟩ HC.out⟩,bl_trans (below_one w _) hbl⟩
    · have hdb : ((depth : Int) == 0)=false:=by simp;omega
      have hdd : decide (depth=0)=false:=by simpa using hd
      rw [hdd] at hE
      have HE:=Lib.hid hE
      clear hE hdd
      have HD:=Lib.hid hd
      clear hd
      by_cases h0 : 0 < m
      · rcases hk with rfl | rfl
        all_goals
          go_enter Tryz.func223,Tryz.ntmps223
          go_wp2_with (go_at_call 226;refine (HE.out _ (below_one w _)).mono ?_;rintro e w0 ⟨⟨c,rfl,hc⟩,hbl⟩;have HC:=Lib.hid hc;clear hc)
          go_ret
          exact ⟨⟨c,rfl,(FIN.out c).2 ⟨hm,.inr h0⟩ HC.out⟩,bl_trans (below_one w _) hbl⟩
      · have HF:=Lib.hid ((FIN.out true).1 (fun h=>h.2.elim HD.out h0))
        rcases hk with rfl | rfl
        all_goals
          go_enter Tryz.func223,Tryz.ntmps223
          go_wp2
          go_ret
          exact ⟨⟨false,rfl,HF.out⟩,below_one w _⟩
  · have HF:=Lib.hid ((FIN.out true).1 (fun h=>hm h.1))
    rcases hk with rfl | rfl
    all_goals
      go_enter Tryz.func223,Tryz.ntmps223
      go_wp2
      go_ret
      exact ⟨⟨false,rfl,HF.out⟩,below_one w _⟩
theorem inoCheck_walk (x : Ino) (hx : x.small) (r : Value) (es : List Ent) (hes : ∀ x ∈ es,x.small) (hn : es.length < 100) (w : World) (hr : Ents w r es) : Calls Tryz.prog 223 #[x.v r] w fun e w'=>Ans e (x.ok es)∧Below w.heap.size w w':=by
  by_cases hk : x.kind=0
  · refine (inoCheck_free x hx r es hn hk w hr).mono fun e w' ⟨⟨c,he,hc⟩,hb⟩=>⟨⟨c,he,hc.trans ?_⟩,hb⟩
    unfold Ino.ok
    constructor
    · exact fun h=>.inl ⟨hk,h⟩
    · rintro (h | h)
      · exact h.2
      · omega
  · by_cases hk2 : x.kind=1∨x.kind=2
    · by_cases hb : x.links≤100∧x.size≤262144∧x.depth≤4
      · refine (inoCheck_good x hx r es hes hn hk2 hb w hr).mono fun e w' ⟨⟨c,he,hc⟩,hb'⟩=>⟨⟨c,he,hc.trans ?_⟩,hb'⟩
        unfold Ino.ok
        constructor
        · exact fun h=>.inr ⟨hk2,hb.1,hb.2.1,hb.2.2,h⟩
        · rintro (h | h)
          · exact absurd h.1 hk
          · exact h.2.2.2.2
      · refine (inoCheck_bad x hx r hk2 hb w).mono fun e w' ⟨he,hb'⟩=>⟨⟨false,he,?_⟩,hb'⟩
        constructor
        · intro h;cases h
        · rintro (h | h)
          · exact absurd h.1 hk
          · exact absurd ⟨h.2.1,h.2.2.1,h.2.2.2.1⟩ hb
    · refine (inoCheck_other x hx r (by omega) w).mono fun e w' ⟨he,hb'⟩=>⟨⟨false,he,?_⟩,hb'⟩
      constructor
      · intro h;cases h
      · rintro (h | h)
        · exact absurd h.1 hk
        · exact absurd h.1 hk2
end Go.Proofs.YtbamnpenkjfgkaaGreat
namespace Go.Proofs.YtbamnpenkjfgkaaGreat
open Go.RowKit
theorem idx_arrS {t n e m : Nat} (ht : Tryz.prog.underlying t=some (.array n e)) (hs : ∀ w,(sizeOf e).run Tryz.prog w=.ok m w) (ha : ∀ w,(isAgg e).run Tryz.prog w=.ok true w) (cs : Array Value) (i : Nat) (hi : i < n) (W : World) : (Instr.index t (.agg cs) (.int .i64 (i : Int))).run Tryz.prog W=.ok (.agg (cs.extract (i * m) (i * m+m))) W:=by
  have h1 : (0 : Int)≤i∧(i : Int) < n:=by omega
  have h2 : (i : Int).toNat=i:=by omega
  simp [Instr.index,asIntOf,run_underlying ht,h1,h2,part,go_sem,hs,ha]
  intro h
  omega
def pinN (p : Bool) : Nat:=if p then 1 else 0
def in0 : List UInt8:=List.replicate 64 0
def in1 (x : Ino) : List UInt8:=putL in0 0 1 x.kind
def in2 (x : Ino) : List UInt8:=putL (in1 x) 1 1 (pinN x.pin)
def in3 (x : Ino) : List UInt8:=putL (in2 x) 2 2 x.links
def in4 (x : Ino) : List UInt8:=putL (in3 x) 4 8 x.size
def in5 (x : Ino) : List UInt8:=putL (in4 x) 12 1 x.depth
def in6 (x : Ino) (m : Nat) : List UInt8:=putL (in5 x) 13 1 m
def inoK (x : Ino) (m : Nat) : Nat→List UInt8
  | 0=>in0
  | 1=>in1 x
  | 2=>in2 x
  | 3=>in3 x
  | 4=>in4 x
  | 5=>in5 x
  | _=>in6 x m
def Ino.enc (x : Ino) (es : List Ent) : List UInt8:=putE (inoK x es.length 6) 14 es
theorem inoK_len (x : Ino) (m k : Nat) : (inoK x m k).length=64:=by
  have h0 : in0.length=64:=List.length_replicate
  have h1 : (in1 x).length=64:=by unfold in1;rw [putL_len _ _ _ _ (by omega),h0]
  have h2 : (in2 x).length=64:=by unfold in2;rw [putL_len _ _ _ _ (by omega),h1]
  have h3 : (in3 x).length=64:=by unfold in3;rw [putL_len _ _ _ _ (by omega),h2]
  have h4 : (in4 x).length=64:=by unfold in4;rw [putL_len _ _ _ _ (by omega),h3]
  have h5 : (in5 x).length=64:=by unfold in5;rw [putL_len _ _ _ _ (by omega),h4]
  have h6 : (in6 x m).length=64:=by unfold in6;rw [putL_len _ _ _ _ (by omega),h5]
  match k with
  | 0=>exact h0
  | 1=>exact h1
  | 2=>exact h2
  | 3=>exact h3
  | 4=>exact h4
  | 5=>exact h5
  | n+6=>exact h6
set_option maxRecDepth 100000 in
theorem one_walk (p : Bool) (w : World) : Calls Tryz.prog 224 #[.bool p] w fun e w'=>e=.returned (.int .i64 (pinN p : Nat))∧w'=w:=by
  cases p
  all_goals
    go_enter Tryz.func224,Tryz.ntmps224
    go_wp2
    go_ret
    exact ⟨rfl,rfl⟩
set_option maxRecDepth 100000 in
set_option maxHeartbeats 8000000 in
theorem inoEnc_walk (HRep : RepIs) (x : Ino) (hx : x.small) (r : Value) (es : List Ent) (hes : ∀ x ∈ es,x.small) (hn : es.length < 100) (w : World) (hr : Ents w r es) : Calls Tryz.prog 157 #[x.v r] w fun e w'=>((x.ok es∧e=.returned (.tuple #[.string ⟨(x.enc es).toArray⟩,.int .i64 0]))∨(¬ x.ok es∧e=.returned (.tuple #[.string ⟨#[]⟩,.int .i64 2])))∧Below w.heap.size w w':=by
  have hC:=fun (W : World) (hW : Below w.heap.size w W)=>inoCheck_walk x hx r es hes hn W (hr.below hW)
  have hR:=fun W=>HRep 64 W (by omega) (by omega)
  have hZ : (zeros 64).data.toList=inoK x es.length 0:=rfl
  generalize zeros 64=Z at hR hZ
  have hP:=fun (W : World) (hW : Below w.heap.size w W) (b : ByteArray) (l : List UInt8) (hl : b.data.toList=l) (hln : l.length=64) (h4 : es.length≤4)=>entPut_walk r es hes b l hl 14 (by omega) (by omega) W (hr.below hW)
  obtain ⟨A,cap,rfl,_⟩:=hr
  have HC:=Lib.hid hC
  have HP:=Lib.hid hP
  have HZ:=Lib.hid hZ
  clear hC hP hZ HRep hes
  have hok : x.ok es→x.kind < 256∧x.links < 65536∧x.depth < 256∧es.length≤4:=fun h=>by
    unfold Ino.ok at h
    omega
  have HK:=Lib.hid hok
  clear hok
  have hK0 : inoK x es.length 1=putL (inoK x es.length 0) 0 1 x.kind:=rfl
  have hK1 : inoK x es.length 2=putL (inoK x es.length 1) 1 1 (pinN x.pin):=rfl
  have hK2 : inoK x es.length 3=putL (inoK x es.length 2) 2 2 x.links:=rfl
  have hK3 : inoK x es.length 4=putL (inoK x es.length 3) 4 8 x.size:=rfl
  have hK4 : inoK x es.length 5=putL (inoK x es.length 4) 12 1 x.depth:=rfl
  have hK5 : inoK x es.length 6=putL (inoK x es.length 5) 13 1 es.length:=rfl
  have K0:=Lib.hid hK0
  have K1:=Lib.hid hK1
  have K2:=Lib.hid hK2
  have K3:=Lib.hid hK3
  have K4:=Lib.hid hK4
  have K5:=Lib.hid hK5
  clear hK0 hK1 hK2 hK3 hK4 hK5
  have HL:=Lib.hid (fun k=>inoK_len x es.length k)
  have HEN:=Lib.hid (show x.enc es=putE (inoK x es.length 6) 14 es from rfl)
  generalize x.ok es=OK at *
  generalize x.enc es=EN at *
  generalize inoK x es.length=F at *
  have hone:=fun W=>one_walk x.pin W
  obtain ⟨kind,pin,links,size,depth⟩:=x
  unfold Ino.v iV at *
  unfold Ino.small at hx
  dsimp only at hx HC HK K0 K1 K2 K3 K4 K5 hone ⊢
  have hpn : pinN pin < 256:=by unfold pinN;split <;> omega
  generalize pinN pin=pn at *
  obtain ⟨h1,h2,h3,h4⟩:=hx
  go_enter Tryz.func157,Tryz.ntmps157
  go_wp2_with (first
    | (go_at_call 223;refine (HC.out _ (below_one w _)).mono ?_;rintro e w0 ⟨⟨c,rfl,hc⟩,hbl⟩;have HCC:=Lib.hid hc;clear hc;have hr0:=Lib.hid (row_below (row_new _ _) hbl);cases c)
    | (go_at_call 30;refine (hR _).mono ?_;rintro e w1 ⟨rfl,hbl1⟩;have hr1:=Lib.hid (row_below hr0.out hbl1);obtain ⟨l1,d0,d1,d2,d3,d4,d5⟩:=six hr1.out))
  · go_ret2
    exact ⟨.inr ⟨by have:=HCC.out;simpa using this,rfl⟩,bl_trans (below_one w _) hbl⟩
  · have hok : OK:=by have:=HCC.out;simpa using this
    obtain ⟨k1,k2,k3,k4⟩:=HK.out hok
    have HOK:=Lib.hid hok
    clear hok
    have HB:=Lib.hid (bl_trans (bl_trans (below_one w _) hbl) hbl1)
    clear hbl hbl1 hr0 HCC hR
    go_quiet ((go_at_call 224;exact Calls.quiet_of_same (hone _)))
    go_wp2
    generalize harr : Value.agg #[Value.int IntKind.i64 0,Value.int IntKind.i64 1,Value.int IntKind.i64 (kind : Int),Value.int IntKind.i64 1,Value.int IntKind.i64 1,Value.int IntKind.i64 (pn : Int),Value.int IntKind.i64 2,Value.int IntKind.i64 2,Value.int IntKind.i64 (links : Int),Value.int IntKind.i64 4,Value.int IntKind.i64 8,Value.int IntKind.i64 (size : Int),Value.int IntKind.i64 12,Value.int IntKind.i64 1,Value.int IntKind.i64 (depth : Int),Value.int IntKind.i64 13,Value.int IntKind.i64 1,Value.int IntKind.i64 (es.length : Int)]=arr
    have HA:=Lib.hid harr.symm
    clear harr d0 d1 d2 d3 d4 d5
    obtain ⟨wo,hwo⟩ : ∃ wo,wo=w1:=⟨_,rfl⟩
    subst hwo
    go_loopw [4,34] (fun s i wr=>∃ (k : Nat) (bs : ByteArray),i=.int .i64 k∧k≤6∧s=.string bs∧Hid (bs.data.toList=F k)∧Hid (Below wo.heap.size wo wr)) (fun _ i _=>6 - intV i)
    case atStart=>exact ⟨0,Z,rfl,by omega,rfl,HZ.out,below_drews (Below.refl _ _) _⟩
    case round =>
      obtain ⟨k,bs,rfl,hk,rfl,hb,hB⟩:=hrel
      have hkk : k=0∨k=1∨k=2∨k=3∨k=4∨k=5∨k=6:=by omega
      rcases hkk with rfl | rfl | rfl | rfl | rfl | rfl | rfl
      · have hp:=fun W=>putInt_walk bs (F 0) hb.out 0 1 kind (by unfold sz;omega) (by omega) (by have:=HL.out 0;omega) (by have:=HL.out 0;omega) (by omega) (by omega) W
        rw [← K0.out] at hp
        have hi : ∀ W,(Instr.index 331 arr (.int .i64 0)).run Tryz.prog W=.ok (.agg #[.int .i64 0,.int .i64 1,.int .i64 (kind : Int)]) W:=fun W=>by rw [HA.out];exact idx_arrS Tryz.underlying331 Tryz.sizeOf329 Tryz.isAgg329 _ 0 (by omega) W
        go_wp2_with (go_at_call 146;refine (hp _).mono ?_;rintro e w3 ⟨rfl,hb3⟩)
        exact ⟨⟨1,_,rfl,by omega,rfl,rfl,Lib.hid (bl_trans (bl_alloc hB.out _) hb3)⟩,by simp [intV]⟩
      · have hp:=fun W=>putInt_walk bs (F 1) hb.out 1 1 pn (by unfold sz;omega) (by omega) (by have:=HL.out 1;omega) (by have:=HL.out 1;omega) (by omega) (by omega) W
        rw [← K1.out] at hp
        have hi : ∀ W,(Instr.index 331 arr (.int .i64 1)).run Tryz.prog W=.ok (.agg #[.int .i64 1,.int .i64 1,.int .i64 (pn : Int)]) W:=fun W=>by rw [HA.out];exact idx_arrS Tryz.underlying331 Tryz.sizeOf329 Tryz.isAgg329 _ 1 (by omega) W
        go_wp2_with (go_at_call 146;refine (hp _).mono ?_;rintro e w3 ⟨rfl,hb3⟩)
        exact ⟨⟨2,_,rfl,by omega,rfl,rfl,Lib.hid (bl_trans (bl_alloc hB.out _) hb3)⟩,by simp [intV]⟩
      · have hp:=fun W=>putInt_walk bs (F 2) hb.out 2 2 links (by unfold sz;omega) (by omega) (by have:=HL.out 2;omega) (by have:=HL.out 2;omega) (by omega) (by omega) W
        rw [← K2.out] at hp
        have hi : ∀ W,(Instr.index 331 arr (.int .i64 2)).run Tryz.prog W=.ok (.agg #[.int .i64 2,.int .i64 2,.int .i64 (links : Int)]) W:=fun W=>by rw [HA.out];exact idx_arrS Tryz.underlying331 Tryz.sizeOf329 Tryz.isAgg329 _ 2 (by omega) W
        go_wp2_with (go_at_call 146;refine (hp _).mono ?_;rintro e w3 ⟨rfl,hb3⟩)
        exact ⟨⟨3,_,rfl,by omega,rfl,rfl,Lib.hid (bl_trans (bl_alloc hB.out _) hb3)⟩,by simp [intV]⟩
      · have hp:=fun W=>putInt_walk bs (F 3) hb.out 4 8 size (by unfold sz;omega) (by omega) (by have:=HL.out 3;omega) (by have:=HL.out 3;omega) (by omega) (by omega) W
        rw [← K3.out] at hp
        have hi : ∀ W,(Instr.index 331 arr (.int .i64 3)).run Tryz.prog W=.ok (.agg #[.int .i64 4,.int .i64 8,.int .i64 (size : Int)]) W:=fun W=>by rw [HA.out];exact idx_arrS Tryz.underlying331 Tryz.sizeOf329 Tryz.isAgg329 _ 3 (by omega) W
        go_wp2_with (go_at_call 146;refine (hp _).mono ?_;rintro e w3 ⟨rfl,hb3⟩)
        exact ⟨⟨4,_,rfl,by omega,rfl,rfl,Lib.hid (bl_trans (bl_alloc hB.out _) hb3)⟩,by simp [intV]⟩
      · have hp:=fun W=>putInt_walk bs (F 4) hb.out 12 1 depth (by unfold sz;omega) (by omega) (by have:=HL.out 4;omega) (by have:=HL.out 4;omega) (by omega) (by omega) W
        rw [← K4.out] at hp
        have hi : ∀ W,(Instr.index 331 arr (.int .i64 4)).run Tryz.prog W=.ok (.agg #[.int .i64 12,.int .i64 1,.int .i64 (depth : Int)]) W:=fun W=>by rw [HA.out];exact idx_arrS Tryz.underlying331 Tryz.sizeOf329 Tryz.isAgg329 _ 4 (by omega) W
        go_wp2_with (go_at_call 146;refine (hp _).mono ?_;rintro e w3 ⟨rfl,hb3⟩)
        exact ⟨⟨5,_,rfl,by omega,rfl,rfl,Lib.hid (bl_trans (bl_alloc hB.out _) hb3)⟩,by simp [intV]⟩
      · have hp:=fun W=>putInt_walk bs (F 5) hb.out 13 1 es.length (by unfold sz;omega) (by omega) (by have:=HL.out 5;omega) (by have:=HL.out 5;omega) (by omega) (by omega) W
        rw [← K5.out] at hp
        have hi : ∀ W,(Instr.index 331 arr (.int .i64 5)).run Tryz.prog W=.ok (.agg #[.int .i64 13,.int .i64 1,.int .i64 (es.length : Int)]) W:=fun W=>by rw [HA.out];exact idx_arrS Tryz.underlying331 Tryz.sizeOf329 Tryz.isAgg329 _ 5 (by omega) W
        go_wp2_with (go_at_call 146;refine (hp _).mono ?_;rintro e w3 ⟨rfl,hb3⟩)
        exact ⟨⟨6,_,rfl,by omega,rfl,rfl,Lib.hid (bl_trans (bl_alloc hB.out _) hb3)⟩,by simp [intV]⟩
      · have hr:=Lib.hid (row_below hr1.out hB.out)
        obtain ⟨l2,c0,c1,c2,c3,c4,c5⟩:=six hr.out
        have hbw:=Lib.hid (bl_trans HB.out hB.out)
        have hp:=HP.out wr hbw.out bs _ hb.out (HL.out 6) k4
        rw [← HEN.out] at hp
        go_wp2_with (go_at_call 225;refine hp.mono ?_;rintro e w3 ⟨rfl,hb3⟩)
        go_ret2
        exact ⟨.inl ⟨HOK.out,rfl⟩,bl_trans hbw.out hb3⟩
end Go.Proofs.YtbamnpenkjfgkaaGreat
namespace Go.Proofs.YtbamnpenkjfgkaaGreat
open Go.RowKit
def leA (l : List UInt8) (a n : Nat) : Nat:=leN ((l.drop a).take n)
theorem leA_lt (l : List UInt8) (a n : Nat) : leA l a n < 2 ^ (8 * n):=by
  have h:=leN_lt ((l.drop a).take n)
  have : ((l.drop a).take n).length≤n:=by simp;omega
  exact Nat.lt_of_lt_of_le h (Nat.pow_le_pow_right (by omega) (by omega))
def decI (l : List UInt8) : Ino:=⟨leA l 0 1,decide (leA l 1 1=1),leA l 2 2,leA l 4 8,leA l 12 1⟩
def decE (l : List UInt8) : List Ent:=getE l 14 (min (leA l 13 1) 4)
def inoGood (l : List UInt8) : Prop:=leA l 4 8≤9223372036854775807∧(decI l).ok (decE l)∧(decI l).enc (decE l)=l
theorem decI_small (l : List UInt8) (h : leA l 4 8≤9223372036854775807) : (decI l).small:=by
  have h1:=leA_lt l 0 1
  have h2:=leA_lt l 2 2
  have h3:=leA_lt l 12 1
  unfold Ino.small decI
  dsimp only
  refine ⟨?_,?_,h,?_⟩ <;> omega
def xK (l : List UInt8) (k : Nat) : Array Value:=#[if 0 < k then iV (leA l 0 1) else .int .i64 0,.bool false,if 2 < k then iV (leA l 2 2) else .int .i64 0,if 3 < k then iV (leA l 4 8) else .int .i64 0,if 4 < k then iV (leA l 12 1) else .int .i64 0,.slice none 0 0]
def pK (l : List UInt8) (k : Nat) : Array Value:=#[if 1 < k then iV (leA l 1 1) else .int .i64 0]
def mK (l : List UInt8) (k : Nat) : Array Value:=#[if 5 < k then iV (leA l 13 1) else .int .i64 0]
def ino0 : Value:=.agg #[.int .i64 0,.bool false,.int .i64 0,.int .i64 0,.int .i64 0,.slice none 0 0]
theorem Tryz.size125 : (Tryz.prog.info? 125).map (·.size)=some 6:=by kernel_rfl
structure RowsI (w0 : World) (l : List UInt8) (k : Nat) (w : World) : Prop where
  r : w.heap[w0.heap.size]?=some (.cells (xK l 0) 125 (0,0))
  x : w.heap[w0.heap.size+1]?=some (.cells (xK l k) 125 (0,0))
  m : w.heap[w0.heap.size+1+1]?=some (.cells (mK l k) 3 (0,0))
  p : w.heap[w0.heap.size+1+1+1]?=some (.cells (pK l k) 3 (0,0))
  b : Below w0.heap.size w0 w
def InoSays (l : List UInt8) (B : Nat) (e : Ending) (w' : World) : Prop:=(inoGood l∧∃ r,e=.returned (.tuple #[(decI l).v r,.int .i64 0])∧w'.ownsRow B 326 3 r (decE l).length (esC (decE l)))∨(¬ inoGood l∧e=.returned (.tuple #[ino0,.int .i64 80]))
theorem row_set6 {w : World} {n : Nat} {T : TypeId} {a0 a1 a2 a3 a4 a5 v0 v1 v2 v3 v4 v5 : Value} (h : w.heap[n]?=some (.cells #[a0,a1,a2,a3,a4,a5] T (0,0))) :
    ((((((w.setCell ⟨n,0,none⟩ v0).setCell ⟨n,1,none⟩ v1).setCell ⟨n,2,none⟩ v2).setCell ⟨n,3,none⟩ v3).setCell ⟨n,4,none⟩ v4).setCell ⟨n,5,none⟩ v5).heap[n]?=some (.cells #[v0,v1,v2,v3,v4,v5] T (0,0)):=by
  have h0:=row_set (i:=0) h v0
  rw [show (#[a0,a1,a2,a3,a4,a5] : Array Value).setIfInBounds 0 v0=#[v0,a1,a2,a3,a4,a5] from by simp] at h0
  have h1:=row_set (i:=1) h0 v1
  rw [show (#[v0,a1,a2,a3,a4,a5] : Array Value).setIfInBounds 1 v1=#[v0,v1,a2,a3,a4,a5] from by simp] at h1
  have h2:=row_set (i:=2) h1 v2
  rw [show (#[v0,v1,a2,a3,a4,a5] : Array Value).setIfInBounds 2 v2=#[v0,v1,v2,a3,a4,a5] from by simp] at h2
  have h3:=row_set (i:=3) h2 v3
  rw [show (#[v0,v1,v2,a3,a4,a5] : Array Value).setIfInBounds 3 v3=#[v0,v1,v2,v3,a4,a5] from by simp] at h3
  have h4:=row_set (i:=4) h3 v4
  rw [show (#[v0,v1,v2,v3,a4,a5] : Array Value).setIfInBounds 4 v4=#[v0,v1,v2,v3,v4,a5] from by simp] at h4
  have h5:=row_set (i:=5) h4 v5
  rw [show (#[v0,v1,v2,v3,v4,a5] : Array Value).setIfInBounds 5 v5=#[v0,v1,v2,v3,v4,v5] from by simp] at h5
  exact h5
theorem sixF {w : World} {n : Nat} {cs : Array Value} {T : TypeId} (h : w.heap[n]?=some (.cells cs T (0,0))) :
    w.frozen? ⟨n,0,none⟩=false∧w.frozen? ⟨n,1,none⟩=false∧w.frozen? ⟨n,2,none⟩=false∧w.frozen? ⟨n,3,none⟩=false∧w.frozen? ⟨n,4,none⟩=false∧w.frozen? ⟨n,5,none⟩=false :=
  ⟨row_frozen h,row_frozen h,row_frozen h,row_frozen h,row_frozen h,row_frozen h⟩
theorem rowsI_start (w : World) (l : List UInt8) : RowsI w l 0 ((((w.alloc (.cells #[.int .i64 0,.bool false,.int .i64 0,.int .i64 0,.int .i64 0,.slice none 0 0] 125)).alloc (.cells #[.int .i64 0,.bool false,.int .i64 0,.int .i64 0,.int .i64 0,.slice none 0 0] 125)).alloc (.cells #[.int .i64 0] 3)).alloc (.cells #[.int .i64 0] 3)):=by
  have s1 : (w.alloc (.cells #[.int .i64 0,.bool false,.int .i64 0,.int .i64 0,.int .i64 0,.slice none 0 0] 125)).heap.size=w.heap.size+1:=by unfold World.alloc;simp
  have s2 : ((w.alloc (.cells #[.int .i64 0,.bool false,.int .i64 0,.int .i64 0,.int .i64 0,.slice none 0 0] 125)).alloc (.cells #[.int .i64 0,.bool false,.int .i64 0,.int .i64 0,.int .i64 0,.slice none 0 0] 125)).heap.size=w.heap.size+1+1:=by unfold World.alloc;simp
  have s3 : (((w.alloc (.cells #[.int .i64 0,.bool false,.int .i64 0,.int .i64 0,.int .i64 0,.slice none 0 0] 125)).alloc (.cells #[.int .i64 0,.bool false,.int .i64 0,.int .i64 0,.int .i64 0,.slice none 0 0] 125)).alloc (.cells #[.int .i64 0] 3)).heap.size=w.heap.size+1+1+1:=by unfold World.alloc;simp
  refine ⟨?_,?_,?_,?_,?_⟩
  · exact row_old (row_old (row_old (row_new w _)))
  · refine row_old (row_old ?_)
    rw [← s1]
    exact row_new _ _
  · refine row_old ?_
    rw [← s2]
    exact row_new _ _
  · rw [← s3]
    exact row_new _ _
  · exact bl_alloc (bl_alloc (below_two w _ _) _) _
theorem row6_1 {w : World} {n : Nat} {T : TypeId} {a0 a1 a2 a3 a4 a5 : Value} (h : w.heap[n]?=some (.cells #[a0,a1,a2,a3,a4,a5] T (0,0))) (v : Value) : (w.setCell ⟨n,1,none⟩ v).heap[n]?=some (.cells #[a0,v,a2,a3,a4,a5] T (0,0)):=by
  have h0:=row_set (i:=1) h v
  rw [show (#[a0,a1,a2,a3,a4,a5] : Array Value).setIfInBounds 1 v=#[a0,v,a2,a3,a4,a5] from by simp] at h0
  exact h0
theorem row6_5 {w : World} {n : Nat} {T : TypeId} {a0 a1 a2 a3 a4 a5 : Value} (h : w.heap[n]?=some (.cells #[a0,a1,a2,a3,a4,a5] T (0,0))) (v : Value) : (w.setCell ⟨n,5,none⟩ v).heap[n]?=some (.cells #[a0,a1,a2,a3,a4,v] T (0,0)):=by
  have h0:=row_set (i:=5) h v
  rw [show (#[a0,a1,a2,a3,a4,a5] : Array Value).setIfInBounds 5 v=#[a0,a1,a2,a3,a4,v] from by simp] at h0
  exact h0
theorem xK6 (l : List UInt8) : xK l 6=#[.int .i64 (leA l 0 1 : Nat),.bool false,.int .i64 (leA l 2 2 : Nat),.int .i64 (leA l 4 8 : Nat),.int .i64 (leA l 12 1 : Nat),.slice none 0 0]:=rfl
theorem xK0 (l : List UInt8) : xK l 0=#[.int .i64 0,.bool false,.int .i64 0,.int .i64 0,.int .i64 0,.slice none 0 0]:=rfl
theorem mK6 (l : List UInt8) : mK l 6=#[.int .i64 (leA l 13 1 : Nat)]:=rfl
theorem pK6 (l : List UInt8) : pK l 6=#[.int .i64 (leA l 1 1 : Nat)]:=rfl
theorem own_form {w : World} {B : Nat} {e : TypeId} {k : Nat} {v : Value} {n : Nat} {xs : List Value} (h : w.ownsRow B e k v n xs) : ∃ A cap,v=.slice A n cap:=by
  rcases h with ⟨_,⟨rfl,h1⟩ | ⟨g,cap,_,rfl,_⟩⟩
  · exact ⟨none,0,by rw [h1]⟩
  · exact ⟨_,_,rfl⟩
theorem size_set (w : World) (a : Addr) (v : Value) : (w.setCell a v).heap.size=w.heap.size:=by unfold World.setCell;simp
theorem own_set {w : World} {B : Nat} {e : TypeId} {k : Nat} {v : Value} {n : Nat} {xs : List Value} (h : w.ownsRow B e k v n xs) {m : Nat} (hm : m < B) (i : Nat) (u : Value) : (w.setCell ⟨m,i,none⟩ u).ownsRow B e k v n xs:=by
  rcases h with ⟨h0,h1 | ⟨g,cap,cur,h1,h2,h3,h4,h5,h6,h7⟩⟩
  · exact ⟨h0,.inl h1⟩
  · exact ⟨h0,.inr ⟨g,cap,cur,h1,h2,row_setO h3 (by omega) _,h4,h5,h6,h7⟩⟩
theorem own_le {w : World} {B B' : Nat} {e : TypeId} {k : Nat} {v : Value} {n : Nat} {xs : List Value} (h : w.ownsRow B e k v n xs) (hB : B'≤B) : w.ownsRow B' e k v n xs:=by
  rcases h with ⟨h0,h1 | ⟨g,cap,cur,h1,h2,h3⟩⟩
  · exact ⟨h0,.inl h1⟩
  · exact ⟨h0,.inr ⟨g,cap,cur,h1,Nat.le_trans hB h2,h3⟩⟩
set_option maxRecDepth 100000 in
set_option maxHeartbeats 8000000 in
theorem inoDec_walk (HRep : RepIs) (b : ByteArray) (l : List UInt8) (hl : b.data.toList=l) (hlen : l.length=64) (w : World) : Calls Tryz.prog 96 #[.string b] w fun e w'=>InoSays l w.heap.size e w'∧Below w.heap.size w w':=by
  have hbs : b.size=64:=by rw [← hlen,← hl];rfl
  have hgo:=fun (a n v : Nat) (hn : sz n) (ha : a+n≤64) (hv : leN ((l.drop a).take n)=v) (hv2 : v≤9223372036854775807) (W : World)=>getInt_ok b l hl a n v hn (by omega) (by omega) (by omega) hv hv2 W
  have hgb:=fun (hv2 : 9223372036854775807 < leA l 4 8) (W : World)=>getInt_big b l hl 4 8 _ (by unfold sz;omega) (by omega) (by omega) (by omega) rfl hv2 W
  have hge:=fun (n : Nat) (hn : n≤4) (W : World)=>entGet_walk b l hl 14 n (by omega) (by omega) W
  have hbl : b.toList=l:=by rw [Go.ByteArray.toList_eq b,hl]
  have HGO:=Lib.hid hgo
  have HGB:=Lib.hid hgb
  have HGE:=Lib.hid hge
  have HBL:=Lib.hid hbl
  clear hgo hgb hge hbl hl
  go_enter Tryz.func96,Tryz.ntmps96
  go_wp2
  have HR0:=Lib.hid (rowsI_start w l)
  generalize ((((w.alloc (.cells #[.int .i64 0,.bool false,.int .i64 0,.int .i64 0,.int .i64 0,.slice none 0 0] 125)).alloc (.cells #[.int .i64 0,.bool false,.int .i64 0,.int .i64 0,.int .i64 0,.slice none 0 0] 125)).alloc (.cells #[.int .i64 0] 3)).alloc (.cells #[.int .i64 0] 3))=w1 at HR0 ⊢
  generalize harr : Value.agg #[.int .i64 0,.int .i64 1,.pointer (some ⟨w.heap.size+1,0,none⟩),.int .i64 1,.int .i64 1,.pointer (some ⟨w.heap.size+1+1+1,0,none⟩),.int .i64 2,.int .i64 2,.pointer (some ⟨w.heap.size+1,2,none⟩),.int .i64 4,.int .i64 8,.pointer (some ⟨w.heap.size+1,3,none⟩),.int .i64 12,.int .i64 1,.pointer (some ⟨w.heap.size+1,4,none⟩),.int .i64 13,.int .i64 1,.pointer (some ⟨w.heap.size+1+1,0,none⟩)]=arr
  have HA:=Lib.hid harr.symm
  clear harr
  have n1 : w.heap.size ≠ w.heap.size+1:=by omega
  have n2 : w.heap.size ≠ w.heap.size+1+1:=by omega
  have n3 : w.heap.size ≠ w.heap.size+1+1+1:=by omega
  have n4 : w.heap.size+1 ≠ w.heap.size+1+1:=by omega
  have n5 : w.heap.size+1 ≠ w.heap.size+1+1+1:=by omega
  have n6 : w.heap.size+1+1 ≠ w.heap.size+1+1+1:=by omega
  have N:=Lib.hid (And.intro n1 (And.intro n2 (And.intro n3 (And.intro n4 (And.intro n5 n6)))))
  clear n1 n2 n3 n4 n5 n6
  go_loopw [28] (fun i wr=>∃ (k : Nat),i=.int .i64 k∧k≤6∧Hid (RowsI w l k wr)∧Hid (3 < k→leA l 4 8≤9223372036854775807)) (fun i _=>6 - intV i)
  case atStart=>exact ⟨0,rfl,by omega,HR0.out,fun h=>by omega⟩
  case round =>
    obtain ⟨k,rfl,hk,hR,hS⟩:=hrel
    have hkk : k=0∨k=1∨k=2∨k=3∨k=4∨k=5∨k=6:=by omega
    rcases hkk with rfl | rfl | rfl | rfl | rfl | rfl | rfl
    · have hp:=HGO.out 0 1 (leA l 0 1) (by unfold sz;omega) (by omega) rfl (by have:=leA_lt l 0 1;omega)
      have hi : ∀ W,(Instr.index 261 arr (.int .i64 0)).run Tryz.prog W=.ok (.agg #[.int .i64 0,.int .i64 1,.pointer (some ⟨w.heap.size+1,0,none⟩)]) W:=fun W=>by rw [HA.out];exact idx_arrS Tryz.underlying261 Tryz.sizeOf260 Tryz.isAgg260 _ 0 (by omega) W
      have hc:=row_cell (i:=0) hR.out.x rfl
      have hf : wr.frozen? ⟨w.heap.size+1,0,none⟩=false:=row_frozen hR.out.x
      have hlt:=row_lt hR.out.x
      go_wp2_with (go_at_call 85;refine (hp _).mono ?_;rintro e w3 ⟨rfl,rfl⟩)
      exact ⟨⟨1,rfl,by omega,Lib.hid ⟨row_old (row_setO hR.out.r (Ne.symm N.out.1) _),row_old (row_set hR.out.x _),row_old (row_setO hR.out.m N.out.2.2.2.1 _),row_old (row_setO hR.out.p N.out.2.2.2.2.1 _),bl_alloc (bl_set hR.out.b (n:=w.heap.size+1) (by omega) _ _) _⟩,Lib.hid (fun h=>by omega)⟩,by simp [intV]⟩
    · have hp:=HGO.out 1 1 (leA l 1 1) (by unfold sz;omega) (by omega) rfl (by have:=leA_lt l 1 1;omega)
      have hi : ∀ W,(Instr.index 261 arr (.int .i64 1)).run Tryz.prog W=.ok (.agg #[.int .i64 1,.int .i64 1,.pointer (some ⟨w.heap.size+1+1+1,0,none⟩)]) W:=fun W=>by rw [HA.out];exact idx_arrS Tryz.underlying261 Tryz.sizeOf260 Tryz.isAgg260 _ 1 (by omega) W
      have hc:=row_cell (i:=0) hR.out.p rfl
      have hf : wr.frozen? ⟨w.heap.size+1+1+1,0,none⟩=false:=row_frozen hR.out.p
      have hlt:=row_lt hR.out.p
      go_wp2_with (go_at_call 85;refine (hp _).mono ?_;rintro e w3 ⟨rfl,rfl⟩)
      exact ⟨⟨2,rfl,by omega,Lib.hid ⟨row_old (row_setO hR.out.r (Ne.symm N.out.2.2.1) _),row_old (row_setO hR.out.x (Ne.symm N.out.2.2.2.2.1) _),row_old (row_setO hR.out.m (Ne.symm N.out.2.2.2.2.2) _),row_old (row_set hR.out.p _),bl_alloc (bl_set hR.out.b (n:=w.heap.size+1+1+1) (by omega) _ _) _⟩,Lib.hid (fun h=>by omega)⟩,by simp [intV]⟩
    · have hp:=HGO.out 2 2 (leA l 2 2) (by unfold sz;omega) (by omega) rfl (by have:=leA_lt l 2 2;omega)
      have hi : ∀ W,(Instr.index 261 arr (.int .i64 2)).run Tryz.prog W=.ok (.agg #[.int .i64 2,.int .i64 2,.pointer (some ⟨w.heap.size+1,2,none⟩)]) W:=fun W=>by rw [HA.out];exact idx_arrS Tryz.underlying261 Tryz.sizeOf260 Tryz.isAgg260 _ 2 (by omega) W
      have hc:=row_cell (i:=2) hR.out.x rfl
      have hf : wr.frozen? ⟨w.heap.size+1,2,none⟩=false:=row_frozen hR.out.x
      have hlt:=row_lt hR.out.x
      go_wp2_with (go_at_call 85;refine (hp _).mono ?_;rintro e w3 ⟨rfl,rfl⟩)
      exact ⟨⟨3,rfl,by omega,Lib.hid ⟨row_old (row_setO hR.out.r (Ne.symm N.out.1) _),row_old (row_set hR.out.x _),row_old (row_setO hR.out.m N.out.2.2.2.1 _),row_old (row_setO hR.out.p N.out.2.2.2.2.1 _),bl_alloc (bl_set hR.out.b (n:=w.heap.size+1) (by omega) _ _) _⟩,Lib.hid (fun h=>by omega)⟩,by simp [intV]⟩
    · by_cases hv2 : leA l 4 8≤9223372036854775807
      · have hp:=HGO.out 4 8 (leA l 4 8) (by unfold sz;omega) (by omega) rfl hv2
        have hi : ∀ W,(Instr.index 261 arr (.int .i64 3)).run Tryz.prog W=.ok (.agg #[.int .i64 4,.int .i64 8,.pointer (some ⟨w.heap.size+1,3,none⟩)]) W:=fun W=>by rw [HA.out];exact idx_arrS Tryz.underlying261 Tryz.sizeOf260 Tryz.isAgg260 _ 3 (by omega) W
        have hc:=row_cell (i:=3) hR.out.x rfl
        have hf : wr.frozen? ⟨w.heap.size+1,3,none⟩=false:=row_frozen hR.out.x
        have hlt:=row_lt hR.out.x
        go_wp2_with (go_at_call 85;refine (hp _).mono ?_;rintro e w3 ⟨rfl,rfl⟩)
        exact ⟨⟨4,rfl,by omega,Lib.hid ⟨row_old (row_setO hR.out.r (Ne.symm N.out.1) _),row_old (row_set hR.out.x _),row_old (row_setO hR.out.m N.out.2.2.2.1 _),row_old (row_setO hR.out.p N.out.2.2.2.2.1 _),bl_alloc (bl_set hR.out.b (n:=w.heap.size+1) (by omega) _ _) _⟩,Lib.hid (fun _=>hv2)⟩,by simp [intV]⟩
      · have hp:=HGB.out (by omega)
        have hng : ¬ inoGood l:=fun h=>hv2 h.1
        have HNG:=Lib.hid hng
        clear hng hv2
        have hi : ∀ W,(Instr.index 261 arr (.int .i64 3)).run Tryz.prog W=.ok (.agg #[.int .i64 4,.int .i64 8,.pointer (some ⟨w.heap.size+1,3,none⟩)]) W:=fun W=>by rw [HA.out];exact idx_arrS Tryz.underlying261 Tryz.sizeOf260 Tryz.isAgg260 _ 3 (by omega) W
        have hc:=row_cell (i:=3) hR.out.x rfl
        have hf : wr.frozen? ⟨w.heap.size+1,3,none⟩=false:=row_frozen hR.out.x
        have hlt:=row_lt hR.out.x
        have hz:=Lib.hid (hR.out.r)
        have q0:=row_cell (i:=0) hz.out rfl
        have q1:=row_cell (i:=1) hz.out rfl
        have q2:=row_cell (i:=2) hz.out rfl
        have q3:=row_cell (i:=3) hz.out rfl
        have q4:=row_cell (i:=4) hz.out rfl
        have q5:=row_cell (i:=5) hz.out rfl
        obtain ⟨f0,f1,f2,f3,f4,f5⟩:=sixF hz.out
        have hlt0:=row_lt hz.out
        go_wp2_with (go_at_call 85;refine (hp _).mono ?_;rintro e w3 ⟨rfl,rfl⟩)
        refine bodyPost_ret (ret_cellP (n:=w.heap.size) rfl rfl (row_old (row_set6 hz.out)) Tryz.underlying125 rfl Tryz.size125) rfl ⟨.inr ⟨HNG.out,rfl⟩,?_⟩
        exact bl_alloc (bl_set (bl_set (bl_set (bl_set (bl_set (bl_set hR.out.b (Nat.le_refl _) _ _) (Nat.le_refl _) _ _) (Nat.le_refl _) _ _) (Nat.le_refl _) _ _) (Nat.le_refl _) _ _) (Nat.le_refl _) _ _) _
    · have hp:=HGO.out 12 1 (leA l 12 1) (by unfold sz;omega) (by omega) rfl (by have:=leA_lt l 12 1;omega)
      have hi : ∀ W,(Instr.index 261 arr (.int .i64 4)).run Tryz.prog W=.ok (.agg #[.int .i64 12,.int .i64 1,.pointer (some ⟨w.heap.size+1,4,none⟩)]) W:=fun W=>by rw [HA.out];exact idx_arrS Tryz.underlying261 Tryz.sizeOf260 Tryz.isAgg260 _ 4 (by omega) W
      have hc:=row_cell (i:=4) hR.out.x rfl
      have hf : wr.frozen? ⟨w.heap.size+1,4,none⟩=false:=row_frozen hR.out.x
      have hlt:=row_lt hR.out.x
      go_wp2_with (go_at_call 85;refine (hp _).mono ?_;rintro e w3 ⟨rfl,rfl⟩)
      exact ⟨⟨5,rfl,by omega,Lib.hid ⟨row_old (row_setO hR.out.r (Ne.symm N.out.1) _),row_old (row_set hR.out.x _),row_old (row_setO hR.out.m N.out.2.2.2.1 _),row_old (row_setO hR.out.p N.out.2.2.2.2.1 _),bl_alloc (bl_set hR.out.b (n:=w.heap.size+1) (by omega) _ _) _⟩,Lib.hid (fun _=>hS.out (by omega))⟩,by simp [intV]⟩
    · have hp:=HGO.out 13 1 (leA l 13 1) (by unfold sz;omega) (by omega) rfl (by have:=leA_lt l 13 1;omega)
      have hi : ∀ W,(Instr.index 261 arr (.int .i64 5)).run Tryz.prog W=.ok (.agg #[.int .i64 13,.int .i64 1,.pointer (some ⟨w.heap.size+1+1,0,none⟩)]) W:=fun W=>by rw [HA.out];exact idx_arrS Tryz.underlying261 Tryz.sizeOf260 Tryz.isAgg260 _ 5 (by omega) W
      have hc:=row_cell (i:=0) hR.out.m rfl
      have hf : wr.frozen? ⟨w.heap.size+1+1,0,none⟩=false:=row_frozen hR.out.m
      have hlt:=row_lt hR.out.m
      go_wp2_with (go_at_call 85;refine (hp _).mono ?_;rintro e w3 ⟨rfl,rfl⟩)
      exact ⟨⟨6,rfl,by omega,Lib.hid ⟨row_old (row_setO hR.out.r (Ne.symm N.out.2.1) _),row_old (row_setO hR.out.x (Ne.symm N.out.2.2.2.1) _),row_old (row_set hR.out.m _),row_old (row_setO hR.out.p N.out.2.2.2.2.2 _),bl_alloc (bl_set hR.out.b (n:=w.heap.size+1+1) (by omega) _ _) _⟩,Lib.hid (fun _=>hS.out (by omega))⟩,by simp [intV]⟩
    · have hsm:=hS.out (by omega)
      have hEnc:=fun (A : Option Addr) (cap : Nat) (W : World) (hE : Ents W (.slice A (decE l).length cap) (decE l))=>inoEnc_walk HRep (decI l) (decI_small l hsm) (.slice A (decE l).length cap) (decE l) (getE_small _ _ _) (by unfold decE;rw [getE_len];omega) W hE
      have hv : ∀ r,(decI l).v r=.agg #[.int .i64 (leA l 0 1),.bool (decI l).pin,.int .i64 (leA l 2 2),.int .i64 (leA l 4 8),.int .i64 (leA l 12 1),r]:=fun r=>rfl
      simp only [hv] at hEnc
      have HV:=Lib.hid hv
      clear hv
      have hpin : ((leA l 1 1 : Int) == 1)=(decI l).pin:=by
        unfold decI
        dsimp only
        rw [Bool.eq_iff_iff]
        simp
        omega
      have key : ∀ n,n≤4→min (leA l 13 1) 4=n→∀ W,Calls Tryz.prog 156 #[.string b,.int .i64 14,.int .i64 n] W fun e w'=>(∃ v,e=.returned v∧w'.ownsRow W.heap.size 326 3 v (decE l).length (esC (decE l)))∧Below W.heap.size W w':=fun n hn hm W=>by
        have:=HGE.out n hn W
        unfold decE
        rw [hm,getE_len]
        exact this
      have KEY:=Lib.hid key
      clear key
      have HSM:=Lib.hid hsm
      clear hsm
      have HEN:=Lib.hid hEnc
      clear hEnc
      generalize hpn : (decI l).pin=pn at hpin HEN
      have HPN:=Lib.hid hpn
      clear hpn
      have hx:=hR.out.x
      have hm:=hR.out.m
      have hp:=hR.out.p
      have hz:=hR.out.r
      rw [xK6] at hx
      rw [mK6] at hm
      rw [pK6] at hp
      rw [xK0] at hz
      have hx:=Lib.hid hx
      have hm:=Lib.hid hm
      have hp:=Lib.hid hp
      have hz:=Lib.hid hz
      have a0:=row_cell (i:=0) hm.out rfl
      have a1:=row_cell (i:=0) hp.out rfl
      have a2:=row_cell (i:=1) hx.out rfl
      have a3 : wr.frozen? ⟨w.heap.size+1,1,none⟩=false:=row_frozen hx.out
      have hl1:=row_lt hx.out
      by_cases h4 : leA l 13 1≤4
      · have hget:=KEY.out (leA l 13 1) h4 (by omega)
        go_wp2_with (first
          | (go_at_call 156;refine (hget _).mono ?_;rintro e w3 ⟨⟨v,rfl,hown⟩,hb3⟩;obtain ⟨A,cap,rfl⟩:=own_form hown;have hx3:=Lib.hid (row_below (row6_1 hx.out (.bool pn)) hb3);have hz3:=Lib.hid (row_below (row_setO (i:=1) hz.out (Ne.symm N.out.1) (.bool pn)) hb3);obtain ⟨m1,c0,c1,c2,c3,c4,c5⟩:=six hx3.out;have g5 : w3.frozen? ⟨w.heap.size+1,5,none⟩=false:=row_frozen hx3.out;have HOW:=Lib.hid hown;clear hown;have HBB:=Lib.hid hb3;clear hb3)
          | (go_at_call 157;refine (HEN.out A cap _ (ents_own (own_set HOW.out (m:=w.heap.size+1) (by rw [size_set];exact hl1) _ _))).mono ?_;rintro e w4 ⟨h4e,hb4⟩;have hx4:=Lib.hid (row_below (row6_5 hx3.out (.slice A (decE l).length cap)) hb4);have hz4:=Lib.hid (row_below (row_setO (i:=5) hz3.out (Ne.symm N.out.1) (.slice A (decE l).length cap)) hb4);obtain ⟨p1,d0,d1,d2,d3,d4,d5⟩:=six hx4.out;obtain ⟨p2,e0,e1,e2,e3,e4,e5⟩:=six hz4.out;obtain ⟨f0,f1,f2,f3,f4,f5⟩:=sixF hz4.out;have HB4:=Lib.hid hb4;clear hb4;rcases h4e with ⟨hok,rfl⟩ | ⟨hok,rfl⟩))
        all_goals
          refine bodyPost_ret (ret_cellP (n:=w.heap.size) rfl rfl (row_set6 hz4.out) Tryz.underlying125 rfl Tryz.size125) rfl ⟨?_,?_⟩
          rotate_left
          · exact bl_set (bl_set (bl_set (bl_set (bl_set (bl_set (bl_trans (bl_set (bl_trans (bl_set hR.out.b (n:=w.heap.size+1) (by omega) _ _) HBB.out) (n:=w.heap.size+1) (by omega) _ _) HB4.out) (Nat.le_refl _) _ _) (Nat.le_refl _) _ _) (Nat.le_refl _) _ _) (Nat.le_refl _) _ _) (Nat.le_refl _) _ _) (Nat.le_refl _) _ _
        · rename_i hne
          rw [HBL.out] at hne
          refine .inr ⟨fun h=>?_,rfl⟩
          rw [h.2.2] at hne
          simp at hne
        · rename_i heq
          rw [HBL.out] at heq
          refine .inl ⟨⟨HSM.out,hok,by simpa using heq⟩,.slice A (decE l).length cap,?_,?_⟩
          · rw [HV.out,HPN.out];rfl
          · have hb0 : w.heap.size < (wr.setCell ⟨w.heap.size+1,1,none⟩ (.bool pn)).heap.size:=by rw [size_set];omega
            exact own_le (own_set (own_set (own_set (own_set (own_set (own_set (own_below (own_set HOW.out (m:=w.heap.size+1) (by rw [size_set];exact hl1) _ _) HB4.out) hb0 _ _) hb0 _ _) hb0 _ _) hb0 _ _) hb0 _ _) hb0 _ _) (Nat.le_of_lt hb0)
        · exact .inr ⟨fun h=>hok h.2.1,rfl⟩
      · have hget:=KEY.out 4 (by omega) (by omega)
        go_wp2_with (first
          | (go_at_call 156;refine (hget _).mono ?_;rintro e w3 ⟨⟨v,rfl,hown⟩,hb3⟩;obtain ⟨A,cap,rfl⟩:=own_form hown;have hx3:=Lib.hid (row_below (row6_1 hx.out (.bool pn)) hb3);have hz3:=Lib.hid (row_below (row_setO (i:=1) hz.out (Ne.symm N.out.1) (.bool pn)) hb3);obtain ⟨m1,c0,c1,c2,c3,c4,c5⟩:=six hx3.out;have g5 : w3.frozen? ⟨w.heap.size+1,5,none⟩=false:=row_frozen hx3.out;have HOW:=Lib.hid hown;clear hown;have HBB:=Lib.hid hb3;clear hb3)
          | (go_at_call 157;refine (HEN.out A cap _ (ents_own (own_set HOW.out (m:=w.heap.size+1) (by rw [size_set];exact hl1) _ _))).mono ?_;rintro e w4 ⟨h4e,hb4⟩;have hx4:=Lib.hid (row_below (row6_5 hx3.out (.slice A (decE l).length cap)) hb4);have hz4:=Lib.hid (row_below (row_setO (i:=5) hz3.out (Ne.symm N.out.1) (.slice A (decE l).length cap)) hb4);obtain ⟨p1,d0,d1,d2,d3,d4,d5⟩:=six hx4.out;obtain ⟨p2,e0,e1,e2,e3,e4,e5⟩:=six hz4.out;obtain ⟨f0,f1,f2,f3,f4,f5⟩:=sixF hz4.out;have HB4:=Lib.hid hb4;clear hb4;rcases h4e with ⟨hok,rfl⟩ | ⟨hok,rfl⟩))
        all_goals
          refine bodyPost_ret (ret_cellP (n:=w.heap.size) rfl rfl (row_set6 hz4.out) Tryz.underlying125 rfl Tryz.size125) rfl ⟨?_,?_⟩
          rotate_left
          · exact bl_set (bl_set (bl_set (bl_set (bl_set (bl_set (bl_trans (bl_set (bl_trans (bl_set hR.out.b (n:=w.heap.size+1) (by omega) _ _) HBB.out) (n:=w.heap.size+1) (by omega) _ _) HB4.out) (Nat.le_refl _) _ _) (Nat.le_refl _) _ _) (Nat.le_refl _) _ _) (Nat.le_refl _) _ _) (Nat.le_refl _) _ _) (Nat.le_refl _) _ _
        · rename_i hne
          rw [HBL.out] at hne
          refine .inr ⟨fun h=>?_,rfl⟩
          rw [h.2.2] at hne
          simp at hne
        · rename_i heq
          rw [HBL.out] at heq
          refine .inl ⟨⟨HSM.out,hok,by simpa using heq⟩,.slice A (decE l).length cap,?_,?_⟩
          · rw [HV.out,HPN.out];rfl
          · have hb0 : w.heap.size < (wr.setCell ⟨w.heap.size+1,1,none⟩ (.bool pn)).heap.size:=by rw [size_set];omega
            exact own_le (own_set (own_set (own_set (own_set (own_set (own_set (own_below (own_set HOW.out (m:=w.heap.size+1) (by rw [size_set];exact hl1) _ _) HB4.out) hb0 _ _) hb0 _ _) hb0 _ _) hb0 _ _) hb0 _ _) hb0 _ _) (Nat.le_of_lt hb0)
        · exact .inr ⟨fun h=>hok h.2.1,rfl⟩
end Go.Proofs.YtbamnpenkjfgkaaGreat
