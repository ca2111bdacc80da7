/- The directories. -/
import Derived.Test.YtbamnpenkjfgkaaGreatUM
import Derived.Test.YtbamnpenkjfgkaaGreatUG
import Derived.Lib.OthersKept
namespace Go.Proofs.YtbamnpenkjfgkaaGreat
open Go.RowKit Go.Maps
theorem look176 {w : World} {X nx : Nat} {Dx : DataW Unit} (h : w.ownsMap Tryz.prog 3 RX X nx Dx) (i : Nat) (hi : i < 4611686018427387904) : (Instr.lookup 96 (.map (some X)) (.int .i64 (i : Int)) true).run Tryz.prog w=.ok (.tuple #[.slice none 0 0,.bool (has Dx (.int .i64 (i : Int)))]) w:=by
  obtain ⟨v,ps,hrun,hv⟩:=h.look_ok (int_keyed Tryz.underlying3) Tryz.underlying96 (zero176 w) (show RX (.slice none 0 0)=some (.lit (.bool true),[]) from rfl) (keyI i hi)
  rw [RX_inv hv] at hrun
  exact hrun
theorem look176' {w : World} {X nx : Nat} {Dx : DataW Unit} (h : w.ownsMap Tryz.prog 3 RX X nx Dx) (i : Nat) (hi : i < 4611686018427387904) : (Instr.lookup 96 (.map (some X)) (.int .i64 (i : Int)) false).run Tryz.prog w=.ok (.slice none 0 0) w:=by
  obtain ⟨v,ps,hrun,hv⟩:=h.lookup (int_keyed Tryz.underlying3) Tryz.underlying96 (zero176 w) (show RX (.slice none 0 0)=some (.lit (.bool true),[]) from rfl) (keyI i hi)
  rw [RX_inv hv] at hrun
  exact hrun
set_option maxRecDepth 100000 in
set_option maxHeartbeats 8000000 in
theorem names_walk {w0 : World} {c : KC} {F nn nx : Nat} {Dn Dx : DataW Unit} {fv : Value} {xs : List Value} {w : World} (h : KS w0 c F nn Dn nx Dx fv xs w) (i : Nat) (hi : i < 1000) : Calls Tryz.prog 103 #[pV c.k,.int .i64 i] w fun e w'=>e=.returned (.tuple #[.slice none 0 0,.bool false])∧Below w.heap.size w w':=by
  obtain ⟨lk,q9,q11,q12,q13,q14,q15⟩:=kmaps h.row
  obtain ⟨n,p,li,si,A,cp,_,_,_,hrun,_⟩:=look125' h.drew1.mn i (by omega)
  have hrun2:=look176' h.drew1.mx i (by omega)
  obtain ⟨n',p',li',si',A',cp',_,_,_,hrunB,_⟩:=look125' (h.mn.alloc (.cells #[.int .i64 0,.bool false,.int .i64 0,.int .i64 0,.int .i64 0,.slice none 0 0] 125)).drew i (by omega)
  have hrun2B:=fun o : Obj=>look176' (h.mx.alloc o).drew i (by omega)
  clear h q9 q13 q14 q15
  unfold pV
  go_enter Tryz.func103,Tryz.ntmps103
  go_upto_region 1 with fail
  go_region
  · have HB1 : Hid (Below w.heap.size w (w.alloc (.cells #[.int .i64 n,.bool p,.int .i64 li,.int .i64 si,.int .i64 0,.slice A 0 cp] 125)).drew):=Lib.hid (bl_drewN (below_one w _) 1)
    generalize (w.alloc (.cells #[.int .i64 n,.bool p,.int .i64 li,.int .i64 si,.int .i64 0,.slice A 0 cp] 125)).drew=w1 at HB1 ⊢
    clear hrun hrun2 hrunB hrun2B q11 q12
    go_wp2
    go_loopw [8,9,30] (fun a o i wr=>a=.int .i64 0∧o=.slice none 0 0∧i=.int .i64 0∧wr=w1) (fun _ _ _ _=>0)
    case atStart=>exact ⟨rfl,rfl,rfl,rfl⟩
    case round =>
      obtain ⟨rfl,rfl,rfl,hwr⟩:=hrel
      subst hwr
      go_upto_region 21 with fail
      go_quiet (fail)
      go_wp2
      go_ret2
      exact ⟨rfl,bl_drewN HB1.out _⟩
  · have HB1 : Hid (Below w.heap.size w (w.alloc (.cells #[.int .i64 n',.bool p',.int .i64 li',.int .i64 si',.int .i64 0,.slice A' 0 cp'] 125)).drew):=Lib.hid (bl_drewN (below_one w _) 1)
    generalize (w.alloc (.cells #[.int .i64 n',.bool p',.int .i64 li',.int .i64 si',.int .i64 0,.slice A' 0 cp'] 125)).drew=w1 at HB1 ⊢
    clear hrun hrun2 hrunB hrun2B q11 q12
    go_wp2
    go_loopw [8,9,30] (fun a o i wr=>a=.int .i64 0∧o=.slice none 0 0∧i=.int .i64 0∧wr=w1) (fun _ _ _ _=>0)
    case atStart=>exact ⟨rfl,rfl,rfl,rfl⟩
    case round =>
      obtain ⟨rfl,rfl,rfl,hwr⟩:=hrel
      subst hwr
      go_upto_region 21 with fail
      go_quiet (fail)
      go_wp2
      go_ret2
      exact ⟨rfl,bl_drewN HB1.out _⟩
theorem fld0 (n li si : Int) (p : Bool) (A : Option Addr) (cp : Nat) (W : World) : (Instr.field 125 (.agg #[.int .i64 n,.bool p,.int .i64 li,.int .i64 si,.int .i64 0,.slice A 0 cp]) 0).run Tryz.prog W=.ok (.int .i64 n) W:=by kernel_rfl
def DirsSays (w0 : World) (c : KC) (F nn : Nat) (Dn : DataW Unit) (nx : Nat) (Dx : DataW Unit) (w' : World) : Prop:=∃ F',F≤F'∧F'≤F+c.m∧KI w0 c F' nn Dn nx Dx w'∧(Good Dn→has Dx (.int .i64 0)=true→1≤F')
set_option maxRecDepth 100000 in
set_option maxHeartbeats 16000000 in
theorem dirs_walk {w0 : World} {c : KC} {F nn nx : Nat} {Dn Dx : DataW Unit} {w : World} (hc : c.ok w0.heap.size) (h : KI w0 c F nn Dn nx Dx w) (hF : F≤20000) (hm : c.m≤512) (hm1 : 1≤c.m) :
    Calls Tryz.prog 47 #[pV c.k] w fun e w'=>e=.returned (.tuple #[])∧DirsSays w0 c F nn Dn nx Dx w':=by
  have HC:=Lib.hid hc
  have HSo:=Lib.hid (sorted_walk hc h hm hm1)
  have HKI:=Lib.hid h
  have HFd:=Lib.hid (fun (F' : Nat) (W : World) (hk : KI w0 c F' nn Dn nx Dx W) (hF : F' < 1000000) (kd a : Int)=>finds_walk hc hk hF kd a)
  have HNm:=Lib.hid (fun (F' : Nat) (fv : Value) (xs : List Value) (W : World) (hk : KS w0 c F' nn Dn nx Dx fv xs W) (i : Nat) (hi : i < 1000)=>names_walk hk i hi)
  clear hc h
  unfold pV at *
  go_enter Tryz.func47,Tryz.ntmps47
  go_wp2_with (go_at_call 97;refine HSo.out.mono ?_;rintro e w1 ⟨⟨v,ns,rfl,hI,hX,hZ,hL⟩,hb1⟩;have HI:=Lib.hid hI;have HX:=Lib.hid hX;have HZ:=Lib.hid hZ;have HL:=Lib.hid hL;have HK1:=Lib.hid (HKI.out.below HC.out hb1);clear hI hX hZ hL hb1;obtain ⟨Av,cv,hv,hcv⟩:=HI.out;have HCV:=Lib.hid hcv;clear hcv;subst hv)
  obtain ⟨nl,hnl⟩ : ∃ nl,ns.length=nl:=⟨_,rfl⟩
  have HNL:=Lib.hid hnl
  have hnl2 : nl≤512:=by have:=HL.out;omega
  rw [hnl] at HI ⊢
  clear hnl
  go_loopw [14] (fun i wr=>∃ (j F' : Nat),i=.int .i64 j∧j≤nl∧F≤F'∧F'≤F+j∧Hid (KI w0 c F' nn Dn nx Dx wr)∧Hid (IntsR wr (.slice Av nl cv) ns)∧Hid (0 < j→Good Dn→has Dx (.int .i64 0)=true→1≤F')) (fun i _=>nl - intV i)
  case atStart=>exact ⟨0,F,rfl,by omega,by omega,by omega,HK1.out,HI.out,Lib.hid (fun h=>by omega)⟩
  case round =>
    obtain ⟨j,F',rfl,hj,hF1,hF2,hK,hIw,hG⟩:=hrel
    obtain ⟨wo,hwo⟩ : ∃ wo,wo=wr:=⟨_,rfl⟩
    subst hwo
    by_cases hjn : j=nl
    · have hjn2 : ¬ ((j : Int) < (nl : Int)):=by omega
      have HJ:=Lib.hid hjn
      clear hjn
      go_wp2
      refine bodyPost_end (results_none rfl _ _ _) rfl ⟨rfl,F',hF1,?_,hK.out,fun h0 h1=>?_⟩
      · have:=HL.out;have:=HNL.out;omega
      · refine hG.out ?_ h0 h1
        have h1:=HZ.out h0.1
        have:=(List.getElem?_eq_some_iff.mp h1).1
        have:=HNL.out
        have:=HJ.out
        omega
    · have hj2 : (j : Int) < (nl : Int):=by omega
      obtain ⟨fv,xs,hS⟩:=hK.out
      have HS:=Lib.hid hS
      obtain ⟨lk,q9,q11,q12,q13,q14,q15⟩:=kmaps hS.row
      obtain ⟨x,hx⟩ : ∃ x,ns[j]?=some x:=⟨_,List.getElem?_eq_getElem (by have:=HNL.out;omega)⟩
      have hxm : x < c.m:=HX.out x (List.mem_of_getElem? hx)
      obtain ⟨A',cp',hv',hcv⟩:=hIw.out
      obtain ⟨g,cs,hA,hgr,hgc⟩:=hcv j x hx
      have hAv : Av=some ⟨g,0,none⟩:=by simp at hv';rw [hv'.1,hA]
      subst hAv
      have cx:=row_cell (i:=j) hgr hgc
      unfold iV at cx
      have lg:=row_lt hgr
      obtain ⟨n,p,li,si,Ax,cx',b1,b2,b3,hrun,hat⟩:=look125' hS.mn x (by omega)
      have hrun2:=look176 hS.mx x (by omega)
      obtain ⟨t,ht⟩ : ∃ t,has Dx (.int .i64 (x : Int))=t:=⟨_,rfl⟩
      rw [ht] at hrun2
      have hkey : Good Dn→has Dx (.int .i64 0)=true→t=true∧n=2∨(0 < j∧x ≠ 0)∨0 < j:=fun h0 h1=>by
        rcases Nat.eq_zero_or_pos j with rfl | hj0
        · have h2:=HZ.out h0.1
          rw [hx] at h2
          have hx0:=Option.some.inj h2
          subst hx0
          rw [show ((0 : Nat) : Int)=0 from rfl] at ht hat
          rw [h1] at ht
          rw [h0.2] at hat
          simp at hat
          exact .inl ⟨ht.symm,by omega⟩
        · exact .inr (.inr hj0)
      have hfld:=fld0 n li si p Ax cx' wo
      have hmk:=fun W : World=>run_makeMap (P:=Tryz.prog) 190 W
      have HKey:=Lib.hid hkey
      clear hkey ht b1 b2 b3 hat hx hA hgr hgc hcv hv' hS q9 q13 q14 q15 hjn
      cases t
      · go_wp2
        refine ⟨⟨j+1,F',by first | rfl | simp,by omega,by omega,by omega,hK,hIw,Lib.hid (fun _ h0 h1=>?_)⟩,by simp [intV];omega⟩
        rcases HKey.out h0 h1 with h | h | h
        · exact absurd h.1 (by decide)
        · exact hG.out h.1 h0 h1
        · exact hG.out h h0 h1
      · by_cases hn2 : n=2
        · have en : ((n : Int) != 2)=false:=by simp;omega
          have HN2:=Lib.hid hn2
          clear hn2
          go_wp2_with (go_at_call 103;refine (HNm.out F' fv xs _ HS.out x (by omega)).mono ?_;rintro e w2 ⟨rfl,hb2⟩;have HS2:=Lib.hid (HS.out.below HC.out hb2);have hI2:=Lib.hid (hIw.out.kept (Kept.below hb2));clear hb2)
          have HS3:=Lib.hid (HS2.out.below HC.out (below_one w2 (.map #[] 0)))
          have hI3:=Lib.hid (hI2.out.kept (Kept.below (below_one w2 (.map #[] 0))))
          generalize w2.alloc (.map #[] 0)=w3 at HS3 hI3 ⊢
          generalize w2.heap.size=mm
          clear hmk hrun hrun2 cx lg q11 q12 lk hfld
          go_loopw [7,48] (fun o i wr=>o=.bool false∧i=.int .i64 0∧wr=w3) (fun _ _ _=>0)
          case atStart=>exact ⟨rfl,rfl,rfl⟩
          case round =>
            obtain ⟨rfl,rfl,hwr⟩:=hrel
            subst hwr
            go_wp2_with (go_at_call 45;refine (HFd.out F' _ ⟨_,_,HS3.out⟩ (by omega) _ _).mono ?_;rintro e w5 ⟨rfl,hk5,hkp5,_⟩)
            exact ⟨⟨j+1,F'+1,by first | rfl | simp,by omega,by omega,by omega,Lib.hid hk5,Lib.hid (hI3.out.kept hkp5),Lib.hid (fun _ _ _=>by omega)⟩,by simp [intV];omega⟩
        · have en : ((n : Int) != 2)=true:=by simp;omega
          have HN2:=Lib.hid hn2
          clear hn2
          go_wp2
          refine ⟨⟨j+1,F',by first | rfl | simp,by omega,by omega,by omega,hK,hIw,Lib.hid (fun _ h0 h1=>?_)⟩,by simp [intV];omega⟩
          rcases HKey.out h0 h1 with h | h | h
          · exact absurd h.2 HN2.out
          · exact hG.out h.1 h0 h1
          · exact hG.out h h0 h1
end Go.Proofs.YtbamnpenkjfgkaaGreat
namespace Go.Proofs.YtbamnpenkjfgkaaGreat
open Go.RowKit Go.Maps
def lenV (v : Value) : Nat:=match v with | .slice _ n _=>n | _=>0
def SeenSays (w' : World) (e : Ending) : Prop:=∃ (M n : Nat) (D : DataW Unit),e=.returned (.map (some M))∧w'.ownsMap Tryz.prog 3 RI M n D
set_option maxRecDepth 100000 in
set_option maxHeartbeats 8000000 in
theorem reached_walk {w0 : World} {c : KC} {F nn nx : Nat} {Dn Dx : DataW Unit} {w : World} (hc : c.ok w0.heap.size) (h : KI w0 c F nn Dn nx Dx w) : Calls Tryz.prog 106 #[pV c.k] w fun e w'=>SeenSays w' e∧Below w.heap.size w w':=by
  obtain ⟨fv,xs,h⟩:=h
  have HC:=Lib.hid hc
  have HS:=Lib.hid h
  have hmk:=fun W : World=>run_makeMap (P:=Tryz.prog) 97 W
  obtain ⟨w2,hrun,hown,hgr⟩:=(World.ownsMap_made w Tryz.prog 3 RI).update (int_keyed Tryz.underlying3) Tryz.underlying97 (by unfold maxLen;omega) (keyI 0 (by omega)) (show RI (.int .i64 1)=some (.lit (.int .i64 1),[]) from plainElem_int Tryz.underlying3 (by decide))
  have HB2:=Lib.hid ((below_one w (.map #[] 0)).grown hgr (by rw [alloc_sz];omega) (fun q hq=>by rw [← Option.some.inj hq];exact Nat.le_refl _))
  have HO2:=Lib.hid hown
  clear hown hgr h hc
  rw [show ((0 : Nat) : Int)=0 from rfl] at hrun
  unfold pV
  go_enter Tryz.func106,Tryz.ntmps106
  go_wp2
  have hr3:=Lib.hid (row_new w2 (.cells #[.int .i64 0] 3))
  have HB3:=Lib.hid (bl_alloc HB2.out (.cells #[.int .i64 0] 3))
  have HO3:=Lib.hid (HO2.out.alloc (.cells #[.int .i64 0] 3))
  have HS3:=Lib.hid (HS.out.below HC.out HB3.out)
  generalize w2.alloc (.cells #[.int .i64 0] 3)=w3 at hr3 HB3 HO3 HS3 ⊢
  generalize w2.heap.size=g at *
  have cg : w3.cell? ⟨g,0,none⟩=some (.int .i64 0):=row_cell hr3.out rfl
  have lg:=row_lt hr3.out
  obtain ⟨lk,q9,q11,q12,q13,q14,q15⟩:=kmaps HS3.out.row
  clear q9 q11 q12 q13 q15 hrun hmk
  go_loopw [4] (fun td wr=>(td=.slice (some ⟨g,0,none⟩) 1 1∨∃ A cc,td=.slice A 0 cc)∧wr=w3) (fun td _=>lenV td)
  case atStart=>exact ⟨.inl rfl,rfl⟩
  case round =>
    obtain ⟨htd,hwr⟩:=hrel
    subst hwr
    have HTD:=Lib.hid htd
    clear htd
    rcases HTD.out with h | ⟨A,cc,h⟩
    · subst h
      go_wp2
      obtain ⟨wo,hwo⟩ : ∃ wo,wo=wr:=⟨_,rfl⟩
      subst hwo
      go_loopw [4,24] (fun td i wr=>Hid (∃ A cc,td=.slice A 0 cc)∧i=.int .i64 0∧wr=wo) (fun _ i _=>0)
      case atStart=>exact ⟨Lib.hid ⟨_,_,rfl⟩,rfl,rfl⟩
      case round =>
        obtain ⟨htd,rfl,hwr⟩:=hrel
        subst hwr
        go_wp2
        obtain ⟨A,cc,h⟩:=htd.out
        rw [h]
        exact ⟨⟨.inr ⟨_,_,rfl⟩,trivial⟩,by simp [lenV]⟩
    · subst h
      go_wp2
      go_ret
      exact ⟨⟨_,_,_,rfl,HO3.out⟩,HB3.out⟩
end Go.Proofs.YtbamnpenkjfgkaaGreat
namespace Go.Proofs.YtbamnpenkjfgkaaGreat
open Go.RowKit Go.Maps
theorem zero3 (w : World) : (zeroValue 3).run Tryz.prog w=.ok (.int .i64 0) w:=by kernel_rfl
theorem look97 {w : World} {M : Nat} (h : w.ownsMap Tryz.prog 3 RI M 0 (.map [])) (i : Nat) (hi : i < 4611686018427387904) : (Instr.lookup 97 (.map (some M)) (.int .i64 (i : Int)) false).run Tryz.prog w=.ok (.int .i64 0) w:=by
  obtain ⟨c,hrun,hat,_⟩:=World.ownsMap.lookup_int h (int_keyed Tryz.underlying3) Tryz.underlying97 Tryz.underlying3 (zero3 w) (keyI i hi)
  have : c=0:=by
    have h1 : (DataW.lit (.int .i64 0) : DataW Unit)=.lit (.int .i64 c):=hat
    simp at h1
    exact h1.symm
  rw [this] at hrun
  exact hrun
theorem look97s {w : World} {M n : Nat} {D : DataW Unit} (h : w.ownsMap Tryz.prog 3 RI M n D) (i : Nat) (hi : i < 4611686018427387904) : ∃ s : Int,(Instr.lookup 97 (.map (some M)) (.int .i64 (i : Int)) false).run Tryz.prog w=.ok (.int .i64 s) w:=by
  obtain ⟨c,hrun,_⟩:=World.ownsMap.lookup_int h (int_keyed Tryz.underlying3) Tryz.underlying97 Tryz.underlying3 (zero3 w) (keyI i hi)
  exact ⟨c,hrun⟩
theorem look97k {w : World} {M : Nat} (h : w.ownsMap Tryz.prog 3 RI M 0 (.map [])) (i : Nat) (hi : i < 4611686018427387904) : (Instr.lookup 97 (.map (some M)) (.int .i64 (i : Int)) true).run Tryz.prog w=.ok (.tuple #[.int .i64 0,.bool false]) w:=by
  obtain ⟨v,ps,hrun,hv⟩:=h.look_ok (int_keyed Tryz.underlying3) Tryz.underlying97 (zero3 w) (show RI (.int .i64 0)=some (.lit (.int .i64 0),[]) from plainElem_int Tryz.underlying3 (by decide)) (keyI i hi)
  obtain ⟨c,rfl,hc,_⟩:=plainElem_int_inv Tryz.underlying3 hv
  have : c=0:=by
    have h1:=congrArg Prod.fst hc
    have h2 : (DataW.lit (.int .i64 0) : DataW Unit)=.lit (.int .i64 c):=h1
    simp at h2
    exact h2.symm
  rw [this] at hrun
  exact hrun
theorem linksCells {w : World} {n : Nat} {v0 v1 v2 v3 v4 v5 : Value} (h : w.heap[n]?=some (.cells #[v0,v1,v2,v3,v4,v5] 125 (0,0))) : n < w.heap.size∧w.cell? ⟨n,0,none⟩=some v0∧w.cell? ⟨n,2,none⟩=some v2 :=
  ⟨row_lt h,row_cell h rfl,row_cell h rfl⟩
def LinksSays (w0 : World) (c : KC) (F nn : Nat) (Dn : DataW Unit) (nx : Nat) (Dx : DataW Unit) (w' : World) : Prop:=∃ F',F≤F'∧F'≤F+2 * c.m∧KI w0 c F' nn Dn nx Dx w'
set_option maxRecDepth 100000 in
set_option maxHeartbeats 32000000 in
theorem links_walk {w0 : World} {c : KC} {F nn nx : Nat} {Dn Dx : DataW Unit} {w : World} (hc : c.ok w0.heap.size) (h : KI w0 c F nn Dn nx Dx w) (hF : F≤30000) (hm : c.m≤512) (hm1 : 1≤c.m) :
    Calls Tryz.prog 48 #[pV c.k] w fun e w'=>e=.returned (.tuple #[])∧LinksSays w0 c F nn Dn nx Dx w':=by
  have HC:=Lib.hid hc
  have HSo:=Lib.hid (fun (W : World) (h : KI w0 c F nn Dn nx Dx W)=>sorted_walk hc h hm hm1)
  have HRe:=Lib.hid (fun (W : World) (h : KI w0 c F nn Dn nx Dx W)=>reached_walk hc h)
  have HKI:=Lib.hid h
  have HFd:=Lib.hid (fun (F' : Nat) (W : World) (hk : KI w0 c F' nn Dn nx Dx W) (hF : F' < 1000000) (kd a : Int)=>finds_walk hc hk hF kd a)
  have hmk:=fun W : World=>run_makeMap (P:=Tryz.prog) 97 W
  obtain ⟨fv0,xs0,hS0⟩:=h
  obtain ⟨lk,q9,q11,q12,q13,q14,q15⟩:=kmaps (((hS0.below hc (below_one w (.map #[] 0))).below hc (below_one _ (.map #[] 0))).below hc (below_one _ (.map #[] 0))).row
  have HO1:=Lib.hid (((World.ownsMap_made w Tryz.prog 3 RI).alloc (.map #[] 0)).alloc (.map #[] 0))
  have HO2:=Lib.hid ((World.ownsMap_made (w.alloc (.map #[] 0)) Tryz.prog 3 RI).alloc (.map #[] 0))
  have HO3:=Lib.hid (World.ownsMap_made ((w.alloc (.map #[] 0)).alloc (.map #[] 0)) Tryz.prog 3 RI)
  have HB:=Lib.hid (bl_alloc (below_two w (.map #[] 0) (.map #[] 0)) (.map #[] 0))
  rw [alloc_sz] at HO2
  rw [alloc_sz,alloc_sz] at HO3
  have HK:=Lib.hid (HKI.out.below hc HB.out)
  clear hc hS0 q9 q11 q12 q13 q15
  unfold pV at *
  go_enter Tryz.func48,Tryz.ntmps48
  go_upto_region 1 with fail
  generalize ((w.alloc (.map #[] 0)).alloc (.map #[] 0)).alloc (.map #[] 0)=w1 at HO1 HO2 HO3 HB HK lk q14 ⊢
  generalize w.heap.size+1+1=m3 at *
  generalize w.heap.size+1=m2 at *
  generalize w.heap.size=m1 at *
  clear hmk
  go_wp2
  go_loopw [21] (fun i wr=>i=.int .i64 0∧wr=w1) (fun i _=>0)
  case atStart=>exact ⟨rfl,rfl⟩
  case round =>
    obtain ⟨rfl,hwr⟩:=hrel
    subst hwr
    go_wp2_with (first
      | (go_at_call 106;refine (HRe.out _ HK.out).mono ?_;rintro e w2 ⟨⟨MS,nS,DS,rfl,hoS⟩,hb2⟩;have HK2:=Lib.hid (HK.out.below HC.out hb2);have HP1:=Lib.hid ((KeptM.below hb2).own HO1.out);have HP2:=Lib.hid ((KeptM.below hb2).own HO2.out);have HP3:=Lib.hid ((KeptM.below hb2).own HO3.out);have HP4:=Lib.hid hoS;clear hb2 hoS)
      | (go_at_call 97;refine (HSo.out _ HK2.out).mono ?_;rintro e w3 ⟨⟨v,ns,rfl,hI,hX,hZ,hL⟩,hb1⟩;have HI:=Lib.hid hI;have HX:=Lib.hid hX;have HL:=Lib.hid hL;have HK3:=Lib.hid (HK2.out.below HC.out hb1);have HQ1:=Lib.hid ((KeptM.below hb1).own HP1.out);have HQ2:=Lib.hid ((KeptM.below hb1).own HP2.out);have HQ3:=Lib.hid ((KeptM.below hb1).own HP3.out);have HQ4:=Lib.hid ((KeptM.below hb1).own HP4.out);clear hI hX hZ hL hb1;obtain ⟨Av,cv,hv,hcv⟩:=HI.out;clear hcv;subst hv))
    obtain ⟨nl,hnl⟩ : ∃ nl,ns.length=nl:=⟨_,rfl⟩
    have HNL:=Lib.hid hnl
    have hnl2 : nl≤512:=by have:=HL.out;omega
    rw [hnl] at HI ⊢
    clear hnl lk q14
    obtain ⟨w9,hw9⟩ : ∃ w9,w9=wr:=⟨_,rfl⟩
    subst hw9
    go_loopw [55] (fun i wr=>∃ (j F' : Nat),i=.int .i64 j∧j≤nl∧F≤F'∧F'≤F+2 * j∧Hid (KI w0 c F' nn Dn nx Dx wr)∧Hid (IntsR wr (.slice Av nl cv) ns)∧Hid (wr.ownsMap Tryz.prog 3 RI m1 0 (.map []))∧Hid (wr.ownsMap Tryz.prog 3 RI m2 0 (.map []))∧Hid (wr.ownsMap Tryz.prog 3 RI m3 0 (.map []))∧Hid (wr.ownsMap Tryz.prog 3 RI MS nS DS)) (fun i _=>nl - intV i)
    case atStart=>exact ⟨0,F,rfl,by omega,by omega,by omega,HK3.out,HI.out,HQ1.out,HQ2.out,HQ3.out,HQ4.out⟩
    case round =>
      obtain ⟨j,F',rfl,hj,hF1,hF2,hK,hIw,hM1,hM2,hM3,hM4⟩:=hrel
      obtain ⟨wo,hwo⟩ : ∃ wo,wo=wr:=⟨_,rfl⟩
      subst hwo
      by_cases hjn : j=nl
      · have hjn2 : ¬ ((j : Int) < (nl : Int)):=by omega
        clear hjn
        go_wp2
        exact bodyPost_end (results_none rfl _ _ _) rfl ⟨rfl,F',hF1,by have:=HL.out;have:=HNL.out;omega,hK.out⟩
      · have hj2 : (j : Int) < (nl : Int):=by omega
        obtain ⟨fv,xs,hS⟩:=hK.out
        have HS:=Lib.hid hS
        obtain ⟨lk,q9,q11,q12,q13,q14,q15⟩:=kmaps hS.row
        obtain ⟨x,hx⟩ : ∃ x,ns[j]?=some x:=⟨_,List.getElem?_eq_getElem (by have:=HNL.out;omega)⟩
        have hxm : x < c.m:=HX.out x (List.mem_of_getElem? hx)
        obtain ⟨A',cp',hv',hcv⟩:=hIw.out
        obtain ⟨g,cs,hA,hgr,hgc⟩:=hcv j x hx
        have hAv : Av=some ⟨g,0,none⟩:=by simp at hv';rw [hv'.1,hA]
        subst hAv
        have cx:=row_cell (i:=j) hgr hgc
        unfold iV at cx
        have lg:=row_lt hgr
        obtain ⟨n,p,li,si,Ax,cx',b1,b2,b3,hrun,hat⟩:=look125' hS.mn x (by omega)
        clear b1 b2 b3 hat hx hA hgr hgc hcv hv' hS q9 q12 q13 q14 q15 hjn
        go_upto_region 14 with fail
        have hxa:=Lib.hid (row_new wo (.cells #[.int .i64 n,.bool p,.int .i64 li,.int .i64 si,.int .i64 0,.slice Ax 0 cx'] 125))
        have HSa:=Lib.hid (HS.out.below HC.out (below_one wo (.cells #[.int .i64 n,.bool p,.int .i64 li,.int .i64 si,.int .i64 0,.slice Ax 0 cx'] 125)))
        have hIa:=Lib.hid (hIw.out.kept (Kept.below (below_one wo (.cells #[.int .i64 n,.bool p,.int .i64 li,.int .i64 si,.int .i64 0,.slice Ax 0 cx'] 125))))
        have hA1:=Lib.hid (hM1.out.alloc (.cells #[.int .i64 n,.bool p,.int .i64 li,.int .i64 si,.int .i64 0,.slice Ax 0 cx'] 125))
        have hA2:=Lib.hid (hM2.out.alloc (.cells #[.int .i64 n,.bool p,.int .i64 li,.int .i64 si,.int .i64 0,.slice Ax 0 cx'] 125))
        have hA3:=Lib.hid (hM3.out.alloc (.cells #[.int .i64 n,.bool p,.int .i64 li,.int .i64 si,.int .i64 0,.slice Ax 0 cx'] 125))
        have hA4:=Lib.hid (hM4.out.alloc (.cells #[.int .i64 n,.bool p,.int .i64 li,.int .i64 si,.int .i64 0,.slice Ax 0 cx'] 125))
        generalize wo.alloc (.cells #[.int .i64 n,.bool p,.int .i64 li,.int .i64 si,.int .i64 0,.slice Ax 0 cx'] 125)=wa at hxa HSa hIa hA1 hA2 hA3 hA4 ⊢
        generalize wo.heap.size=g1 at *
        clear lk q11 cx lg hrun
        obtain ⟨lk,q9,q11,q12,q13,q14,q15⟩:=kmaps HSa.out.row
        obtain ⟨lx,x0,x2⟩:=linksCells hxa.out
        clear q9 q11 q12 q13 q14
        have e1:=look97 hA1.out x (by omega)
        have e2:=look97 hA2.out x (by omega)
        have e3:=look97 hA3.out x (by omega)
        obtain ⟨sv,e4⟩:=look97s hA4.out x (by omega)
        have e5:=look97k HSa.out.mp x (by omega)
        by_cases hn1 : n=1
        · have en : ((n : Int) == 1)=true:=by simp;omega
          clear hn1
          go_wp2_with (go_at_call 45;refine (HFd.out F' _ ⟨_,_,HSa.out⟩ (by omega) _ _).mono ?_;rintro e w5 ⟨rfl,hk5,hkp5,hkm5⟩)
          all_goals first
            | exact ⟨⟨j+1,F'+1,by first | rfl | simp,by omega,by omega,by omega,Lib.hid hk5,Lib.hid (hIa.out.kept hkp5),Lib.hid (hkm5.own hA1.out),Lib.hid (hkm5.own hA2.out),Lib.hid (hkm5.own hA3.out),Lib.hid (hkm5.own hA4.out)⟩,by simp [intV];omega⟩
            | exact ⟨⟨j+1,F',by first | rfl | simp,by omega,by omega,by omega,Lib.hid ⟨_,_,HSa.out⟩,hIa,hA1,hA2,hA3,hA4⟩,by simp [intV];omega⟩
        · have en : ((n : Int) == 1)=false:=by simp;omega
          clear hn1
          by_cases hl2 : li=2
          · have el : ((li : Int) != 2)=false:=by simp;omega
            clear hl2
            by_cases hs0 : sv=0
            · have es : (sv == 0)=true:=by simp [hs0]
              clear hs0
              go_wp2_with (go_at_call 45;refine (HFd.out (F') _ ⟨_,_,HSa.out⟩ (by omega) _ _).mono ?_;rintro e w6 ⟨rfl,hk6,hkp6,hkm6⟩)
              exact ⟨⟨j+1,F'+1,by first | rfl | simp,by omega,by omega,by omega,Lib.hid hk6,Lib.hid (hIa.out.kept hkp6),Lib.hid (hkm6.own hA1.out),Lib.hid (hkm6.own hA2.out),Lib.hid (hkm6.own hA3.out),Lib.hid (hkm6.own hA4.out)⟩,by simp [intV];omega⟩
            · have es : (sv == 0)=false:=by simp [hs0]
              clear hs0
              by_cases hx0 : x=0
              · have ex : ((x : Int) == 0)=true:=by simp [hx0]
                have ex2 : ((x : Int) != 0)=false:=by simp [hx0]
                have HX0:=Lib.hid hx0
                clear hx0
                go_wp2
                exact ⟨⟨j+1,F',by first | rfl | simp,by omega,by omega,by omega,Lib.hid ⟨_,_,HSa.out⟩,hIa,hA1,hA2,hA3,hA4⟩,by simp [intV];omega⟩
              · have ex : ((x : Int) == 0)=false:=by simp;omega
                have ex2 : ((x : Int) != 0)=true:=by simp;omega
                have HX0:=Lib.hid hx0
                clear hx0
                go_wp2_with (go_at_call 45;refine (HFd.out (F') _ ⟨_,_,HSa.out⟩ (by omega) _ _).mono ?_;rintro e w6 ⟨rfl,hk6,hkp6,hkm6⟩)
                exact ⟨⟨j+1,F'+1,by first | rfl | simp,by omega,by omega,by omega,Lib.hid hk6,Lib.hid (hIa.out.kept hkp6),Lib.hid (hkm6.own hA1.out),Lib.hid (hkm6.own hA2.out),Lib.hid (hkm6.own hA3.out),Lib.hid (hkm6.own hA4.out)⟩,by simp [intV];omega⟩
          · have el : ((li : Int) != 2)=true:=by simp;omega
            clear hl2
            go_upto_region 19 with (go_at_call 45;refine (HFd.out F' _ ⟨_,_,HSa.out⟩ (by omega) _ _).mono ?_;rintro e w5 ⟨rfl,hk5,hkp5,hkm5⟩;have HK5:=Lib.hid hk5;have HI5:=Lib.hid (hIa.out.kept hkp5);have HM1:=Lib.hid (hkm5.own hA1.out);have HM2:=Lib.hid (hkm5.own hA2.out);have HM3:=Lib.hid (hkm5.own hA3.out);have HM4:=Lib.hid (hkm5.own hA4.out);clear hk5 hkp5 hkm5)
            clear e1 e2 e3 e4 e5 lk q15 lx x0 x2 sv
            obtain ⟨fv5,xs5,hS5⟩:=HK5.out
            have HS5:=Lib.hid hS5
            clear hS5
            obtain ⟨lk,q9,q11,q12,q13,q14,q15⟩:=kmaps HS5.out.row
            clear q9 q11 q12 q13 q14
            have e1:=look97 HM1.out x (by omega)
            have e2:=look97 HM2.out x (by omega)
            have e3:=look97 HM3.out x (by omega)
            obtain ⟨sv,e4⟩:=look97s HM4.out x (by omega)
            have e5:=look97k HS5.out.mp x (by omega)
            by_cases hs0 : sv=0
            · have es : (sv == 0)=true:=by simp [hs0]
              clear hs0
              go_wp2_with (go_at_call 45;refine (HFd.out ((F'+1)) _ HK5.out (by omega) _ _).mono ?_;rintro e w6 ⟨rfl,hk6,hkp6,hkm6⟩)
              exact ⟨⟨j+1,(F'+1)+1,by first | rfl | simp,by omega,by omega,by omega,Lib.hid hk6,Lib.hid (HI5.out.kept hkp6),Lib.hid (hkm6.own HM1.out),Lib.hid (hkm6.own HM2.out),Lib.hid (hkm6.own HM3.out),Lib.hid (hkm6.own HM4.out)⟩,by simp [intV];omega⟩
            · have es : (sv == 0)=false:=by simp [hs0]
              clear hs0
              by_cases hx0 : x=0
              · have ex : ((x : Int) == 0)=true:=by simp [hx0]
                have ex2 : ((x : Int) != 0)=false:=by simp [hx0]
                have HX0:=Lib.hid hx0
                clear hx0
                go_wp2
                exact ⟨⟨j+1,(F'+1),by first | rfl | simp,by omega,by omega,by omega,Lib.hid HK5.out,HI5,HM1,HM2,HM3,HM4⟩,by simp [intV];omega⟩
              · have ex : ((x : Int) == 0)=false:=by simp;omega
                have ex2 : ((x : Int) != 0)=true:=by simp;omega
                have HX0:=Lib.hid hx0
                clear hx0
                go_wp2_with (go_at_call 45;refine (HFd.out ((F'+1)) _ HK5.out (by omega) _ _).mono ?_;rintro e w6 ⟨rfl,hk6,hkp6,hkm6⟩)
                exact ⟨⟨j+1,(F'+1)+1,by first | rfl | simp,by omega,by omega,by omega,Lib.hid hk6,Lib.hid (HI5.out.kept hkp6),Lib.hid (hkm6.own HM1.out),Lib.hid (hkm6.own HM2.out),Lib.hid (hkm6.own HM3.out),Lib.hid (hkm6.own HM4.out)⟩,by simp [intV];omega⟩
end Go.Proofs.YtbamnpenkjfgkaaGreat
namespace Go.Proofs.YtbamnpenkjfgkaaGreat
open Go.RowKit Go.Maps
def IsB (B b : Nat) (l : List UInt8) (w : World) : Prop:=Lib.IsBuilderF 143 5 B b (Lib.byteCells l) w
def BWrite : Prop:=∀ (B b : Nat) (l : List UInt8) (s : ByteArray) (w : World),IsB B b l w→l.length+s.size≤100000→B≤w.heap.size→Calls Tryz.prog 80 #[pV b,.string s] w fun e w'=>e=.returned (.tuple #[.int .i64 s.size,.nilIface])∧IsB B b (l ++ s.data.toList) w'∧Below B w w'∧Lib.OthersKept 5 (some b) w w'
def BString : Prop:=∀ (B b : Nat) (l : List UInt8) (w : World),IsB B b l w→l ≠ []→Calls Tryz.prog 82 #[pV b] w fun e w'=>e=.returned (.string ⟨l.toArray⟩)∧IsB B b l w'∧Below B w w'∧Lib.OthersKept 5 (some b) w w'
theorem ownF_kept {w w' : World} {B : Nat} {v : Value} {n : Nat} {xs : List Value} (h : w.ownsRowF B 5 1 v n xs) (hk : Kept w w') : w'.ownsRowF B 5 1 v n xs:=by
  refine ⟨h.1,?_⟩
  rcases h.2 with hn | ⟨g,cap,cur,fz,hv,hb,hg,rest⟩
  · exact .inl hn
  · exact .inr ⟨g,cap,cur,fz,hv,hb,hk g cur 5 fz hg (by decide) (by decide),rest⟩
theorem IsB.kept {B b : Nat} {l : List UInt8} {w w' : World} (h : IsB B b l w) (hk : Kept w w') : IsB B b l w':=by
  rcases h with ⟨hB,v,hb,ho,hne⟩ | ⟨hB,v,hb,ho,hne⟩
  · exact .inl ⟨hB,v,hk b _ 143 _ hb (by decide) (by decide),ownF_kept ho hk,hne⟩
  · exact .inr ⟨hB,v,hk b _ 143 _ hb (by decide) (by decide),ownF_kept ho hk,hne⟩
theorem IsB.new (w : World) : IsB w.heap.size w.heap.size [] (w.alloc (.cells #[.pointer none,.slice none 0 0] 143)) :=
  .inl ⟨Nat.le_refl _,.slice none 0 0,row_new w _,World.ownsRowF_nil _ _ _ _,by simp [Value.ownBlock]⟩
theorem KS.others {w0 : World} {c : KC} {F nn nx : Nat} {Dn Dx : DataW Unit} {fv : Value} {xs : List Value} {w w' : World} (h : KS w0 c F nn Dn nx Dx fv xs w) {B b : Nat} (hk : Lib.OthersKept 5 (some b) w w') (hb : Below B w w') (hB : c.B≤B) (hbB : B≤b) (hrow : ∃ cs fz,w.heap[b]?=some (.cells cs 143 fz)) (hc : c.ok w0.heap.size) : KS w0 c F nn Dn nx Dx fv xs w':=by
  have hm : ∀ {R : Value→Option (DataW Unit × List MemPlace)} {q n : Nat} {D : DataW Unit},q < c.B→w.ownsMap Tryz.prog 3 R q n D→w'.ownsMap Tryz.prog 3 R q n D:=fun hq hm=>by
    obtain ⟨es,ck,hx,h1⟩:=hm
    exact ⟨es,ck,hk _ _ hx (fun e=>by have:=Option.some.inj e;omega) (fun _ _ e=>by cases e),h1⟩
  refine ⟨hk _ _ h.row (fun e=>by have:=Option.some.inj e;have:=hc.k.2;omega) (fun _ _ e=>by cases e),?_,h.ints,hm hc.N.2 h.mn,hm hc.X.2 h.mx,hm hc.O.2 h.mo,hm hc.P.2 h.mp,h.bl.trans (hb.mono (by have:=hc.k;omega)),Nat.le_trans h.sz hb.size⟩
  refine ⟨h.own.1,?_⟩
  rcases h.own.2 with hn | ⟨g,cap,cur,hv,hb2,hg,rest⟩
  · exact .inl hn
  · exact .inr ⟨g,cap,cur,hv,hb2,hk g _ hg (fun e=>by
      obtain ⟨cs,fz,hr⟩:=hrow
      rw [← Option.some.inj e,hg] at hr
      simp at hr) (fun _ _ e=>by cases e),rest⟩
theorem IsB.row {B b : Nat} {l : List UInt8} {w : World} (h : IsB B b l w) : B≤b∧∃ cs fz,w.heap[b]?=some (.cells cs 143 fz):=by
  rcases h with ⟨hB,v,hb,_⟩ | ⟨hB,v,hb,_⟩ <;> exact ⟨hB,_,_,hb⟩
def BitSays (w0 : World) (c : KC) (F nn : Nat) (Dn : DataW Unit) (nx : Nat) (Dx : DataW Unit) (w' : World) : Prop:=∃ F',F≤F'∧F'≤F+c.b∧KI w0 c F' nn Dn nx Dx w'
theorem kgeo {w : World} {n : Nat} {c : KC} {fv : Value} (h : w.heap[n]?=some (.cells (kCells c fv) 100 (0,0))) : n < w.heap.size∧w.cell? ⟨n,0,none⟩=some (.int .i64 c.b)∧w.cell? ⟨n,4,none⟩=some (.int .i64 c.y4)∧w.cell? ⟨n,5,none⟩=some (.int .i64 c.y5)∧w.cell? ⟨n,8,none⟩=some (.int .i64 c.y8)∧w.cell? ⟨n,9,none⟩=some (.func (.func 18) #[.pointer (some ⟨c.d,0,none⟩)] #[])∧w.cell? ⟨n,13,none⟩=some (.map (some c.O)) :=
  ⟨row_lt h,row_cell h rfl,row_cell h rfl,row_cell h rfl,row_cell h rfl,row_cell h rfl,row_cell h rfl⟩
set_option maxRecDepth 100000 in
set_option maxHeartbeats 32000000 in
theorem bitmap_walk (HBW : BWrite) (HBS : BString) {w0 : World} {c : KC} {bs : List ByteArray} (hD : DevIs w0 c.d bs) (hg : c.geo bs) (h128 : ∀ (k : Nat) (b : ByteArray),bs[k]?=some b→b.data.toList.length=128) (hc : c.ok w0.heap.size) {F nn nx : Nat} {Dn Dx : DataW Unit} {w : World} (h : KI w0 c F nn Dn nx Dx w) (hF : F≤10000) :
    Calls Tryz.prog 46 #[pV c.k] w fun e w'=>e=.returned (.tuple #[])∧BitSays w0 c F nn Dn nx Dx w':=by
  have hgk:=hg.ok
  unfold geoOk at hgk
  have hy5 : 1≤c.y5∧c.y5≤4:=by have:=hg.e5;omega
  have hin : ∀ i,i < c.y5→c.y4+i < bs.length:=fun i hi=>by
    have h1:=hg.n;have h2:=hg.e4;have h3:=hg.e5
    have h4 : dataAt c.b c.l c.m=1+c.l+(c.b+1023) / 1024+c.m / 2:=rfl
    omega
  have hb4 : c.b≤4096:=by omega
  have HBl:=Lib.hid (fun i hi=>(⟨_,List.getElem?_eq_getElem (hin i hi)⟩ : ∃ b,bs[c.y4+i]?=some b))
  have hy4 : c.y4≤1000:=by have:=hg.e4;omega
  have H128:=Lib.hid h128
  have HC:=Lib.hid hc
  have HW:=Lib.hid HBW
  have HS:=Lib.hid HBS
  have HR:=Lib.hid (fun (W : World) (hB : Below w0.heap.size w0 W) (k : Nat) (b : ByteArray) (hb : bs[k]?=some b) (n : Nat)=>read_walk (dev_drewN (dev_below hD hB) n) hb)
  have HFd:=Lib.hid (fun (F' : Nat) (W : World) (hk : KI w0 c F' nn Dn nx Dx W) (hF : F' < 1000000) (kd a : Int)=>finds_walk hc hk hF kd a)
  obtain ⟨fv0,xs0,hS0⟩:=h
  have HSa:=Lib.hid (hS0.below hc (below_one w (.cells #[.pointer none,.slice none 0 0] 143)))
  have HI:=Lib.hid (IsB.new w)
  have hBw:=hS0.sz
  have hsa : w.heap.size≤(w.alloc (.cells #[.pointer none,.slice none 0 0] 143)).heap.size:=by rw [alloc_sz];omega
  clear hD hg h128 hc HBW HBS hin hS0 hgk
  unfold pV at *
  go_enter Tryz.func46,Tryz.ntmps46
  go_upto_region 1 with fail
  generalize w.alloc (.cells #[.pointer none,.slice none 0 0] 143)=wa at HSa HI hsa ⊢
  generalize w.heap.size=g at *
  obtain ⟨lk,q0,q4,q5,q8,q9,q13⟩:=kgeo HSa.out.row
  clear q0 q4 q8 q9 q13
  go_wp2
  go_loopw [15] (fun i wr=>∃ (k : Nat) (l : List UInt8),i=.int .i64 k∧k≤c.y5∧Hid (l.length=128 * k)∧Hid (IsB g g l wr)∧Hid (KS w0 c F nn Dn nx Dx fv0 xs0 wr)∧Hid (g≤wr.heap.size)) (fun i _=>c.y5 - intV i)
  case atStart=>exact ⟨0,[],rfl,by omega,rfl,HI.out,HSa.out,hsa⟩
  case round =>
    obtain ⟨k,l,rfl,hk,hl,hI,hS,hgs⟩:=hrel
    obtain ⟨wo,hwo⟩ : ∃ wo,wo=wr:=⟨_,rfl⟩
    subst hwo
    by_cases hkn : k=c.y5
    · have hkn2 : ¬ ((k : Int) < (c.y5 : Int)):=by omega
      have HK:=Lib.hid hkn
      clear hkn lk q5
      obtain ⟨lk,q0,q4,q5,q8,q9,q13⟩:=kgeo hS.out.row
      clear q4 q5 q8 q9 q13
      go_wp2
      have hl0 : l ≠ []:=fun e=>by have:=hl.out;rw [e] at this;simp at this;have:=HK.out;omega
      have hlz : l.length≤512:=by have:=hl.out;have:=HK.out;omega
      have HL0:=Lib.hid (And.intro hl0 hlz)
      clear hl0 hlz
      have HHas:=Lib.hid (fun (n : Nat) (hn : n < 10000) (W : World)=>has_walk ⟨l.toArray⟩ n (by omega) (by show l.toArray.toList.length < _;have:=HL0.out.2;simp;omega) W)
      unfold iV at HHas
      go_loopw [44] (fun i wr=>∃ (j F' : Nat),i=.int .i64 j∧j≤c.b∧F≤F'∧F'≤F+j∧Hid (IsB g g l wr)∧Hid (KI w0 c F' nn Dn nx Dx wr)∧Hid (g≤wr.heap.size)) (fun i _=>c.b - intV i)
      case atStart=>exact ⟨0,F,rfl,by omega,by omega,by omega,hI.out,⟨_,_,hS.out⟩,hgs.out⟩
      case round =>
        obtain ⟨j,F',rfl,hj,hF1,hF2,hI2,hK2,hG2⟩:=hrel
        obtain ⟨w7,hw7⟩ : ∃ w7,w7=wr:=⟨_,rfl⟩
        subst hw7
        by_cases hjn : j=c.b
        · have hjn2 : ¬ ((j : Int) < (c.b : Int)):=by omega
          clear hjn
          go_wp2
          exact bodyPost_end (results_none rfl _ _ _) rfl ⟨rfl,F',hF1,by omega,hK2.out⟩
        · have hj2 : (j : Int) < (c.b : Int):=by omega
          obtain ⟨fv,xs,hS2⟩:=hK2.out
          have HS2:=Lib.hid hS2
          clear lk q0 hjn hS2
          obtain ⟨lk,q0,q4,q5,q8,q9,q13⟩:=kgeo HS2.out.row
          have e5:=look97k HS2.out.mo j (by omega)
          clear q0 q4 q5 q9
          obtain ⟨t,ht⟩ : ∃ t,hasBit ⟨l.toArray⟩ j=t:=⟨_,rfl⟩
          have HHj:=Lib.hid (fun (W : World)=>HHas.out j (by omega) W)
          rw [ht] at HHj
          clear ht
          by_cases hd : j < c.y8
          · have ed : (j : Int) < (c.y8 : Int):=by omega
            clear hd
            cases t
            · go_wp2_with (first
                | (go_at_call 82;refine (HS.out g g l _ hI2.out HL0.out.1).mono ?_;rintro e w5 ⟨rfl,hI5,hb5,hk5⟩;have HI5:=Lib.hid hI5;have HS5:=Lib.hid (HS2.out.others hk5 hb5 hBw (Nat.le_refl _) hI2.out.row.2 HC.out);have HG5:=Lib.hid (Nat.le_trans hG2.out hb5.size);clear hI5 hb5 hk5)
                | (go_at_call 102;refine (HHj.out _).mono ?_;rintro e w6 ⟨rfl,rfl⟩)
                | (go_at_call 45;refine (HFd.out F' _ ⟨_,_,HS5.out⟩ (by omega) _ _).mono ?_;rintro e w8 ⟨rfl,hk8,hkp8,_⟩))
              have hI8:=HI5.out.kept hkp8
              exact ⟨⟨j+1,F'+1,by first | rfl | simp,by omega,by omega,by omega,hI8,Lib.hid hk8,Lib.hid (by obtain ⟨cs,fz,hr⟩:=hI8.row.2;exact Nat.le_of_lt (row_lt hr))⟩,by simp [intV];omega⟩
            · go_wp2_with (first
                | (go_at_call 82;refine (HS.out g g l _ hI2.out HL0.out.1).mono ?_;rintro e w5 ⟨rfl,hI5,hb5,hk5⟩;have HI5:=Lib.hid hI5;have HS5:=Lib.hid (HS2.out.others hk5 hb5 hBw (Nat.le_refl _) hI2.out.row.2 HC.out);have HG5:=Lib.hid (Nat.le_trans hG2.out hb5.size);clear hI5 hb5 hk5)
                | (go_at_call 102;refine (HHj.out _).mono ?_;rintro e w6 ⟨rfl,rfl⟩)
                | (go_at_call 45;refine (HFd.out F' _ ⟨_,_,HS5.out⟩ (by omega) _ _).mono ?_;rintro e w8 ⟨rfl,hk8,hkp8,_⟩))
              exact ⟨⟨j+1,F',by first | rfl | simp,by omega,by omega,by omega,HI5,Lib.hid ⟨_,_,HS5.out⟩,HG5⟩,by simp [intV];omega⟩
          · have ed : ¬ ((j : Int) < (c.y8 : Int)):=by omega
            clear hd
            cases t
            · go_wp2_with (first
                | (go_at_call 82;refine (HS.out g g l _ hI2.out HL0.out.1).mono ?_;rintro e w5 ⟨rfl,hI5,hb5,hk5⟩;have HI5:=Lib.hid hI5;have HS5:=Lib.hid (HS2.out.others hk5 hb5 hBw (Nat.le_refl _) hI2.out.row.2 HC.out);have HG5:=Lib.hid (Nat.le_trans hG2.out hb5.size);clear hI5 hb5 hk5)
                | (go_at_call 102;refine (HHj.out _).mono ?_;rintro e w6 ⟨rfl,rfl⟩)
                | (go_at_call 45;refine (HFd.out F' _ ⟨_,_,HS5.out⟩ (by omega) _ _).mono ?_;rintro e w8 ⟨rfl,hk8,hkp8,_⟩))
              exact ⟨⟨j+1,F',by first | rfl | simp,by omega,by omega,by omega,HI5,Lib.hid ⟨_,_,HS5.out⟩,HG5⟩,by simp [intV];omega⟩
            · go_wp2_with (first
                | (go_at_call 82;refine (HS.out g g l _ hI2.out HL0.out.1).mono ?_;rintro e w5 ⟨rfl,hI5,hb5,hk5⟩;have HI5:=Lib.hid hI5;have HS5:=Lib.hid (HS2.out.others hk5 hb5 hBw (Nat.le_refl _) hI2.out.row.2 HC.out);have HG5:=Lib.hid (Nat.le_trans hG2.out hb5.size);clear hI5 hb5 hk5)
                | (go_at_call 102;refine (HHj.out _).mono ?_;rintro e w6 ⟨rfl,rfl⟩)
                | (go_at_call 45;refine (HFd.out F' _ ⟨_,_,HS5.out⟩ (by omega) _ _).mono ?_;rintro e w8 ⟨rfl,hk8,hkp8,_⟩))
              have hI8:=HI5.out.kept hkp8
              exact ⟨⟨j+1,F'+1,by first | rfl | simp,by omega,by omega,by omega,hI8,Lib.hid hk8,Lib.hid (by obtain ⟨cs,fz,hr⟩:=hI8.row.2;exact Nat.le_of_lt (row_lt hr))⟩,by simp [intV];omega⟩
    · have hk2 : (k : Int) < (c.y5 : Int):=by omega
      obtain ⟨b,hb⟩:=HBl.out k (by omega)
      have Hb:=Lib.hid hb
      clear hb lk q5
      obtain ⟨lk,q0,q4,q5,q8,q9,q13⟩:=kgeo hS.out.row
      have HRq:=Lib.hid (fun n=>HR.out wo hS.out.bl (c.y4+k) b Hb.out n)
      unfold pV iV at HRq
      clear q0 q5 q8 q13
      go_upto_region 4 with fail
      go_quiet ((go_at_call 18;exact Calls.quiet_of_same (HRq.out _)))
      have hId:=hI.out.kept (w':=wo.drewN nq) (fun q cs t fz hq _ _=>hq)
      have HId:=Lib.hid hId
      have HSd:=Lib.hid (hS.out.drew nq)
      have hb128:=H128.out _ _ Hb.out
      have hll:=hl.out
      have hbsz : b.size=128:=hb128
      go_wp2_with (go_at_call 80;refine (HW.out g g l b _ HId.out (by rw [hll,hbsz];omega) hgs.out).mono ?_;rintro e w5 ⟨rfl,hI5,hb5,hk5⟩;have HI5:=Lib.hid hI5;have HS5:=Lib.hid (HSd.out.others hk5 hb5 hBw (Nat.le_refl _) HId.out.row.2 HC.out);have HG5:=Lib.hid (Nat.le_trans (show g≤(wo.drewN nq).heap.size from hgs.out) hb5.size);clear hI5 hb5 hk5)
      exact ⟨⟨k+1,l ++ b.data.toList,by first | rfl | simp,by omega,Lib.hid (by rw [List.length_append,hll,hb128];omega),HI5,HS5,HG5⟩,by simp [intV];omega⟩
end Go.Proofs.YtbamnpenkjfgkaaGreat
