/- Records as bytes: lists. -/
import Derived.Test.YtbamnpenkjfgkaaGreatUJ
import Derived.Test.YtbamnpenkjfgkaaGreatUB
import Derived.Deep.DeepCutAuto
import Derived.Deep.AppendLies
import Derived.Deep.RegionLaw
import Derived.Deep.RegionHeldLaw
import Derived.Test.YtbamnpenkjfgkaaGreatUG
namespace Go.Proofs.YtbamnpenkjfgkaaGreat
open Go.RowKit
set_option maxRecDepth 100000 in
set_option maxHeartbeats 8000000 in
theorem recEnc_list (HRep : RepIs) (r : Rec) (hr : r.small) (w : World) (hv mv : Value) (hH : Ints w hv r.homes) (hM : Bools w mv r.masked) (hok : r.ok) (hk : r.kind=2∨r.kind=3) (hfit : 14+2 * r.homes.length+r.masked.length≤128) (heach : ∀ x ∈ r.homes,x < 4096) : Calls Tryz.prog 148 #[r.v hv mv] w fun e w'=>e=.returned (.tuple #[.string ⟨(encList r.kind r.seq r.homes r.masked).toArray⟩,.int .i64 0])∧Below w.heap.size w w':=by
  have HC:=Lib.hid (fun (W : World) (hb : Below w.heap.size w W)=>(recMay_walk r hr W hv mv (hH.below hb) (hM.below hb)).mono fun e w' h=>(⟨by obtain ⟨⟨c,he,hc⟩,_⟩:=h;cases c;exact absurd (hc.2 hok) (by decide);exact he,h.2⟩ : e=.returned (.bool true)∧Below W.heap.size W w'))
  have hseq:=hr.seq
  have HR:=Lib.hid (fun W=>HRep 124 W (by omega) (by omega))
  have HZ : (([71,76,74,119] : List UInt8) ++ List.replicate 124 0).length=128:=recZ_len
  obtain ⟨A,c1,rfl,hcA⟩:=hH
  obtain ⟨B,c2,rfl,hcB⟩:=hM
  have HCA:=Lib.hid hcA
  have HCB:=Lib.hid hcB
  clear hcA hcB
  obtain ⟨kind,seq,pos,homes,masked,sum⟩:=r
  have hk2:=hr.kind
  clear hr hok HRep
  unfold Rec.v iV at *
  dsimp only at *
  have e1 : ((kind : Int) == 1)=false:=by simp;omega
  have e4 : ((kind : Int) == 4)=false:=by simp;omega
  have hk9 : kind < 256:=by omega
  clear hk
  obtain ⟨b0,hb0⟩ : ∃ b0 : ByteArray,b0=⟨(putL recZ 5 8 seq).toArray⟩:=⟨_,rfl⟩
  have HP:=Lib.hid (fun (W : World)=>put_walk ⟨(recZ).toArray⟩ recZ rfl 5 8 seq (by unfold sz;omega) (by omega) (by rw [recZ_len];omega) (by rw [recZ_len];omega) hseq W)
  rw [← hb0] at HP
  have hl0 : b0.data.toList=recB seq:=by rw [hb0];unfold recB;simp
  obtain ⟨b1,hb1e⟩ : ∃ b1 : ByteArray,b1=⟨(putL (recB seq) 4 1 kind).toArray⟩:=⟨_,rfl⟩
  have hl1 : b1.data.toList=putL (recB seq) 4 1 kind:=by rw [hb1e]
  have hL1 : (putL (recB seq) 4 1 kind).length=128:=by rw [putL_len _ _ _ _ (by rw [recB_len];omega),recB_len]
  have HW1:=Lib.hid (fun (p : Nat) (W : World) h=>wput_walk b0 (recB seq) hl0 4 1 kind p (by unfold sz;omega) (by omega) (by rw [recB_len];omega) (by rw [recB_len];omega) (by omega) (by omega) W h)
  have HW2:=Lib.hid (fun (p : Nat) (W : World) h=>wput_walk b1 (putL (recB seq) 4 1 kind) hl1 13 1 homes.length p (by unfold sz;omega) (by omega) (by rw [hL1];omega) (by rw [hL1];omega) (by omega) (by omega) W h)
  rw [← hb1e] at HW1
  unfold pV iV at HW1 HW2
  clear hL1 hl0 hl1 hb0 hb1e HZ
  go_enter Tryz.func148,Tryz.ntmps148
  go_wp2_with (go_at_call 208;refine (HC.out _ (below_one w _)).mono ?_;rintro e w0 ⟨rfl,hb0⟩;have HB0:=Lib.hid hb0;have hr0:=Lib.hid (row_below (row_new w _) hb0);obtain ⟨l0,c0,c1,c2,c3,c4,c5⟩:=six0 hr0.out;clear hb0)
  go_region_held_law (fun W=>W.cell? ⟨w.heap.size,1,none⟩=some (.int .u64 seq)∧Below w0.heap.size w0 W) (first | exact ⟨c1,⟨rfl,rfl,rfl,Nat.le_refl _,fun _ _=>rfl⟩⟩ | exact undS hb1 l0 c1 | exact keepS (by assumption) l0 hb2)
    (first | (go_at_call 30;refine (HR.out _).mono ?_;rintro e w1 ⟨rfl,hb1⟩) | (go_at_call 207;refine (HP.out _).mono ?_;rintro e w2 ⟨rfl,hb2⟩))
  rename_i hHeld
  have HB2:=Lib.hid hHeld.2
  have hr2:=Lib.hid (row_below hr0.out hHeld.2)
  clear hHeld hb1 hb2 c0 c1 c2 c3 c4 c5
  obtain ⟨l2,c0,c1,c2,c3,c4,c5⟩:=six0 hr2.out
  go_wp2_with (first
    | (go_at_call 209;refine (HW2.out w2.heap.size _ (row_set21 HP3.out)).mono ?_;rintro e w4 ⟨rfl,hp4,hb4⟩;have HP4:=Lib.hid hp4;have HB4:=Lib.hid hb4;have hr4:=Lib.hid (row_under (row_setO hr3.out (Nat.ne_of_gt l2) _) hb4 l2);clear hp4 hb4 c0 c1 c2 c3 c4 c5;obtain ⟨m4,q40,q41,q42,q43⟩:=two HP4.out;obtain ⟨l4,c0,c1,c2,c3,c4,c5⟩:=six0 hr4.out)
    | (go_at_call 209;refine (HW1.out w2.heap.size _ (row_new w2 _)).mono ?_;rintro e w3 ⟨rfl,hp3,hb3⟩;have HP3:=Lib.hid hp3;have HB3:=Lib.hid hb3;clear hp3;obtain ⟨m3,q30,q31,q32,q33⟩:=two HP3.out;have hr3:=Lib.hid (row_under (row_old hr2.out) hb3 l2);clear hb3 c0 c1 c2 c3 c4 c5;obtain ⟨l3,c0,c1,c2,c3,c4,c5⟩:=six0 hr3.out))
  have a2:=bl_trans (bl_trans (below_one w _) HB0.out) HB2.out
  have HB5:=Lib.hid ((bl_set ((bl_alloc a2 _).trans (HB3.out.mono a2.size)) a2.size 1 _).trans (HB4.out.mono a2.size))
  have hp2:=a2.size
  generalize hpq : w2.heap.size=p at *
  generalize hL : putL (putL (recB seq) 4 1 kind) 13 1 homes.length=L at *
  have hLL : L.length=128:=by
    rw [← hL,putL_len _ _ _ _ (by rw [putL_len _ _ _ _ (by rw [recB_len];omega),recB_len];omega),putL_len _ _ _ _ (by rw [recB_len];omega),recB_len]
  have HLen : Hid (∀ k,k≤homes.length→(putK L 14 2 homes k).length=128):=Lib.hid (fun k hk=>by rw [putK_len _ _ _ _ _ (by rw [hLL];omega),hLL])
  clear hLL
  clear c0 c1 c2 c3 c4 c5 q40 q41 q42 q43
  go_loopw [43] (fun i wr=>∃ (k : Nat),i=.int .i64 k∧k≤homes.length∧Hid (wr.heap[p]?=some (.cells #[.string ⟨(putK L 14 2 homes k).toArray⟩,.int .i64 (14+2 * k : Nat)] 318 (0,0)))∧Hid (wr.heap[w.heap.size]?=w4.heap[w.heap.size]?)∧Hid (Below w.heap.size w wr)) (fun i _=>homes.length - intV i)
  case atStart=>exact ⟨0,rfl,by omega,HP4.out,rfl,HB5.out⟩
  case round =>
    obtain ⟨k,rfl,hk,hR,hS,hB⟩:=hrel
    by_cases hkn : k=homes.length
    · subst hkn
      have hr5:=Lib.hid (hS.out.trans hr4.out)
      obtain ⟨l5,c0,c1,c2,c3,c4,c5⟩:=six0 hr5.out
      go_wp2
      clear c0 c1 c2 c3 c4 c5
      obtain ⟨wo,hwo⟩ : ∃ wo,wo=wr:=⟨_,rfl⟩
      subst hwo
      have hL2:=HLen.out homes.length (Nat.le_refl _)
      generalize hL2e : putK L 14 2 homes homes.length=L2 at *
      have HLen2 : Hid (∀ k,k≤masked.length→(putK L2 (14+2 * homes.length) 1 (masked.map markN) k).length=128):=Lib.hid (fun k hk=>by rw [putK_len _ _ _ _ _ (by rw [hL2];omega),hL2])
      go_loopw [54] (fun i wr=>∃ (j : Nat),i=.int .i64 j∧j≤masked.length∧Hid (wr.heap[p]?=some (.cells #[.string ⟨(putK L2 (14+2 * homes.length) 1 (masked.map markN) j).toArray⟩,.int .i64 (14+2 * homes.length+j : Nat)] 318 (0,0)))∧Hid (Below w.heap.size w wr)) (fun i _=>masked.length - intV i)
      case atStart=>exact ⟨0,rfl,by omega,hR.out,hB.out⟩
      case round =>
        obtain ⟨j,rfl,hj,hR2,hBj⟩:=hrel
        by_cases hjn : j=masked.length
        · subst hjn
          obtain ⟨m6,q0,q1,q2,q3⟩:=two hR2.out
          go_wp2
          go_ret2
          have eE : encList kind seq homes masked=putK L2 (14+2 * homes.length) 1 (masked.map markN) masked.length:=by unfold encList;rw [hL,hL2e]
          rw [eE]
          exact ⟨rfl,hBj.out⟩
        · obtain ⟨x,hx⟩ : ∃ x,masked[j]?=some x:=⟨masked[j]'(by omega),List.getElem?_eq_getElem (by omega)⟩
          obtain ⟨g,rfl,hg,cg⟩:=HCB.out j x hx
          have cg:=(hBj.out.cell (p:=⟨g,j,none⟩) hg).trans cg
          have hgs:=Nat.lt_of_lt_of_le hg hBj.out.size
          have hlen:=HLen2.out j hj
          have hm2 : markN x≤1:=by cases x <;> decide
          have hme : putK L2 (14+2 * homes.length) 1 (masked.map markN) (j+1)=putL (putK L2 (14+2 * homes.length) 1 (masked.map markN) j) (14+2 * homes.length+j) 1 (markN x):=by
            show putL _ (14+2 * homes.length+1 * j) _ ((masked.map markN).getD j 0)=_
            rw [List.getD_eq_getElem?_getD,List.getElem?_map,hx,Nat.one_mul];rfl
          have HME:=Lib.hid hme
          have HW:=Lib.hid (wput_walk ⟨(putK L2 (14+2 * homes.length) 1 (masked.map markN) j).toArray⟩ (putK L2 (14+2 * homes.length) 1 (masked.map markN) j) rfl (14+2 * homes.length+j) 1 (markN x) p (by unfold sz;omega) (by omega) (by rw [hlen];omega) (by rw [hlen];omega) (by omega) (by omega) wr hR2.out)
          clear hx hlen hme hm2
          unfold pV iV at HW
          obtain ⟨q,hq⟩ : ∃ q,q=markN x:=⟨_,rfl⟩
          rw [← hq] at HW HME
          cases x
          ·
            have hq2:=hq.trans (show markN false=0 from rfl)
            rw [hq2] at HW HME;clear hq hq2
            go_wp2_with (go_at_call 209;refine HW.out.mono ?_;rintro e w5 ⟨rfl,hp5,hb5⟩;have HP5:=Lib.hid hp5;have HB5:=Lib.hid hb5;clear hp5 hb5)
            refine ⟨⟨j+1,by first | rfl | simp,by omega,Lib.hid ?_,Lib.hid (hBj.out.trans (HB5.out.mono hp2))⟩,by simp [intV];omega⟩
            rw [HME.out];exact HP5.out
          ·
            have hq2:=hq.trans (show markN true=1 from rfl)
            rw [hq2] at HW HME;clear hq hq2
            go_wp2_with (go_at_call 209;refine HW.out.mono ?_;rintro e w5 ⟨rfl,hp5,hb5⟩;have HP5:=Lib.hid hp5;have HB5:=Lib.hid hb5;clear hp5 hb5)
            refine ⟨⟨j+1,by first | rfl | simp,by omega,Lib.hid ?_,Lib.hid (hBj.out.trans (HB5.out.mono hp2))⟩,by simp [intV];omega⟩
            rw [HME.out];exact HP5.out
    · obtain ⟨x,hx⟩ : ∃ x,homes[k]?=some x:=⟨homes[k]'(by omega),List.getElem?_eq_getElem (by omega)⟩
      obtain ⟨g,rfl,hg,cg⟩:=HCA.out k x hx
      have cg:=(hB.out.cell (p:=⟨g,k,none⟩) hg).trans cg
      have hgs:=Nat.lt_of_lt_of_le hg hB.out.size
      have hxs:=heach x (List.mem_of_getElem? hx)
      have HX:=Lib.hid hx
      have hlen:=HLen.out k hk
      have HW:=Lib.hid (wput_walk ⟨(putK L 14 2 homes k).toArray⟩ (putK L 14 2 homes k) rfl (14+2 * k) 2 x p (by unfold sz;omega) (by omega) (by rw [hlen];omega) (by rw [hlen];omega) (by omega) (by omega) wr hR.out)
      clear hx hlen
      unfold pV iV at *
      go_wp2_with (go_at_call 209;refine HW.out.mono ?_;rintro e w5 ⟨rfl,hp5,hb5⟩;have HP5:=Lib.hid hp5;have HB5:=Lib.hid hb5;clear hp5 hb5)
      refine ⟨⟨k+1,by first | rfl | simp,by omega,Lib.hid ?_,Lib.hid ?_,Lib.hid ?_⟩,by simp [intV];omega⟩
      · have e : putK L 14 2 homes (k+1)=putL (putK L 14 2 homes k) (14+2 * k) 2 x:=by
          show putL _ _ _ (homes.getD k 0)=_
          rw [List.getD_eq_getElem?_getD,HX.out];rfl
        rw [e];exact HP5.out
      · rw [HB5.out.block _ l2];exact hS.out
      · exact hB.out.trans (HB5.out.mono hp2)
end Go.Proofs.YtbamnpenkjfgkaaGreat
namespace Go.Proofs.YtbamnpenkjfgkaaGreat
open Go.RowKit
def Rec.enc (r : Rec) : List UInt8:=if r.kind=1 then encHead r.seq r.pos else if r.kind=4 then encCommit r.seq r.sum else encList r.kind r.seq r.homes r.masked
def RecSays (r : Rec) (e : Ending) : Prop:=(r.ok∧e=.returned (.tuple #[.string ⟨r.enc.toArray⟩,.int .i64 0]))∨(¬ r.ok∧e=.returned (.tuple #[.string ⟨#[]⟩,.int .i64 2]))
theorem upTo_each {l : List Nat} (h : upTo l l.length) : ∀ x ∈ l,x < 4096:=by
  intro x hx
  obtain ⟨i,hi,he⟩:=List.mem_iff_getElem.mp hx
  exact (h i x hi (by rw [List.getElem?_eq_getElem hi,he])).1
theorem recEnc_walk (HRep : RepIs) (r : Rec) (hr : r.small) (w : World) (hv mv : Value) (hH : Ints w hv r.homes) (hM : Bools w mv r.masked) : Calls Tryz.prog 148 #[r.v hv mv] w fun e w'=>RecSays r e∧Below w.heap.size w w':=by
  by_cases hok : r.ok
  · have key : Calls Tryz.prog 148 #[r.v hv mv] w fun e w'=>e=.returned (.tuple #[.string ⟨r.enc.toArray⟩,.int .i64 0])∧Below w.heap.size w w':=by
      by_cases k1 : r.kind=1
      · have:=recEnc_head HRep r hr w hv mv hH hM hok k1
        unfold Rec.enc;rw [if_pos k1];exact this
      · by_cases k4 : r.kind=4
        · have:=recEnc_commit HRep r hr w hv mv hH hM hok k4
          unfold Rec.enc;rw [if_neg k1,if_pos k4];exact this
        · unfold Rec.enc;rw [if_neg k1,if_neg k4]
          rcases hok with h | h | h | h
          · exact absurd h.1 k1
          · exact recEnc_list HRep r hr w hv mv hH hM (.inr (.inl h)) (.inl h.1) (by have:=h.2.2.2.1.2.2;have:=h.2.2.2.2;omega) (upTo_each h.2.2.2.1.1)
          · exact recEnc_list HRep r hr w hv mv hH hM (.inr (.inr (.inl h))) (.inr h.1) (by have:=h.2.2.2.1.2.2;have:=h.2.2.2.2;omega) (upTo_each h.2.2.2.1.1)
          · exact absurd h.1 k4
    exact key.mono fun e w' h=>⟨.inl ⟨hok,h.1⟩,h.2⟩
  · exact (recEnc_bad r hr w hv mv hH hM hok).mono fun e w' h=>⟨.inr ⟨hok,h.1⟩,h.2⟩
end Go.Proofs.YtbamnpenkjfgkaaGreat
namespace Go.Proofs.YtbamnpenkjfgkaaGreat
open Go.RowKit
def DecSays (l : List UInt8) (e : Ending) : Prop:=(∃ (r : Rec) (A : Option Addr) (c : Nat) (B : Option Addr) (m c2 : Nat),r.ok∧r.enc=l∧e=.returned (.tuple #[.agg #[.int .i64 r.kind,.int .u64 r.seq,.int .i64 r.pos,.slice A r.homes.length c,.slice B m c2,.int .u32 r.sum],.int .i64 0]))∨e=.returned (.tuple #[.agg #[.int .i64 0,.int .u64 0,.int .i64 0,.slice none 0 0,.slice none 0 0,.int .u32 0],.int .i64 80])
theorem Tryz.size158 : (Tryz.prog.info? 158).map (·.size)=some 6:=by kernel_rfl
structure RD (w0 : World) (b : ByteArray) (x0 x1 x2 x3 x4 x5 : Value) (at_ : Nat) (bad : Bool) (w : World) : Prop where
  r : w.heap[w0.heap.size]?=some (.cells #[.int .i64 0,.int .u64 0,.int .i64 0,.slice none 0 0,.slice none 0 0,.int .u32 0] 158 (0,0))
  x : w.heap[w0.heap.size+1]?=some (.cells #[x0,x1,x2,x3,x4,x5] 158 (0,0))
  p : w.heap[w0.heap.size+1+1]?=some (.cells #[.string b,iV at_,.bool bad] 251 (0,0))
  b : Below w0.heap.size w0 w
theorem leA_4 (l : List UInt8) (a n : Nat) (hn : n≤4) : leA l a n≤9223372036854775807:=by
  have h:=leA_lt l a n
  have h2 : 2 ^ (8 * n)≤2 ^ (8 * 4):=Nat.pow_le_pow_right (by omega) (by omega)
  have h3 : 2 ^ (8 * 4)=4294967296:=by decide
  omega
theorem RD.lt {w0 : World} {b : ByteArray} {x0 x1 x2 x3 x4 x5 : Value} {a : Nat} {bad : Bool} {w : World} (h : RD w0 b x0 x1 x2 x3 x4 x5 a bad w) : w0.heap.size+1+1 < w.heap.size:=row_lt h.p
theorem RD.start (w : World) (b : ByteArray) : RD w b (.int .i64 0) (.int .u64 0) (.int .i64 0) (.slice none 0 0) (.slice none 0 0) (.int .u32 0) 4 false (((w.alloc (.cells #[.int .i64 0,.int .u64 0,.int .i64 0,.slice none 0 0,.slice none 0 0,.int .u32 0] 158)).alloc (.cells #[.int .i64 0,.int .u64 0,.int .i64 0,.slice none 0 0,.slice none 0 0,.int .u32 0] 158)).alloc (.cells #[.string b,.int .i64 4,.bool false] 251)):=by
  have s1 : ∀ (w : World) (o : Obj),(w.alloc o).heap.size=w.heap.size+1:=fun w o=>by unfold World.alloc;simp
  refine ⟨row_old (row_old (row_new w _)),row_old ?_,?_,bl_alloc (below_two w _ _) _⟩
  · rw [← s1 w];exact row_new _ _
  · rw [show w.heap.size+1+1=((w.alloc (.cells #[.int .i64 0,.int .u64 0,.int .i64 0,.slice none 0 0,.slice none 0 0,.int .u32 0] 158)).alloc (.cells #[.int .i64 0,.int .u64 0,.int .i64 0,.slice none 0 0,.slice none 0 0,.int .u32 0] 158)).heap.size from by rw [s1,s1]]
    exact row_new _ _
theorem RD.got {w0 : World} {b : ByteArray} {x0 x1 x2 x3 x4 x5 : Value} {a a' : Nat} {bad bad' : Bool} {w w' : World} (h : RD w0 b x0 x1 x2 x3 x4 x5 a bad w) (hp : w'.heap[w0.heap.size+1+1]?=some (.cells #[.string b,iV a',.bool bad'] 251 (0,0))) (hb : w.grownBy w' (some (w0.heap.size+1+1))) : RD w0 b x0 x1 x2 x3 x4 x5 a' bad' w' :=
  ⟨by rw [hb.block _ (by have:=h.lt;omega) (fun e=>by have:=Option.some.inj e;omega)];exact h.r,by rw [hb.block _ (by have:=h.lt;omega) (fun e=>by have:=Option.some.inj e;omega)];exact h.x,hp,h.b.grown hb (by have:=h.lt;omega) (fun q hq=>by have:=Option.some.inj hq;omega)⟩
theorem RD.below {w0 : World} {b : ByteArray} {x0 x1 x2 x3 x4 x5 : Value} {a : Nat} {bad : Bool} {w w' : World} (h : RD w0 b x0 x1 x2 x3 x4 x5 a bad w) (hb : Below w.heap.size w w') : RD w0 b x0 x1 x2 x3 x4 x5 a bad w' :=
  ⟨row_below h.r hb,row_below h.x hb,row_below h.p hb,bl_trans h.b hb⟩
theorem RD.drew {w0 : World} {b : ByteArray} {x0 x1 x2 x3 x4 x5 : Value} {a : Nat} {bad : Bool} {w : World} (h : RD w0 b x0 x1 x2 x3 x4 x5 a bad w) : RD w0 b x0 x1 x2 x3 x4 x5 a bad w.drew :=
  ⟨h.r,h.x,h.p,⟨h.b.os,h.b.tape,h.b.output,h.b.size,h.b.block⟩⟩
theorem RD.grown {w0 : World} {b : ByteArray} {x0 x1 x2 x3 x4 x5 : Value} {a : Nat} {bad : Bool} {w w' : World} {row : Option Nat} (h : RD w0 b x0 x1 x2 x3 x4 x5 a bad w) (hg : w.grownBy w' row) (hr : ∀ q,row=some q→w0.heap.size+1+1 < q) : RD w0 b x0 x1 x2 x3 x4 x5 a bad w' :=
  ⟨by rw [hg.block _ (by have:=h.lt;omega) (fun e=>by have:=hr _ e.symm;omega)];exact h.r,by rw [hg.block _ (by have:=h.lt;omega) (fun e=>by have:=hr _ e.symm;omega)];exact h.x,by rw [hg.block _ (by have:=h.lt;omega) (fun e=>by have:=hr _ e.symm;omega)];exact h.p,h.b.grown hg (by have:=h.lt;omega) (fun q hq=>by have:=hr q hq;omega)⟩
theorem RD.at_ {w0 : World} {b : ByteArray} {x0 x1 x2 x3 x4 x5 : Value} {a : Nat} {bad : Bool} {w : World} (h : RD w0 b x0 x1 x2 x3 x4 x5 a bad w) (a' : Nat) : RD w0 b x0 x1 x2 x3 x4 x5 a' bad (w.setCell ⟨w0.heap.size+1+1,1,none⟩ (iV a')):=by
  have:=row_set (i:=1) h.p (iV a')
  exact ⟨row_setO h.r (by omega) _,row_setO h.x (by omega) _,by simpa using this,bl_set h.b (by omega) _ _⟩
theorem RD.set0 {w0 : World} {b : ByteArray} {x0 x1 x2 x3 x4 x5 : Value} {a : Nat} {bad : Bool} {w : World} (h : RD w0 b x0 x1 x2 x3 x4 x5 a bad w) (v : Value) : RD w0 b v x1 x2 x3 x4 x5 a bad (w.setCell ⟨w0.heap.size+1,0,none⟩ v):=by
  have:=row_set (i:=0) h.x v
  exact ⟨row_setO h.r (by omega) _,by simpa using this,row_setO h.p (by omega) _,bl_set h.b (by omega) _ _⟩
theorem RD.set1 {w0 : World} {b : ByteArray} {x0 x1 x2 x3 x4 x5 : Value} {a : Nat} {bad : Bool} {w : World} (h : RD w0 b x0 x1 x2 x3 x4 x5 a bad w) (v : Value) : RD w0 b x0 v x2 x3 x4 x5 a bad (w.setCell ⟨w0.heap.size+1,1,none⟩ v):=by
  have:=row_set (i:=1) h.x v
  exact ⟨row_setO h.r (by omega) _,by simpa using this,row_setO h.p (by omega) _,bl_set h.b (by omega) _ _⟩
theorem RD.set2 {w0 : World} {b : ByteArray} {x0 x1 x2 x3 x4 x5 : Value} {a : Nat} {bad : Bool} {w : World} (h : RD w0 b x0 x1 x2 x3 x4 x5 a bad w) (v : Value) : RD w0 b x0 x1 v x3 x4 x5 a bad (w.setCell ⟨w0.heap.size+1,2,none⟩ v):=by
  have:=row_set (i:=2) h.x v
  exact ⟨row_setO h.r (by omega) _,by simpa using this,row_setO h.p (by omega) _,bl_set h.b (by omega) _ _⟩
theorem RD.set3 {w0 : World} {b : ByteArray} {x0 x1 x2 x3 x4 x5 : Value} {a : Nat} {bad : Bool} {w : World} (h : RD w0 b x0 x1 x2 x3 x4 x5 a bad w) (v : Value) : RD w0 b x0 x1 x2 v x4 x5 a bad (w.setCell ⟨w0.heap.size+1,3,none⟩ v):=by
  have:=row_set (i:=3) h.x v
  exact ⟨row_setO h.r (by omega) _,by simpa using this,row_setO h.p (by omega) _,bl_set h.b (by omega) _ _⟩
theorem RD.set4 {w0 : World} {b : ByteArray} {x0 x1 x2 x3 x4 x5 : Value} {a : Nat} {bad : Bool} {w : World} (h : RD w0 b x0 x1 x2 x3 x4 x5 a bad w) (v : Value) : RD w0 b x0 x1 x2 x3 v x5 a bad (w.setCell ⟨w0.heap.size+1,4,none⟩ v):=by
  have:=row_set (i:=4) h.x v
  exact ⟨row_setO h.r (by omega) _,by simpa using this,row_setO h.p (by omega) _,bl_set h.b (by omega) _ _⟩
theorem RD.set5 {w0 : World} {b : ByteArray} {x0 x1 x2 x3 x4 x5 : Value} {a : Nat} {bad : Bool} {w : World} (h : RD w0 b x0 x1 x2 x3 x4 x5 a bad w) (v : Value) : RD w0 b x0 x1 x2 x3 x4 v a bad (w.setCell ⟨w0.heap.size+1,5,none⟩ v):=by
  have:=row_set (i:=5) h.x v
  exact ⟨row_setO h.r (by omega) _,by simpa using this,row_setO h.p (by omega) _,bl_set h.b (by omega) _ _⟩
theorem wrap_u32 (q : Nat) (h : q < 4294967296) : IntKind.u32.wrap (q : Int)=(q : Int):=by
  have : IntKind.u32.wrap (q : Int)=(q : Int) % 4294967296:=by simp [IntKind.wrap,IntKind.signed,IntKind.bits]
  rw [this]
  omega
theorem Tryz.info3 : (Tryz.prog.info? 3).map (fun i=>(i.zero,i.size,i.bytes))=some (some (.int .i64 0),1,8):=by kernel_rfl
theorem step_append_own {P : Program} {ops : Array Oper} {o : Oper} {a : Act} {w : World} {K : Act→World→Prop} {Q : Exit→Act→World→Prop} {E : Prop} (hg : o.guard=none) (s x : Operand) (t : TypeId)
    (ho : o.op=.call { callee:=.builtin .append,args:=#[s,x],argTypes:=#[t,t] })
    (base : Nat) (e : TypeId) (i : TypeInfo) (z : Value) (size bytes : Nat) (ht : P.underlying t=some (.slice e)) (hi : P.info? e=some i) (hz : i.zero=some z)
    (hsize : i.size=size) (hby : i.bytes=bytes) (hzs : z.cells.size=size) (hsz : 0 < size)
    (v : Value) (n : Nat) (xs : List Value) (hs : a.eval s=v) (hown : w.ownsRow base e size v n xs)
    (ad : Addr) (m c : Nat) (news : List Value) (hx : a.eval x=.slice (some ad) m c) (hl : news.length=m * size) (hnews : ∀ j u,news[j]?=some u→w.cell? (ad.add j)=some u) (h1 : ∀ u ∈ news,u.oneCell'=true)
    (h63 : n+m≤maxLen) (hbytes : (n+m) * bytes≤140737488355328) (hbase : base≤w.heap.size)
    (h : ∀ v' w',w'.ownsRow base e size v' (n+m) (xs ++ news)→w.grownBy w' v.ownBlock→(v'=.slice none 0 0 ↔ v=.slice none 0 0∧m=0)→K (a.put o.dst v') w') :
    if Region.wanted o (yielded ops a.tmps)=true then Oper.wp P o a w K Q else E:=by
  have hw : Region.wanted o (yielded ops a.tmps)=true:=by simp [Region.wanted,hg]
  rw [if_pos hw]
  exact wp_append_own w s x t ho base e i z size bytes ht hi hz hsize hby hzs hsz v n xs hs hown ad m c news hx hl hnews h1 h63 hbytes hbase h
theorem own_cells {w : World} {B : Nat} {e : TypeId} {v : Value} {n : Nat} {xs : List Value} (h : w.ownsRow B e 1 v n xs) : ∃ A cap,v=.slice A n cap∧∀ (j : Nat) (u : Value),xs[j]?=some u→∃ g,A=some ⟨g,0,none⟩∧B≤g∧g < w.heap.size∧w.cell? ⟨g,j,none⟩=some u:=by
  have hl:=h.1
  rcases h.2 with ⟨rfl,h0⟩ | ⟨g,cap,cur,h1,h2,h3,h4,h5,h6,h7⟩
  · refine ⟨none,0,by rw [h0],fun j u hu=>?_⟩
    have:=(List.getElem?_eq_some_iff.mp hu).1
    omega
  · refine ⟨_,cap,h1,fun j u hu=>⟨g,rfl,h2,row_lt h3,row_cell h3 ?_⟩⟩
    rw [← h7] at hu
    rw [List.getElem?_take] at hu
    split at hu
    · rw [← Array.getElem?_toList];exact hu
    · cases hu
def Same (B C : Nat) (w w' : World) : Prop:=∀ q,B≤q→q < C→w'.heap[q]?=w.heap[q]?
theorem Same.grown {B C : Nat} {w w1 w2 : World} {row : Option Nat} (h : Same B C w w1) (hC : C≤w1.heap.size) (hg : w1.grownBy w2 row) (hr : ∀ q,row=some q→q < B∨C≤q) : Same B C w w2:=fun q h1 h2=>by
  rw [hg.block q (by omega) (fun e=>by have:=hr q e.symm;omega)];exact h q h1 h2
theorem Same.set {B C : Nat} {w w1 : World} (h : Same B C w w1) {p : Nat} (hp : p < B) (i : Nat) (v : Value) : Same B C w (w1.setCell ⟨p,i,none⟩ v):=fun q h1 h2=>by
  rw [← h q h1 h2];unfold World.setCell;rw [Array.getElem?_modify,if_neg (show ¬ p=q by omega)]
theorem rget_any (b : ByteArray) (l : List UInt8) (hl : b.data.toList=l) (hlen : l.length=128) (a n p : Nat) (bad : Bool) (hn : n=1∨n=2) (ha : a < 1000) (W : World) (hp : W.heap[p]?=some (.cells #[.string b,iV a,.bool bad] 251 (0,0))) :
    Calls Tryz.prog 147 #[pV p,iV n] W fun e w'=>∃ (v : Nat) (bad' : Bool),v < 65536∧e=.returned (iV v)∧w'.heap[p]?=some (.cells #[.string b,iV (a+n),.bool bad'] 251 (0,0))∧W.grownBy w' (some p):=by
  have hbs : b.size=128:=by rw [← hlen,← hl];rfl
  have hs : sz n:=by unfold sz;omega
  by_cases h : a+n≤128
  · have hv : leA l a n < 65536:=Nat.lt_of_lt_of_le (leA_lt l a n) (by rcases hn with rfl | rfl <;> decide)
    exact (rget_walk b a n (leA l a n) p true bad (by omega) (by omega) (fun W=>getInt_ok b l hl a n _ hs (by omega) (by omega) (by omega) rfl (show leA l a n≤_ by omega) W) W hp).mono fun e w' h=>⟨_,_,hv,h.1,h.2.1,h.2.2⟩
  · exact (rget_walk b a n 0 p false bad (by omega) (by omega) (fun W=>getInt_out b a n hs (by omega) (by omega) (by omega) W) W hp).mono fun e w' h=>⟨_,_,by omega,h.1,h.2.1,h.2.2⟩
theorem ints_nil (W : World) : Ints W (.slice none 0 0) []:=⟨none,0,rfl,fun j x h=>by simp at h⟩
theorem bools_nil (W : World) : Bools W (.slice none 0 0) []:=⟨none,0,rfl,fun j x h=>by simp at h⟩
set_option maxRecDepth 100000 in
set_option maxHeartbeats 8000000 in
theorem recDec_walk (HRep : RepIs) (b : ByteArray) (l : List UInt8) (hl : b.data.toList=l) (hlen : l.length=128) (w : World) : Calls Tryz.prog 88 #[.string b] w fun e w'=>DecSays l e∧Below w.heap.size w w':=by
  have hbs : b.size=128:=by rw [← hlen,← hl];rfl
  have HPre:=Lib.hid (fun (W : World)=>prefix_walk b ⟨#[71,76,74,119]⟩ (by omega) (by rw [hbs];decide) W)
  have HG:=Lib.hid (fun (a n p : Nat) (bad : Bool) (hn : sz n) (hn8 : n≤4) (ha : a+n≤128) (W : World) hp=>rget_walk b a n (leA l a n) p true bad (by omega) (by omega) (fun W=>getInt_ok b l hl a n _ hn (by omega) (by omega) (by omega) rfl (show leA l a n≤_ from leA_4 l a n hn8) W) W hp)
  have HG8:=Lib.hid (fun (W : World)=>get_walk b 5 8 (by unfold sz;omega) (by omega) (by omega) (by omega) W)
  unfold pV iV at HG
  rw [hl] at HG8
  obtain ⟨K,hK⟩ : ∃ K,leA l 4 1=K:=⟨_,rfl⟩
  obtain ⟨S,hS⟩ : ∃ S,leN ((l.drop 5).take 8)=S:=⟨_,rfl⟩
  rw [hS] at HG8
  have hKl : K < 256:=by rw [← hK];exact leA_lt l 4 1
  have hSl : S < 2 ^ (8 * 8):=by rw [← hS];exact leA_lt l 5 8
  have HKS:=Lib.hid (And.intro hK hS)
  have HG1:=Lib.hid (fun p bad=>HG.out 4 1 p bad (by unfold sz;omega) (by omega) (by omega))
  rw [hK] at HG1
  clear hK hS
  have HGA:=Lib.hid (rget_any b l hl hlen)
  unfold pV iV at HGA
  have HBL:=Lib.hid (show b.toList=l by rw [Go.ByteArray.toList_eq b,hl])
  clear hl
  go_enter Tryz.func88,Tryz.ntmps88
  go_upto_region 5 with (go_at_call 78;refine (HPre.out _).mono ?_;rintro e w3 ⟨⟨c,rfl,hc⟩,rfl⟩;clear hc;cases c)
  · have hz:=Lib.hid (row_new w (.cells #[.int .i64 0,.int .u64 0,.int .i64 0,.slice none 0 0,.slice none 0 0,.int .u32 0] 158))
    obtain ⟨f0,f1,f2,f3,f4,f5⟩:=sixF hz.out
    exact bodyPost_ret (ret_cellP (n:=w.heap.size) rfl rfl hz.out Tryz.underlying158 rfl Tryz.size158) rfl ⟨.inr rfl,below_one w _⟩
  · have HD:=Lib.hid (RD.start w b)
    generalize ((w.alloc (.cells #[.int .i64 0,.int .u64 0,.int .i64 0,.slice none 0 0,.slice none 0 0,.int .u32 0] 158)).alloc (.cells #[.int .i64 0,.int .u64 0,.int .i64 0,.slice none 0 0,.slice none 0 0,.int .u32 0] 158)).alloc (.cells #[.string b,.int .i64 4,.bool false] 251)=w1 at HD ⊢
    go_upto_region 8 with (first
      | (go_at_call 147;refine (HG1.out _ false _ HD.out.p).mono ?_;rintro e w2 ⟨rfl,hp2,hb2⟩;have HD2:=Lib.hid (HD.out.got hp2 hb2);clear hp2 hb2;obtain ⟨l1,c0,c1,c2,c3,c4,c5⟩:=six0 HD2.out.x;obtain ⟨f0,f1,f2,f3,f4,f5⟩:=sixF HD2.out.x;obtain ⟨m1,d0,d1,d2,g0,g1,g2⟩:=triple HD2.out.p)
      | (go_at_call 144;refine (HG8.out _).mono ?_;rintro e w3 ⟨rfl,rfl⟩))
    have HD8 : Hid (RD w b (.int .i64 K) (.int .u64 S) (.int .i64 0) (.slice none 0 0) (.slice none 0 0) (.int .u32 0) 13 false (((w2.setCell ⟨w.heap.size+1,0,none⟩ (.int .i64 K)).setCell ⟨w.heap.size+1,1,none⟩ (.int .u64 S)).setCell ⟨w.heap.size+1+1,1,none⟩ (.int .i64 13))):=Lib.hid (((HD2.out.set0 (iV K)).set1 (.int .u64 S)).at_ 13)
    generalize ((w2.setCell ⟨w.heap.size+1,0,none⟩ (.int .i64 K)).setCell ⟨w.heap.size+1,1,none⟩ (.int .u64 S)).setCell ⟨w.heap.size+1+1,1,none⟩ (.int .i64 13)=w8 at HD8 ⊢
    clear c0 c1 c2 c3 c4 c5 f0 f1 f2 f3 f4 f5 d0 d1 d2 g0 g1 g2 l1 m1 HD2 HD
    obtain ⟨l1,c0,c1,c2,c3,c4,c5⟩:=six0 HD8.out.x
    obtain ⟨f0,f1,f2,f3,f4,f5⟩:=sixF HD8.out.x
    obtain ⟨m1,d0,d1,d2,g0,g1,g2⟩:=triple HD8.out.p
    have HBig:=Lib.hid (And.intro hKl hSl)
    by_cases h1 : K=1
    · have e1 : ((K : Int) == 1)=true:=by simp [h1]
      have HG2:=Lib.hid (fun p bad=>HG.out 13 2 p bad (by unfold sz;omega) (by omega) (by omega))
      obtain ⟨q,hq⟩ : ∃ q,leA l 13 2=q:=⟨_,rfl⟩
      have hq2 : q < 65536:=by rw [← hq];exact leA_lt l 13 2
      rw [hq] at HG2
      have HE:=Lib.hid (fun W=>recEnc_walk HRep ⟨K,S,q,[],[],0⟩ ⟨by show K < _;omega,by show q < _;omega,by show 0 < _;omega,by simp,by simp,by simp,hSl⟩ W (.slice none 0 0) (.slice none 0 0) (ints_nil W) (bools_nil W))
      unfold Rec.v iV at HE
      dsimp only at HE
      clear hq hq2 h1 hKl hSl
      go_wp2_with (first
        | (go_at_call 147;refine (HG2.out _ false _ HD8.out.p).mono ?_;rintro e w3 ⟨rfl,hp3,hb3⟩;have HD3:=Lib.hid ((HD8.out.got hp3 hb3).set2 (.int .i64 q));obtain ⟨l3,c0,c1,c2,c3,c4,c5⟩:=six0 (HD8.out.got hp3 hb3).x;obtain ⟨f0,f1,f2,f3,f4,f5⟩:=sixF (HD8.out.got hp3 hb3).x;obtain ⟨m3,d0,d1,d2,g0,g1,g2⟩:=triple (HD8.out.got hp3 hb3).p;clear hp3 hb3)
        | (go_at_call 148;refine (HE.out _).mono ?_;rintro e w4 ⟨he,hb4⟩;have HD4:=Lib.hid (HD3.out.below hb4);clear hb4;obtain ⟨l4,r0,r1,r2,r3,r4,r5⟩:=six0 HD4.out.x;obtain ⟨p4,o0,o1,o2,o3,o4,o5⟩:=six0 HD4.out.r;obtain ⟨s0,s1,s2,s3,s4,s5⟩:=sixF HD4.out.r;obtain ⟨m4,d0,d1,d2,g0,g1,g2⟩:=triple HD4.out.p;rcases he with ⟨hok,rfl⟩ | ⟨hok,rfl⟩ <;> have HOK:=Lib.hid hok <;> clear hok))
      all_goals
        refine bodyPost_ret (ret_cellP (n:=w.heap.size) rfl rfl (row_set6 HD4.out.r) Tryz.underlying158 rfl Tryz.size158) rfl ⟨?_,bl_set (bl_set (bl_set (bl_set (bl_set (bl_set HD4.out.b (Nat.le_refl _) _ _) (Nat.le_refl _) _ _) (Nat.le_refl _) _ _) (Nat.le_refl _) _ _) (Nat.le_refl _) _ _) (Nat.le_refl _) _ _⟩
      · exact .inr rfl
      · rename_i heq
        rw [HBL.out] at heq
        exact .inl ⟨⟨K,S,q,[],[],0⟩,none,0,none,0,0,HOK.out,by simpa using heq,rfl⟩
      · exact .inr rfl
    · have e1 : ((K : Int) == 1)=false:=by simp;omega
      by_cases h4 : K=4
      · have e4 : ((K : Int) == 4)=true:=by simp [h4]
        have HG2:=Lib.hid (fun p bad=>HG.out 13 4 p bad (by unfold sz;omega) (by omega) (by omega))
        obtain ⟨q,hq⟩ : ∃ q,leA l 13 4=q:=⟨_,rfl⟩
        have hq2 : q < 4294967296:=by rw [← hq];exact leA_lt l 13 4
        rw [hq] at HG2
        have hwr : IntKind.u32.wrap (q : Int)=(q : Int):=wrap_u32 q hq2
        have HE:=Lib.hid (fun W=>recEnc_walk HRep ⟨K,S,0,[],[],q⟩ ⟨by show K < _;omega,by show 0 < _;omega,by show q < _;omega,by simp,by simp,by simp,hSl⟩ W (.slice none 0 0) (.slice none 0 0) (ints_nil W) (bools_nil W))
        unfold Rec.v iV at HE
        dsimp only at HE
        clear hq hq2 h1 h4 hKl hSl
        go_wp2_with (first
          | (go_at_call 147;refine (HG2.out _ false _ HD8.out.p).mono ?_;rintro e w3 ⟨rfl,hp3,hb3⟩;have HD3:=Lib.hid ((HD8.out.got hp3 hb3).set5 (.int .u32 q));obtain ⟨l3,c0,c1,c2,c3,c4,c5⟩:=six0 (HD8.out.got hp3 hb3).x;obtain ⟨f0,f1,f2,f3,f4,f5⟩:=sixF (HD8.out.got hp3 hb3).x;obtain ⟨m3,d0,d1,d2,g0,g1,g2⟩:=triple (HD8.out.got hp3 hb3).p;clear hp3 hb3)
          | (go_at_call 148;refine (HE.out _).mono ?_;rintro e w4 ⟨he,hb4⟩;have HD4:=Lib.hid (HD3.out.below hb4);clear hb4;obtain ⟨l4,r0,r1,r2,r3,r4,r5⟩:=six0 HD4.out.x;obtain ⟨p4,o0,o1,o2,o3,o4,o5⟩:=six0 HD4.out.r;obtain ⟨s0,s1,s2,s3,s4,s5⟩:=sixF HD4.out.r;obtain ⟨m4,d0,d1,d2,g0,g1,g2⟩:=triple HD4.out.p;rcases he with ⟨hok,rfl⟩ | ⟨hok,rfl⟩ <;> have HOK:=Lib.hid hok <;> clear hok))
        all_goals
          refine bodyPost_ret (ret_cellP (n:=w.heap.size) rfl rfl (row_set6 HD4.out.r) Tryz.underlying158 rfl Tryz.size158) rfl ⟨?_,bl_set (bl_set (bl_set (bl_set (bl_set (bl_set HD4.out.b (Nat.le_refl _) _ _) (Nat.le_refl _) _ _) (Nat.le_refl _) _ _) (Nat.le_refl _) _ _) (Nat.le_refl _) _ _) (Nat.le_refl _) _ _⟩
        · exact .inr rfl
        · rename_i heq
          rw [HBL.out] at heq
          exact .inl ⟨⟨K,S,0,[],[],q⟩,none,0,none,0,0,HOK.out,by simpa using heq,rfl⟩
        · exact .inr rfl
      · have e4 : ((K : Int) == 4)=false:=by simp;omega
        by_cases h23 : K=2∨K=3
        · have e23 : ((K : Int) == 2)=true∨(((K : Int) == 2)=false∧((K : Int) == 3)=true):=by
            rcases h23 with rfl | rfl
            · exact .inl rfl
            · exact .inr ⟨rfl,rfl⟩
          have HG2:=Lib.hid (fun p bad=>HG.out 13 1 p bad (by unfold sz;omega) (by omega) (by omega))
          obtain ⟨n,hq⟩ : ∃ n,leA l 13 1=n:=⟨_,rfl⟩
          have hn : n < 256:=by rw [← hq];exact leA_lt l 13 1
          rw [hq] at HG2
          clear hq h1 h4 h23
          have HKL:=Lib.hid (And.intro hKl hSl)
          clear hKl hSl
          obtain ⟨i0,hi,hz0,hz1,hz2⟩:=info_parts Tryz.info3
          have HI:=Lib.hid hi
          have H0:=Lib.hid hz0
          have H1:=Lib.hid hz1
          have H2:=Lib.hid hz2
          clear hi hz0 hz1 hz2
          obtain ⟨j0,hi,hz0,hz1,hz2⟩:=info_parts Tryz.info4
          have JI:=Lib.hid hi
          have J0:=Lib.hid hz0
          have J1:=Lib.hid hz1
          have J2:=Lib.hid hz2
          clear hi hz0 hz1 hz2
          have E23:=Lib.hid e23
          clear e23
          rcases E23.out with e2 | ⟨e2,e3⟩
          all_goals
            go_upto_region 16 with (go_at_call 147;refine (HG2.out _ false _ HD8.out.p).mono ?_;rintro e w3 ⟨rfl,hp3,hb3⟩;have HD3:=Lib.hid (HD8.out.got hp3 hb3);clear hp3 hb3 c0 c1 c2 c3 c4 c5 f0 f1 f2 f3 f4 f5 d0 d1 d2 g0 g1 g2 l1 m1;obtain ⟨l1,c0,c1,c2,c3,c4,c5⟩:=six0 HD3.out.x;obtain ⟨f0,f1,f2,f3,f4,f5⟩:=sixF HD3.out.x;obtain ⟨m1,d0,d1,d2,g0,g1,g2⟩:=triple HD3.out.p)
            clear c0 c1 c2 c3 c4 c5 f0 f1 f2 f3 f4 f5 d0 d1 d2 g0 g1 g2 l1 m1
            go_wp2
            go_loopw [7] (fun i wr=>∃ (k : Nat) (bad : Bool) (hv : Value) (hs : List Nat),i=.int .i64 k∧k≤n∧Hid (hs.length=k)∧Hid (∀ x ∈ hs,x < 65536)∧Hid (RD w b (.int .i64 K) (.int .u64 S) (.int .i64 0) hv (.slice none 0 0) (.int .u32 0) (14+2 * k) bad wr)∧Hid (wr.ownsRow (w.heap.size+1+1+1) 3 1 hv k (hs.map iV))) (fun i _=>n - intV i)
            case atStart=>exact ⟨0,false,_,[],rfl,by omega,rfl,Lib.hid (by simp),HD3.out,⟨rfl,.inl ⟨rfl,rfl⟩⟩⟩
            case round =>
              obtain ⟨k,bad,hv,hs,rfl,hk,hL,hX,hR,hO⟩:=hrel
              obtain ⟨l1,c0,c1,c2,c3,c4,c5⟩:=six0 hR.out.x
              obtain ⟨f0,f1,f2,f3,f4,f5⟩:=sixF hR.out.x
              obtain ⟨m1,d0,d1,d2,g0,g1,g2⟩:=triple hR.out.p
              by_cases hx : k < n∧bad=false
              · obtain ⟨hkn,rfl⟩:=hx
                have hkb : 14+2 * k < 1000:=by omega
                go_upto_region 19 with fail
                have HRd:=Lib.hid hR.out.drew
                have HOw:=Lib.hid (fun (W : World) (hg : wr.drew.grownBy W (some (w.heap.size+1+1)))=>(show wr.drew.ownsRow _ _ _ _ _ _ from hO.out).kept hg (.inr fun e=>by have:=(hO.out.lt _ e).1;omega))
                clear c0 c1 c2 c4 c5 d0 d1 d2 g0 g1 g2 f0 f1 f2 f3 f4 f5 m1
                go_region_law (first
                    | (refine step_append_own rfl _ _ 82 rfl (w.heap.size+1+1+1) 3 i0 (.int .i64 0) 1 8 Tryz.underlying82 HI.out H0.out H1.out H2.out rfl (by decide) _ _ _ rfl (HO5.out.alloc _) ⟨_,0,none⟩ 1 _ [_] rfl rfl (cell_one_new _ _ _) (fun x hx=>by simp at hx;subst hx;rfl) (by unfold maxLen;omega) (by omega) (Nat.le_trans (Nat.succ_le_of_lt HD5.out.lt) (by unfold World.alloc;simp)) ?_;intro v' w6 hown' hgrow6 hnil6;clear hnil6;obtain ⟨A6,cap6,rfl⟩:=own_form hown';have HD6:=Lib.hid ((HD5.out.below (below_one _ _)).grown hgrow6 (fun q hq=>by have:=(HO5.out.lt q hq).1;omega));have HO6:=Lib.hid hown';clear hown' hgrow6;obtain ⟨l6,t0,t1,t2,t3,t4,t5⟩:=six0 HD6.out.x;obtain ⟨f0,f1,f2,f3,f4,f5⟩:=sixF HD6.out.x)
                    | (go_simp;go_at_call 147;refine (HGA.out (14+2 * k) 2 _ false (.inr rfl) hkb _ HRd.out.p).mono ?_;rintro e w5 ⟨v,bad5,hv5,rfl,hp5,hb5⟩;have HD5:=Lib.hid (HRd.out.got hp5 hb5);have HO5:=Lib.hid (HOw.out _ hb5);obtain ⟨l5,q0,q1,q2,q3,q4,q5⟩:=six0 HD5.out.x;clear hp5 hb5 q0 q1 q2 q4 q5))
                all_goals
                  go_wp2
                  refine ⟨⟨k+1,bad5,.slice A6 (k+1) cap6,hs ++ [v],by first | rfl | simp,by omega,Lib.hid (by simp [hL.out]),Lib.hid (fun x hx=>by rcases List.mem_append.mp hx with h | h;exact hX.out x h;rw [List.mem_singleton.mp h];exact hv5),Lib.hid ?_,Lib.hid ?_⟩,by simp [intV];omega⟩
                  · rw [show 14+2 * (k+1)=14+2 * k+2 by omega];exact HD6.out.set3 _
                  · rw [List.map_append];exact own_set HO6.out (m:=w.heap.size+1) (by omega) _ _
              · obtain ⟨A,cap,rfl,hcl⟩:=own_cells hO.out
                have HCL:=Lib.hid hcl
                have hP:=Lib.hid hR.out.lt
                obtain ⟨wo,hwo⟩ : ∃ wo,wo=wr:=⟨_,rfl⟩
                subst hwo
                have hx2 : (k < n∧bad=true)∨¬ ((k : Int) < (n : Int)):=by
                  rcases Nat.lt_or_ge k n with h | h
                  · refine .inl ⟨h,?_⟩
                    cases bad
                    · exact absurd ⟨h,rfl⟩ hx
                    · rfl
                  · exact .inr (by omega)
                have HX2:=Lib.hid hx2
                clear hx hx2 hcl
                rcases HX2.out with ⟨hkn,rfl⟩ | hkn
                all_goals
                  go_wp2
                  clear c0 c1 c2 c3 c4 c5 d0 d1 d2 g0 g1 g2 f0 f1 f2 f3 f4 f5 m1 l1
                  go_loopw [8] (fun i wr=>∃ (j : Nat) (bad : Bool) (mv : Value) (ms : List Bool),i=.int .i64 j∧j≤n∧Hid (ms.length=j)∧Hid (RD w b (.int .i64 K) (.int .u64 S) (.int .i64 0) (.slice A k cap) mv (.int .u32 0) (14+2 * k+j) bad wr)∧Hid (wr.ownsRow wo.heap.size 4 1 mv j (ms.map .bool))∧Hid (Same (w.heap.size+1+1+1) wo.heap.size wo wr)∧Hid (wo.heap.size≤wr.heap.size)) (fun i _=>n - intV i)
                  case atStart=>exact ⟨0,_,_,[],rfl,by omega,rfl,hR.out,⟨rfl,.inl ⟨rfl,rfl⟩⟩,Lib.hid (fun _ _ _=>rfl),Nat.le_refl _⟩
                  case round =>
                    obtain ⟨j,bad2,mv,ms,rfl,hj,hLm,hRt,hOm,hSm,hWo⟩:=hrel
                    have HRt:=hRt
                    clear hRt
                    obtain ⟨l1,c0,c1,c2,c3,c4,c5⟩:=six0 HRt.out.x
                    obtain ⟨f0,f1,f2,f3,f4,f5⟩:=sixF HRt.out.x
                    obtain ⟨m1,d0,d1,d2,g0,g1,g2⟩:=triple HRt.out.p
                    by_cases hx : j < n∧bad2=false∧K=2
                    · obtain ⟨hjn,rfl,hk2⟩:=hx
                      have e22 : ((K : Int) == 2)=true:=by simp [hk2]
                      clear hk2
                      have hkb : 14+2 * k+j < 1000:=by omega
                      first
                        | (rw [e22] at e2;exact Bool.noConfusion e2)
                        | skip
                      all_goals
                        clear e22
                        go_upto_region 23 with fail
                        have HRd:=Lib.hid HRt.out.drew
                        have HOw:=Lib.hid (fun (W : World) (hg : wr.drew.grownBy W (some (w.heap.size+1+1)))=>(show wr.drew.ownsRow _ _ _ _ _ _ from hOm.out).kept hg (.inr fun e=>by have:=(hOm.out.lt _ e).1;have:=hP.out;omega))
                        have hsz:=HRt.out.lt
                        have hwo : Hid (wo.heap.size≤wr.heap.size):=hWo
                        clear c0 c1 c2 c3 c5 d0 d1 d2 g0 g1 g2 f0 f1 f2 f3 f4 f5 m1
                        go_region_law (first
                            | (refine step_append_own rfl _ _ 63 rfl wo.heap.size 4 j0 (.bool false) 1 1 Tryz.underlying63 JI.out J0.out J1.out J2.out rfl (by decide) _ _ _ rfl (HO5.out.alloc _) ⟨_,0,none⟩ 1 _ [_] rfl rfl (cell_one_new _ _ _) (fun x hx=>by simp at hx;subst hx;rfl) (by unfold maxLen;omega) (by omega) (Nat.le_trans hwo5.out (by unfold World.alloc;simp)) ?_;intro v' w6 hown' hgrow6 hnil6;clear hnil6;obtain ⟨A6,cap6,rfl⟩:=own_form hown';have HD6:=Lib.hid ((HD5.out.below (below_one _ _)).grown hgrow6 (fun q hq=>by have:=(HO5.out.lt q hq).1;have:=hP.out;omega));have HO6:=Lib.hid hown';have HG6:=Lib.hid hgrow6.size;have HS6:=Lib.hid ((HS5.out.grown hwo5.out (World.grownBy_alloc _ _ none) (fun q hq=>by cases hq)).grown (Nat.le_trans hwo5.out (by unfold World.alloc;simp)) hgrow6 (fun q hq=>.inr (HO5.out.lt q hq).1));clear hown' hgrow6;obtain ⟨l6,t0,t1,t2,t3,t4,t5⟩:=six0 HD6.out.x;obtain ⟨f0,f1,f2,f3,f4,f5⟩:=sixF HD6.out.x)
                            | (go_simp;go_at_call 147;refine (HGA.out (14+2 * k+j) 1 _ false (.inl rfl) hkb _ HRd.out.p).mono ?_;rintro e w5 ⟨v,bad5,hv5,rfl,hp5,hb5⟩;have HD5:=Lib.hid (HRd.out.got hp5 hb5);have HO5:=Lib.hid (HOw.out _ hb5);have hwo5:=Lib.hid (Nat.le_trans hwo.out hb5.size);have HS5:=Lib.hid (hSm.out.grown hwo.out (show wr.grownBy w5 _ from ⟨hb5.os,hb5.tape,hb5.output,hb5.size,hb5.block⟩) (fun q hq=>.inl (by have:=Option.some.inj hq;omega)));obtain ⟨l5,q0,q1,q2,q3,q4,q5⟩:=six0 HD5.out.x;clear hp5 hb5 q0 q1 q2 q3 q5))
                        all_goals
                          go_wp2
                          refine ⟨⟨j+1,bad5,.slice A6 (j+1) cap6,ms ++ [((v : Int) == 1)],by first | rfl | simp,by omega,Lib.hid (by simp [hLm.out]),Lib.hid (HD6.out.set4 _),Lib.hid ?_,Lib.hid (HS6.out.set (by omega) _ _),Lib.hid (by rw [size_set];exact Nat.le_trans (Nat.le_trans hwo5.out (by unfold World.alloc;simp)) HG6.out)⟩,by simp [intV];omega⟩
                          rw [List.map_append];exact own_set HO6.out (m:=w.heap.size+1) (by have:=hP.out;omega) _ _
                    · have hx2 : (j < n∧bad2=true)∨(j < n∧bad2=false∧((K : Int) == 2)=false)∨¬ ((j : Int) < (n : Int)):=by
                        rcases Nat.lt_or_ge j n with h | h
                        · cases bad2
                          · refine .inr (.inl ⟨h,rfl,?_⟩)
                            by_cases h2 : K=2
                            · exact absurd ⟨h,rfl,h2⟩ hx
                            · simp;omega
                          · exact .inl ⟨h,rfl⟩
                        · exact .inr (.inr (by omega))
                      have HX2:=Lib.hid hx2
                      clear hx hx2
                      have hLk:=hL.out
                      have hLj:=hLm.out
                      obtain ⟨A2,cap2,rfl,hcm⟩:=own_cells hOm.out
                      have hIn : Ints wr (.slice A k cap) hs:=by
                        refine ⟨A,cap,by rw [hLk],fun q x hx=>?_⟩
                        obtain ⟨g,h1,h2,h3,h4⟩:=HCL.out q (iV x) (by rw [List.getElem?_map,hx];rfl)
                        have hsame:=hSm.out g h2 h3
                        refine ⟨g,h1,?_,?_⟩
                        · apply Nat.lt_of_not_le
                          intro hle
                          rw [Array.getElem?_eq_none hle] at hsame
                          exact absurd (Array.getElem?_eq_none_iff.mp hsame.symm) (by omega)
                        · rw [← h4];exact World.cell?_of_block (a:=⟨g,q,none⟩) hsame
                      have hBo : Bools wr (.slice A2 j cap2) ms:=by
                        refine ⟨A2,cap2,by rw [hLj],fun q x hx=>?_⟩
                        obtain ⟨g,h1,h2,h3,h4⟩:=hcm q (.bool x) (by rw [List.getElem?_map,hx];rfl)
                        exact ⟨g,h1,h3,h4⟩
                      have HE:=Lib.hid (fun (W : World) (hb : Below wr.heap.size wr W)=>recEnc_walk HRep ⟨K,S,0,hs,ms,0⟩ ⟨by have:=HKL.out.1;show K < _;omega,by show 0 < _;omega,by show 0 < _;omega,by show hs.length < _;omega,by show ms.length < _;omega,fun x hx=>by have:=hX.out x hx;omega,HKL.out.2⟩ W (.slice A k cap) (.slice A2 j cap2) (hIn.below hb) (hBo.below hb))
                      unfold Rec.v iV at HE
                      dsimp only at HE
                      clear hLk hLj hcm hIn hBo
                      rcases HX2.out with ⟨hjn,rfl⟩ | ⟨hjn,rfl,e9⟩ | hjn
                      all_goals
                        first
                          | (rw [e9] at e2;exact Bool.noConfusion e2)
                          | skip
                        first
                          | cases bad2
                          | skip
                      all_goals
                        go_wp2_with (go_at_call 148;refine (HE.out _ (Below.refl _ _)).mono ?_;rintro e w4 ⟨he,hb4⟩;have HD4:=Lib.hid (HRt.out.below hb4);clear hb4;obtain ⟨l4,r0,r1,r2,r3,r4,r5⟩:=six0 HD4.out.x;obtain ⟨p4,o0,o1,o2,o3,o4,o5⟩:=six0 HD4.out.r;obtain ⟨s0,s1,s2,s3,s4,s5⟩:=sixF HD4.out.r;obtain ⟨m4,d0,d1,d2,g0,g1,g2⟩:=triple HD4.out.p;rcases he with ⟨hok,rfl⟩ | ⟨hok,rfl⟩ <;> have HOK:=Lib.hid hok <;> clear hok)
                      all_goals
                        refine bodyPost_ret (ret_cellP (n:=w.heap.size) rfl rfl (row_set6 HD4.out.r) Tryz.underlying158 rfl Tryz.size158) rfl ⟨?_,bl_set (bl_set (bl_set (bl_set (bl_set (bl_set HD4.out.b (Nat.le_refl _) _ _) (Nat.le_refl _) _ _) (Nat.le_refl _) _ _) (Nat.le_refl _) _ _) (Nat.le_refl _) _ _) (Nat.le_refl _) _ _⟩
                        first
                          | exact .inr rfl
                          | (rename_i heq;rw [HBL.out] at heq;exact .inl ⟨⟨K,S,0,hs,ms,0⟩,A,cap,A2,j,cap2,HOK.out,by simpa using heq,by show _=Ending.returned (.tuple #[.agg #[iV K,.int .u64 S,iV 0,.slice A hs.length cap,_,.int .u32 0],.int .i64 0]);rw [hL.out];rfl⟩)
        · have e2 : ((K : Int) == 2)=false:=by simp;omega
          have e3 : ((K : Int) == 3)=false:=by simp;omega
          have HE:=Lib.hid (fun W=>recEnc_walk HRep ⟨K,S,0,[],[],0⟩ ⟨by show K < _;omega,by show 0 < _;omega,by show 0 < _;omega,by simp,by simp,by simp,hSl⟩ W (.slice none 0 0) (.slice none 0 0) (ints_nil W) (bools_nil W))
          unfold Rec.v iV at HE
          dsimp only at HE
          clear h1 h4 h23 hKl hSl
          go_wp2_with (go_at_call 148;refine (HE.out _).mono ?_;rintro e w4 ⟨he,hb4⟩;have HD4:=Lib.hid (HD8.out.below hb4);clear hb4;obtain ⟨l4,r0,r1,r2,r3,r4,r5⟩:=six0 HD4.out.x;obtain ⟨p4,o0,o1,o2,o3,o4,o5⟩:=six0 HD4.out.r;obtain ⟨s0,s1,s2,s3,s4,s5⟩:=sixF HD4.out.r;obtain ⟨m4,d0,d1,d2,g0,g1,g2⟩:=triple HD4.out.p;rcases he with ⟨hok,rfl⟩ | ⟨hok,rfl⟩ <;> have HOK:=Lib.hid hok <;> clear hok)
          all_goals
            refine bodyPost_ret (ret_cellP (n:=w.heap.size) rfl rfl (row_set6 HD4.out.r) Tryz.underlying158 rfl Tryz.size158) rfl ⟨?_,bl_set (bl_set (bl_set (bl_set (bl_set (bl_set HD4.out.b (Nat.le_refl _) _ _) (Nat.le_refl _) _ _) (Nat.le_refl _) _ _) (Nat.le_refl _) _ _) (Nat.le_refl _) _ _) (Nat.le_refl _) _ _⟩
          · exact .inr rfl
          · rename_i heq
            rw [HBL.out] at heq
            exact .inl ⟨⟨K,S,0,[],[],0⟩,none,0,none,0,0,HOK.out,by simpa using heq,rfl⟩
          · exact .inr rfl
end Go.Proofs.YtbamnpenkjfgkaaGreat
namespace Go.Proofs.YtbamnpenkjfgkaaGreat
open Go.RowKit
set_option maxRecDepth 100000 in
set_option maxHeartbeats 8000000 in
theorem indexF0 (A : Option Addr) (c : Nat) (fv : Value) (w : World) : Calls Tryz.prog 272 #[.slice A 0 c,fv] w fun e w'=>e=.returned (.int .i64 (-1))∧w'=w:=by
  go_enter Tryz.func272,Tryz.ntmps272
  go_wp2
  go_loopw [8] (fun i wr=>i=.int .i64 0∧wr=w) (fun i _=>0)
  case atStart=>exact ⟨rfl,rfl⟩
  case round =>
    obtain ⟨rfl,rfl⟩:=hrel
    go_wp2
    go_ret
    exact ⟨rfl,rfl⟩
set_option maxRecDepth 100000 in
set_option maxHeartbeats 8000000 in
theorem contains0 (A : Option Addr) (c : Nat) (fv : Value) (w : World) : Calls Tryz.prog 210 #[.slice A 0 c,fv] w fun e w'=>e=.returned (.bool false)∧w'=w:=by
  go_enter Tryz.func210,Tryz.ntmps210
  go_wp2_with (go_at_call 272;refine (indexF0 A c fv _).mono ?_;rintro e w3 ⟨rfl,rfl⟩)
  go_ret
  exact ⟨rfl,rfl⟩
set_option maxRecDepth 100000 in
set_option maxHeartbeats 8000000 in
theorem homes0 (x : Nat) (A : Option Addr) (c : Nat) (w : World) : Calls Tryz.prog 150 #[pV x,.slice A 0 c] w fun e w'=>e=.returned (.bool true)∧Below w.heap.size w w':=by
  unfold pV
  go_enter Tryz.func150,Tryz.ntmps150
  go_wp2_with (go_at_call 210;refine (contains0 A c _ _).mono ?_;rintro e w3 ⟨rfl,rfl⟩)
  go_ret
  exact ⟨rfl,by first | exact below_one w _ | exact bl_alloc (below_one w _) _⟩
set_option maxRecDepth 100000 in
set_option maxHeartbeats 8000000 in
theorem places_g (d l : Nat) (x1 x3 x5 x6 x7 x8 x9 : Int) (h1 : 128≤l) (h2 : l≤512) (w : World) : Calls Tryz.prog 64 #[.agg #[.pointer (some ⟨d,0,none⟩),.int .i64 x1,.int .i64 l,.int .i64 x3,.int .i64 1,.int .i64 x5,.int .i64 x6,.int .i64 x7,.int .i64 x8,.int .i64 x9]] w fun e w'=>e=.returned (.int .i64 (l - 1 : Nat))∧Below w.heap.size w w':=by
  go_enter Tryz.func64,Tryz.ntmps64
  go_wp2
  go_ret
  exact ⟨by rw [show ((l - 1 : Nat) : Int)=(l : Int) - 1 by omega];rfl,below_one w _⟩
theorem wrap_i64s (n : Int) (h : 0≤n) (h2 : n < 4611686018427387904) : IntKind.i64.wrap n=n:=by
  simp [IntKind.wrap,IntKind.signed,IntKind.bits]
  omega
theorem below_grown {w w' : World} (row : Option Nat) (h : Below w.heap.size w w') : w.grownBy w' row:=⟨h.os,h.tape,h.output,h.size,fun i hi _=>h.block i hi⟩
theorem row_drew {w : World} {n : Nat} {o : Obj} (h : w.heap[n]?=some o) : w.drew.heap[n]?=some o:=h
set_option maxRecDepth 100000 in
set_option maxHeartbeats 8000000 in
theorem block_g (d l p : Nat) (x1 x3 x5 x6 x7 x8 x9 : Int) (h1 : 128≤l) (h2 : l≤512) (hp : p < 100000) (w : World) : Calls Tryz.prog 65 #[.agg #[.pointer (some ⟨d,0,none⟩),.int .i64 x1,.int .i64 l,.int .i64 x3,.int .i64 1,.int .i64 x5,.int .i64 x6,.int .i64 x7,.int .i64 x8,.int .i64 x9],.int .i64 p] w fun e w'=>e=.returned (.int .i64 (2+p % (l - 1) : Nat))∧Below w.heap.size w w':=by
  have HP:=Lib.hid (places_g d l x1 x3 x5 x6 x7 x8 x9 h1 h2)
  have e1 : (((l - 1 : Nat) : Int) == 0)=false:=by simp;omega
  have e2 : Int.tmod (p : Int) ((l - 1 : Nat) : Int)=((p % (l - 1) : Nat) : Int):=by rw [Int.tmod_eq_emod_of_nonneg (by omega)];rfl
  have e3 : p % (l - 1) < 512:=Nat.lt_of_lt_of_le (Nat.mod_lt _ (by omega)) (by omega)
  have hk0 : ¬ (((l - 1 : Nat) : Int)=0):=by omega
  have hk1 : ((l - 1 : Nat) : Int) ≠ -1:=by omega
  have e4 : IntKind.i64.wrap (2+((p % (l - 1) : Nat) : Int))=((2+p % (l - 1) : Nat) : Int):=by rw [wrap_i64s _ (by omega) (by omega)];push_cast;rfl
  generalize p % (l - 1)=q at *
  generalize l - 1=k at *
  have hr0:=Lib.hid (row_new w (.cells #[.pointer (some ⟨d,0,none⟩),.int .i64 x1,.int .i64 l,.int .i64 x3,.int .i64 1,.int .i64 x5,.int .i64 x6,.int .i64 x7,.int .i64 x8,.int .i64 x9] 71))
  have hb0:=Lib.hid (below_one w (.cells #[.pointer (some ⟨d,0,none⟩),.int .i64 x1,.int .i64 l,.int .i64 x3,.int .i64 1,.int .i64 x5,.int .i64 x6,.int .i64 x7,.int .i64 x8,.int .i64 x9] 71))
  go_enter Tryz.func65,Tryz.ntmps65
  go_wp2
  generalize w.alloc (.cells #[.pointer (some ⟨d,0,none⟩),.int .i64 x1,.int .i64 l,.int .i64 x3,.int .i64 1,.int .i64 x5,.int .i64 x6,.int .i64 x7,.int .i64 x8,.int .i64 x9] 71)=w0 at hr0 hb0 ⊢
  go_region_held_law (fun W=>W.cell? ⟨w.heap.size,0,none⟩=some (.pointer (some ⟨d,0,none⟩))∧W.cell? ⟨w.heap.size,1,none⟩=some (.int .i64 x1)∧W.cell? ⟨w.heap.size,2,none⟩=some (.int .i64 l)∧W.cell? ⟨w.heap.size,3,none⟩=some (.int .i64 x3)∧W.cell? ⟨w.heap.size,4,none⟩=some (.int .i64 1)∧W.cell? ⟨w.heap.size,5,none⟩=some (.int .i64 x5)∧W.cell? ⟨w.heap.size,6,none⟩=some (.int .i64 x6)∧W.cell? ⟨w.heap.size,7,none⟩=some (.int .i64 x7)∧W.cell? ⟨w.heap.size,8,none⟩=some (.int .i64 x8)∧W.cell? ⟨w.heap.size,9,none⟩=some (.int .i64 x9)) (first | exact (ten hr0.out).2 | exact (ten hr1.out).2)
    (first | (go_at_call 64;refine (HP.out _).mono ?_;rintro e w1 ⟨rfl,hb1⟩;have hr1:=Lib.hid (row_below (row_drew hr0.out) hb1);have hB1:=Lib.hid (bl_trans hb0.out (undrew hb1));clear hb1))
  go_wp2
  go_ret
  exact ⟨by first | rfl | exact congrArg (fun x=>Ending.returned (Value.int .i64 x)) e4,hB1.out⟩
theorem sixt {w : World} {n : Nat} {T : TypeId} {v0 v1 v2 v3 v4 v5 v6 v7 v8 v9 v10 v11 v12 v13 v14 v15 : Value} (h : w.heap[n]?=some (.cells #[v0,v1,v2,v3,v4,v5,v6,v7,v8,v9,v10,v11,v12,v13,v14,v15] T (0,0))) :
    w.cell? ⟨n,0,none⟩=some v0∧w.cell? ⟨n,1,none⟩=some v1∧w.cell? ⟨n,2,none⟩=some v2∧w.cell? ⟨n,3,none⟩=some v3∧w.cell? ⟨n,4,none⟩=some v4∧w.cell? ⟨n,5,none⟩=some v5∧w.cell? ⟨n,6,none⟩=some v6∧w.cell? ⟨n,7,none⟩=some v7∧w.cell? ⟨n,8,none⟩=some v8∧w.cell? ⟨n,9,none⟩=some v9∧w.cell? ⟨n,10,none⟩=some v10∧w.cell? ⟨n,11,none⟩=some v11∧w.cell? ⟨n,12,none⟩=some v12∧w.cell? ⟨n,13,none⟩=some v13∧w.cell? ⟨n,14,none⟩=some v14∧w.cell? ⟨n,15,none⟩=some v15 :=
  ⟨row_cell h rfl,row_cell h rfl,row_cell h rfl,row_cell h rfl,row_cell h rfl,row_cell h rfl,row_cell h rfl,row_cell h rfl,row_cell h rfl,row_cell h rfl,row_cell h rfl,row_cell h rfl,row_cell h rfl,row_cell h rfl,row_cell h rfl,row_cell h rfl⟩
def RdRow (w : World) (x d l : Nat) (x1 x3 x5 x6 x7 x8 x9 : Int) (p q : Nat) (sq sm : Int) (t1 t2 : Value) : Prop:=w.heap[x]?=some (.cells #[.pointer (some ⟨d,0,none⟩),.int .i64 x1,.int .i64 l,.int .i64 x3,.int .i64 1,.int .i64 x5,.int .i64 x6,.int .i64 x7,.int .i64 x8,.int .i64 x9,.int .i64 p,.int .i64 q,.int .u64 sq,.int .u32 sm,t1,t2] 166 (0,0))
theorem row_set16 {w : World} {x d l p q : Nat} {x1 x3 x5 x6 x7 x8 x9 sq sm : Int} {t1 t2 : Value} (h : RdRow w x d l x1 x3 x5 x6 x7 x8 x9 p q sq sm t1 t2) (p' q' : Nat) : RdRow ((w.setCell ⟨x,10,none⟩ (.int .i64 p')).setCell ⟨x,11,none⟩ (.int .i64 q')) x d l x1 x3 x5 x6 x7 x8 x9 p' q' sq sm t1 t2:=by
  have h1:=row_set (i:=11) (row_set (i:=10) h (.int .i64 p')) (.int .i64 q')
  unfold RdRow
  simpa using h1
set_option maxRecDepth 100000 in
set_option maxHeartbeats 8000000 in
theorem next_walk {w0 w : World} {d : Nat} {bs : List ByteArray} (hD : DevIs w0 d bs) (hB : Below w0.heap.size w0 w) (x l p q : Nat) (x1 x3 x5 x6 x7 x8 x9 : Int) (sq sm : Int) (t1 t2 : Value) (hx : w0.heap.size≤x) (hR : RdRow w x d l x1 x3 x5 x6 x7 x8 x9 p (q+1) sq sm t1 t2) (h1 : 128≤l) (h2 : l≤512) (hp : p < 100000) (hq : q < 100000) {b : ByteArray} (hb : bs[2+p % (l - 1)]?=some b) :
    Calls Tryz.prog 149 #[pV x] w fun e w'=>e=.returned (.tuple #[.string b,.bool true])∧RdRow w' x d l x1 x3 x5 x6 x7 x8 x9 (p+1) q sq sm t1 t2∧Below w0.heap.size w0 w'∧w.grownBy w' (some x):=by
  have HP:=Lib.hid (block_g d l p x1 x3 x5 x6 x7 x8 x9 h1 h2 hp)
  have HD:=Lib.hid hD
  have HB:=Lib.hid hB
  have HR:=Lib.hid hR
  have Hb:=Lib.hid hb
  have Hx:=Lib.hid hx
  have lx:=row_lt hR
  unfold RdRow at hR
  obtain ⟨c0,c1,c2,c3,c4,c5,c6,c7,c8,c9,c10,c11,c12,c13,c14,c15⟩:=sixt hR
  have f10 : w.frozen? ⟨x,10,none⟩=false:=row_frozen hR
  have f11 : w.frozen? ⟨x,11,none⟩=false:=row_frozen hR
  have eq0 : (((q+1 : Nat) : Int) == 0)=false:=by simp;omega
  generalize 2+p % (l - 1)=pk at *
  clear hD hB hx hR hb h1 h2
  unfold pV
  go_enter Tryz.func149,Tryz.ntmps149
  go_upto_region 3 with fail
  clear c11 c12 c13 c14 c15 f10 f11
  go_region_held_law (fun W=>W.cell? ⟨x,0,none⟩=some (.pointer (some ⟨d,0,none⟩))∧W.cell? ⟨x,1,none⟩=some (.int .i64 x1)∧W.cell? ⟨x,2,none⟩=some (.int .i64 l)∧W.cell? ⟨x,3,none⟩=some (.int .i64 x3)∧W.cell? ⟨x,4,none⟩=some (.int .i64 1)∧W.cell? ⟨x,5,none⟩=some (.int .i64 x5)∧W.cell? ⟨x,6,none⟩=some (.int .i64 x6)∧W.cell? ⟨x,7,none⟩=some (.int .i64 x7)∧W.cell? ⟨x,8,none⟩=some (.int .i64 x8)∧W.cell? ⟨x,9,none⟩=some (.int .i64 x9)∧W.cell? ⟨x,10,none⟩=some (.int .i64 p)) (first | exact ⟨c0,c1,c2,c3,c4,c5,c6,c7,c8,c9,c10⟩ | exact ⟨d0,d1,d2,d3,d4,d5,d6,d7,d8,d9,d10⟩)
    (first
      | (go_at_call 65;refine (HP.out _).mono ?_;rintro e w1 ⟨rfl,hb1⟩;have hr1:=Lib.hid (row_below (row_drew HR.out) hb1);have hB1:=Lib.hid (bl_trans HB.out (undrew hb1));have hG1:=Lib.hid (below_grown (some x) (undrew hb1));clear hb1;obtain ⟨d0,d1,d2,d3,d4,d5,d6,d7,d8,d9,d10,d11,d12,d13,d14,d15⟩:=sixt hr1.out;have g10 : w1.frozen? ⟨x,10,none⟩=false:=row_frozen hr1.out;have g11 : w1.frozen? ⟨x,11,none⟩=false:=row_frozen hr1.out)
      | (go_at_call 18;refine (read_walk (dev_below HD.out hB1.out) Hb.out).mono ?_;rintro e w2 ⟨rfl,rfl⟩))
  clear d0 d1 d2 d3 d4 d5 d6 d7 d8 d9 d12 d13 d14 d15
  go_wp2
  go_ret2
  refine ⟨rfl,?_,be_set (be_set hB1.out Hx.out _ _) Hx.out _ _,(hG1.out.trans (grown_set _ _ _ _)).trans (grown_set _ _ _ _)⟩
  have:=row_set16 (show RdRow w2 x d l x1 x3 x5 x6 x7 x8 x9 p (q+1) sq sm t1 t2 from hr1.out) (p+1) q
  push_cast at this
  exact this
set_option maxRecDepth 100000 in
set_option maxHeartbeats 8000000 in
def NoTxn (l : List UInt8) (sq : Nat) : Prop:=∀ r : Rec,r.ok→r.enc=l→r.seq=sq→r.kind=1
theorem six0h {w : World} {n : Nat} {T : TypeId} {v0 v1 v2 v3 v4 v5 : Value} (h : w.heap[n]?=some (.cells #[v0,v1,v2,v3,v4,v5] T (0,0))) : n < w.heap.size∧w.cell? ⟨n,0,none⟩=some v0∧w.cell? ⟨n,1,none⟩=some v1∧w.cell? ⟨n,3,none⟩=some v3 :=
  ⟨row_lt h,row_cell h rfl,row_cell h rfl,row_cell h rfl⟩
set_option maxRecDepth 100000 in
set_option maxHeartbeats 8000000 in
theorem whole_walk (HRep : RepIs) {w0 w : World} {d : Nat} {bs : List ByteArray} (hD : DevIs w0 d bs) (hB : Below w0.heap.size w0 w) (x l p q : Nat) (x1 x3 x5 x6 x7 x8 x9 : Int) (sq : Nat) (sm : Int) (t1 t2 : Value) (hx : w0.heap.size≤x) (hR : RdRow w x d l x1 x3 x5 x6 x7 x8 x9 p (q+1) sq sm t1 t2) (h1 : 128≤l) (h2 : l≤512) (hp : p < 100000) (hq : q < 100000) {b : ByteArray} (hb : bs[2+p % (l - 1)]?=some b) (h128 : b.data.toList.length=128) (hno : NoTxn b.data.toList sq) :
    Calls Tryz.prog 89 #[pV x] w fun e w'=>e=.returned (.bool false)∧Below w0.heap.size w0 w'∧w.grownBy w' (some x):=by
  have HN:=Lib.hid (next_walk hD hB x l p q x1 x3 x5 x6 x7 x8 x9 sq sm t1 t2 hx hR h1 h2 hp hq hb)
  have HDec:=Lib.hid (recDec_walk HRep b _ rfl h128)
  have HNo:=Lib.hid hno
  have Hx:=Lib.hid hx
  have HH:=Lib.hid (fun A c W=>homes0 x A c W)
  have HM:=Lib.hid (fun (y : Int) (W : World)=>more_walk b y (by show b.data.toList.length < _;omega) W)
  clear hD hB hx hR hb h1 h2 hp hq h128 hno
  unfold pV at *
  go_enter Tryz.func89,Tryz.ntmps89
  go_wp2
  go_loopw [] (fun wr=>wr=w) (fun _=>0)
  case atStart=>exact rfl
  case round =>
    obtain rfl:=hrel
    go_upto_region 3 with (first
      | (go_at_call 149;refine HN.out.mono ?_;rintro e w1 ⟨rfl,hr1,hb1,hg1⟩;have HR1:=Lib.hid hr1;have HB1:=Lib.hid hb1;have HG1:=Lib.hid hg1;clear hr1 hb1 hg1)
      | (go_at_call 88;refine (HDec.out _).mono ?_;rintro e w2 ⟨he,hb2⟩;have HR2:=Lib.hid (row_below HR1.out hb2);have HB2:=Lib.hid (bl_trans HB1.out hb2);have HG2:=Lib.hid (HG1.out.trans (below_grown (some x) hb2));clear hb2;rcases he with ⟨r,A,c,B,m,c2,hok,henc,rfl⟩ | rfl))
    · have HO:=Lib.hid (And.intro hok henc)
      clear hok henc
      have hlt:=row_lt HR2.out
      have hxne : x ≠ w2.heap.size:=by omega
      by_cases hs : r.seq=sq
      · have hk:=HNo.out r HO.out.1 HO.out.2 hs
        have hl : r.homes.length=0:=by
          rcases HO.out.1 with h | h | h | h
          · exact h.2.2.2.1
          · omega
          · omega
          · omega
        rw [hl,hk,hs,show ((1 : Nat) : Int)=1 from rfl]
        have hr3:=Lib.hid (row_new w2 (.cells #[.int .i64 1,.int .u64 (sq : Nat),.int .i64 (r.pos : Nat),.slice A 0 c,.slice B m c2,.int .u32 (r.sum : Nat)] 158))
        have HR3:=Lib.hid (row_old (o:=(.cells #[.int .i64 1,.int .u64 (sq : Nat),.int .i64 (r.pos : Nat),.slice A 0 c,.slice B m c2,.int .u32 (r.sum : Nat)] 158)) HR2.out)
        have HB3:=Lib.hid (bl_alloc HB2.out (.cells #[.int .i64 1,.int .u64 (sq : Nat),.int .i64 (r.pos : Nat),.slice A 0 c,.slice B m c2,.int .u32 (r.sum : Nat)] 158))
        have HG3:=Lib.hid (HG2.out.trans (World.grownBy_alloc _ (.cells #[.int .i64 1,.int .u64 (sq : Nat),.int .i64 (r.pos : Nat),.slice A 0 c,.slice B m c2,.int .u32 (r.sum : Nat)] 158) _))
        generalize w2.alloc (.cells #[.int .i64 1,.int .u64 (sq : Nat),.int .i64 (r.pos : Nat),.slice A 0 c,.slice B m c2,.int .u32 (r.sum : Nat)] 158)=w3 at hr3 HR3 HB3 HG3 ⊢
        generalize w2.heap.size=g at *
        obtain ⟨l3,z0,z1,z3⟩:=six0h hr3.out
        obtain ⟨y0,y1,y2,y3,y4,y5,y6,y7,y8,y9,y10,y11,y12,y13,y14,y15⟩:=sixt HR3.out
        have esq : ((sq : Int) != (sq : Int))=false:=by simp
        clear hl hk hs hxne hlt y0 y1 y2 y3 y4 y5 y6 y7 y8 y9 y10 y11 y13 y14 y15
        go_region_held_law (fun W=>W.cell? ⟨g,1,none⟩=some (.int .u64 (sq : Nat))∧W.cell? ⟨g,3,none⟩=some (.slice A 0 c)∧W.cell? ⟨x,12,none⟩=some (.int .u64 (sq : Nat))) (first | exact ⟨z1,z3,y12⟩ | exact ⟨row_cell hr4.out rfl,row_cell hr4.out rfl,row_cell HR4.out rfl⟩)
          (first | (go_at_call 150;refine (HH.out A c _).mono ?_;rintro e w4 ⟨rfl,hb4⟩;have hr4:=Lib.hid (row_below (row_drew hr3.out) hb4);have HR4:=Lib.hid (row_below (row_drew HR3.out) hb4);have HB4:=Lib.hid (bl_trans HB3.out (undrew hb4));have HG4:=Lib.hid (HG3.out.trans (below_grown (some x) (undrew hb4)));clear hb4))
        clear z0 z1 z3 y12
        obtain ⟨l4,z0,z1,z3⟩:=six0h hr4.out
        obtain ⟨y0,y1,y2,y3,y4,y5,y6,y7,y8,y9,y10,y11,y12,y13,y14,y15⟩:=sixt HR4.out
        have f13 : w4.frozen? ⟨x,13,none⟩=false:=row_frozen HR4.out
        clear y0 y1 y2 y3 y4 y5 y6 y7 y8 y9 y10 y11 y12 y14 y15
        have hxg : ¬ x=g:=by
          intro e
          have h1:=HR4.out
          rw [e,hr4.out] at h1
          simp at h1
        go_wp2_with (go_at_call 151;refine (HM.out _ _).mono ?_;rintro e w5 ⟨⟨yy,rfl⟩,rfl⟩)
        go_ret
        exact ⟨rfl,be_set HB4.out Hx.out _ _,HG4.out.trans (grown_set _ _ _ _)⟩
      · have esq : ((r.seq : Int) != (sq : Int))=true:=by simp;omega
        have hr3:=Lib.hid (row_new w2 (.cells #[.int .i64 (r.kind : Nat),.int .u64 (r.seq : Nat),.int .i64 (r.pos : Nat),.slice A r.homes.length c,.slice B m c2,.int .u32 (r.sum : Nat)] 158))
        have HR3:=Lib.hid (row_old (o:=(.cells #[.int .i64 (r.kind : Nat),.int .u64 (r.seq : Nat),.int .i64 (r.pos : Nat),.slice A r.homes.length c,.slice B m c2,.int .u32 (r.sum : Nat)] 158)) HR2.out)
        have HB3:=Lib.hid (bl_alloc HB2.out (.cells #[.int .i64 (r.kind : Nat),.int .u64 (r.seq : Nat),.int .i64 (r.pos : Nat),.slice A r.homes.length c,.slice B m c2,.int .u32 (r.sum : Nat)] 158))
        have HG3:=Lib.hid (HG2.out.trans (World.grownBy_alloc _ (.cells #[.int .i64 (r.kind : Nat),.int .u64 (r.seq : Nat),.int .i64 (r.pos : Nat),.slice A r.homes.length c,.slice B m c2,.int .u32 (r.sum : Nat)] 158) _))
        generalize w2.alloc (.cells #[.int .i64 (r.kind : Nat),.int .u64 (r.seq : Nat),.int .i64 (r.pos : Nat),.slice A r.homes.length c,.slice B m c2,.int .u32 (r.sum : Nat)] 158)=w3 at hr3 HR3 HB3 HG3 ⊢
        generalize w2.heap.size=g at *
        obtain ⟨l3,z0,z1,z3⟩:=six0h hr3.out
        obtain ⟨y0,y1,y2,y3,y4,y5,y6,y7,y8,y9,y10,y11,y12,y13,y14,y15⟩:=sixt HR3.out
        clear hs hxne hlt y0 y1 y2 y3 y4 y5 y6 y7 y8 y9 y10 y11 y13 y14 y15
        go_quiet (fail)
        go_wp2
        go_ret
        exact ⟨rfl,bl_drewN HB3.out _,HG3.out.trans (grown_drewN _ _ _)⟩
    · go_quiet (fail)
      go_wp2
      go_ret
      exact ⟨rfl,bl_drewN (bl_alloc HB2.out _) _,(HG2.out.trans (World.grownBy_alloc _ _ _)).trans (grown_drewN _ _ _)⟩
end Go.Proofs.YtbamnpenkjfgkaaGreat
namespace Go.Proofs.YtbamnpenkjfgkaaGreat
open Go.RowKit
def ReadSays (H : Prop) (e : Ending) : Prop:=(∃ (p q : Nat),H∧e=.returned (.tuple #[.agg #[.int .i64 p,.int .i64 0,.int .u64 q,.slice none 0 0],.int .i64 0]))∨e=.returned (.tuple #[.agg #[.int .i64 0,.int .i64 0,.int .u64 0,.slice none 0 0],.int .i64 80])
theorem Tryz.size76 : (Tryz.prog.info? 76).map (·.size)=some 4:=by kernel_rfl
theorem four {w : World} {n : Nat} {T : TypeId} {v0 v1 v2 v3 : Value} (h : w.heap[n]?=some (.cells #[v0,v1,v2,v3] T (0,0))) : w.cell? ⟨n,0,none⟩=some v0∧w.cell? ⟨n,1,none⟩=some v1∧w.cell? ⟨n,2,none⟩=some v2∧w.cell? ⟨n,3,none⟩=some v3 :=
  ⟨row_cell h rfl,row_cell h rfl,row_cell h rfl,row_cell h rfl⟩
theorem row_set4 {w : World} {n : Nat} {T : TypeId} {a0 a1 a2 a3 v0 v1 v2 v3 : Value} (h : w.heap[n]?=some (.cells #[a0,a1,a2,a3] T (0,0))) :
    ((((w.setCell ⟨n,0,none⟩ v0).setCell ⟨n,1,none⟩ v1).setCell ⟨n,2,none⟩ v2).setCell ⟨n,3,none⟩ v3).heap[n]?=some (.cells #[v0,v1,v2,v3] T (0,0)):=by
  have h1:=row_set (i:=3) (row_set (i:=2) (row_set (i:=1) (row_set (i:=0) h v0) v1) v2) v3
  simpa using h1
set_option maxRecDepth 100000 in
set_option maxHeartbeats 8000000 in
theorem jread_walk (HRep : RepIs) {w : World} {d : Nat} {bs : List ByteArray} (hD : DevIs w d bs) (l : Nat) (x1 x3 x5 x6 x7 x8 x9 : Int) (h1 : 128≤l) (h2 : l≤512) (hlen : l+2≤bs.length) (h128 : ∀ (k : Nat) (b : ByteArray),bs[k]?=some b→b.data.toList.length=128) (b1 : ByteArray) (hb1 : bs[1]?=some b1) (hno : ∀ r : Rec,r.ok→r.enc=b1.data.toList→r.kind=1→∀ (k : Nat) (b : ByteArray),bs[k]?=some b→NoTxn b.data.toList r.seq) :
    Calls Tryz.prog 36 #[.agg #[.pointer (some ⟨d,0,none⟩),.int .i64 x1,.int .i64 l,.int .i64 x3,.int .i64 1,.int .i64 x5,.int .i64 x6,.int .i64 x7,.int .i64 x8,.int .i64 x9]] w fun e w'=>ReadSays (∃ r : Rec,r.ok∧r.enc=b1.data.toList∧r.kind=1) e∧Below w.heap.size w w':=by
  have HD:=Lib.hid hD
  have HDec:=Lib.hid (recDec_walk HRep b1 _ rfl (h128 1 b1 hb1))
  have HPl:=Lib.hid (places_g d l x1 x3 x5 x6 x7 x8 x9 h1 h2)
  have HRd:=Lib.hid (fun (W : World) (hB : Below w.heap.size w W)=>read_walk (dev_below hD hB) hb1)
  have HW:=Lib.hid (fun (x p q : Nat) (sq : Nat) (W : World) (hB : Below w.heap.size w W) (hx : w.heap.size≤x) (hR : RdRow W x d l x1 x3 x5 x6 x7 x8 x9 p (q+1) sq 0 (.slice none 0 0) (.slice none 0 0)) (hp : p < 100000) (hq : q < 100000) (b : ByteArray) (hb : bs[2+p % (l - 1)]?=some b) (hn : NoTxn b.data.toList sq)=>whole_walk HRep hD hB x l p q x1 x3 x5 x6 x7 x8 x9 sq 0 (.slice none 0 0) (.slice none 0 0) hx hR h1 h2 hp hq hb (h128 _ b hb) hn)
  have HNo:=Lib.hid hno
  have hsome : ∀ p,∃ b,bs[2+p % (l - 1)]?=some b:=fun p=>⟨_,List.getElem?_eq_getElem (by have:=Nat.mod_lt p (show 0 < l - 1 by omega);omega)⟩
  have HSome:=Lib.hid hsome
  obtain ⟨k1,hk1⟩ : ∃ k1,l - 1=k1+1:=⟨l - 2,by omega⟩
  rw [hk1] at HPl HW HSome
  have hk2 : k1 < 600:=by omega
  clear hD hlen h128 hb1 hno hsome HRep hk1
  have hr0:=Lib.hid (row_old (o:=.cells #[.int .i64 0,.int .i64 0,.int .u64 0,.slice none 0 0] 76) (row_new w (.cells #[.pointer (some ⟨d,0,none⟩),.int .i64 x1,.int .i64 l,.int .i64 x3,.int .i64 1,.int .i64 x5,.int .i64 x6,.int .i64 x7,.int .i64 x8,.int .i64 x9] 71)))
  have hz0:=Lib.hid (row_new2 w (.cells #[.pointer (some ⟨d,0,none⟩),.int .i64 x1,.int .i64 l,.int .i64 x3,.int .i64 1,.int .i64 x5,.int .i64 x6,.int .i64 x7,.int .i64 x8,.int .i64 x9] 71) (.cells #[.int .i64 0,.int .i64 0,.int .u64 0,.slice none 0 0] 76))
  have hB0:=Lib.hid (below_two w (.cells #[.pointer (some ⟨d,0,none⟩),.int .i64 x1,.int .i64 l,.int .i64 x3,.int .i64 1,.int .i64 x5,.int .i64 x6,.int .i64 x7,.int .i64 x8,.int .i64 x9] 71) (.cells #[.int .i64 0,.int .i64 0,.int .u64 0,.slice none 0 0] 76))
  unfold pV at *
  go_enter Tryz.func36,Tryz.ntmps36
  go_upto_region 1 with fail
  generalize (w.alloc (.cells #[.pointer (some ⟨d,0,none⟩),.int .i64 x1,.int .i64 l,.int .i64 x3,.int .i64 1,.int .i64 x5,.int .i64 x6,.int .i64 x7,.int .i64 x8,.int .i64 x9] 71)).alloc (.cells #[.int .i64 0,.int .i64 0,.int .u64 0,.slice none 0 0] 76)=w1 at hr0 hz0 hB0 ⊢
  obtain ⟨l0,c0,c1,c2,c3,c4,c5,c6,c7,c8,c9⟩:=ten hr0.out
  go_upto_region 5 with (first
    | (go_at_call 18;refine (HRd.out _ hB0.out).mono ?_;rintro e w2 ⟨rfl,rfl⟩)
    | (go_at_call 88;refine (HDec.out _).mono ?_;rintro e w3 ⟨he,hb3⟩;have hr3:=Lib.hid (row_below hr0.out hb3);have hz3:=Lib.hid (row_below hz0.out hb3);have HB3:=Lib.hid (bl_trans hB0.out hb3);clear hb3;rcases he with ⟨r,A,c,B,m,c2',hok,henc,rfl⟩ | rfl))
  · have HO:=Lib.hid (And.intro hok henc)
    clear hok henc
    have hg4:=Lib.hid (row_new w3 (.cells #[.int .i64 (r.kind : Nat),.int .u64 (r.seq : Nat),.int .i64 (r.pos : Nat),.slice A r.homes.length c,.slice B m c2',.int .u32 (r.sum : Nat)] 158))
    have hr4:=Lib.hid (row_old (o:=(.cells #[.int .i64 (r.kind : Nat),.int .u64 (r.seq : Nat),.int .i64 (r.pos : Nat),.slice A r.homes.length c,.slice B m c2',.int .u32 (r.sum : Nat)] 158)) hr3.out)
    have hz4:=Lib.hid (row_old (o:=(.cells #[.int .i64 (r.kind : Nat),.int .u64 (r.seq : Nat),.int .i64 (r.pos : Nat),.slice A r.homes.length c,.slice B m c2',.int .u32 (r.sum : Nat)] 158)) hz3.out)
    have HB4:=Lib.hid (bl_alloc HB3.out (.cells #[.int .i64 (r.kind : Nat),.int .u64 (r.seq : Nat),.int .i64 (r.pos : Nat),.slice A r.homes.length c,.slice B m c2',.int .u32 (r.sum : Nat)] 158))
    generalize w3.alloc (.cells #[.int .i64 (r.kind : Nat),.int .u64 (r.seq : Nat),.int .i64 (r.pos : Nat),.slice A r.homes.length c,.slice B m c2',.int .u32 (r.sum : Nat)] 158)=w4 at hg4 hr4 hz4 HB4 ⊢
    generalize w3.heap.size=g at *
    clear c0 c1 c2 c3 c4 c5 c6 c7 c8 c9 l0
    obtain ⟨l0,c0,c1,c2,c3,c4,c5,c6,c7,c8,c9⟩:=ten hr4.out
    obtain ⟨lg,e0,e1,e2,e3,e4,e5⟩:=six0 hg4.out
    obtain ⟨z0,z1,z2,z3⟩:=four hz4.out
    have fz0 : w4.frozen? ⟨w.heap.size+1,0,none⟩=false:=row_frozen hz4.out
    have fz1 : w4.frozen? ⟨w.heap.size+1,1,none⟩=false:=row_frozen hz4.out
    have fz2 : w4.frozen? ⟨w.heap.size+1,2,none⟩=false:=row_frozen hz4.out
    have fz3 : w4.frozen? ⟨w.heap.size+1,3,none⟩=false:=row_frozen hz4.out
    by_cases hk : r.kind=1
    · have HK1:=Lib.hid hk
      have ek : ((r.kind : Int) != 1)=false:=by simp;omega
      have hpos : r.pos≤510:=by
        rcases HO.out.1 with h | h | h | h
        · exact h.2.1
        · omega
        · omega
        · omega
      have HK:=Lib.hid hk
      clear hk
      by_cases hp : k1+1≤r.pos
      · have hgp : (((k1+1 : Nat) : Int)≤(r.pos : Int)):=by omega
        go_region_held3 (fun W=>W.cell? ⟨w.heap.size,0,none⟩=some (.pointer (some ⟨d,0,none⟩))∧W.cell? ⟨w.heap.size,1,none⟩=some (.int .i64 x1)∧W.cell? ⟨w.heap.size,2,none⟩=some (.int .i64 l)∧W.cell? ⟨w.heap.size,3,none⟩=some (.int .i64 x3)∧W.cell? ⟨w.heap.size,4,none⟩=some (.int .i64 1)∧W.cell? ⟨w.heap.size,5,none⟩=some (.int .i64 x5)∧W.cell? ⟨w.heap.size,6,none⟩=some (.int .i64 x6)∧W.cell? ⟨w.heap.size,7,none⟩=some (.int .i64 x7)∧W.cell? ⟨w.heap.size,8,none⟩=some (.int .i64 x8)∧W.cell? ⟨w.heap.size,9,none⟩=some (.int .i64 x9)∧W.cell? ⟨g,0,none⟩=some (.int .i64 (r.kind : Nat))∧W.cell? ⟨g,2,none⟩=some (.int .i64 (r.pos : Nat))) (first | exact ⟨c0,c1,c2,c3,c4,c5,c6,c7,c8,c9,e0,e2⟩ | exact ⟨d0,d1,d2,d3,d4,d5,d6,d7,d8,d9,t0,t2⟩)
          (first | (go_at_call 64;refine (HPl.out _).mono ?_;rintro e w5 ⟨rfl,hb5⟩;have hr5:=Lib.hid (row_below (row_drew hr4.out) hb5);have hg5:=Lib.hid (row_below (row_drew hg4.out) hb5);have hz5:=Lib.hid (row_below (row_drew hz4.out) hb5);have HB5:=Lib.hid (bl_trans HB4.out (undrew hb5));clear hb5;obtain ⟨l5,d0,d1,d2,d3,d4,d5,d6,d7,d8,d9⟩:=ten hr5.out;obtain ⟨m5,t0,t1,t2,t3,t4,t5⟩:=six0 hg5.out))
        clear c0 c1 c2 c3 c4 c5 c6 c7 c8 c9 e0 e1 e2 e3 e4 e5 z0 z1 z2 z3 fz0 fz1 fz2 fz3
        obtain ⟨z0,z1,z2,z3⟩:=four hz5.out
        have fz0 : w5.frozen? ⟨w.heap.size+1,0,none⟩=false:=row_frozen hz5.out
        have fz1 : w5.frozen? ⟨w.heap.size+1,1,none⟩=false:=row_frozen hz5.out
        have fz2 : w5.frozen? ⟨w.heap.size+1,2,none⟩=false:=row_frozen hz5.out
        have fz3 : w5.frozen? ⟨w.heap.size+1,3,none⟩=false:=row_frozen hz5.out
        rename_i hHeld
        clear hHeld
        go_wp2
        refine bodyPost_ret (ret_cellP (n:=w.heap.size+1) rfl rfl (row_set4 hz5.out) Tryz.underlying76 rfl Tryz.size76) rfl ⟨.inr rfl,be_set (be_set (be_set (be_set HB5.out (Nat.le_succ _) _ _) (Nat.le_succ _) _ _) (Nat.le_succ _) _ _) (Nat.le_succ _) _ _⟩
      · have hgp : ¬ (((k1+1 : Nat) : Int)≤(r.pos : Int)):=by omega
        go_region_held3 (fun W=>W.cell? ⟨w.heap.size,0,none⟩=some (.pointer (some ⟨d,0,none⟩))∧W.cell? ⟨w.heap.size,1,none⟩=some (.int .i64 x1)∧W.cell? ⟨w.heap.size,2,none⟩=some (.int .i64 l)∧W.cell? ⟨w.heap.size,3,none⟩=some (.int .i64 x3)∧W.cell? ⟨w.heap.size,4,none⟩=some (.int .i64 1)∧W.cell? ⟨w.heap.size,5,none⟩=some (.int .i64 x5)∧W.cell? ⟨w.heap.size,6,none⟩=some (.int .i64 x6)∧W.cell? ⟨w.heap.size,7,none⟩=some (.int .i64 x7)∧W.cell? ⟨w.heap.size,8,none⟩=some (.int .i64 x8)∧W.cell? ⟨w.heap.size,9,none⟩=some (.int .i64 x9)∧W.cell? ⟨g,0,none⟩=some (.int .i64 (r.kind : Nat))∧W.cell? ⟨g,2,none⟩=some (.int .i64 (r.pos : Nat))) (first | exact ⟨c0,c1,c2,c3,c4,c5,c6,c7,c8,c9,e0,e2⟩ | exact ⟨d0,d1,d2,d3,d4,d5,d6,d7,d8,d9,t0,t2⟩)
          (first | (go_at_call 64;refine (HPl.out _).mono ?_;rintro e w5 ⟨rfl,hb5⟩;have hr5:=Lib.hid (row_below (row_drew hr4.out) hb5);have hg5:=Lib.hid (row_below (row_drew hg4.out) hb5);have hz5:=Lib.hid (row_below (row_drew hz4.out) hb5);have HB5:=Lib.hid (bl_trans HB4.out (undrew hb5));clear hb5;obtain ⟨l5,d0,d1,d2,d3,d4,d5,d6,d7,d8,d9⟩:=ten hr5.out;obtain ⟨m5,t0,t1,t2,t3,t4,t5⟩:=six0 hg5.out))
        clear c0 c1 c2 c3 c4 c5 c6 c7 c8 c9 e0 e1 e2 e3 e4 e5 z0 z1 z2 z3 fz0 fz1 fz2 fz3
        obtain ⟨z0,z1,z2,z3⟩:=four hz5.out
        have fz0 : w5.frozen? ⟨w.heap.size+1,0,none⟩=false:=row_frozen hz5.out
        have fz1 : w5.frozen? ⟨w.heap.size+1,1,none⟩=false:=row_frozen hz5.out
        have fz2 : w5.frozen? ⟨w.heap.size+1,2,none⟩=false:=row_frozen hz5.out
        have fz3 : w5.frozen? ⟨w.heap.size+1,3,none⟩=false:=row_frozen hz5.out
        rename_i hHeld
        clear hHeld
        go_wp2
        have hr6:=Lib.hid (row_old (o:=(.cells #[.int .i64 (r.pos : Nat),.int .i64 0,.int .u64 (r.seq : Nat),.slice none 0 0] 76)) hr5.out)
        have hz6:=Lib.hid (row_old (o:=(.cells #[.int .i64 (r.pos : Nat),.int .i64 0,.int .u64 (r.seq : Nat),.slice none 0 0] 76)) hz5.out)
        have hs6:=Lib.hid (row_new w5 (.cells #[.int .i64 (r.pos : Nat),.int .i64 0,.int .u64 (r.seq : Nat),.slice none 0 0] 76))
        have HB6:=Lib.hid (bl_alloc HB5.out (.cells #[.int .i64 (r.pos : Nat),.int .i64 0,.int .u64 (r.seq : Nat),.slice none 0 0] 76))
        generalize w5.alloc (.cells #[.int .i64 (r.pos : Nat),.int .i64 0,.int .u64 (r.seq : Nat),.slice none 0 0] 76)=w6 at hr6 hz6 hs6 HB6 ⊢
        have hsw0:=row_lt hz5.out
        generalize w5.heap.size=s at *
        clear d0 d1 d2 d3 d4 d5 d6 d7 d8 d9 t0 t1 t2 t3 t4 t5 z0 z1 z2 z3 fz0 fz1 fz2 fz3 l5 m5 l0 lg
        go_loopw [] (fun wr=>wr=w6) (fun _=>0)
        case atStart=>exact rfl
        case round =>
          obtain rfl:=hrel
          obtain ⟨l0,c0,c1,c2,c3,c4,c5,c6,c7,c8,c9⟩:=ten hr6.out
          obtain ⟨e0,e1,e2,e3⟩:=four hs6.out
          go_upto_region 8 with fail
          go_region_held3 (fun W=>W.cell? ⟨w.heap.size,0,none⟩=some (.pointer (some ⟨d,0,none⟩))∧W.cell? ⟨w.heap.size,1,none⟩=some (.int .i64 x1)∧W.cell? ⟨w.heap.size,2,none⟩=some (.int .i64 l)∧W.cell? ⟨w.heap.size,3,none⟩=some (.int .i64 x3)∧W.cell? ⟨w.heap.size,4,none⟩=some (.int .i64 1)∧W.cell? ⟨w.heap.size,5,none⟩=some (.int .i64 x5)∧W.cell? ⟨w.heap.size,6,none⟩=some (.int .i64 x6)∧W.cell? ⟨w.heap.size,7,none⟩=some (.int .i64 x7)∧W.cell? ⟨w.heap.size,8,none⟩=some (.int .i64 x8)∧W.cell? ⟨w.heap.size,9,none⟩=some (.int .i64 x9)∧W.cell? ⟨s,0,none⟩=some (.int .i64 (r.pos : Nat))∧W.cell? ⟨s,1,none⟩=some (.int .i64 0)∧W.cell? ⟨s,2,none⟩=some (.int .u64 (r.seq : Nat))) (first | exact ⟨c0,c1,c2,c3,c4,c5,c6,c7,c8,c9,e0,e1,e2⟩ | exact ⟨d0,d1,d2,d3,d4,d5,d6,d7,d8,d9,t0,t1,t2⟩ | exact ⟨row_cell (row_old hr7.out) rfl,row_cell (row_old hr7.out) rfl,row_cell (row_old hr7.out) rfl,row_cell (row_old hr7.out) rfl,row_cell (row_old hr7.out) rfl,row_cell (row_old hr7.out) rfl,row_cell (row_old hr7.out) rfl,row_cell (row_old hr7.out) rfl,row_cell (row_old hr7.out) rfl,row_cell (row_old hr7.out) rfl,row_cell (row_old hs7.out) rfl,row_cell (row_old hs7.out) rfl,row_cell (row_old hs7.out) rfl⟩)
            (first | (go_at_call 64;refine (HPl.out _).mono ?_;rintro e w7 ⟨rfl,hb7⟩;have hr7:=Lib.hid (row_below (row_drew hr6.out) hb7);have hz7:=Lib.hid (row_below (row_drew hz6.out) hb7);have hs7:=Lib.hid (row_below (row_drew hs6.out) hb7);have HB7:=Lib.hid (bl_trans HB6.out (undrew hb7));clear hb7;obtain ⟨l7,d0,d1,d2,d3,d4,d5,d6,d7,d8,d9⟩:=ten hr7.out;obtain ⟨t0,t1,t2,t3⟩:=four hs7.out))
          rename_i hHeld
          clear hHeld d0 d1 d2 d3 d4 d5 d6 d7 d8 d9 t0 t1 t2 t3 c0 c1 c2 c3 c4 c5 c6 c7 c8 c9 e0 e1 e2 e3 l0 l7
          obtain ⟨b,hb⟩:=HSome.out r.pos
          have Hb:=Lib.hid hb
          clear hb
          have HNb:=Lib.hid (HNo.out r HO.out.1 HO.out.2 HK.out _ b Hb.out)
          have lz:=row_lt hz7.out
          have ls:=row_lt hs7.out
          have hsw : w.heap.size+1 ≠ s:=Nat.ne_of_lt hsw0
          go_wp2_with (go_at_call 89;refine (HW.out w7.heap.size r.pos k1 r.seq _ (bl_alloc HB7.out _) HB7.out.size (row_new _ _) (by omega) (by omega) b Hb.out HNb.out).mono ?_;rintro e w8 ⟨rfl,hb8,hg8⟩;have HB8:=Lib.hid hb8;have hz8:=Lib.hid ((hg8.block _ (row_lt (row_old hz7.out)) (fun e=>by have:=Option.some.inj e;omega)).trans (row_old hz7.out));have hs8:=Lib.hid ((hg8.block _ (row_lt (row_old hs7.out)) (fun e=>by have:=Option.some.inj e;omega)).trans (row_old hs7.out));clear hb8 hg8;obtain ⟨z0,z1,z2,z3⟩:=four hz8.out;obtain ⟨t0,t1,t2,t3⟩:=four hs8.out;have fz0 : w8.frozen? ⟨w.heap.size+1,0,none⟩=false:=row_frozen hz8.out;have fz1 : w8.frozen? ⟨w.heap.size+1,1,none⟩=false:=row_frozen hz8.out;have fz2 : w8.frozen? ⟨w.heap.size+1,2,none⟩=false:=row_frozen hz8.out;have fz3 : w8.frozen? ⟨w.heap.size+1,3,none⟩=false:=row_frozen hz8.out)
          refine bodyPost_ret (ret_cellP (n:=w.heap.size+1) rfl rfl (row_set4 hz8.out) Tryz.underlying76 rfl Tryz.size76) rfl ⟨.inl ⟨r.pos,r.seq,⟨r,HO.out.1,HO.out.2,HK1.out⟩,rfl⟩,be_set (be_set (be_set (be_set HB8.out (Nat.le_succ _) _ _) (Nat.le_succ _) _ _) (Nat.le_succ _) _ _) (Nat.le_succ _) _ _⟩
    · have ek : ((r.kind : Int) != 1)=true:=by simp;omega
      clear hk
      go_quiet (fail)
      have hz5:=Lib.hid (row_drewN hz4.out nq)
      go_wp2
      refine bodyPost_ret (ret_cellP (n:=w.heap.size+1) rfl rfl (row_set4 hz5.out) Tryz.underlying76 rfl Tryz.size76) rfl ⟨.inr rfl,be_set (be_set (be_set (be_set (bl_drewN HB4.out _) (Nat.le_succ _) _ _) (Nat.le_succ _) _ _) (Nat.le_succ _) _ _) (Nat.le_succ _) _ _⟩
  · have hz4:=Lib.hid (row_old (o:=.cells #[.int .i64 0,.int .u64 0,.int .i64 0,.slice none 0 0,.slice none 0 0,.int .u32 0] 158) hz3.out)
    obtain ⟨z0,z1,z2,z3⟩:=four hz3.out
    have lz:=row_lt hz3.out
    have fz0 : w3.frozen? ⟨w.heap.size+1,0,none⟩=false:=row_frozen hz3.out
    have fz1 : w3.frozen? ⟨w.heap.size+1,1,none⟩=false:=row_frozen hz3.out
    have fz2 : w3.frozen? ⟨w.heap.size+1,2,none⟩=false:=row_frozen hz3.out
    have fz3 : w3.frozen? ⟨w.heap.size+1,3,none⟩=false:=row_frozen hz3.out
    clear c0 c1 c2 c3 c4 c5 c6 c7 c8 c9 l0
    go_quiet (fail)
    go_wp2
    refine bodyPost_ret (ret_cellP (n:=w.heap.size+1) rfl rfl (row_set4 (row_drewN hz4.out nq)) Tryz.underlying76 rfl Tryz.size76) rfl ⟨.inr rfl,be_set (be_set (be_set (be_set (bl_drewN (bl_alloc HB3.out _) _) (Nat.le_succ _) _ _) (Nat.le_succ _) _ _) (Nat.le_succ _) _ _) (Nat.le_succ _) _ _⟩
theorem jread_hid (HRep : RepIs) {w : World} {d : Nat} {bs : List ByteArray} (hD : DevIs w d bs) (l : Nat) (x1 x3 x5 x6 x7 x8 x9 : Int) (h1 : 128≤l) (h2 : l≤512) (hlen : l+2≤bs.length) (h128 : ∀ (k : Nat) (b : ByteArray),bs[k]?=some b→b.data.toList.length=128) (b1 : ByteArray) (hb1 : bs[1]?=some b1) (hno : ∀ r : Rec,r.ok→r.enc=b1.data.toList→r.kind=1→∀ (k : Nat) (b : ByteArray),bs[k]?=some b→NoTxn b.data.toList r.seq) :
    Calls Tryz.prog 36 #[.agg #[.pointer (some ⟨d,0,none⟩),.int .i64 x1,.int .i64 l,.int .i64 x3,.int .i64 1,.int .i64 x5,.int .i64 x6,.int .i64 x7,.int .i64 x8,.int .i64 x9]] w fun e w'=>ReadSays (Hid (∃ r : Rec,r.ok∧r.enc=b1.data.toList∧r.kind=1)) e∧Below w.heap.size w w' :=
  (jread_walk HRep hD l x1 x3 x5 x6 x7 x8 x9 h1 h2 hlen h128 b1 hb1 hno).mono fun e w' h=>⟨h.1.elim (fun ⟨p,q,hh,he⟩=>.inl ⟨p,q,Lib.hid hh,he⟩) .inr,h.2⟩
set_option maxRecDepth 100000 in
set_option maxHeartbeats 8000000 in
theorem replay_walk (HRep : RepIs) {w : World} {d : Nat} {bs : List ByteArray} (hD : DevIs w d bs) {b l m : Nat} (hb : b=bs.length) (hg : geoOk b l m) (h128 : ∀ (k : Nat) (b : ByteArray),bs[k]?=some b→b.data.toList.length=128) (b1 : ByteArray) (hb1 : bs[1]?=some b1) (hno : ∀ r : Rec,r.ok→r.enc=b1.data.toList→r.kind=1→∀ (k : Nat) (b : ByteArray),bs[k]?=some b→NoTxn b.data.toList r.seq) :
    Calls Tryz.prog 15 #[pV d,geoV b l m] w fun e w'=>(((∃ r : Rec,r.ok∧r.enc=b1.data.toList∧r.kind=1)∧e=.returned (.tuple #[.slice none 0 0,.int .i64 0]))∨e=.returned (.tuple #[.slice none 0 0,.int .i64 80]))∧Below w.heap.size w w':=by
  have HO:=Lib.hid (fun (W : World) (hB : Below w.heap.size w W)=>ringOf_walk (dev_below hD hB) hb hg)
  have HR:=Lib.hid (fun (W : World) (hB : Below w.heap.size w W)=>jread_hid HRep (dev_below hD hB) l b m (1+l : Nat) ((b+1023) / 1024 : Nat) (1+l+(b+1023) / 1024 : Nat) (m / 2 : Nat) (dataAt b l m : Nat) (by unfold geoOk at hg;omega) (by unfold geoOk at hg;omega) (by unfold geoOk dataAt at hg;omega) h128 b1 hb1 hno)
  clear hD hb h128 hb1 hno HRep hg
  unfold geoV ringV pV iV at *
  have hB0:=Lib.hid (below_one w (.cells #[.int .i64 (b : Nat),.int .i64 (l : Nat),.int .i64 (m : Nat),.int .i64 (1 : Nat),.int .i64 (1+l : Nat),.int .i64 ((b+1023) / 1024 : Nat),.int .i64 (1+l+(b+1023) / 1024 : Nat),.int .i64 (m / 2 : Nat),.int .i64 (dataAt b l m : Nat)] 42))
  generalize (1+l : Nat)=y1 at *
  go_enter Tryz.func15,Tryz.ntmps15
  go_wp2_with (first
    | (go_at_call 35;refine (HO.out _ hB0.out).mono ?_;rintro e w1 ⟨rfl,hb1⟩;have HB1:=Lib.hid (bl_trans hB0.out hb1);clear hb1)
    | (go_at_call 36;refine (HR.out _ (bl_alloc HB1.out _)).mono ?_;rintro e w2 ⟨he,hb2⟩;have HB2:=Lib.hid (bl_trans (bl_alloc HB1.out _) hb2);clear hb2;rcases he with ⟨p,q,hH,rfl⟩ | rfl))
  · go_ret2
    exact ⟨.inl ⟨hH.out,rfl⟩,bl_alloc HB2.out _⟩
  · go_ret2
    exact ⟨.inr rfl,bl_alloc HB2.out _⟩
end Go.Proofs.YtbamnpenkjfgkaaGreat
