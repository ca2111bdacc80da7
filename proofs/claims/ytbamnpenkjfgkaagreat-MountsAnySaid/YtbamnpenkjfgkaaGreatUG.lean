/- Where an inode stands; a bit of a text; sums. -/
import Derived.Test.YtbamnpenkjfgkaaGreatUA
import Derived.OwnWalk
import Derived.BigQuiet
import Derived.Deep.QuietTactic
import Derived.Below
import Derived.WalkKit
namespace Go.Proofs.YtbamnpenkjfgkaaGreat
open Go.RowKit
theorem nine {w : World} {n : Nat} {T : TypeId} {v0 v1 v2 v3 v4 v5 v6 v7 v8 : Value} (h : w.heap[n]?=some (.cells #[v0,v1,v2,v3,v4,v5,v6,v7,v8] T)) :
    n < w.heap.size∧w.cell? ⟨n,0,none⟩=some v0∧w.cell? ⟨n,1,none⟩=some v1∧w.cell? ⟨n,2,none⟩=some v2∧w.cell? ⟨n,3,none⟩=some v3∧w.cell? ⟨n,4,none⟩=some v4∧w.cell? ⟨n,5,none⟩=some v5∧w.cell? ⟨n,6,none⟩=some v6∧w.cell? ⟨n,7,none⟩=some v7∧w.cell? ⟨n,8,none⟩=some v8 :=
  ⟨row_lt h,row_cell h rfl,row_cell h rfl,row_cell h rfl,row_cell h rfl,row_cell h rfl,row_cell h rfl,row_cell h rfl,row_cell h rfl,row_cell h rfl⟩
set_option maxRecDepth 100000 in
set_option maxHeartbeats 8000000 in
theorem geoMay_walk (b l m : Nat) (h : geoOk b l m) (w : World) : Calls Tryz.prog 155 #[geoV b l m] w fun e w'=>e=.returned (.bool true)∧Below w.heap.size w w':=by
  have hO:=fun W=>of_walk b l m (by unfold geoOk at h;omega) (by unfold geoOk at h;omega) (by unfold geoOk at h;omega) W
  unfold geoPost at hO
  have hO2 : ∀ W,Calls Tryz.prog 23 #[iV b,iV l,iV m] W fun e w'=>e=.returned (.tuple #[geoV b l m,.int .i64 0])∧Below W.heap.size W w':=fun W=>(hO W).mono fun e w' hh=>⟨hh.1.elim (fun x=>x.2) (fun x=>absurd h x.1),hh.2⟩
  clear hO
  unfold geoV iV at *
  generalize dataAt b l m=da at *
  clear h
  go_enter Tryz.func155,Tryz.ntmps155
  go_wp2_with (go_at_call 23;refine (hO2 _).mono ?_;rintro e w0 ⟨rfl,hbl⟩;have hr0:=Lib.hid (row_below (row_new _ _) hbl);obtain ⟨l0,c0,c1,c2,c3,c4,c5,c6,c7,c8⟩:=nine hr0.out)
  go_ret;exact ⟨rfl,bl_alloc (bl_trans (below_one w _) hbl) _⟩
end Go.Proofs.YtbamnpenkjfgkaaGreat
namespace Go.Proofs.YtbamnpenkjfgkaaGreat
open Go.RowKit
set_option maxRecDepth 100000 in
set_option maxHeartbeats 8000000 in
theorem inoAt_walk (b l m n : Nat) (h : geoOk b l m) (hn : n < m) (w : World) : Calls Tryz.prog 95 #[geoV b l m,iV n] w fun e w'=>e=.returned (.tuple #[iV (dataAt b l m - m / 2+n / 2),iV (n % 2 * 64),.int .i64 0])∧Below w.heap.size w w':=by
  have hM:=fun W=>geoMay_walk b l m h W
  have hd : dataAt b l m - m / 2=1+l+(b+1023) / 1024:=by unfold dataAt;omega
  rw [hd]
  unfold geoV iV at *
  generalize dataAt b l m=da at *
  generalize hX : 1+l+(b+1023) / 1024=X at *
  have hX1 : X < 10000:=by unfold geoOk at h;omega
  have hm1 : m≤512:=by unfold geoOk at h;omega
  clear h hX hd
  go_enter Tryz.func95,Tryz.ntmps95
  have hr0:=Lib.hid (row_new w (.cells #[.int .i64 (b : Int),.int .i64 (l : Int),.int .i64 (m : Int),.int .i64 ((1 : Nat) : Int),.int .i64 ((1+l : Nat) : Int),.int .i64 (((b+1023) / 1024 : Nat) : Int),.int .i64 (X : Int),.int .i64 ((m / 2 : Nat) : Int),.int .i64 (da : Int)] 42))
  go_wp2_with (go_at_call 155;refine (hM _).mono ?_;rintro e w0 ⟨rfl,hbl⟩;have hr1:=Lib.hid (row_below hr0.out hbl);obtain ⟨l0,c0,c1,c2,c3,c4,c5,c6,c7,c8⟩:=nine hr1.out)
  all_goals first
    | (exfalso;omega)
    | (go_ret3
       exact ⟨by push_cast;rfl,bl_trans (below_one w _) hbl⟩)
end Go.Proofs.YtbamnpenkjfgkaaGreat
namespace Go.Proofs.YtbamnpenkjfgkaaGreat
open Go.RowKit
def SomeSum (e : Ending) : Prop:=∃ x : Int,e=.returned (.int .u32 x)
set_option maxRecDepth 100000 in
set_option maxHeartbeats 8000000 in
theorem more_walk (b : ByteArray) (x0 : Int) (hb : b.size < 1000000) (w : World) : Calls Tryz.prog 151 #[.int .u32 x0,.string b] w fun e w'=>SomeSum e∧w'=w:=by
  go_enter Tryz.func151,Tryz.ntmps151
  go_wp2
  go_loopw [0,10] (fun a i wr=>∃ (k : Nat) (x : Int),i=.int .i64 k∧a=.int .u32 x∧k≤b.size∧wr=w) (fun _ i _=>b.size - intV i)
  case atStart=>exact ⟨0,_,rfl,rfl,by omega,rfl⟩
  case round =>
    obtain ⟨k,x,rfl,rfl,hk,rfl⟩:=hrel
    by_cases hkn : k < b.size
    · have e1 : b[k]?=some (b[k]'hkn):=by simp [hkn]
      go_wp2
      obtain ⟨wo,hwo⟩ : ∃ wo,wo=wr:=⟨_,rfl⟩
      subst hwo
      go_loopw [0,19] (fun a i wr=>∃ (j : Nat) (y : Int),i=.int .i64 j∧a=.int .u32 y∧j≤8∧wr=wo) (fun _ i _=>8 - intV i)
      case atStart=>exact ⟨0,_,rfl,rfl,by omega,rfl⟩
      case round =>
        obtain ⟨j,y,rfl,rfl,hj,rfl⟩:=hrel
        by_cases hj8 : j < 8
        · go_wp2
          exact ⟨⟨j+1,_,by first | rfl | simp,rfl,by omega,trivial⟩,by simp [intV];omega⟩
        · have : j=8:=by omega
          subst this
          go_wp2
          exact ⟨⟨k+1,_,by first | rfl | simp,rfl,by omega,trivial⟩,by simp [intV];omega⟩
    · have : k=b.size:=by omega
      go_wp2
      go_ret
      exact ⟨⟨_,rfl⟩,rfl⟩
theorem low_bit (x : Fin 256) : bits .and .u8 (x.val : Int) 1=((x.val % 2 : Nat) : Int):=by
  revert x;decide +kernel
theorem low_bit_eq (x : Nat) (h : x < 256) : (bits .and .u8 (x : Int) 1 == 1)=(x % 2 == 1):=by
  rw [low_bit ⟨x,h⟩]
  rcases Nat.mod_two_eq_zero_or_one x with e | e <;> simp [e]
def hasBit (b : ByteArray) (n : Nat) : Bool:=decide (n / 8 < b.size) && (b.data.toList.getD (n / 8) 0).toNat / 2 ^ (n % 8) % 2 == 1
set_option maxRecDepth 100000 in
set_option maxHeartbeats 8000000 in
theorem has_walk (b : ByteArray) (n : Nat) (hn : n < 1000000) (hb : b.size < 1000000) (w : World) : Calls Tryz.prog 102 #[.string b,.int .i64 n] w fun e w'=>e=.returned (.bool (hasBit b n))∧w'=w:=by
  by_cases hk : n / 8 < b.size
  · have e1 : b[n / 8]?=some (b[n / 8]'hk):=by simp [hk]
    go_enter Tryz.func102,Tryz.ntmps102
    go_wp2
    go_ret
    refine ⟨?_,rfl⟩
    have hx : b[n / 8].toNat / 2 ^ (n % 8) < 256:=Nat.lt_of_le_of_lt (Nat.div_le_self _ _) (UInt8.toNat_lt _)
    have e2 : ((b[n / 8].toNat : Int) / 2 ^ (n % 8))=((b[n / 8].toNat / 2 ^ (n % 8) : Nat) : Int):=by push_cast;rfl
    rw [e2,low_bit_eq _ hx]
    unfold hasBit
    have e3 : b.data.toList.getD (n / 8) 0=b[n / 8]:=by
      rw [List.getD_eq_getElem?_getD,List.getElem?_eq_getElem (by simpa using hk)];rfl
    rw [e3];simp [hk]
  · go_enter Tryz.func102,Tryz.ntmps102
    go_wp2
    go_ret
    exact ⟨by unfold hasBit;simp [hk],rfl⟩
end Go.Proofs.YtbamnpenkjfgkaaGreat
namespace Go.Proofs.YtbamnpenkjfgkaaGreat
open Go.RowKit
def pV (n : Nat) : Value:=.pointer (some ⟨n,0,none⟩)
def DevIs (w : World) (d : Nat) (bs : List ByteArray) : Prop :=
  ∃ (x y : Nat) (c1 c2 : Nat) (z z3 z4 z5 : Value) (cs : Array Value),w.heap[d]?=some (.cells #[.slice (some ⟨x,0,none⟩) bs.length c1,.slice (some ⟨y,0,none⟩) bs.length c2,z,z3,z4,z5] 65)∧w.heap[y]?=some (.cells cs 9)∧∀ (k : Nat) (b : ByteArray),bs[k]?=some b→cs[k]?=some (Value.string b)
theorem dev_below {w w' : World} {d : Nat} {bs : List ByteArray} (h : DevIs w d bs) (hb : Below w.heap.size w w') : DevIs w' d bs:=by
  obtain ⟨x,y,c1,c2,z,z3,z4,z5,cs,h1,h2,h3⟩:=h
  exact ⟨x,y,c1,c2,z,z3,z4,z5,cs,row_below h1 hb,row_below h2 hb,h3⟩
theorem three {w : World} {n : Nat} {T : TypeId} {v0 v1 v2 v3 v4 v5 : Value} (h : w.heap[n]?=some (.cells #[v0,v1,v2,v3,v4,v5] T)) :
    n < w.heap.size∧w.cell? ⟨n,0,none⟩=some v0∧w.cell? ⟨n,1,none⟩=some v1∧w.cell? ⟨n,2,none⟩=some v2 :=
  ⟨row_lt h,row_cell h rfl,row_cell h rfl,row_cell h rfl⟩
set_option maxRecDepth 100000 in
set_option maxHeartbeats 8000000 in
theorem blocks_walk {w : World} {d : Nat} {bs : List ByteArray} (h : DevIs w d bs) : Calls Tryz.prog 12 #[pV d] w fun e w'=>e=.returned (iV bs.length)∧w'=w:=by
  obtain ⟨x,y,c1,c2,z,z3,z4,z5,cs,h1,h2,h3⟩:=h
  obtain ⟨l0,f0,f1,f2⟩:=three h1
  have H2:=Lib.hid h2
  have H1:=Lib.hid h1
  have H3:=Lib.hid h3
  clear h1 h2 h3
  unfold pV iV
  go_enter Tryz.func12,Tryz.ntmps12
  go_wp2
  go_ret
  exact ⟨rfl,rfl⟩
set_option maxRecDepth 100000 in
set_option maxHeartbeats 8000000 in
theorem ask_walk {w : World} {d : Nat} {bs : List ByteArray} (h : DevIs w d bs) {k : Nat} (hk : k < bs.length) : Calls Tryz.prog 54 #[pV d,iV k] w fun e w'=>e=.returned (.int .i64 0)∧w'=w:=by
  have hB:=Lib.hid (blocks_walk h)
  unfold pV iV at *
  go_enter Tryz.func54,Tryz.ntmps54
  go_wp2_with (go_at_call 12;refine hB.out.mono ?_;rintro e w0 ⟨rfl,rfl⟩)
  all_goals first
    | (exfalso;omega)
    | (exfalso;rename_i hz;simp at hz;omega)
    | (go_ret;exact ⟨rfl,rfl⟩)
set_option maxRecDepth 100000 in
set_option maxHeartbeats 8000000 in
theorem read_walk {w : World} {d : Nat} {bs : List ByteArray} (h : DevIs w d bs) {k : Nat} {b : ByteArray} (hk : bs[k]?=some b) : Calls Tryz.prog 18 #[pV d,iV k] w fun e w'=>e=.returned (.tuple #[.string b,.int .i64 0])∧w'=w:=by
  have hkl : k < bs.length:=(List.getElem?_eq_some_iff.mp hk).1
  have hB:=Lib.hid (ask_walk h hkl)
  obtain ⟨x,y,c1,c2,z,z3,z4,z5,cs,h1,h2,h3⟩:=h
  obtain ⟨l0,f0,f1,f2⟩:=three h1
  have ly:=row_lt h2
  have hc:=row_cell h2 (h3 k b hk)
  have H2:=Lib.hid h2
  have H1:=Lib.hid h1
  have H3:=Lib.hid h3
  clear h1 h2 h3 hk
  unfold pV iV at *
  go_enter Tryz.func18,Tryz.ntmps18
  go_wp2_with (go_at_call 54;refine hB.out.mono ?_;rintro e w0 ⟨rfl,rfl⟩)
  go_ret2
  exact ⟨rfl,rfl⟩
end Go.Proofs.YtbamnpenkjfgkaaGreat
namespace Go.Proofs.YtbamnpenkjfgkaaGreat
open Go.RowKit
theorem row_drewN {w : World} {n : Nat} {o : Obj} (h : w.heap[n]?=some o) (k : Nat) : (w.drewN k).heap[n]?=some o:=h
theorem dev_drewN {w : World} {d : Nat} {bs : List ByteArray} (h : DevIs w d bs) (n : Nat) : DevIs (w.drewN n) d bs:=h
theorem row_set9 {w : World} {n : Nat} {T : TypeId} {a0 a1 a2 a3 a4 a5 a6 a7 a8 v0 v1 v2 v3 v4 v5 v6 v7 v8 : Value} (h : w.heap[n]?=some (.cells #[a0,a1,a2,a3,a4,a5,a6,a7,a8] T (0,0))) :
    ((((((((((w.setCell ⟨n,0,none⟩ v0).setCell ⟨n,1,none⟩ v1).setCell ⟨n,2,none⟩ v2).setCell ⟨n,3,none⟩ v3).setCell ⟨n,4,none⟩ v4).setCell ⟨n,5,none⟩ v5).setCell ⟨n,6,none⟩ v6).setCell ⟨n,7,none⟩ v7).setCell ⟨n,8,none⟩ v8)).heap[n]?=some (.cells #[v0,v1,v2,v3,v4,v5,v6,v7,v8] T (0,0)):=by
  have h0:=row_set (i:=0) h v0
  have h1:=row_set (i:=1) h0 v1
  have h2:=row_set (i:=2) h1 v2
  have h3:=row_set (i:=3) h2 v3
  have h4:=row_set (i:=4) h3 v4
  have h5:=row_set (i:=5) h4 v5
  have h6:=row_set (i:=6) h5 v6
  have h7:=row_set (i:=7) h6 v7
  have h8:=row_set (i:=8) h7 v8
  simpa using h8
theorem bl_drewN {w a : World} (h : Below w.heap.size w a) (n : Nat) : Below w.heap.size w (a.drewN n):=⟨h.os,h.tape,h.output,h.size,h.block⟩
theorem bl_set9 {w a : World} (h : Below w.heap.size w a) {v0 v1 v2 v3 v4 v5 v6 v7 v8 : Value} : Below w.heap.size w ((((((((((a.setCell ⟨w.heap.size,0,none⟩ v0).setCell ⟨w.heap.size,1,none⟩ v1).setCell ⟨w.heap.size,2,none⟩ v2).setCell ⟨w.heap.size,3,none⟩ v3).setCell ⟨w.heap.size,4,none⟩ v4).setCell ⟨w.heap.size,5,none⟩ v5).setCell ⟨w.heap.size,6,none⟩ v6).setCell ⟨w.heap.size,7,none⟩ v7).setCell ⟨w.heap.size,8,none⟩ v8)) :=
  bl_set (bl_set (bl_set (bl_set (bl_set (bl_set (bl_set (bl_set (bl_set h (Nat.le_refl _) _ _) (Nat.le_refl _) _ _) (Nat.le_refl _) _ _) (Nat.le_refl _) _ _) (Nat.le_refl _) _ _) (Nat.le_refl _) _ _) (Nat.le_refl _) _ _) (Nat.le_refl _) _ _) (Nat.le_refl _) _ _
def supGood (l : List UInt8) (n : Nat) : Prop:=(decS l).ok∧(decS l).enc=l∧(decS l).b=n
def LaidSays (l : List UInt8) (n : Nat) (e : Ending) : Prop:=(supGood l n∧e=.returned (.tuple #[geoV (decS l).b (decS l).l (decS l).m,.int .i64 0]))∨(¬ supGood l n∧e=.returned (.tuple #[geo0,.int .i64 230]))
set_option maxRecDepth 100000 in
set_option maxHeartbeats 8000000 in
theorem laid_bad (HRep : RepIs) {w : World} {d : Nat} {bs : List ByteArray} (h : DevIs w d bs) {b : ByteArray} {l : List UInt8} (hb : bs[0]?=some b) (hl : b.data.toList=l) (hlen : l.length=128) (hno : ¬ ((decS l).ok∧(decS l).enc=l)) : Calls Tryz.prog 14 #[pV d] w fun e w'=>e=.returned (.tuple #[geo0,.int .i64 230])∧Below w.heap.size w w':=by
  have HS:=fun W=>(supDec_walk HRep b l hl hlen W).mono fun e w' hh=>(⟨hh.1.elim (fun x=>absurd x.1 hno) (fun x=>x.2),hh.2⟩ : e=.returned (.tuple #[sup0,.int .i64 80])∧Below W.heap.size W w')
  have HS:=Lib.hid HS
  have HD:=Lib.hid (dev_below h (below_one w (.cells #[.int .i64 0,.int .i64 0,.int .i64 0,.int .i64 0,.int .i64 0,.int .i64 0,.int .i64 0,.int .i64 0,.int .i64 0] 42)))
  have hb:=Lib.hid hb
  have HR:=Lib.hid (row_new w (.cells #[.int .i64 0,.int .i64 0,.int .i64 0,.int .i64 0,.int .i64 0,.int .i64 0,.int .i64 0,.int .i64 0,.int .i64 0] 42))
  clear h hno hl hlen HRep
  unfold pV sup0 at *
  go_enter Tryz.func14,Tryz.ntmps14
  go_wp2_with first | (go_at_call 18;refine (read_walk HD.out hb.out).mono ?_;rintro e w0 ⟨rfl,rfl⟩) | (go_at_call 34;refine (HS.out _).mono ?_;rintro e w2 ⟨rfl,hb2⟩;have hr2:=Lib.hid (row_below HR.out hb2);have hB2:=Lib.hid hb2;obtain ⟨l0,c0,c1,c2,c3,c4,c5,c6,c7,c8⟩:=nine hr2.out;obtain ⟨f0,f1,f2,f3,f4,f5,f6,f7,f8,f9⟩:=tenF hr2.out;clear hb2)
  go_quiet ((fail))
  go_wp2
  refine bodyPost_ret (ret_cellP (n:=w.heap.size) rfl rfl (row_set9 (row_old (w:=w2) hr2.out)) Tryz.underlying42 rfl Tryz.size42) rfl ⟨rfl,?_⟩
  exact bl_set9 (bl_drewN (bl_alloc (bl_trans (below_one w _) hB2.out) _) _)
set_option maxRecDepth 100000 in
set_option maxHeartbeats 8000000 in
theorem laid_other (HRep : RepIs) {w : World} {d : Nat} {bs : List ByteArray} (h : DevIs w d bs) {b : ByteArray} {l : List UInt8} (hb : bs[0]?=some b) (hl : b.data.toList=l) (hlen : l.length=128) (hyes : (decS l).ok∧(decS l).enc=l) (hne : (decS l).b ≠ bs.length) : Calls Tryz.prog 14 #[pV d] w fun e w'=>e=.returned (.tuple #[geo0,.int .i64 230])∧Below w.heap.size w w':=by
  have HS:=fun W=>(supDec_walk HRep b l hl hlen W).mono fun e w' hh=>(⟨hh.1.elim (fun x=>x.2) (fun x=>absurd hyes x.1),hh.2⟩ : e=.returned (.tuple #[(decS l).v,.int .i64 0])∧Below W.heap.size W w')
  have HD:=Lib.hid (dev_below h (below_one w (.cells #[.int .i64 0,.int .i64 0,.int .i64 0,.int .i64 0,.int .i64 0,.int .i64 0,.int .i64 0,.int .i64 0,.int .i64 0] 42)))
  have hb:=Lib.hid hb
  have HR:=Lib.hid (row_new w (.cells #[.int .i64 0,.int .i64 0,.int .i64 0,.int .i64 0,.int .i64 0,.int .i64 0,.int .i64 0,.int .i64 0,.int .i64 0] 42))
  generalize decS l=s at *
  obtain ⟨sb,sl,sm,s3,s4,s5,s6,s7,s8,s9⟩:=s
  dsimp only at *
  have HS:=Lib.hid HS
  have hcmp : ((sb : Int) != (bs.length : Int))=true:=by simp;omega
  clear h hyes hl hlen HRep hne
  unfold pV Sup.v iV at *
  dsimp only at *
  go_enter Tryz.func14,Tryz.ntmps14
  go_wp2_with first | (go_at_call 18;refine (read_walk HD.out hb.out).mono ?_;rintro e w0 ⟨rfl,rfl⟩) | (go_at_call 34;refine (HS.out _).mono ?_;rintro e w2 ⟨rfl,hb2⟩;have hr2:=Lib.hid (row_below HR.out hb2);have hD2:=Lib.hid (dev_below HD.out hb2);have hB2:=Lib.hid hb2;obtain ⟨l0,c0,c1,c2,c3,c4,c5,c6,c7,c8⟩:=nine hr2.out;obtain ⟨f0,f1,f2,f3,f4,f5,f6,f7,f8,f9⟩:=tenF hr2.out;clear hb2)
  have HQ:=Lib.hid (fun (o : Obj) (n : Nat)=>blocks_walk (dev_drewN (dev_below hD2.out (below_one w2 o)) n))
  unfold pV iV at HQ
  go_quiet ((go_at_call 12;exact Calls.quiet_of_same (HQ.out _ _)))
  go_wp2
  refine bodyPost_ret (ret_cellP (n:=w.heap.size) rfl rfl (row_set9 (row_old (w:=w2) hr2.out)) Tryz.underlying42 rfl Tryz.size42) rfl ⟨rfl,?_⟩
  exact bl_set9 (bl_drewN (bl_alloc (bl_trans (below_one w _) hB2.out) _) _)
set_option maxRecDepth 100000 in
set_option maxHeartbeats 8000000 in
theorem laid_ok (HRep : RepIs) {w : World} {d : Nat} {bs : List ByteArray} (h : DevIs w d bs) {b : ByteArray} {l : List UInt8} (hb : bs[0]?=some b) (hl : b.data.toList=l) (hlen : l.length=128) (hyes : (decS l).ok∧(decS l).enc=l) (hne : (decS l).b=bs.length) : Calls Tryz.prog 14 #[pV d] w fun e w'=>e=.returned (.tuple #[geoV (decS l).b (decS l).l (decS l).m,.int .i64 0])∧Below w.heap.size w w':=by
  have HS:=fun W=>(supDec_walk HRep b l hl hlen W).mono fun e w' hh=>(⟨hh.1.elim (fun x=>x.2) (fun x=>absurd hyes x.1),hh.2⟩ : e=.returned (.tuple #[(decS l).v,.int .i64 0])∧Below W.heap.size W w')
  have HD:=Lib.hid (dev_below h (below_one w (.cells #[.int .i64 0,.int .i64 0,.int .i64 0,.int .i64 0,.int .i64 0,.int .i64 0,.int .i64 0,.int .i64 0,.int .i64 0] 42)))
  have hb:=Lib.hid hb
  have HR:=Lib.hid (row_new w (.cells #[.int .i64 0,.int .i64 0,.int .i64 0,.int .i64 0,.int .i64 0,.int .i64 0,.int .i64 0,.int .i64 0,.int .i64 0] 42))
  generalize decS l=s at *
  obtain ⟨sb,sl,sm,s3,s4,s5,s6,s7,s8,s9⟩:=s
  have hg : geoOk sb sl sm:=hyes.1.1
  have hO:=fun W=>of_walk sb sl sm (by unfold geoOk at hg;omega) (by unfold geoOk at hg;omega) (by unfold geoOk at hg;omega) W
  unfold geoPost at hO
  have hO2 : ∀ W,Calls Tryz.prog 23 #[iV sb,iV sl,iV sm] W fun e w'=>e=.returned (.tuple #[geoV sb sl sm,.int .i64 0])∧Below W.heap.size W w':=fun W=>(hO W).mono fun e w' hh=>⟨hh.1.elim (fun x=>x.2) (fun x=>absurd hg x.1),hh.2⟩
  dsimp only at *
  have HS:=Lib.hid HS
  have HO:=Lib.hid hO2
  have hcmp : ((sb : Int) != (bs.length : Int))=false:=by simp;omega
  clear h hyes hl hlen HRep hne hO hO2 hg
  unfold pV Sup.v geoV iV at *
  dsimp only at *
  generalize dataAt sb sl sm=da at *
  go_enter Tryz.func14,Tryz.ntmps14
  go_wp2_with first | (go_at_call 18;refine (read_walk HD.out hb.out).mono ?_;rintro e w0 ⟨rfl,rfl⟩) | (go_at_call 34;refine (HS.out _).mono ?_;rintro e w2 ⟨rfl,hb2⟩;have hr2:=Lib.hid (row_below HR.out hb2);have hD2:=Lib.hid (dev_below HD.out hb2);have hB2:=Lib.hid hb2;obtain ⟨l0,c0,c1,c2,c3,c4,c5,c6,c7,c8⟩:=nine hr2.out;obtain ⟨f0,f1,f2,f3,f4,f5,f6,f7,f8,f9⟩:=tenF hr2.out;clear hb2)
  have HQ:=Lib.hid (fun (o : Obj) (n : Nat)=>blocks_walk (dev_drewN (dev_below hD2.out (below_one w2 o)) n))
  unfold pV iV at HQ
  go_quiet ((go_at_call 12;exact Calls.quiet_of_same (HQ.out _ _)))
  clear c0 c1 c2 c3 c4 c5 c6 c7 c8 f0 f1 f2 f3 f4 f5 f6 f7 f8 f9
  go_wp2_with (go_at_call 23;refine (HO.out _).mono ?_;rintro e w3 ⟨rfl,hb3⟩;have hr3:=Lib.hid (row_below (row_drewN (row_old (w:=w2) hr2.out) _) hb3);have hB3:=Lib.hid (bl_trans (bl_drewN (bl_alloc (bl_trans (below_one w _) hB2.out) _) _) hb3);obtain ⟨l0,c0,c1,c2,c3,c4,c5,c6,c7,c8⟩:=nine hr3.out;obtain ⟨f0,f1,f2,f3,f4,f5,f6,f7,f8,f9⟩:=tenF hr3.out;clear hb3)
  refine bodyPost_ret (ret_cellP (n:=w.heap.size) rfl rfl (row_old (row_set9 hr3.out)) Tryz.underlying42 rfl Tryz.size42) rfl ⟨by push_cast;rfl,?_⟩
  exact bl_alloc (bl_set9 hB3.out) _
theorem laid_walk (HRep : RepIs) {w : World} {d : Nat} {bs : List ByteArray} (h : DevIs w d bs) {b : ByteArray} {l : List UInt8} (hb : bs[0]?=some b) (hl : b.data.toList=l) (hlen : l.length=128) : Calls Tryz.prog 14 #[pV d] w fun e w'=>LaidSays l bs.length e∧Below w.heap.size w w':=by
  by_cases hyes : (decS l).ok∧(decS l).enc=l
  · by_cases hn : (decS l).b=bs.length
    · exact (laid_ok HRep h hb hl hlen hyes hn).mono fun e w' x=>⟨.inl ⟨⟨hyes.1,hyes.2,hn⟩,x.1⟩,x.2⟩
    · exact (laid_other HRep h hb hl hlen hyes hn).mono fun e w' x=>⟨.inr ⟨fun y=>hn y.2.2,x.1⟩,x.2⟩
  · exact (laid_bad HRep h hb hl hlen hyes).mono fun e w' x=>⟨.inr ⟨fun y=>hyes ⟨y.1,y.2.1⟩,x.1⟩,x.2⟩
end Go.Proofs.YtbamnpenkjfgkaaGreat
namespace Go.Proofs.YtbamnpenkjfgkaaGreat
open Go.RowKit
theorem alloc_sz (w : World) (o : Obj) : (w.alloc o).heap.size=w.heap.size+1:=by unfold World.alloc;simp
theorem row_new2 (w : World) (o p : Obj) : ((w.alloc o).alloc p).heap[w.heap.size+1]?=some p:=by
  have h:=row_new (w.alloc o) p
  rwa [alloc_sz] at h
theorem bl_set10 {w a : World} (h : Below w.heap.size w a) {n : Nat} (hn : w.heap.size≤n) {v0 v1 v2 v3 v4 v5 v6 v7 v8 v9 : Value} : Below w.heap.size w (((((((((((a.setCell ⟨n,0,none⟩ v0).setCell ⟨n,1,none⟩ v1).setCell ⟨n,2,none⟩ v2).setCell ⟨n,3,none⟩ v3).setCell ⟨n,4,none⟩ v4).setCell ⟨n,5,none⟩ v5).setCell ⟨n,6,none⟩ v6).setCell ⟨n,7,none⟩ v7).setCell ⟨n,8,none⟩ v8).setCell ⟨n,9,none⟩ v9)) :=
  bl_set (bl_set (bl_set (bl_set (bl_set (bl_set (bl_set (bl_set (bl_set (bl_set h hn _ _) hn _ _) hn _ _) hn _ _) hn _ _) hn _ _) hn _ _) hn _ _) hn _ _) hn _ _
theorem Tryz.size71 : (Tryz.prog.info? 71).map (·.size)=some 10:=by kernel_rfl
def ringV (d b l m : Nat) : Value:=.agg #[pV d,iV b,iV l,iV m,iV 1,iV (1+l),iV ((b+1023) / 1024),iV (1+l+(b+1023) / 1024),iV (m / 2),iV (dataAt b l m)]
set_option maxRecDepth 100000 in
set_option maxHeartbeats 8000000 in
theorem ringOf_walk {w : World} {d : Nat} {bs : List ByteArray} (h : DevIs w d bs) {b l m : Nat} (hb : b=bs.length) (hg : geoOk b l m) : Calls Tryz.prog 35 #[pV d,geoV b l m] w fun e w'=>e=.returned (.tuple #[ringV d b l m,.int .i64 0])∧Below w.heap.size w w':=by
  have hO:=fun W=>of_walk b l m (by unfold geoOk at hg;omega) (by unfold geoOk at hg;omega) (by unfold geoOk at hg;omega) W
  unfold geoPost at hO
  have HO:=Lib.hid (fun W=>(hO W).mono fun e w' hh=>(⟨hh.1.elim (fun x=>x.2) (fun x=>absurd hg x.1),hh.2⟩ : e=.returned (.tuple #[geoV b l m,.int .i64 0])∧Below W.heap.size W w'))
  have hB0:=below_one w (.cells #[.int .i64 b,.int .i64 l,.int .i64 m,.int .i64 ((1 : Nat) : Int),.int .i64 ((1+l : Nat) : Int),.int .i64 (((b+1023) / 1024 : Nat) : Int),.int .i64 ((1+l+(b+1023) / 1024 : Nat) : Int),.int .i64 ((m / 2 : Nat) : Int),.int .i64 (dataAt b l m : Int)] 42)
  have hnz : ((bs.length : Int) == 0)=false:=by unfold geoOk at hg;simp;intro h0;subst h0;simp at hb;omega
  have hbb : ((bs.length : Int) != (b : Int))=false:=by simp;omega
  have HD:=Lib.hid h
  have HQ:=Lib.hid (fun (W : World) (h : DevIs W d bs)=>blocks_walk h)
  clear hO hg h hb
  unfold ringV pV geoV iV at *
  generalize dataAt b l m=da at *
  go_enter Tryz.func35,Tryz.ntmps35
  go_wp2_with first | (go_at_call 12;refine (HQ.out _ (dev_below (dev_below HD.out (below_one w _)) (below_one _ _))).mono ?_;rintro e w0 ⟨rfl,rfl⟩) | (go_at_call 23;refine (HO.out _).mono ?_;rintro e w3 ⟨rfl,hb3⟩;have HB3:=Lib.hid hb3;have hD3:=Lib.hid (dev_below (dev_below (dev_below HD.out (below_one w _)) (below_one _ _)) hb3);have hr3:=Lib.hid (row_below (row_old (row_new w _)) hb3);have hr4:=Lib.hid (row_below (row_new2 w _ _) hb3);clear hb3;obtain ⟨l0,c0,c1,c2,c3,c4,c5,c6,c7,c8⟩:=nine hr3.out;obtain ⟨m0,d0,d1,d2,d3,d4,d5,d6,d7,d8,d9⟩:=ten hr4.out;obtain ⟨f0,f1,f2,f3,f4,f5,f6,f7,f8,f9⟩:=tenF hr4.out)
  have HQ2:=Lib.hid (fun (o : Obj) (n : Nat)=>HQ.out _ (dev_drewN (dev_below hD3.out (below_one w3 o)) n))
  go_quiet ((go_at_call 12;exact Calls.quiet_of_same (HQ2.out _ _)))
  go_wp2
  refine bodyPost_ret (ret_cellP (n:=w.heap.size+1) rfl rfl (row_set10 (row_drewN (row_old (w:=w3) hr4.out) _)) Tryz.underlying71 rfl Tryz.size71) rfl ⟨by push_cast;rfl,?_⟩
  exact bl_set10 (bl_drewN (bl_alloc (bl_trans (below_two w _ _) HB3.out) _) _) (Nat.le_succ _)
end Go.Proofs.YtbamnpenkjfgkaaGreat
namespace Go.Proofs.YtbamnpenkjfgkaaGreat
open Go.RowKit
def ext (w : World) (x : World) : World:={ w with heap:=w.heap ++ x.heap,drawn:=x.drawn }
theorem ext_heap (w : World) (x : World) {b : Nat} (h : b < w.heap.size) : (ext w x).heap[b]?=w.heap[b]?:=by
  show (w.heap ++ x.heap)[b]?=_
  rw [Array.getElem?_append_left h]
theorem ext_cell (w : World) (x : World) {b o : Nat} (h : b < w.heap.size) : (ext w x).cell? ⟨b,o,none⟩=w.cell? ⟨b,o,none⟩ :=
  World.cell?_of_block (a:=⟨b,o,none⟩) (ext_heap w x h)
end Go.Proofs.YtbamnpenkjfgkaaGreat
