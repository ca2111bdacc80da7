/- Laid. -/
import Derived.Shelf.SlSortCmp.WholeK
import Derived.Test.YtbamnpenkjfgkaaGreatProg
import Derived.Test.YtbamnpenkjfgkaaGreatUO
import Derived.Test.YtbamnpenkjfgkaaGreatUI
import Derived.Test.YtbamnpenkjfgkaaGreatUJ
namespace Go.Proofs
open Go.Shelf
def Tryz.sortFault_ren : Go.Shelf.Ren:=⟨fun | 6=>49 | 15=>108 | 14=>107 | 28=>174 | 29=>175 | 20=>166 | 21=>167 | 22=>168 | 23=>169 | 24=>170 | 25=>171 | 26=>172 | 27=>173 | 46=>233 | 47=>234 | 48=>235 | 49=>236 | 50=>237 | 57=>281 | n=>n,fun | 22=>31 | 24=>93 | 25=>105 | 3=>3 | 39=>137 | 0=>0 | 53=>156 | 55=>74 | 4=>4 | 46=>281 | 45=>280 | 50=>153 | 5=>5 | 9=>9 | 66=>339 | 70=>151 | 76=>382 | 77=>383 | n=>n,fun | n=>n⟩
theorem Tryz.sortFault : Go.Proofs.SlLaysF0.n6 Tryz.prog Tryz.sortFault_ren:={
  mixed:=by kernel_rfl
  f6:=⟨Tryz.f49.name,by decide,Tryz.func49.trans (congrArg some (by kernel_rfl))⟩
  f14:=⟨Tryz.f107.name,by decide,Tryz.func107.trans (congrArg some (by kernel_rfl))⟩
  f15:=Tryz.func108.trans (congrArg some (by kernel_rfl))
  f20:=⟨Tryz.f166.name,by decide,Tryz.func166.trans (congrArg some (by kernel_rfl))⟩
  f21:=⟨Tryz.f167.name,by decide,Tryz.func167.trans (congrArg some (by kernel_rfl))⟩
  f22:=⟨Tryz.f168.name,by decide,Tryz.func168.trans (congrArg some (by kernel_rfl))⟩
  f23:=⟨Tryz.f169.name,by decide,Tryz.func169.trans (congrArg some (by kernel_rfl))⟩
  f24:=⟨Tryz.f170.name,by decide,Tryz.func170.trans (congrArg some (by kernel_rfl))⟩
  f25:=⟨Tryz.f171.name,by decide,Tryz.func171.trans (congrArg some (by kernel_rfl))⟩
  f26:=⟨Tryz.f172.name,by decide,Tryz.func172.trans (congrArg some (by kernel_rfl))⟩
  f27:=⟨Tryz.f173.name,by decide,Tryz.func173.trans (congrArg some (by kernel_rfl))⟩
  f28:=Tryz.func174.trans (congrArg some (by kernel_rfl))
  f29:=Tryz.func175.trans (congrArg some (by kernel_rfl))
  f46:=⟨Tryz.f233.name,by decide,Tryz.func233.trans (congrArg some (by kernel_rfl))⟩
  f47:=Tryz.func234.trans (congrArg some (by kernel_rfl))
  f48:=Tryz.func235.trans (congrArg some (by kernel_rfl))
  f49:=⟨Tryz.f236.name,by decide,Tryz.func236.trans (congrArg some (by kernel_rfl))⟩
  f50:=⟨Tryz.f237.name,by decide,Tryz.func237.trans (congrArg some (by kernel_rfl))⟩
  f57:=⟨Tryz.f281.name,by decide,Tryz.func281.trans (congrArg some (by kernel_rfl))⟩
  t0:=Tryz.underlying0
  a0:=Tryz.isAgg0
  z0:=Tryz.sizeOf0
  v0:=Tryz.zeroValue0
  t3:=Tryz.underlying3
  a3:=Tryz.isAgg3
  z3:=Tryz.sizeOf3
  v3:=Tryz.zeroValue3
  t4:=Tryz.underlying4
  a4:=Tryz.isAgg4
  z4:=Tryz.sizeOf4
  v4:=Tryz.zeroValue4
  t5:=Tryz.underlying5
  a5:=Tryz.isAgg5
  z5:=Tryz.sizeOf5
  v5:=Tryz.zeroValue5
  t9:=Tryz.underlying9
  a9:=Tryz.isAgg9
  z9:=Tryz.sizeOf9
  v9:=Tryz.zeroValue9
  t22:=Tryz.underlying31
  a22:=Tryz.isAgg31
  z22:=Tryz.sizeOf31
  v22:=Tryz.zeroValue31
  t25:=Tryz.underlying105
  a25:=Tryz.isAgg105
  z25:=Tryz.sizeOf105
  v25:=Tryz.zeroValue105
  t39:=Tryz.underlying137
  a39:=Tryz.isAgg137
  z39:=Tryz.sizeOf137
  v39:=Tryz.zeroValue137
  t45:=Tryz.underlying280
  a45:=Tryz.isAgg280
  z45:=Tryz.sizeOf280
  v45:=Tryz.zeroValue280
  t46:=Tryz.underlying281
  a46:=Tryz.isAgg281
  z46:=Tryz.sizeOf281
  v46:=Tryz.zeroValue281
  t50:=Tryz.underlying153
  a50:=Tryz.isAgg153
  z50:=Tryz.sizeOf153
  v50:=Tryz.zeroValue153
  t53:=Tryz.underlying156
  a53:=Tryz.isAgg156
  z53:=Tryz.sizeOf156
  v53:=Tryz.zeroValue156
  t55:=Tryz.underlying74
  a55:=Tryz.isAgg74
  z55:=Tryz.sizeOf74
  v55:=Tryz.zeroValue74
  t66:=Tryz.underlying339
  a66:=Tryz.isAgg339
  z66:=Tryz.sizeOf339
  v66:=Tryz.zeroValue339
  t70:=Tryz.underlying151
  a70:=Tryz.isAgg151
  z70:=Tryz.sizeOf151
  v70:=Tryz.zeroValue151
  t76:=Tryz.underlying382
  a76:=Tryz.isAgg382
  z76:=Tryz.sizeOf382
  v76:=Tryz.zeroValue382
  t77:=Tryz.underlying383
  a77:=Tryz.isAgg383
  z77:=Tryz.sizeOf383
  v77:=Tryz.zeroValue383 }
end Go.Proofs
namespace Go.Proofs.YtbamnpenkjfgkaaGreat
open Go.RowKit Go.Sort Go.Shelf
def encP (x : Int × Int) : List Value:=[.int .i64 x.1,.int .i64 x.2]
def cfP (x y : Int × Int) : Int:=orI (cmpI x.1 y.1) (cmpI x.2 y.2)
theorem cmp_neg (x y : Int) : (cmpI x y < 0 ↔ x < y)∧(cmpI x y=0 ↔ x=y):=by
  unfold cmpI
  by_cases h1 : x < y
  · simp [h1];omega
  · by_cases h2 : y < x
    · simp [h1,h2];omega
    · simp [h1,h2];omega
theorem ltP (x y : Int × Int) : ltOf cfP x y=decide (x.1 < y.1∨(x.1=y.1∧x.2 < y.2)):=by
  unfold ltOf
  apply decide_eq_decide.2
  unfold cfP orI
  have h1:=cmp_neg x.1 y.1
  have h2:=cmp_neg x.2 y.2
  by_cases h : cmpI x.1 y.1=0
  · rw [if_neg (fun g=>g h),h2.1]
    have:=h1.2.1 h
    omega
  · rw [if_pos h,h1.1]
    have:=fun g=>h (h1.2.2 g)
    omega
theorem swoP : SWO (ltOf cfP) where
  irrefl x:=by rw [ltP];simp
  trans x y z h1 h2:=by rw [ltP] at *;simp at *;omega
  ntrans x y z h1 h2:=by rw [ltP] at *;simp at *;omega
theorem cmpP (blk off size : Nat) (w : World) : CmpLays Tryz.prog 50 #[] encP 2 cfP blk off size w :=
  fun _ _ _ _ x y=>order_walk x y _
def nthI (cs : Array Value) (j : Nat) : Int:=match cs[j]? with | some (.int _ n)=>n | _=>0
theorem Pairs.below {g F n0 : Nat} {w0 w : World} (h : Pairs g F n0 w0 w) : g < w.heap.size:=by
  obtain ⟨cs,h1,_⟩:=h
  exact row_lt h1
theorem pairs_holds {g F n0 : Nat} {w0 w : World} (h : Pairs g F n0 w0 w) : ∃ d : Array (Int × Int),d.size=F∧HoldsK encP 2 w g 0 d:=by
  obtain ⟨cs,h1,h2,h3⟩:=h
  refine ⟨(Array.range F).map fun i=>(nthI cs (2 * i),nthI cs (2 * i+1)),by simp,fun j hj=>?_⟩
  rw [size_flatK] at hj
  have hj' : j < F * 2:=by simpa using hj
  obtain ⟨n,hn⟩:=h2 j (by omega)
  have hd : j / 2 < F:=by omega
  rw [get_flatK _ _ _ _ hj,Nat.zero_add]
  refine ⟨?_,row_frozen h1⟩
  have e : ((Array.range F).map fun i=>(nthI cs (2 * i),nthI cs (2 * i+1)))[j / 2]! = (nthI cs (2 * (j / 2)),nthI cs (2 * (j / 2)+1)):=by
    rw [getElem!_pos _ _ (by simpa using hd)]
    simp
  rw [e,row_cell h1 hn]
  have hm : j % 2=0∨j % 2=1:=by omega
  rcases hm with hm | hm
  · rw [hm,show 2 * (j / 2)=j by omega]
    simp [encP,nthI,hn]
  · rw [hm,show 2 * (j / 2)+1=j by omega]
    simp [encP,nthI,hn]
theorem heap_cells {w : World} {g j : Nat} {v : Value} {cs : Array Value} {T : TypeId} (hr : w.heap[g]?=some (.cells cs T (0,0))) (h : w.cell? ⟨g,j,none⟩=some v) : cs[j]?=some v:=by
  simpa [World.cell?,hr] using h
theorem pairs_sorted {g F n0 n : Nat} {w0 w : World} {d d' : Array (Int × Int)} {os : Array Obj} (hP : Pairs g F n0 w0 w) (hn : n0≤g) (hF : d.size=F) (hH : HoldsK encP 2 w g 0 d) (hs : d'.size=d.size) : Pairs g F n0 w0 (sortWorldK encP 2 w g 0 n d' os):=by
  have hg:=hP.below
  have hH':=holdsK_sortWorldK_c encP 2 w g 0 d d' n os hH hg hs
  obtain ⟨cs,h1,h2,h3⟩:=hP
  have hrow : (sortWorldK encP 2 w g 0 n d' os).heap[g]?=some (.cells (putCells id 0 (flatK encP 2 d') cs) 93 (0,0)):=by
    unfold sortWorldK putRowK putRow
    rw [heap_grow_old _ _ (by simpa [mapBlock] using hg)]
    simp [mapBlock,Array.getElem?_modify,h1,onCells]
  refine ⟨_,hrow,fun j hj=>?_,?_⟩
  · have h:=(hH' j (by rw [size_flatK,hs,hF];omega)).1
    rw [Nat.zero_add] at h
    have hc:=heap_cells hrow h
    rw [get_flatK _ _ _ _ (by rw [hs,hF];omega)] at hc
    have hm : j % 2=0∨j % 2=1:=by omega
    rcases hm with hm | hm
    · rw [hm] at hc;exact ⟨_,hc⟩
    · rw [hm] at hc;exact ⟨_,hc⟩
  · refine ⟨h3.os,h3.tape,h3.output,Nat.le_trans h3.size (size_sortWorldK_c encP 2 w g 0 n d' os),fun k hk=>?_⟩
    rw [← h3.block k hk]
    have hkg : g ≠ k:=by omega
    by_cases hkw : k < w.heap.size
    · unfold sortWorldK putRowK putRow
      rw [heap_grow_old _ _ (by simpa [mapBlock] using hkw)]
      simp [mapBlock,Array.getElem?_modify,hkg]
    · omega
theorem sort_is : SortIs:=fun g F cap n0 w0 w hF hn hP=>by
  obtain ⟨d,hd,hH⟩:=pairs_holds hP
  have eg : ∀ args w,(callFunc 50 args).run Tryz.prog w=.ok (.enter 50 args) w:=enters_of Tryz.func50 (by kernel_rfl) rfl
  have h:=AnyQ.slices_SortFunc Tryz.sortFault 2 Tryz.isAgg93 Tryz.sizeOf93 encP (fun _=>rfl) (fun x v hv=>by simp [encP] at hv;rcases hv with rfl | rfl <;> rfl) cfP swoP 50 #[] g 0 cap d w eg (cmpP g 0 d.size w) hH hP.below (by omega)
  rw [hd] at h
  refine Calls.mono h ?_
  rintro e w' ⟨rfl,d',n,os,hperm,_,rfl⟩
  exact ⟨rfl,pairs_sorted hP hn hd hH hperm.1⟩
end Go.Proofs.YtbamnpenkjfgkaaGreat
namespace Go.Proofs.YtbamnpenkjfgkaaGreat
open Go.RowKit
set_option maxRecDepth 100000 in
set_option maxHeartbeats 8000000 in
theorem notDead_walk {w : World} {d : Nat} (h : w.cell? ⟨d,3,none⟩=some (.bool false)) : Calls Tryz.prog 13 #[pV d] w fun e w'=>e=.returned (.bool false)∧w'=w:=by
  unfold pV
  go_enter Tryz.func13,Tryz.ntmps13
  go_wp2
  go_ret
  exact ⟨rfl,rfl⟩
set_option maxRecDepth 100000 in
set_option maxHeartbeats 32000000 in
theorem mount_walk (HRep : RepIs) (HB : BlkNil) (HBW : BWrite) (HBS : BString) (HSort : SortIs) {w : World} {d : Nat} {bs : List ByteArray} (h : DevIs w d bs) (hz : w.cell? ⟨d,3,none⟩=some (.bool false)) {b : ByteArray} {l : List UInt8} (hb : bs[0]?=some b) (hl : b.data.toList=l) (hlen : l.length=128) (h128 : ∀ (k : Nat) (b : ByteArray),bs[k]?=some b→b.data.toList.length=128) (b1 : ByteArray) (hb1 : bs[1]?=some b1)
    (hJ : supGood l bs.length→∀ r : Rec,r.ok→r.enc=b1.data.toList→r.kind=1→NoEnt bs∧∀ (k : Nat) (b : ByteArray),bs[k]?=some b→NoTxn b.data.toList r.seq) :
    Calls Tryz.prog 6 #[pV d] w fun e w'=>e=.returned (.tuple #[.pointer none,.int .i64 230])∧Below w.heap.size w w':=by
  have hn0 : ((bs.length : Int) == 0)=false:=by simp;intro h0;rw [h0] at hb;simp at hb
  have HBl:=Lib.hid (blocks_walk h)
  have HDd:=Lib.hid (notDead_walk hz)
  have HDe:=Lib.hid (fun W=>dead_walk 80 W)
  by_cases hs : supGood l bs.length
  · have HLa:=Lib.hid (fun (W : World) (hB : Below w.heap.size w W)=>(laid_walk HRep (dev_below h hB) hb hl hlen).mono fun e w' hh=>(⟨hh.1.elim (fun x=>x.2) (fun x=>absurd hs x.1),hh.2⟩ : e=.returned (.tuple #[geoV (decS l).b (decS l).l (decS l).m,.int .i64 0])∧Below W.heap.size W w'))
    have HRp:=Lib.hid (fun (W : World) (hB : Below w.heap.size w W)=>(replay_walk HRep (dev_below h hB) hs.2.2 hs.1.1 h128 b1 hb1 (fun r h1 h2 h3=>(hJ hs r h1 h2 h3).2)).mono fun e w' hh=>(⟨hh.1.elim (fun x=>.inl ⟨Lib.hid x.1,x.2⟩) .inr,hh.2⟩ : ((Hid (∃ r : Rec,r.ok∧r.enc=b1.data.toList∧r.kind=1)∧e=.returned (.tuple #[.slice none 0 0,.int .i64 0]))∨e=.returned (.tuple #[.slice none 0 0,.int .i64 80]))∧Below W.heap.size W w'))
    have HLk:=Lib.hid (fun (hH : Hid (∃ r : Rec,r.ok∧r.enc=b1.data.toList∧r.kind=1)) (W : World) (hB : Below w.heap.size w W)=>look_walk HRep HB HBW HBS HSort (dev_below h hB) hb hl hlen hs h128 (by obtain ⟨r,h1,h2,h3⟩:=hH.out;exact (hJ hs r h1 h2 h3).1))
    clear h hz hb hl hlen h128 hb1 hJ hs HRep HB HBW HBS HSort
    generalize decS l=s at *
    obtain ⟨sb,sl,sm,s3,s4,s5,s6,s7,s8,s9⟩:=s
    dsimp only at *
    unfold geoV pV iV at *
    generalize (1+sl+(sb+1023) / 1024 : Nat)=y6 at *
    generalize (1+sl : Nat)=y4 at *
    generalize ((sb+1023) / 1024 : Nat)=y5 at *
    generalize (sm / 2 : Nat)=y7 at *
    generalize (dataAt sb sl sm : Nat)=y8 at *
    go_enter Tryz.func6,Tryz.ntmps6
    go_wp2_with first
      | (go_at_call 12;refine HBl.out.mono ?_;rintro e w1 ⟨rfl,hw⟩;subst hw)
      | (go_at_call 13;refine HDd.out.mono ?_;rintro e w1 ⟨rfl,hw⟩;subst hw)
      | (go_at_call 14;refine (HLa.out _ (Below.refl _ _)).mono ?_;rintro e w1 ⟨rfl,hb1⟩;have HB1:=Lib.hid hb1;have HR1:=Lib.hid (row_new w1 (.cells #[.int .i64 sb,.int .i64 sl,.int .i64 sm,.int .i64 (1 : Nat),.int .i64 y4,.int .i64 y5,.int .i64 y6,.int .i64 y7,.int .i64 y8] 42));clear hb1)
      | (go_at_call 15;refine (HRp.out _ (bl_alloc HB1.out _)).mono ?_;rintro e w3 ⟨he,hb3⟩;have HB3:=Lib.hid (bl_trans (bl_alloc HB1.out _) hb3);have HR3:=Lib.hid (row_below HR1.out hb3);obtain ⟨l3,c0,c1,c2,c3,c4,c5,c6,c7,c8⟩:=nine HR3.out;clear hb3;rcases he with ⟨hH,rfl⟩ | rfl)
      | (go_at_call 16;refine (HDe.out _).mono ?_;rintro e w4 ⟨rfl,hw⟩;subst hw)
      | (go_at_call 17;refine (HLk.out hH _ HB3.out).mono ?_;rintro e w4 ⟨⟨A,n,cp,rfl,hn⟩,hb4⟩;have HB4:=Lib.hid (bl_trans HB3.out hb4);clear hb4)
    · go_ret2
      exact ⟨rfl,HB4.out⟩
    · go_ret2
      exact ⟨rfl,HB3.out⟩
  · have HLa:=Lib.hid (fun (W : World) (hB : Below w.heap.size w W)=>(laid_walk HRep (dev_below h hB) hb hl hlen).mono fun e w' hh=>(⟨hh.1.elim (fun x=>absurd x.1 hs) (fun x=>x.2),hh.2⟩ : e=.returned (.tuple #[geo0,.int .i64 230])∧Below W.heap.size W w'))
    clear h hz hb hl hlen h128 hb1 hJ hs HRep HB HBW HBS HSort
    unfold geo0 pV iV at *
    go_enter Tryz.func6,Tryz.ntmps6
    go_wp2_with first
      | (go_at_call 12;refine HBl.out.mono ?_;rintro e w1 ⟨rfl,rfl⟩)
      | (go_at_call 13;refine HDd.out.mono ?_;rintro e w1 ⟨rfl,rfl⟩)
      | (go_at_call 14;refine (HLa.out _ (Below.refl _ _)).mono ?_;rintro e w1 ⟨rfl,hb1⟩;have HB1:=Lib.hid hb1;clear hb1)
    go_ret2
    exact ⟨rfl,bl_alloc HB1.out _⟩
end Go.Proofs.YtbamnpenkjfgkaaGreat
namespace Go.Proofs.YtbamnpenkjfgkaaGreat
open Go.RowKit
theorem Tryz.info5 : (Tryz.prog.info? 5).map (fun i=>(i.zero,i.size,i.bytes))=some (some (.int .u8 0),1,1):=by kernel_rfl
theorem make_row (n : Nat) (h : n < 1000000) : ∃ M : Array Value,(∀ k,k < n→M[k]?=some (.int .u8 0))∧∀ W,(Instr.makeSlice 23 (.int .i64 (n : Int)) (.int .i64 (n : Int))).run Tryz.prog W=.ok (.slice (some ⟨W.heap.size,0,none⟩) n n) (W.alloc (.cells M 5)):=by
  obtain ⟨i0,hi,hz0,hz1,hz2⟩:=info_parts Tryz.info5
  refine ⟨madeCells (Value.int .u8 0).cells (n * i0.size),fun k hk=>?_,fun W=>?_⟩
  · rw [hz1,Nat.mul_one]
    show (madeCells #[Value.int .u8 0] n)[k]?=_
    rw [← Array.getElem?_toList,toList_madeCells_one,List.getElem?_replicate,if_pos hk]
  · have hr:=run_make (P:=Tryz.prog) W 23 5 i0 (.int .u8 0) Tryz.underlying23 hi hz0 .i64 .i64 n n (by omega) (Int.le_refl _) (by rw [hz2];omega) (by omega)
    simpa only [Int.toNat_natCast] using hr
def imgL (f : Nat→UInt8) (n k : Nat) : List UInt8:=(List.range n).map fun j=>if j < k then f j else 0
theorem imgL_len (f : Nat→UInt8) (n k : Nat) : (imgL f n k).length=n:=by simp [imgL]
theorem imgL_get (f : Nat→UInt8) (n k j : Nat) (hj : j < n) : (imgL f n k).getD j 0=if j < k then f j else 0:=by
  simp [imgL,List.getD,hj]
theorem imgL_set (f : Nat→UInt8) (n k : Nat) : (imgL f n k).set k (f k)=imgL f n (k+1):=by
  apply List.ext_getElem
  · simp [imgL_len]
  · intro i h1 h2
    simp [imgL,List.getElem_set]
    by_cases h : k=i
    · subst h;simp
    · rw [if_neg h]
      by_cases h3 : i < k
      · rw [if_pos h3,if_pos (by omega)]
      · rw [if_neg h3,if_neg (by omega)]
theorem bts_made {w : World} {M : Array Value} {n : Nat} (h : ∀ k,k < n→M[k]?=some (.int .u8 0)) (f : Nat→UInt8) : Bts (w.alloc (.cells M 5)) w.heap.size (imgL f n 0):=fun j hj=>by
  rw [imgL_len] at hj
  have hr:=row_new w (.cells M 5)
  refine ⟨?_,row_frozen hr⟩
  rw [imgL_get _ _ _ _ hj,if_neg (by omega)]
  exact row_cell hr (h j hj)
def byteF (s : ByteArray) (i : Nat) : UInt8:=s.data.toList.getD (i % s.size) 0
def Joins : Prop:=∀ (img : ByteArray) (nb : Nat),256≤nb→nb≤400→img.size=128 * nb→(∃ p,1≤p∧p≤300∧∀ i,i+p < img.size→img.data.toList.getD i 0=img.data.toList.getD (i+p) 0)→supGood (blk img 0).data.toList nb→∀ r : Rec,r.ok→r.enc=(blk img 1).data.toList→r.kind=1→NoEnt (blks img nb)∧∀ (k : Nat) (b : ByteArray),(blks img nb)[k]?=some b→NoTxn b.data.toList r.seq
theorem blks_get (b : ByteArray) (n k : Nat) : (blks b n)[k]?=if k < n then some (blk b k) else none:=by
  simp [blks,List.getElem?_range]
  split <;> simp_all
theorem blk_len (b : ByteArray) (n k : Nat) (hb : b.size=128 * n) (hk : k < n) : (blk b k).data.toList.length=128:=by
  unfold blk
  rw [ByteArray.data_extract]
  simp
  have : b.data.size=128 * n:=hb
  omega
theorem blks_len (b : ByteArray) (n : Nat) (hb : b.size=128 * n) {k : Nat} {c : ByteArray} (h : (blks b n)[k]?=some c) : c.data.toList.length=128:=by
  rw [blks_get] at h
  by_cases hk : k < n
  · rw [if_pos hk] at h
    rw [← Option.some.inj h]
    exact blk_len b n k hb hk
  · rw [if_neg hk] at h
    cases h
set_option maxRecDepth 100000 in
set_option maxHeartbeats 32000000 in
theorem law_walk (HRep : RepIs) (HB : BlkNil) (HBW : BWrite) (HBS : BString) (HSort : SortIs) (HJ : Joins) (s : ByteArray) (x : Nat) (hx : x < 256) (w : World) (Q : World→Prop) (hlive : ∀ W,Below w.heap.size w W→Calls Tryz.prog 4 #[] W fun e w'=>e=.returned (.bool true)∧Q w') :
    Calls Tryz.prog 3 #[.string s,.int .u8 x] w fun e w'=>e=.returned (.bool true)∧Q w':=by
  have HLv:=Lib.hid hlive
  clear hlive
  by_cases hs : 300 < s.size
  · go_enter Tryz.func3,Tryz.ntmps3
    go_wp2_with (go_at_call 4;refine (HLv.out _ (Below.refl _ _)).mono ?_;rintro e w1 ⟨rfl,hq⟩)
    go_ret
    exact ⟨rfl,hq⟩
  · obtain ⟨nb,hnb⟩ : ∃ nb : Nat,nb=256+x % 145:=⟨_,rfl⟩
    have hnb2 : 256≤nb∧nb≤400:=by omega
    obtain ⟨M,hM,hmk⟩:=make_row (nb * 128) (by omega)
    have hV : (((nb * 128 : Nat)) : Int)=(256+(x : Int) % 145) * 128:=by rw [hnb];push_cast;rfl
    rw [hV] at hmk
    generalize hN : nb * 128=N at *
    have HMo:=Lib.hid (fun (img : ByteArray) (hz : img.size=128 * nb) (hp : ∃ p,1≤p∧p≤300∧∀ i,i+p < img.size→img.data.toList.getD i 0=img.data.toList.getD (i+p) 0) (W : World) (d : Nat) (hD : DevIs W d (blks img nb)) (h3 : W.cell? ⟨d,3,none⟩=some (.bool false)) =>
      mount_walk HRep HB HBW HBS HSort hD h3 (b:=blk img 0) (l:=(blk img 0).data.toList) (by rw [blks_get,if_pos (by omega)]) rfl (blk_len img nb 0 hz (by omega)) (fun k b hk=>blks_len img nb hz hk) (blk img 1) (by rw [blks_get,if_pos (by omega)])
        (fun hsup=>HJ img nb hnb2.1 hnb2.2 hz hp (by have:=hsup;rwa [show (blks img nb).length=nb by simp [blks]] at this)))
    have HOp:=Lib.hid (fun (img : ByteArray) (hz : img.size=128 * nb) (W : World)=>open_walk img nb (by omega) (by omega) hz W)
    have HMM:=Lib.hid hM
    have HNB:=Lib.hid hnb
    have HNN:=Lib.hid hN
    have hNN : N < 1000000:=by omega
    have HV:=Lib.hid hV
    clear HRep HB HBW HBS HSort HJ hM hnb hN hV
    go_enter Tryz.func3,Tryz.ntmps3
    go_wp2
    have hbt:=Lib.hid (bts_made HMM.out (byteF s) (w:=w))
    have hbw:=Lib.hid (below_one w (.cells M 5))
    clear hmk
    generalize w.alloc (.cells M 5)=w1 at hbt hbw ⊢
    go_loopw [6] (fun i wr=>∃ k : Nat,i=.int .i64 k∧k≤N∧(s.size=0→k=0)∧Hid (Bts wr w.heap.size (imgL (byteF s) N k))∧Hid (Below w.heap.size w wr)) (fun i _=>N - intV i)
    case atStart=>exact ⟨0,rfl,by omega,fun _=>rfl,hbt,hbw⟩
    case round =>
      obtain ⟨k,rfl,hk,h0,HBt,HBw⟩:=hrel
      by_cases hgo : k < N∧0 < s.size
      · obtain ⟨hkn,hsz⟩:=hgo
        obtain ⟨hc1,hc2⟩:=HBt.out k (by rw [imgL_len];exact hkn)
        have hmod : k % s.size < s.size:=Nat.mod_lt _ hsz
        have hmod2 : (k : Int) % (s.size : Int) < (s.size : Int):=by exact_mod_cast hmod
        go_wp2
        have ev : Value.int IntKind.u8 (s[k % s.size].toNat : Nat)=byV (byteF s k):=by
          unfold byV byteF
          congr 2
          rw [List.getD_eq_getElem?_getD,List.getElem?_eq_getElem (by exact hmod)]
          rfl
        rw [ev]
        refine ⟨⟨k+1,by first | rfl | simp,hkn,fun h=>by omega,Lib.hid ?_,Lib.hid (HBw.out.setCell (Nat.le_refl _) _)⟩,by simp [intV];omega⟩
        rw [← imgL_set]
        exact HBt.out.set (by rw [imgL_len];exact hkn) _
      · have hz : (imgL (byteF s) N k).length=N:=imgL_len _ _ _
        obtain ⟨img,himg⟩ : ∃ img : ByteArray,img=⟨(imgL (byteF s) N k).toArray⟩:=⟨_,rfl⟩
        have hsz : img.size=128 * nb:=by
          rw [himg,← Nat.mul_comm nb,HNN.out]
          show (imgL (byteF s) N k).toArray.size=N
          simp [imgL_len]
        have hper : ∃ p,1≤p∧p≤300∧∀ i,i+p < img.size→img.data.toList.getD i 0=img.data.toList.getD (i+p) 0:=by
          rw [hsz,← Nat.mul_comm nb,HNN.out,himg]
          by_cases h0' : s.size=0
          · refine ⟨1,by omega,by omega,fun i hi=>?_⟩
            show (imgL (byteF s) N k).getD i 0=(imgL (byteF s) N k).getD (i+1) 0
            rw [imgL_get _ _ _ _ (by omega),imgL_get _ _ _ _ hi,h0 h0',if_neg (by omega),if_neg (by omega)]
          · refine ⟨s.size,by omega,by omega,fun i hi=>?_⟩
            show (imgL (byteF s) N k).getD i 0=(imgL (byteF s) N k).getD (i+s.size) 0
            rw [imgL_get _ _ _ _ (by omega),imgL_get _ _ _ _ hi,if_pos (by omega),if_pos (by omega)]
            unfold byteF
            rw [Nat.add_mod_right]
        have hcb:=bts_conv (cap:=N) HBt.out
        rw [hz,← himg] at hcb
        have HO:=Lib.hid (HOp.out img hsz)
        have HM:=Lib.hid (HMo.out img hsz hper)
        clear hper hsz himg hz
        by_cases h0' : s.size=0
        · go_wp2_with first
            | (go_at_call 5;refine (HO.out _).mono ?_;rintro e w2 ⟨⟨d,rfl,hD,h3⟩,hb2⟩;have HD:=Lib.hid hD;have HB2:=Lib.hid (HBw.out.trans (hb2.mono HBw.out.size));have H3:=Lib.hid h3;clear hD h3 hb2)
            | (go_at_call 6;refine (HM.out _ _ HD.out H3.out).mono ?_;rintro e w3 ⟨rfl,hb3⟩;have HB3:=Lib.hid (HB2.out.trans (hb3.mono HB2.out.size));clear hb3)
            | (go_at_call 4;refine (HLv.out _ HB3.out).mono ?_;rintro e w4 ⟨rfl,hq⟩)
          all_goals
            go_ret
            exact ⟨rfl,hq⟩
        · have hkN : k=N:=by omega
          subst hkN
          go_wp2_with first
            | (go_at_call 5;refine (HO.out _).mono ?_;rintro e w2 ⟨⟨d,rfl,hD,h3⟩,hb2⟩;have HD:=Lib.hid hD;have HB2:=Lib.hid (HBw.out.trans (hb2.mono HBw.out.size));have H3:=Lib.hid h3;clear hD h3 hb2)
            | (go_at_call 6;refine (HM.out _ _ HD.out H3.out).mono ?_;rintro e w3 ⟨rfl,hb3⟩;have HB3:=Lib.hid (HB2.out.trans (hb3.mono HB2.out.size));clear hb3)
            | (go_at_call 4;refine (HLv.out _ HB3.out).mono ?_;rintro e w4 ⟨rfl,hq⟩)
          all_goals
            go_ret
            exact ⟨rfl,hq⟩
end Go.Proofs.YtbamnpenkjfgkaaGreat
