/- Lists of numbers and of marks; may homes be? -/
import Derived.Test.YtbamnpenkjfgkaaGreatUG
import Derived.Deep.RegionHeld3
import Derived.Maps.AppendAt
import Derived.Deep.RegionHeldLaw
namespace Go.Proofs.YtbamnpenkjfgkaaGreat
open Go.RowKit
def Ints (w : World) (v : Value) (l : List Nat) : Prop:=∃ A cap,v=.slice A l.length cap∧∀ (j : Nat) (x : Nat),l[j]?=some x→∃ g,A=some ⟨g,0,none⟩∧g < w.heap.size∧w.cell? ⟨g,j,none⟩=some (iV x)
theorem Ints.below {w w' : World} {v : Value} {l : List Nat} (h : Ints w v l) (hb : Below w.heap.size w w') : Ints w' v l:=by
  obtain ⟨A,cap,rfl,hc⟩:=h
  refine ⟨A,cap,rfl,fun j x hx=>?_⟩
  obtain ⟨g,rfl,hg,c0⟩:=hc j x hx
  have hs:=hb.size
  exact ⟨g,rfl,by omega,by rw [hb.cell hg];exact c0⟩
def upTo (l : List Nat) (k : Nat) : Prop:=∀ (i x : Nat),i < k→l[i]?=some x→x < 4096∧∀ (y : Nat),0 < i→l[i - 1]?=some y→y < x
def homesOk (l : List Nat) (most : Nat) : Prop:=upTo l l.length∧1≤l.length∧l.length≤most
set_option maxRecDepth 100000 in
set_option maxHeartbeats 8000000 in
theorem homes_walk (v : Value) (l : List Nat) (hl : ∀ x ∈ l,x < 4294967296) (most : Nat) (hm : most < 100) (hn : l.length < 1000) (w : World) (hv : Ints w v l) : Calls Tryz.prog 271 #[v,.int .i64 most] w fun e w'=>Ans e (homesOk l most)∧w'=w:=by
  obtain ⟨A,cap,rfl,hc⟩:=hv
  have HL:=Lib.hid hl
  have HC:=Lib.hid hc
  clear hl hc
  go_enter Tryz.func271,Tryz.ntmps271
  go_wp2
  go_loopw [9] (fun i wr=>∃ (k : Nat),i=.int .i64 k∧k≤l.length∧Hid (upTo l k)∧wr=w) (fun i _=>l.length - intV i)
  case atStart=>exact ⟨0,rfl,by omega,fun i x hi=>by omega,rfl⟩
  case round =>
    obtain ⟨k,rfl,hk,hT,rfl⟩:=hrel
    by_cases hkn : k=l.length
    · subst hkn
      go_wp2
      all_goals
        go_ret
        refine ⟨⟨_,rfl,?_⟩,rfl⟩
        have hT:=hT.out
        unfold homesOk
        simp [hT]
        try omega
    · obtain ⟨x,hx⟩ : ∃ x,l[k]?=some x:=⟨l[k]'(by omega),List.getElem?_eq_getElem (by omega)⟩
      obtain ⟨g,rfl,hg,c0⟩:=HC.out k x hx
      unfold iV at c0
      have hxs:=HL.out x (List.mem_of_getElem? hx)
      have HX:=Lib.hid hx
      clear hx
      cases k with
      | zero =>
        have HNX:=Lib.hid (show x < 4096→upTo l 1 from fun h i y hi hy=>by
          have : i=0:=by omega
          subst this
          rw [HX.out] at hy
          injection hy with hy
          subst hy
          exact ⟨h,fun _ h0=>absurd h0 (Nat.lt_irrefl 0)⟩)
        have HNO:=Lib.hid (show ¬ x < 4096→¬ homesOk l most from fun h ho=>h (ho.1 0 x (by omega) HX.out).1)
        go_wp2
        · exact ⟨⟨1,rfl,by omega,Lib.hid (HNX.out (by omega)),trivial⟩,by simp [intV];omega⟩
        · go_ret
          exact ⟨⟨false,rfl,by simp;exact HNO.out (by omega)⟩,rfl⟩
      | succ q =>
        obtain ⟨y,hy⟩ : ∃ y,l[q]?=some y:=⟨l[q]'(by omega),List.getElem?_eq_getElem (by omega)⟩
        obtain ⟨g',hgg,_,e0⟩:=HC.out q y hy
        injection hgg with hgg
        injection hgg with hgg
        subst hgg
        have hys:=HL.out y (List.mem_of_getElem? hy)
        unfold iV at e0
        have HNX:=Lib.hid (show x < 4096→y < x→upTo l (q+1+1) from fun h h1 i z hi hz=>by
          by_cases hiq : i < q+1
          · exact hT.out i z hiq hz
          · have : i=q+1:=by omega
            subst this
            rw [HX.out] at hz
            injection hz with hz
            subst hz
            refine ⟨h,fun y' _ hy'=>?_⟩
            have hy' : l[q]?=some y':=hy'
            rw [hy] at hy'
            injection hy' with hy'
            subst hy'
            exact h1)
        have HNO:=Lib.hid (show ¬ (x < 4096∧y < x)→¬ homesOk l most from fun h ho=>h ⟨(ho.1 (q+1) x (by omega) HX.out).1,(ho.1 (q+1) x (by omega) HX.out).2 y (Nat.succ_pos q) hy⟩)
        clear hy
        go_wp2
        all_goals first
          | exact ⟨⟨q+1+1,by first | rfl | (simp;done) | (push_cast;rfl),by omega,Lib.hid (HNX.out (by omega) (by omega)),trivial⟩,by simp [intV];omega⟩
          | (go_ret
             exact ⟨⟨false,rfl,by simp;exact HNO.out (by omega)⟩,rfl⟩)
end Go.Proofs.YtbamnpenkjfgkaaGreat
namespace Go.Proofs.YtbamnpenkjfgkaaGreat
open Go.RowKit
structure Rec where
  kind : Nat
  seq : Nat
  pos : Nat
  homes : List Nat
  masked : List Bool
  sum : Nat
def Rec.v (r : Rec) (hv mv : Value) : Value:=.agg #[iV r.kind,.int .u64 r.seq,iV r.pos,hv,mv,.int .u32 r.sum]
def Rec.ok (r : Rec) : Prop :=
  (r.kind=1∧r.pos≤510∧r.sum=0∧r.homes.length=0∧r.masked.length=0) ∨
  (r.kind=2∧r.pos=0∧r.sum=0∧homesOk r.homes 24∧r.masked.length=r.homes.length) ∨
  (r.kind=3∧r.pos=0∧r.sum=0∧homesOk r.homes 28∧r.masked.length=0) ∨
  (r.kind=4∧r.pos=0∧r.homes.length=0∧r.masked.length=0)
theorem six0 {w : World} {n : Nat} {T : TypeId} {v0 v1 v2 v3 v4 v5 : Value} (h : w.heap[n]?=some (.cells #[v0,v1,v2,v3,v4,v5] T)) :
    n < w.heap.size∧w.cell? ⟨n,0,none⟩=some v0∧w.cell? ⟨n,1,none⟩=some v1∧w.cell? ⟨n,2,none⟩=some v2∧w.cell? ⟨n,3,none⟩=some v3∧w.cell? ⟨n,4,none⟩=some v4∧w.cell? ⟨n,5,none⟩=some v5 :=
  ⟨row_lt h,row_cell h rfl,row_cell h rfl,row_cell h rfl,row_cell h rfl,row_cell h rfl,row_cell h rfl⟩
set_option maxRecDepth 100000 in
set_option maxHeartbeats 8000000 in
theorem recMay_plain (r : Rec) (hp : r.pos < 4294967296) (hs : r.sum < 4294967296) (hk : r.kind ≠ 2∧r.kind ≠ 3) (hk2 : r.kind < 4294967296) (A B : Option Addr) (c1 c2 : Nat) (hh : r.homes.length < 1000) (hmk : r.masked.length < 1000) (w : World) : Calls Tryz.prog 208 #[r.v (.slice A r.homes.length c1) (.slice B r.masked.length c2)] w fun e w'=>Ans e r.ok∧Below w.heap.size w w':=by
  obtain ⟨kind,seq,pos,homes,masked,sum⟩:=r
  unfold Rec.v iV
  have HO:=Lib.hid (show Rec.ok ⟨kind,seq,pos,homes,masked,sum⟩ ↔ (kind=1∧pos≤510∧sum=0∧homes.length=0∧masked.length=0)∨(kind=4∧pos=0∧homes.length=0∧masked.length=0) from by
    unfold Rec.ok
    have:=hk.1
    have:=hk.2
    dsimp only at *
    simp [*])
  generalize Rec.ok ⟨kind,seq,pos,homes,masked,sum⟩=OK at *
  dsimp only at *
  generalize homes.length=nh at *
  generalize masked.length=nm at *
  obtain ⟨hk0,hk1⟩:=hk
  by_cases k1 : kind=1
  · subst k1
    go_enter Tryz.func208,Tryz.ntmps208
    go_wp2
    all_goals
      go_ret
      refine ⟨⟨_,rfl,?_⟩,below_one _ _⟩
      rw [HO.out]
      clear HO
      simp
      try omega
  · by_cases k4 : kind=4
    · subst k4
      go_enter Tryz.func208,Tryz.ntmps208
      go_wp2
      all_goals
        go_ret
        refine ⟨⟨_,rfl,?_⟩,below_one _ _⟩
        rw [HO.out]
        clear HO
        simp
        try omega
    · have e1 : ((kind : Int) == 1)=false:=by simp;omega
      have e2 : ((kind : Int) == 2)=false:=by simp;omega
      have e3 : ((kind : Int) == 3)=false:=by simp;omega
      have e4 : ((kind : Int) == 4)=false:=by simp;omega
      go_enter Tryz.func208,Tryz.ntmps208
      go_wp2
      go_ret
      refine ⟨⟨_,rfl,?_⟩,below_one _ _⟩
      rw [HO.out]
      simp
      omega
set_option maxRecDepth 100000 in
set_option maxHeartbeats 8000000 in
theorem recMay_2 (r : Rec) (hp : r.pos < 4294967296) (hs : r.sum < 4294967296) (hk : r.kind=2) (w : World) (hv : Value) (hH : Ints w hv r.homes) (hl : ∀ x ∈ r.homes,x < 4294967296) (B : Option Addr) (c2 : Nat) (hh : r.homes.length < 1000) (hmk : r.masked.length < 1000) : Calls Tryz.prog 208 #[r.v hv (.slice B r.masked.length c2)] w fun e w'=>Ans e r.ok∧Below w.heap.size w w':=by
  obtain ⟨kind,seq,pos,homes,masked,sum⟩:=r
  unfold Rec.v iV
  dsimp only at hk
  subst hk
  have HO:=Lib.hid (show Rec.ok ⟨2,seq,pos,homes,masked,sum⟩ ↔ (pos=0∧sum=0∧homesOk homes 24∧masked.length=homes.length) from by
    unfold Rec.ok
    dsimp only at *
    simp)
  generalize Rec.ok ⟨2,seq,pos,homes,masked,sum⟩=OK at *
  dsimp only at *
  have HW:=Lib.hid (fun (W : World) (h : Ints W hv homes)=>homes_walk hv homes hl 24 (by omega) hh W h)
  have HI:=Lib.hid (fun (o : Obj)=>hH.below (below_one w o))
  obtain ⟨A,c1,rfl,_⟩:=hH
  clear hl
  generalize homesOk homes 24=HH at *
  generalize homes.length=nh at *
  generalize masked.length=nm at *
  go_enter Tryz.func208,Tryz.ntmps208
  go_wp2_with (go_at_call 271;refine (HW.out _ (HI.out _)).mono ?_;rintro e w0 ⟨⟨c,rfl,hcc⟩,rfl⟩;have HCC:=Lib.hid hcc;clear hcc;cases c)
  all_goals
    go_ret
    refine ⟨⟨_,rfl,?_⟩,below_one _ _⟩
    rw [HO.out]
    try have hcc:=HCC.out
    clear HO
    simp at *
    try first
      | omega
      | (intro _ _ h;exact absurd h hcc)
      | exact ⟨fun h=>⟨by assumption,by assumption,hcc,by omega⟩,fun h=>by omega⟩
set_option maxRecDepth 100000 in
set_option maxHeartbeats 8000000 in
theorem recMay_3 (r : Rec) (hp : r.pos < 4294967296) (hs : r.sum < 4294967296) (hk : r.kind=3) (w : World) (hv : Value) (hH : Ints w hv r.homes) (hl : ∀ x ∈ r.homes,x < 4294967296) (B : Option Addr) (c2 : Nat) (hh : r.homes.length < 1000) (hmk : r.masked.length < 1000) : Calls Tryz.prog 208 #[r.v hv (.slice B r.masked.length c2)] w fun e w'=>Ans e r.ok∧Below w.heap.size w w':=by
  obtain ⟨kind,seq,pos,homes,masked,sum⟩:=r
  unfold Rec.v iV
  dsimp only at hk
  subst hk
  have HO:=Lib.hid (show Rec.ok ⟨3,seq,pos,homes,masked,sum⟩ ↔ (pos=0∧sum=0∧homesOk homes 28∧masked.length=0) from by
    unfold Rec.ok
    dsimp only at *
    simp)
  generalize Rec.ok ⟨3,seq,pos,homes,masked,sum⟩=OK at *
  dsimp only at *
  have HW:=Lib.hid (fun (W : World) (h : Ints W hv homes)=>homes_walk hv homes hl 28 (by omega) hh W h)
  have HI:=Lib.hid (fun (o : Obj)=>hH.below (below_one w o))
  obtain ⟨A,c1,rfl,_⟩:=hH
  clear hl
  generalize homesOk homes 28=HH at *
  generalize homes.length=nh at *
  generalize masked.length=nm at *
  go_enter Tryz.func208,Tryz.ntmps208
  go_wp2_with (go_at_call 271;refine (HW.out _ (HI.out _)).mono ?_;rintro e w0 ⟨⟨c,rfl,hcc⟩,rfl⟩;have HCC:=Lib.hid hcc;clear hcc;cases c)
  all_goals
    go_ret
    refine ⟨⟨_,rfl,?_⟩,below_one _ _⟩
    rw [HO.out]
    try have hcc:=HCC.out
    clear HO
    simp at *
    try first
      | omega
      | (intro _ _ h;exact absurd h hcc)
      | exact ⟨fun h=>⟨by assumption,by assumption,hcc,by omega⟩,fun h=>by omega⟩
end Go.Proofs.YtbamnpenkjfgkaaGreat
namespace Go.Proofs.YtbamnpenkjfgkaaGreat
open Go.RowKit
theorem two {w : World} {n : Nat} {T : TypeId} {v0 v1 : Value} (h : w.heap[n]?=some (.cells #[v0,v1] T (0,0))) :
    n < w.heap.size∧w.cell? ⟨n,0,none⟩=some v0∧w.cell? ⟨n,1,none⟩=some v1∧w.frozen? ⟨n,0,none⟩=false∧w.frozen? ⟨n,1,none⟩=false :=
  ⟨row_lt h,row_cell h rfl,row_cell h rfl,row_frozen h,row_frozen h⟩
theorem be_set {B : Nat} {w a : World} (h : Below B w a) {n : Nat} (hn : B≤n) (i : Nat) (v : Value) : Below B w (a.setCell ⟨n,i,none⟩ v):=h.setCell hn v
theorem undrew {w w1 : World} (h : Below w.drew.heap.size w.drew w1) : Below w.heap.size w w1:=⟨h.os,h.tape,h.output,h.size,h.block⟩
theorem und {w w1 : World} {p : Nat} {u v : Value} (h : Below w.drew.heap.size w.drew w1) (l0 : p < w.heap.size) (c0 : w.cell? ⟨p,0,none⟩=some u) (c1 : w.cell? ⟨p,1,none⟩=some v) : w1.cell? ⟨p,0,none⟩=some u∧w1.cell? ⟨p,1,none⟩=some v∧Below w.heap.size w w1 :=
  ⟨((undrew h).cell (p:=⟨p,0,none⟩) l0).trans c0,((undrew h).cell (p:=⟨p,1,none⟩) l0).trans c1,undrew h⟩
set_option maxRecDepth 100000 in
set_option maxHeartbeats 8000000 in
theorem wput_walk (b : ByteArray) (l : List UInt8) (hl : b.data.toList=l) (a n x p : Nat) (hn : sz n) (ha : a < 1000000) (hb : l.length < 1000000) (han : a+n≤l.length) (hx : x < 2 ^ (8 * n)) (hx2 : x≤9223372036854775807) (w : World) (hp : w.heap[p]?=some (.cells #[.string b,iV a] 318 (0,0))) : Calls Tryz.prog 209 #[pV p,iV n,iV x] w fun e w'=>e=.returned (.tuple #[])∧w'.heap[p]?=some (.cells #[.string ⟨(putL l a n x).toArray⟩,iV (a+n)] 318 (0,0))∧Below p w w':=by
  have hw:=Lib.hid (fun W=>putInt_walk b l hl a n x hn ha hb han hx hx2 W)
  obtain ⟨l0,c0,c1,f0,f1⟩:=two hp
  have HP:=Lib.hid hp
  have hn9 : n < 10:=by unfold sz at hn;omega
  have d0 : ∀ x,(ext w x).cell? ⟨p,0,none⟩=some (.string b):=fun x=>(ext_cell w x l0).trans c0
  have d1 : ∀ x,(ext w x).cell? ⟨p,1,none⟩=some (iV a):=fun x=>(ext_cell w x l0).trans c1
  clear hn hx hl hp
  generalize (⟨(putL l a n x).toArray⟩ : ByteArray)=b' at *
  unfold pV iV at *
  go_enter Tryz.func209,Tryz.ntmps209
  go_wp2
  go_region_held3 (fun W=>W.cell? ⟨p,0,none⟩=some (.string b)∧W.cell? ⟨p,1,none⟩=some (.int .i64 a)∧Below w.heap.size w W) (first | exact ⟨c0,c1,⟨rfl,rfl,rfl,Nat.le_refl _,fun _ _=>rfl⟩⟩ | exact und hb1 l0 c0 c1)
    (first | (go_at_call 146;refine (hw.out _).mono ?_;rintro e w1 ⟨rfl,hb1⟩))
  have hr1:=Lib.hid (row_below HP.out (undrew hb1))
  have HB1:=Lib.hid ((undrew hb1).mono (Nat.le_of_lt l0))
  rename_i hHeld
  clear hHeld c0 c1 f0 f1 hb1 d0 d1
  obtain ⟨l1,c0,c1,f0,f1⟩:=two hr1.out
  go_wp2
  refine bodyPost_end (results_none rfl _ _ _) rfl ?_
  refine ⟨rfl,?_,be_set (be_set HB1.out (Nat.le_refl _) _ _) (Nat.le_refl _) _ _⟩
  have h2:=row_set (i:=1) (row_set (i:=0) hr1.out (.string b')) (.int .i64 ((a : Int)+n))
  simpa using h2
end Go.Proofs.YtbamnpenkjfgkaaGreat
namespace Go.Proofs.YtbamnpenkjfgkaaGreat
open Go.RowKit
theorem triple {w : World} {n : Nat} {T : TypeId} {v0 v1 v2 : Value} (h : w.heap[n]?=some (.cells #[v0,v1,v2] T (0,0))) :
    n < w.heap.size∧w.cell? ⟨n,0,none⟩=some v0∧w.cell? ⟨n,1,none⟩=some v1∧w.cell? ⟨n,2,none⟩=some v2∧w.frozen? ⟨n,0,none⟩=false∧w.frozen? ⟨n,1,none⟩=false∧w.frozen? ⟨n,2,none⟩=false :=
  ⟨row_lt h,row_cell h rfl,row_cell h rfl,row_cell h rfl,row_frozen h,row_frozen h,row_frozen h⟩
theorem row_set12 {w : World} {n : Nat} {T : TypeId} {v0 a1 a2 v1 v2 : Value} (h : w.heap[n]?=some (.cells #[v0,a1,a2] T (0,0))) : ((w.setCell ⟨n,1,none⟩ v1).setCell ⟨n,2,none⟩ v2).heap[n]?=some (.cells #[v0,v1,v2] T (0,0)):=by
  have h2:=row_set (i:=2) (row_set (i:=1) h v1) v2
  simpa using h2
theorem grown_set (w : World) (p i : Nat) (v : Value) : w.grownBy (w.setCell ⟨p,i,none⟩ v) (some p) :=
  ⟨rfl,rfl,rfl,by unfold World.setCell;simp,fun q hq hne=>by
    unfold World.setCell
    rw [Array.getElem?_modify,if_neg (fun h=>hne (congrArg some h.symm))]⟩
theorem grown_drewN (w : World) (n : Nat) (row : Option Nat) : w.grownBy (w.drewN n) row:=⟨rfl,rfl,rfl,Nat.le_refl _,fun _ _ _=>rfl⟩
set_option maxRecDepth 100000 in
set_option maxHeartbeats 8000000 in
theorem rget_walk (b : ByteArray) (a n v p : Nat) (ok bad : Bool) (ha : a < 1000000) (hn : n < 10) (hg : ∀ W,Calls Tryz.prog 85 #[.string b,.int .i64 a,.int .i64 n] W fun e w'=>e=.returned (.tuple #[.int .i64 v,.bool ok])∧w'=W) (w : World) (hp : w.heap[p]?=some (.cells #[.string b,iV a,.bool bad] 251 (0,0))) : Calls Tryz.prog 147 #[pV p,iV n] w fun e w'=>e=.returned (iV v)∧w'.heap[p]?=some (.cells #[.string b,iV (a+n),.bool (bad || !ok)] 251 (0,0))∧w.grownBy w' (some p):=by
  obtain ⟨l0,c0,c1,c2,f0,f1,f2⟩:=triple hp
  have HP:=Lib.hid hp
  have HG:=Lib.hid hg
  clear hp hg
  unfold pV iV at *
  go_enter Tryz.func147,Tryz.ntmps147
  go_wp2
  go_quiet ((go_at_call 85;exact Calls.quiet_of_same (HG.out _)))
  cases bad <;> cases ok <;> (
    go_wp2
    go_ret
    refine ⟨rfl,?_,((grown_drewN w nq _).trans (grown_set _ _ _ _)).trans (grown_set _ _ _ _)⟩
    exact row_set12 (row_drewN HP.out nq))
end Go.Proofs.YtbamnpenkjfgkaaGreat
namespace Go.Proofs.YtbamnpenkjfgkaaGreat
open Go.RowKit
def Bools (w : World) (v : Value) (l : List Bool) : Prop:=∃ A cap,v=.slice A l.length cap∧∀ (j : Nat) (x : Bool),l[j]?=some x→∃ g,A=some ⟨g,0,none⟩∧g < w.heap.size∧w.cell? ⟨g,j,none⟩=some (.bool x)
theorem Bools.below {w w' : World} {v : Value} {l : List Bool} (h : Bools w v l) (hb : Below w.heap.size w w') : Bools w' v l:=by
  obtain ⟨A,cap,rfl,hc⟩:=h
  refine ⟨A,cap,rfl,fun j x hx=>?_⟩
  obtain ⟨g,rfl,hg,c0⟩:=hc j x hx
  have hs:=hb.size
  exact ⟨g,rfl,by omega,by rw [hb.cell hg];exact c0⟩
structure Rec.small (r : Rec) : Prop where
  kind : r.kind < 4294967296
  pos : r.pos < 4294967296
  sum : r.sum < 4294967296
  homes : r.homes.length < 1000
  masked : r.masked.length < 1000
  each : ∀ x ∈ r.homes,x < 4294967296
  seq : r.seq < 2 ^ (8 * 8)
theorem recMay_walk (r : Rec) (hr : r.small) (w : World) (hv mv : Value) (hH : Ints w hv r.homes) (hM : Bools w mv r.masked) : Calls Tryz.prog 208 #[r.v hv mv] w fun e w'=>Ans e r.ok∧Below w.heap.size w w':=by
  obtain ⟨B,c2,rfl,_⟩:=hM
  by_cases k2 : r.kind=2
  · exact recMay_2 r hr.pos hr.sum k2 w hv hH hr.each B c2 hr.homes hr.masked
  · by_cases k3 : r.kind=3
    · exact recMay_3 r hr.pos hr.sum k3 w hv hH hr.each B c2 hr.homes hr.masked
    · obtain ⟨A,c1,rfl,_⟩:=hH
      exact recMay_plain r hr.pos hr.sum ⟨k2,k3⟩ hr.kind A B c1 c2 hr.homes hr.masked w
theorem keepS {base W W' : World} {g i : Nat} {v : Value} (hS : W.cell? ⟨g,i,none⟩=some v∧Below base.heap.size base W) (hg : g < base.heap.size) (hb : Below W.heap.size W W') : W'.cell? ⟨g,i,none⟩=some v∧Below base.heap.size base W' :=
  ⟨(hb.cell (p:=⟨g,i,none⟩) (Nat.lt_of_lt_of_le hg hS.2.size)).trans hS.1,bl_trans hS.2 hb⟩
theorem undS {w w1 : World} {g i : Nat} {v : Value} (h : Below w.drew.heap.size w.drew w1) (l0 : g < w.heap.size) (c0 : w.cell? ⟨g,i,none⟩=some v) : w1.cell? ⟨g,i,none⟩=some v∧Below w.heap.size w w1 :=
  ⟨((undrew h).cell (p:=⟨g,i,none⟩) l0).trans c0,undrew h⟩
def recZ : List UInt8:=[71,76,74,119] ++ List.replicate 124 0
def recB (seq : Nat) : List UInt8:=putL recZ 5 8 seq
theorem recZ_len : recZ.length=128:=by unfold recZ;simp
theorem recB_len (s : Nat) : (recB s).length=128:=by unfold recB;rw [putL_len _ _ _ _ (by rw [recZ_len];omega),recZ_len]
end Go.Proofs.YtbamnpenkjfgkaaGreat
namespace Go.Proofs.YtbamnpenkjfgkaaGreat
open Go.RowKit
set_option maxRecDepth 100000 in
set_option maxHeartbeats 8000000 in
theorem recEnc_bad (r : Rec) (hr : r.small) (w : World) (hv mv : Value) (hH : Ints w hv r.homes) (hM : Bools w mv r.masked) (hno : ¬ r.ok) : Calls Tryz.prog 148 #[r.v hv mv] w fun e w'=>e=.returned (.tuple #[.string ⟨#[]⟩,.int .i64 2])∧Below w.heap.size w w':=by
  have HC:=Lib.hid (fun (W : World) (hb : Below w.heap.size w W)=>(recMay_walk r hr W hv mv (hH.below hb) (hM.below hb)).mono fun e w' h=>(⟨by obtain ⟨⟨c,he,hc⟩,_⟩:=h;cases c;exact he;exact absurd (hc.1 rfl) hno,h.2⟩ : e=.returned (.bool false)∧Below W.heap.size W w'))
  obtain ⟨A,c1,rfl,_⟩:=hH
  obtain ⟨B,c2,rfl,_⟩:=hM
  obtain ⟨kind,seq,pos,homes,masked,sum⟩:=r
  clear hr hno
  unfold Rec.v iV at *
  dsimp only at *
  generalize homes.length=nh at *
  generalize masked.length=nm at *
  go_enter Tryz.func148,Tryz.ntmps148
  go_wp2_with (go_at_call 208;refine (HC.out _ (below_one w _)).mono ?_;rintro e w0 ⟨rfl,hb0⟩;have HB0:=Lib.hid hb0;clear hb0)
  go_ret2
  exact ⟨rfl,bl_trans (below_one w _) HB0.out⟩
def encHead (seq pos : Nat) : List UInt8:=putL (putL (recB seq) 4 1 1) 13 2 pos
def encCommit (seq sum : Nat) : List UInt8:=putL (putL (recB seq) 4 1 4) 13 4 sum
end Go.Proofs.YtbamnpenkjfgkaaGreat
namespace Go.Proofs.YtbamnpenkjfgkaaGreat
open Go.RowKit
theorem row_under {B : Nat} {w w' : World} {n : Nat} {o : Obj} (h : w.heap[n]?=some o) (hb : Below B w w') (hn : n < B) : w'.heap[n]?=some o:=by rw [hb.block n hn];exact h
theorem row_set21 {w : World} {n : Nat} {T : TypeId} {v0 a1 v1 : Value} (h : w.heap[n]?=some (.cells #[v0,a1] T (0,0))) : (w.setCell ⟨n,1,none⟩ v1).heap[n]?=some (.cells #[v0,v1] T (0,0)):=by
  have h2:=row_set (i:=1) h v1
  simpa using h2
set_option maxRecDepth 100000 in
set_option maxHeartbeats 8000000 in
theorem recEnc_head (HRep : RepIs) (r : Rec) (hr : r.small) (w : World) (hv mv : Value) (hH : Ints w hv r.homes) (hM : Bools w mv r.masked) (hok : r.ok) (hk : r.kind=1) : Calls Tryz.prog 148 #[r.v hv mv] w fun e w'=>e=.returned (.tuple #[.string ⟨(encHead r.seq r.pos).toArray⟩,.int .i64 0])∧Below w.heap.size w w':=by
  have HC:=Lib.hid (fun (W : World) (hb : Below w.heap.size w W)=>(recMay_walk r hr W hv mv (hH.below hb) (hM.below hb)).mono fun e w' h=>(⟨by obtain ⟨⟨c,he,hc⟩,_⟩:=h;cases c;exact absurd (hc.2 hok) (by decide);exact he,h.2⟩ : e=.returned (.bool true)∧Below W.heap.size W w'))
  have hpos : r.pos < 2 ^ (8 * 2):=by
    rcases hok with h | h | h | h
    · have:=h.2.1;omega
    all_goals (have:=h.1;omega)
  have hseq:=hr.seq
  have HR:=Lib.hid (fun W=>HRep 124 W (by omega) (by omega))
  have HZ : (([71,76,74,119] : List UInt8) ++ List.replicate 124 0).length=128:=recZ_len
  obtain ⟨A,c1,rfl,_⟩:=hH
  obtain ⟨B,c2,rfl,_⟩:=hM
  obtain ⟨kind,seq,pos,homes,masked,sum⟩:=r
  clear hr hok HRep
  unfold Rec.v iV at *
  dsimp only at *
  subst hk
  obtain ⟨b0,hb0⟩ : ∃ b0 : ByteArray,b0=⟨(putL recZ 5 8 seq).toArray⟩:=⟨_,rfl⟩
  have HP:=Lib.hid (fun (W : World)=>put_walk ⟨(recZ).toArray⟩ recZ rfl 5 8 seq (by unfold sz;omega) (by omega) (by rw [recZ_len];omega) (by rw [recZ_len];omega) hseq W)
  rw [← hb0] at HP
  have hl0 : b0.data.toList=recB seq:=by rw [hb0];unfold recB;simp
  obtain ⟨b1,hb1e⟩ : ∃ b1 : ByteArray,b1=⟨(putL (recB seq) 4 1 1).toArray⟩:=⟨_,rfl⟩
  have hl1 : b1.data.toList=putL (recB seq) 4 1 1:=by rw [hb1e]
  obtain ⟨b2,hb2e⟩ : ∃ b2 : ByteArray,b2=⟨(encHead seq pos).toArray⟩:=⟨_,rfl⟩
  have hL1 : (putL (recB seq) 4 1 1).length=128:=by rw [putL_len _ _ _ _ (by rw [recB_len];omega),recB_len]
  have HW1:=Lib.hid (fun (p : Nat) (W : World) h=>wput_walk b0 (recB seq) hl0 4 1 1 p (by unfold sz;omega) (by omega) (by rw [recB_len];omega) (by rw [recB_len];omega) (by omega) (by omega) W h)
  have HW2:=Lib.hid (fun (p : Nat) (W : World) h=>wput_walk b1 (putL (recB seq) 4 1 1) hl1 13 2 pos p (by unfold sz;omega) (by omega) (by rw [hL1];omega) (by rw [hL1];omega) hpos (by omega) W h)
  rw [← hb1e] at HW1
  rw [show putL (putL (recB seq) 4 1 1) 13 2 pos=encHead seq pos from rfl,← hb2e] at HW2
  rw [← hb2e]
  unfold pV iV at HW1 HW2
  clear hL1 hl0 hl1 hb0 hb1e hb2e HZ
  generalize homes.length=nh at *
  generalize masked.length=nm at *
  go_enter Tryz.func148,Tryz.ntmps148
  go_wp2_with (go_at_call 208;refine (HC.out _ (below_one w _)).mono ?_;rintro e w0 ⟨rfl,hb0⟩;have HB0:=Lib.hid hb0;have hr0:=Lib.hid (row_below (row_new w _) hb0);obtain ⟨l0,c0,c1,c2,c3,c4,c5⟩:=six0 hr0.out;clear hb0)
  go_region_held_law (fun W=>W.cell? ⟨w.heap.size,1,none⟩=some (.int .u64 seq)∧Below w0.heap.size w0 W) (first | exact ⟨c1,⟨rfl,rfl,rfl,Nat.le_refl _,fun _ _=>rfl⟩⟩ | exact undS hb1 l0 c1 | exact keepS (by assumption) l0 hb2)
    (first | (go_at_call 30;refine (HR.out _).mono ?_;rintro e w1 ⟨rfl,hb1⟩) | (go_at_call 207;refine (HP.out _).mono ?_;rintro e w2 ⟨rfl,hb2⟩))
  rename_i hHeld
  have HB2:=Lib.hid hHeld.2
  have hr2:=Lib.hid (row_below hr0.out hHeld.2)
  clear hHeld hb1 hb2 c0 c1 c2 c3 c4 c5
  obtain ⟨l2,c0,c1,c2,c3,c4,c5⟩:=six0 hr2.out
  go_wp2_with (first
    | (go_at_call 209;refine (HW2.out w2.heap.size _ (row_set21 HP3.out)).mono ?_;rintro e w4 ⟨rfl,hp4,hb4⟩;have HP4:=Lib.hid hp4;have HB4:=Lib.hid hb4;clear hp4 hb4;obtain ⟨m4,q40,q41,q42,q43⟩:=two HP4.out)
    | (go_at_call 209;refine (HW1.out w2.heap.size _ (row_new w2 _)).mono ?_;rintro e w3 ⟨rfl,hp3,hb3⟩;have HP3:=Lib.hid hp3;have HB3:=Lib.hid hb3;clear hp3;obtain ⟨m3,q30,q31,q32,q33⟩:=two HP3.out;have hr3:=Lib.hid (row_under (row_old hr2.out) hb3 l2);clear hb3 c0 c1 c2 c3 c4 c5;obtain ⟨l3,c0,c1,c2,c3,c4,c5⟩:=six0 hr3.out))
  go_ret2
  refine ⟨rfl,?_⟩
  have a:=bl_trans (bl_trans (below_one w _) HB0.out) HB2.out
  exact (bl_set ((bl_alloc a _).trans (HB3.out.mono a.size)) a.size 1 _).trans (HB4.out.mono a.size)
set_option maxRecDepth 100000 in
set_option maxHeartbeats 8000000 in
theorem recEnc_commit (HRep : RepIs) (r : Rec) (hr : r.small) (w : World) (hv mv : Value) (hH : Ints w hv r.homes) (hM : Bools w mv r.masked) (hok : r.ok) (hk : r.kind=4) : Calls Tryz.prog 148 #[r.v hv mv] w fun e w'=>e=.returned (.tuple #[.string ⟨(encCommit r.seq r.sum).toArray⟩,.int .i64 0])∧Below w.heap.size w w':=by
  have HC:=Lib.hid (fun (W : World) (hb : Below w.heap.size w W)=>(recMay_walk r hr W hv mv (hH.below hb) (hM.below hb)).mono fun e w' h=>(⟨by obtain ⟨⟨c,he,hc⟩,_⟩:=h;cases c;exact absurd (hc.2 hok) (by decide);exact he,h.2⟩ : e=.returned (.bool true)∧Below W.heap.size W w'))
  have hpos : r.sum < 2 ^ (8 * 4):=by have:=hr.sum;omega
  have hseq:=hr.seq
  have HR:=Lib.hid (fun W=>HRep 124 W (by omega) (by omega))
  have HZ : (([71,76,74,119] : List UInt8) ++ List.replicate 124 0).length=128:=recZ_len
  obtain ⟨A,c1,rfl,_⟩:=hH
  obtain ⟨B,c2,rfl,_⟩:=hM
  obtain ⟨kind,seq,pos,homes,masked,sum⟩:=r
  clear hr hok HRep
  unfold Rec.v iV at *
  dsimp only at *
  subst hk
  obtain ⟨b0,hb0⟩ : ∃ b0 : ByteArray,b0=⟨(putL recZ 5 8 seq).toArray⟩:=⟨_,rfl⟩
  have HP:=Lib.hid (fun (W : World)=>put_walk ⟨(recZ).toArray⟩ recZ rfl 5 8 seq (by unfold sz;omega) (by omega) (by rw [recZ_len];omega) (by rw [recZ_len];omega) hseq W)
  rw [← hb0] at HP
  have hl0 : b0.data.toList=recB seq:=by rw [hb0];unfold recB;simp
  obtain ⟨b1,hb1e⟩ : ∃ b1 : ByteArray,b1=⟨(putL (recB seq) 4 1 4).toArray⟩:=⟨_,rfl⟩
  have hl1 : b1.data.toList=putL (recB seq) 4 1 4:=by rw [hb1e]
  obtain ⟨b2,hb2e⟩ : ∃ b2 : ByteArray,b2=⟨(encCommit seq sum).toArray⟩:=⟨_,rfl⟩
  have hL1 : (putL (recB seq) 4 1 4).length=128:=by rw [putL_len _ _ _ _ (by rw [recB_len];omega),recB_len]
  have HW1:=Lib.hid (fun (p : Nat) (W : World) h=>wput_walk b0 (recB seq) hl0 4 1 4 p (by unfold sz;omega) (by omega) (by rw [recB_len];omega) (by rw [recB_len];omega) (by omega) (by omega) W h)
  have HW2:=Lib.hid (fun (p : Nat) (W : World) h=>wput_walk b1 (putL (recB seq) 4 1 4) hl1 13 4 sum p (by unfold sz;omega) (by omega) (by rw [hL1];omega) (by rw [hL1];omega) hpos (by omega) W h)
  rw [← hb1e] at HW1
  rw [show putL (putL (recB seq) 4 1 4) 13 4 sum=encCommit seq sum from rfl,← hb2e] at HW2
  rw [← hb2e]
  unfold pV iV at HW1 HW2
  clear hL1 hl0 hl1 hb0 hb1e hb2e HZ
  generalize homes.length=nh at *
  generalize masked.length=nm at *
  go_enter Tryz.func148,Tryz.ntmps148
  go_wp2_with (go_at_call 208;refine (HC.out _ (below_one w _)).mono ?_;rintro e w0 ⟨rfl,hb0⟩;have HB0:=Lib.hid hb0;have hr0:=Lib.hid (row_below (row_new w _) hb0);obtain ⟨l0,c0,c1,c2,c3,c4,c5⟩:=six0 hr0.out;clear hb0)
  go_region_held_law (fun W=>W.cell? ⟨w.heap.size,1,none⟩=some (.int .u64 seq)∧Below w0.heap.size w0 W) (first | exact ⟨c1,⟨rfl,rfl,rfl,Nat.le_refl _,fun _ _=>rfl⟩⟩ | exact undS hb1 l0 c1 | exact keepS (by assumption) l0 hb2)
    (first | (go_at_call 30;refine (HR.out _).mono ?_;rintro e w1 ⟨rfl,hb1⟩) | (go_at_call 207;refine (HP.out _).mono ?_;rintro e w2 ⟨rfl,hb2⟩))
  rename_i hHeld
  have HB2:=Lib.hid hHeld.2
  have hr2:=Lib.hid (row_below hr0.out hHeld.2)
  clear hHeld hb1 hb2 c0 c1 c2 c3 c4 c5
  obtain ⟨l2,c0,c1,c2,c3,c4,c5⟩:=six0 hr2.out
  go_wp2_with (first
    | (go_at_call 209;refine (HW2.out w2.heap.size _ (row_set21 HP3.out)).mono ?_;rintro e w4 ⟨rfl,hp4,hb4⟩;have HP4:=Lib.hid hp4;have HB4:=Lib.hid hb4;clear hp4 hb4;obtain ⟨m4,q40,q41,q42,q43⟩:=two HP4.out)
    | (go_at_call 209;refine (HW1.out w2.heap.size _ (row_new w2 _)).mono ?_;rintro e w3 ⟨rfl,hp3,hb3⟩;have HP3:=Lib.hid hp3;have HB3:=Lib.hid hb3;clear hp3;obtain ⟨m3,q30,q31,q32,q33⟩:=two HP3.out;have hr3:=Lib.hid (row_under (row_old hr2.out) hb3 l2);clear hb3 c0 c1 c2 c3 c4 c5;obtain ⟨l3,c0,c1,c2,c3,c4,c5⟩:=six0 hr3.out))
  go_ret2
  refine ⟨rfl,?_⟩
  have a:=bl_trans (bl_trans (below_one w _) HB0.out) HB2.out
  exact (bl_set ((bl_alloc a _).trans (HB3.out.mono a.size)) a.size 1 _).trans (HB4.out.mono a.size)
end Go.Proofs.YtbamnpenkjfgkaaGreat
namespace Go.Proofs.YtbamnpenkjfgkaaGreat
open Go.RowKit
set_option maxRecDepth 100000 in
set_option maxHeartbeats 8000000 in
theorem prefix_walk (b p : ByteArray) (hb : b.size < 1000000) (hp : p.size≤b.size) (w : World) : Calls Tryz.prog 78 #[.string b,.string p] w fun e w'=>Ans e (b.data.toList.take p.size=p.data.toList)∧w'=w:=by
  go_enter Tryz.func78,Tryz.ntmps78
  go_wp2
  go_ret
  refine ⟨⟨_,rfl,?_⟩,rfl⟩
  rw [Go.ByteArray.toList_eq,Go.ByteArray.toList_eq]
  rw [beq_iff_eq]
  have e : (b.extract 0 p.size).data.toList=b.data.toList.take p.size:=by
    rw [ByteArray.data_extract,Array.toList_extract]
    simp
  rw [e]
end Go.Proofs.YtbamnpenkjfgkaaGreat
namespace Go.Proofs.YtbamnpenkjfgkaaGreat
open Go.RowKit
def deadOf (k : Nat) : Nat:=if k=61 then 61 else 230
set_option maxRecDepth 100000 in
set_option maxHeartbeats 8000000 in
theorem dead_walk (k : Nat) (w : World) : Calls Tryz.prog 16 #[iV k] w fun e w'=>e=.returned (iV (deadOf k))∧w'=w:=by
  unfold iV
  by_cases h : k=61
  · subst h
    go_enter Tryz.func16,Tryz.ntmps16
    go_wp2
    go_ret
    exact ⟨rfl,rfl⟩
  · have e1 : ((k : Int) == 61)=false:=by simp;omega
    have e2 : deadOf k=230:=by unfold deadOf;rw [if_neg h]
    rw [e2]
    go_enter Tryz.func16,Tryz.ntmps16
    go_wp2
    go_ret
    exact ⟨rfl,rfl⟩
end Go.Proofs.YtbamnpenkjfgkaaGreat
