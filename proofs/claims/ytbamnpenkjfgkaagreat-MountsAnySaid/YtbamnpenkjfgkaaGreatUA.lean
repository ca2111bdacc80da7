/- Words: numbers in texts. -/
import Derived.Test.YtbamnpenkjfgkaaGreatProg
import Derived.WalkKit
import Derived.WalkSpells
import Derived.BigCall
import Derived.IntWalk
import Derived.Lib.Hide
import Derived.Laws.Bits64b
import Derived.Lib.ConvBytes
import Derived.Below
import Derived.Laws.Rows
import Derived.Laws.ResultCell
namespace Go.Proofs.YtbamnpenkjfgkaaGreat
open Go.RowKit
def leN : List UInt8→Nat
  | []=>0
  | b :: r=>b.toNat+256 * leN r
theorem leN_append (p r : List UInt8) : leN (p ++ r)=leN p+2 ^ (8 * p.length) * leN r:=by
  induction p with
  | nil=>simp [leN]
  | cons b p ih =>
    have e : 2 ^ (8 * (p.length+1))=256 * 2 ^ (8 * p.length):=by rw [Nat.mul_add,Nat.pow_add];omega
    simp only [List.cons_append,leN,ih,List.length_cons,e]
    rw [Nat.mul_add,Nat.mul_assoc]
    omega
theorem leN_lt (p : List UInt8) : leN p < 2 ^ (8 * p.length):=by
  induction p with
  | nil=>simp [leN]
  | cons b p ih =>
    have e : 2 ^ (8 * (p.length+1))=256 * 2 ^ (8 * p.length):=by rw [Nat.mul_add,Nat.pow_add];omega
    have:=b.toNat_lt
    simp only [leN,List.length_cons,e]
    omega
def leB : Nat→Nat→List UInt8
  | 0,_=>[]
  | n+1,x=>UInt8.ofNat x :: leB n (x / 256)
theorem leB_len (n x : Nat) : (leB n x).length=n:=by
  induction n generalizing x with
  | zero=>rfl
  | succ n ih=>simp [leB,ih]
theorem or_add (N c k : Nat) (hN : N < 2 ^ (8 * k)) (hc : c < 256) (hk : k < 8) : bits .or .u64 (N : Int) (IntKind.u64.wrap (IntKind.u64.wrap (c : Int) * 2 ^ (8 * k)))=((N+2 ^ (8 * k) * c : Nat) : Int):=by
  have h1 : 2 ^ (8 * k) * c < 18446744073709551616:=by
    have h2 : 2 ^ (8 * k)≤2 ^ 56:=Nat.pow_le_pow_right (by omega) (by omega)
    calc 2 ^ (8 * k) * c≤2 ^ 56 * 255:=Nat.mul_le_mul h2 (by omega)
      _ < _:=by decide
  have h2 : N < 18446744073709551616:=by
    have : 2 ^ (8 * k)≤2 ^ 56:=Nat.pow_le_pow_right (by omega) (by omega)
    omega
  have e1 : IntKind.u64.wrap (c : Int)=c:=by rw [IntKind.wrap_u64];omega
  have e2 : IntKind.u64.wrap ((c : Int) * 2 ^ (8 * k))=((2 ^ (8 * k) * c : Nat) : Int):=by
    have : (c : Int) * 2 ^ (8 * k)=((2 ^ (8 * k) * c : Nat) : Int):=by push_cast;rw [Int.mul_comm]
    rw [this,IntKind.wrap_u64]
    omega
  rw [e1,e2,bits_or_u64_nat _ _ h2 h1,Nat.or_comm,← Nat.two_pow_add_eq_or_of_lt hN,Nat.add_comm]
def sz (n : Nat) : Prop:=n=1∨n=2∨n=4∨n=8
def intV (v : Value) : Nat:=match v with | .int _ n=>n.toNat | _=>0
set_option maxRecDepth 100000 in
set_option maxHeartbeats 1000000 in
theorem within_walk (b : ByteArray) (a n : Nat) (hn : sz n) (ha : a < 1000000) (hb : b.size < 1000000) (w : World) : Calls Tryz.prog 204 #[.string b,.int .i64 a,.int .i64 n] w fun e w'=>e=.returned (.bool (decide (a+n≤b.size)))∧w'=w:=by
  rcases hn with rfl | rfl | rfl | rfl
  all_goals
    go_enter Tryz.func204,Tryz.ntmps204
    go_wp2
    go_ret
    refine ⟨?_,rfl⟩
    show Ending.returned (.bool _)=Ending.returned (.bool _)
    congr 2
    apply decide_eq_decide.2
    omega
set_option maxRecDepth 100000 in
set_option maxHeartbeats 1000000 in
theorem get_walk (b : ByteArray) (a n : Nat) (hn : sz n) (ha : a < 1000000) (hb : b.size < 1000000) (han : a+n≤b.size) (w : World) : Calls Tryz.prog 144 #[.string b,.int .i64 a,.int .i64 n] w fun e w'=>e=.returned (.tuple #[.int .u64 (leN ((b.data.toList.drop a).take n)),.bool true])∧w'=w:=by
  have hw:=fun W=>within_walk b a n hn ha hb W
  have e1 : decide (a+n≤b.size)=true:=by simpa using han
  rw [e1] at hw
  have hn8 : n≤8:=by rcases hn with rfl | rfl | rfl | rfl <;> omega
  clear hn e1
  have hl : b.data.toList.length=b.size:=rfl
  have HL:=Lib.hid hl
  clear hl
  go_enter Tryz.func144,Tryz.ntmps144
  go_wp2_with (go_at_call 204;refine (hw _).mono ?_;rintro e w0 ⟨rfl,rfl⟩)
  go_loopw [8,16] (fun v i wr=>∃ (k : Nat) (x : Int),i=.int .i64 k∧v=.int .u64 x∧k≤n∧Hid (x=leN ((b.data.toList.drop a).take k))∧wr=w0) (fun _ i _=>n - intV i)
  case atStart=>exact ⟨0,0,rfl,rfl,by omega,rfl,rfl⟩
  case round =>
    obtain ⟨k,x,rfl,rfl,hk,hx,rfl⟩:=hrel
    by_cases hkn : k < n
    · go_wp2
      refine ⟨⟨k+1,_,by first | rfl | simp,rfl,hkn,?_,trivial⟩,by simp [intV];omega⟩
      apply Lib.hid
      have hx:=hx.out
      have hl:=HL.out
      have ht : (b.data.toList.drop a).take (k+1)=(b.data.toList.drop a).take k ++ [b.data.toList[a+k]'(by omega)]:=by
        rw [List.take_succ_eq_append_getElem (by simp;omega)]
        simp
      have hlk : ((b.data.toList.drop a).take k).length=k:=by simp;omega
      have hlt:=leN_lt ((b.data.toList.drop a).take k)
      rw [hlk] at hlt
      rw [hx,or_add _ _ k hlt (UInt8.toNat_lt _) (by omega),ht,leN_append,hlk]
      simp [leN]
      rfl
    · have : k=n:=by omega
      subst this
      go_wp2
      go_ret2
      exact ⟨by rw [hx.out];rfl,rfl⟩
end Go.Proofs.YtbamnpenkjfgkaaGreat
namespace Go.Proofs.YtbamnpenkjfgkaaGreat
open Go.RowKit
theorem heap_setCell (w : World) (b k q : Nat) (v : Value) : (w.setCell ⟨b,k,none⟩ v).heap[q]?=if b=q then (w.heap[q]?).map (fun o=>match o with | .cells c e f=>.cells (c.setIfInBounds k v) e f | o=>o) else w.heap[q]?:=by
  unfold World.setCell
  rw [Array.getElem?_modify]
  by_cases h : b=q
  · rw [if_pos h,if_pos h]
    cases w.heap[q]? with
    | none=>rfl
    | some o=>cases o <;> rfl
  · rw [if_neg h,if_neg h]
theorem cell_set (w : World) (b k q j : Nat) (v : Value) : (w.setCell ⟨b,k,none⟩ v).cell? ⟨q,j,none⟩=if b=q∧k=j∧(w.cell? ⟨b,k,none⟩).isSome=true then some v else w.cell? ⟨q,j,none⟩:=by
  unfold World.cell?
  dsimp only
  rw [heap_setCell]
  by_cases h : b=q
  · subst h
    rw [if_pos rfl]
    cases hb : w.heap[b]? with
    | none=>simp
    | some o =>
      cases o with
      | cells c e f =>
        simp only [Option.map_some,Option.isSome_none,Bool.false_eq_true,if_false,Array.getElem?_setIfInBounds]
        by_cases hk : k=j
        · subst hk
          by_cases hs : k < c.size
          · simp [hs]
          · simp [hs]
        · simp [hk]
      | _=>simp
  · rw [if_neg h,if_neg fun e=>h e.1]
theorem frozen_set (w : World) (b k q j : Nat) (v : Value) : (w.setCell ⟨b,k,none⟩ v).frozen? ⟨q,j,none⟩=w.frozen? ⟨q,j,none⟩:=by
  unfold World.frozen?
  dsimp only
  rw [heap_setCell]
  by_cases h : b=q
  · subst h
    rw [if_pos rfl]
    cases hb : w.heap[b]? with
    | none=>rfl
    | some o=>cases o <;> rfl
  · rw [if_neg h]
def byV (x : UInt8) : Value:=.int .u8 (x.toNat : Nat)
def Bts (w : World) (g : Nat) (l : List UInt8) : Prop:=∀ j,j < l.length→w.cell? ⟨g,j,none⟩=some (byV (l.getD j 0))∧w.frozen? ⟨g,j,none⟩=false
theorem Bts.set {w : World} {g : Nat} {l : List UInt8} (h : Bts w g l) {i : Nat} (hi : i < l.length) (c : UInt8) : Bts (w.setCell ⟨g,i,none⟩ (byV c)) g (l.set i c):=fun j hj=>by
  rw [List.length_set] at hj
  rw [cell_set,frozen_set]
  refine ⟨?_,(h j hj).2⟩
  by_cases hij : i=j
  · subst hij
    rw [if_pos ⟨rfl,rfl,by rw [(h i hi).1];rfl⟩]
    simp [List.getD,hi]
  · rw [if_neg (fun x=>hij x.2.1),(h j hj).1]
    simp [List.getD,List.getElem?_set,hij]
theorem bytes_new (w : World) (s : ByteArray) : Bts (Lib.bytesWorld w 5 s) w.heap.size s.data.toList:=fun j hj=>by
  refine ⟨?_,?_⟩
  · rw [Lib.bytesWorld_cell w 5 s j hj];rfl
  · unfold World.frozen?
    rw [Lib.bytesWorld_at_new]
    have hs : j < (Lib.bytesCells w 5 s).size:=by
      have : (Lib.bytesCells w 5 s).size=s.size+(grownCap w s.size 0 5 - s.size):=by
        unfold Lib.bytesCells
        simp
      have h2 : s.data.toList.length=s.size:=rfl
      omega
    simp
    omega
theorem bytes_below (w : World) (s : ByteArray) : Below w.heap.size w (Lib.bytesWorld w 5 s):=by
  refine ⟨rfl,rfl,rfl,by rw [Lib.bytesWorld_size];omega,fun k hk=>Lib.bytesWorld_at_old w 5 s k hk⟩
theorem leB_snoc (k x : Nat) : leB (k+1) x=leB k x ++ [UInt8.ofNat (x / 2 ^ (8 * k))]:=by
  induction k generalizing x with
  | zero=>simp [leB]
  | succ k ih =>
    have e : x / 256 / 2 ^ (8 * k)=x / 2 ^ (8 * (k+1)):=by
      rw [Nat.div_div_eq_div_mul,show 8 * (k+1)=8 * k+8 from by omega,Nat.pow_add,Nat.mul_comm]
    rw [leB,ih,e]
    rfl
def putL (l : List UInt8) (a k x : Nat) : List UInt8:=l.take a ++ leB k x ++ l.drop (a+k)
theorem putL_len (l : List UInt8) (a k x : Nat) (h : a+k≤l.length) : (putL l a k x).length=l.length:=by
  unfold putL
  simp [leB_len]
  omega
theorem putL_zero (l : List UInt8) (a x : Nat) : putL l a 0 x=l:=by simp [putL,leB]
theorem putL_next (l : List UInt8) (a k x : Nat) (h : a+k < l.length) : putL l a (k+1) x=(putL l a k x).set (a+k) (UInt8.ofNat (x / 2 ^ (8 * k))):=by
  unfold putL
  rw [leB_snoc]
  have h1 : l.drop (a+k)=l[a+k] :: l.drop (a+k+1):=List.drop_eq_getElem_cons h
  rw [h1,List.set_append_right _ _ (by simp [leB_len];omega)]
  have h2 : a+k - (l.take a ++ leB k x).length=0:=by simp [leB_len];omega
  rw [h2]
  simp [Nat.add_assoc]
theorem bts_conv {w : World} {g cap : Nat} {l : List UInt8} (h : Bts w g l) : (convert 23 9 (.slice (some ⟨g,0,none⟩) l.length cap)).run Tryz.prog w=.ok (.string ⟨l.toArray⟩) w:=by
  refine run_convert_bytes_back (P:=Tryz.prog) w 23 9 5 ⟨g,0,none⟩ cap l (by kernel_rfl) (by kernel_rfl) (by kernel_rfl) (fun j hj=>?_)
  have ha : (⟨g,0,none⟩ : Addr).add j=⟨g,j,none⟩:=by simp [Addr.add];exact fun h=>h.symm
  rw [ha,(h j hj).1]
  simp [byV,List.getD,hj]
set_option maxRecDepth 100000 in
set_option maxHeartbeats 1000000 in
theorem put_walk (b : ByteArray) (l : List UInt8) (hl : b.data.toList=l) (a n x : Nat) (hn : sz n) (ha : a < 1000000) (hb : l.length < 1000000) (han : a+n≤l.length) (hx : x < 2 ^ (8 * n)) (w : World) : Calls Tryz.prog 207 #[.string b,.int .i64 a,.int .i64 n,.int .u64 x] w fun e w'=>e=.returned (.tuple #[.string ⟨(putL l a n x).toArray⟩,.bool true])∧Below w.heap.size w w':=by
  have hbs : b.size=l.length:=by rw [← hl];rfl
  have hw:=fun W=>within_walk b a n hn ha (by omega) W
  have e1 : decide (a+n≤b.size)=true:=by simp;omega
  rw [e1] at hw
  have hcv:=fun W=>Lib.run_convert_string_bytes (P:=Tryz.prog) W 9 23 5 b (u:=.string) Tryz.underlying9 Tryz.underlying23 Tryz.underlying5
  rw [hbs] at hcv
  have hn8 : n≤8:=by rcases hn with rfl | rfl | rfl | rfl <;> omega
  have hz : (x : Int) / 2 ^ (8 * n)=0:=by
    have : x / 2 ^ (8 * n)=0:=Nat.div_eq_of_lt hx
    have h2 : ((x / 2 ^ (8 * n) : Nat) : Int)=(0 : Nat):=by rw [this]
    push_cast at h2
    exact h2
  have HL:=Lib.hid hl
  clear hl e1 hn hx hbs
  go_enter Tryz.func207,Tryz.ntmps207
  go_wp2_with (go_at_call 204;refine (hw _).mono ?_;rintro e w0 ⟨rfl,rfl⟩)
  all_goals
    generalize grownCap w0 l.length 0 5=cap
    have hbt:=bytes_new w0 b
    rw [HL.out] at hbt
    have hbw:=bytes_below w0 b
    generalize Lib.bytesWorld w0 5 b=w1 at hbt hbw
    go_loopw [31] (fun i wr=>∃ (k : Nat),i=.int .i64 k∧k≤n∧Hid (Bts wr w0.heap.size (putL l a k x))∧Hid (Below w0.heap.size w0 wr)) (fun i _=>n - intV i)
    case atStart=>exact ⟨0,rfl,by omega,by rw [putL_zero];exact hbt,hbw⟩
    case round =>
      obtain ⟨k,rfl,hk,hB,hL⟩:=hrel
      by_cases hkn : k < n
      · have hcell:=(hB.out (a+k) (by rw [putL_len _ _ _ _ (by omega)];omega))
        obtain ⟨hc1,hc2⟩:=hcell
        go_wp2
        refine ⟨⟨k+1,by first | rfl | simp,hkn,?_,?_⟩,by simp [intV];omega⟩
        · apply Lib.hid
          rw [putL_next _ _ _ _ (by omega)]
          have e : Value.int IntKind.u8 ((x : Int) / 2 ^ (8 * k) % 256)=byV (UInt8.ofNat (x / 2 ^ (8 * k))):=by
            unfold byV
            rw [UInt8.toNat_ofNat']
            push_cast
            rfl
          rw [e]
          exact hB.out.set (by rw [putL_len _ _ _ _ (by omega)];omega) _
        · exact Lib.hid (hL.out.setCell (Nat.le_refl _) _)
      · have : k=n:=by omega
        subst this
        have hcb:=bts_conv (cap:=cap) hB.out
        rw [putL_len _ _ _ _ (by omega)] at hcb
        go_wp2
        go_ret2
        exact ⟨rfl,hL.out⟩
end Go.Proofs.YtbamnpenkjfgkaaGreat
namespace Go.Proofs.YtbamnpenkjfgkaaGreat
open Go.RowKit
theorem ret_cellP {P : Program} {fn : Func} {p u n : Nat} {ty : TypeId} {tmps cs : Array Value} {W : World} {fz : Nat × Nat} {d : TypeDesc} (hres : fn.results=#[.cell p ty,.tmp u]) (hp : tmps.getD p undef=.pointer (some ⟨n,0,none⟩)) (hW : W.heap[n]?=some (.cells cs ty fz))
    (hu : P.underlying ty=some d) (hd : (match d with | .struct _ | .array _ _=>true | _=>false)=true) (hi : (P.info? ty).map (·.size)=some cs.size) : (results fn tmps).run P W=.ok (.tuple #[.agg cs,tmps.getD u undef]) W:=by
  rw [results_cell_tmp hres,hp]
  have h1 : (asAddr (.pointer (some ⟨n,0,none⟩))).run P W=.ok ⟨n,0,none⟩ W:=rfl
  rw [h1]
  simp only [Result.andThen_ok]
  rw [run_loadVar_row W n ty ty cs fz _ hW hu hd hi]
  rfl
theorem row_new (w : World) (o : Obj) : (w.alloc o).heap[w.heap.size]?=some o:=by unfold World.alloc;exact Array.getElem?_push_size
theorem row_old {w : World} {o x : Obj} {n : Nat} (h : w.heap[n]?=some x) : (w.alloc o).heap[n]?=some x:=by
  rw [Below.heap_alloc w o n (Array.getElem?_eq_some_iff.1 h).1];exact h
theorem below_two (w : World) (o o' : Obj) : Below w.heap.size w ((w.alloc o).alloc o'):=((Below.refl _ w).alloc (Nat.le_refl _) o).alloc (by unfold World.alloc;simp) o'
theorem below_one (w : World) (o : Obj) : Below w.heap.size w (w.alloc o):=(Below.refl _ w).alloc (Nat.le_refl _) o
def iV (n : Nat) : Value:=.int .i64 (n : Int)
def dataAt (b l m : Nat) : Nat:=1+l+(b+1023) / 1024+m / 2
def geoOk (b l m : Nat) : Prop:=(256≤b∧b≤4096)∧(128≤l∧l≤512)∧(8≤m∧m≤512)∧m % 2=0∧dataAt b l m+16≤b
def geoV (b l m : Nat) : Value:=.agg #[iV b,iV l,iV m,iV 1,iV (1+l),iV ((b+1023) / 1024),iV (1+l+(b+1023) / 1024),iV (m / 2),iV (dataAt b l m)]
def geo0 : Value:=.agg #[.int .i64 0,.int .i64 0,.int .i64 0,.int .i64 0,.int .i64 0,.int .i64 0,.int .i64 0,.int .i64 0,.int .i64 0]
theorem Tryz.size42 : (Tryz.prog.info? 42).map (·.size)=some 9:=by kernel_rfl
def geoPost (b l m : Nat) (e : Ending) : Prop:=(geoOk b l m∧e=.returned (.tuple #[geoV b l m,.int .i64 0]))∨(¬ geoOk b l m∧e=.returned (.tuple #[geo0,.int .i64 2]))
set_option maxRecDepth 100000 in
set_option maxHeartbeats 4000000 in
theorem of_walk (b l m : Nat) (hb : b < 4611686018427387904) (hl : l < 4611686018427387904) (hm : m < 4611686018427387904) (w : World) : Calls Tryz.prog 23 #[iV b,iV l,iV m] w fun e w'=>geoPost b l m e∧Below w.heap.size w w':=by
  unfold iV
  by_cases he : m % 2=0
  · have hq : ((m : Int) % 2 != 0)=false:=by simp;omega
    go_enter Tryz.func23,Tryz.ntmps23
    go_wp2
    all_goals first
      | (refine bodyPost_ret (ret_cellP (n:=w.heap.size) rfl rfl (row_new _ _) Tryz.underlying42 rfl Tryz.size42) rfl ⟨.inr ⟨?_,rfl⟩,below_one _ _⟩;unfold geoOk dataAt;omega)
      | (refine bodyPost_ret (ret_cellP (n:=w.heap.size) rfl rfl (row_old (row_new _ _)) Tryz.underlying42 rfl Tryz.size42) rfl ⟨.inr ⟨?_,rfl⟩,below_two _ _ _⟩;unfold geoOk dataAt;omega)
      | (refine bodyPost_ret (ret_cellP (n:=w.heap.size) rfl rfl (row_old (row_new _ _)) Tryz.underlying42 rfl Tryz.size42) rfl ⟨.inl ⟨by unfold geoOk dataAt;omega,?_⟩,below_two _ _ _⟩;have e1 : ((b : Int)+1024 - 1) / 1024=(((b+1023) / 1024 : Nat) : Int):=by omega
         have e2 : (m : Int) / 2=((m / 2 : Nat) : Int):=by omega
         rw [e1,e2];unfold geoV iV dataAt;push_cast;rfl)
  · have hq : ((m : Int) % 2 != 0)=true:=by simp;omega
    go_enter Tryz.func23,Tryz.ntmps23
    go_wp2
    all_goals
      refine bodyPost_ret (ret_cellP (n:=w.heap.size) rfl rfl (row_new _ _) Tryz.underlying42 rfl Tryz.size42) rfl ⟨.inr ⟨?_,rfl⟩,below_one _ _⟩;unfold geoOk dataAt;omega
end Go.Proofs.YtbamnpenkjfgkaaGreat
namespace Go.Proofs.YtbamnpenkjfgkaaGreat
open Go.RowKit
def Ans (e : Ending) (p : Prop) : Prop:=∃ c : Bool,e=.returned (.bool c)∧(c=true ↔ p)
theorem Ans.eq {e : Ending} {p : Prop} [Decidable p] (h : Ans e p) : e=.returned (.bool (decide p)):=by
  obtain ⟨c,rfl,hc⟩:=h
  congr 2
  rw [Bool.eq_iff_iff,hc,decide_eq_true_iff]
structure Sup where
  b : Nat
  l : Nat
  m : Nat
  cur : Nat
  ino : Nat
  log : Nat
  frm : Nat
  tto : Nat
  len : Nat
  mov : Nat
def Sup.v (s : Sup) : Value:=.agg #[iV s.b,iV s.l,iV s.m,iV s.cur,iV s.ino,iV s.log,iV s.frm,iV s.tto,iV s.len,iV s.mov]
def Sup.small (s : Sup) : Prop:=s.b < 4294967296∧s.l < 4294967296∧s.m < 4294967296∧s.cur < 4294967296∧s.ino < 4294967296∧s.log < 4294967296∧s.frm < 4294967296∧s.tto < 4294967296∧s.len < 4294967296∧s.mov < 4294967296
def Sup.still (s : Sup) : Prop:=s.ino=0∧s.log=0∧s.frm=0∧s.tto=0∧s.len=0∧s.mov=0
def Sup.slides (s : Sup) : Prop:=2≤s.len∧s.len≤s.b∧1≤s.mov∧s.mov < s.len∧s.ino < s.m∧s.log+s.len≤2048∧s.frm+s.len≤s.b∧s.tto+s.len≤s.b
instance (s : Sup) : Decidable s.still:=by unfold Sup.still;exact inferInstance
instance (s : Sup) : Decidable s.slides:=by unfold Sup.slides;exact inferInstance
def Sup.ok (s : Sup) : Prop:=geoOk s.b s.l s.m∧s.cur≤s.b∧(s.still∨s.slides)
set_option maxRecDepth 100000 in
set_option maxHeartbeats 4000000 in
theorem still_walk (s : Sup) (hs : s.small) (w : World) : Calls Tryz.prog 205 #[s.v] w fun e w'=>Ans e s.still∧Below w.heap.size w w':=by
  obtain ⟨b,l,m,cur,ino,log,frm,to,len,mov⟩:=s
  unfold Sup.v iV
  dsimp only
  go_enter Tryz.func205,Tryz.ntmps205
  go_wp2
  all_goals
    go_ret
    refine ⟨⟨_,rfl,?_⟩,below_one _ _⟩
    unfold Sup.still
    first
    | (simp_all;done)
    | (simp_all;omega)
set_option maxRecDepth 100000 in
set_option maxHeartbeats 8000000 in
theorem slides_walk (s : Sup) (hs : s.small) (w : World) : Calls Tryz.prog 206 #[s.v] w fun e w'=>Ans e s.slides∧Below w.heap.size w w':=by
  obtain ⟨b,l,m,cur,ino,log,frm,to,len,mov⟩:=s
  unfold Sup.v iV
  unfold Sup.small at hs
  dsimp only at hs ⊢
  obtain ⟨h1,h2,h3,h4,h5,h6,h7,h8,h9,h10⟩:=hs
  go_enter Tryz.func206,Tryz.ntmps206
  go_wp2
  all_goals
    go_ret
    refine ⟨⟨_,rfl,?_⟩,below_one _ _⟩
    unfold Sup.slides
    dsimp only
    simp
    omega
end Go.Proofs.YtbamnpenkjfgkaaGreat
namespace Go.Proofs.YtbamnpenkjfgkaaGreat
open Go.RowKit
theorem bl_trans {w a b : World} (h : Below w.heap.size w a) (k : Below a.heap.size a b) : Below w.heap.size w b:=h.trans (k.mono h.size)
theorem bl_alloc {w a : World} (h : Below w.heap.size w a) (o : Obj) : Below w.heap.size w (a.alloc o):=h.alloc h.size o
theorem row_cell {w : World} {n i : Nat} {cs : Array Value} {T : TypeId} {fz : Nat × Nat} {v : Value} (h : w.heap[n]?=some (.cells cs T fz)) (hi : cs[i]?=some v) : w.cell? ⟨n,i,none⟩=some v:=by
  rw [cell_of_row w n i cs T fz h,hi]
theorem row_lt {w : World} {n : Nat} {o : Obj} (h : w.heap[n]?=some o) : n < w.heap.size:=(Array.getElem?_eq_some_iff.1 h).1
theorem ten {w : World} {n : Nat} {T : TypeId} {v0 v1 v2 v3 v4 v5 v6 v7 v8 v9 : Value} (h : w.heap[n]?=some (.cells #[v0,v1,v2,v3,v4,v5,v6,v7,v8,v9] T)) :
    n < w.heap.size∧w.cell? ⟨n,0,none⟩=some v0∧w.cell? ⟨n,1,none⟩=some v1∧w.cell? ⟨n,2,none⟩=some v2∧w.cell? ⟨n,3,none⟩=some v3∧w.cell? ⟨n,4,none⟩=some v4∧w.cell? ⟨n,5,none⟩=some v5∧w.cell? ⟨n,6,none⟩=some v6∧w.cell? ⟨n,7,none⟩=some v7∧w.cell? ⟨n,8,none⟩=some v8∧w.cell? ⟨n,9,none⟩=some v9 :=
  ⟨row_lt h,row_cell h rfl,row_cell h rfl,row_cell h rfl,row_cell h rfl,row_cell h rfl,row_cell h rfl,row_cell h rfl,row_cell h rfl,row_cell h rfl,row_cell h rfl⟩
theorem row_below {w w' : World} {n : Nat} {o : Obj} (h : w.heap[n]?=some o) (hb : Below w.heap.size w w') : w'.heap[n]?=some o:=by rw [hb.block n (row_lt h)];exact h
set_option maxRecDepth 100000 in
set_option maxHeartbeats 8000000 in
theorem supCheck_walk (s : Sup) (hs : s.small) (w : World) : Calls Tryz.prog 145 #[s.v] w fun e w'=>Ans e s.ok∧Below w.heap.size w w':=by
  have hO:=fun W=>of_walk s.b s.l s.m (by have:=hs.1;omega) (by have:=hs.2.1;omega) (by have:=hs.2.2.1;omega) W
  have hS:=fun W=>(still_walk s hs W).mono fun e w' h=>And.intro h.1.eq h.2
  have hD:=fun W=>(slides_walk s hs W).mono fun e w' h=>And.intro h.1.eq h.2
  unfold Sup.ok
  have hst : decide s.still=true ↔ s.still:=decide_eq_true_iff
  have hsl : decide s.slides=true ↔ s.slides:=decide_eq_true_iff
  generalize decide s.still=cs at hS hst
  generalize decide s.slides=cd at hD hsl
  generalize s.still=P1 at hst ⊢
  generalize s.slides=P2 at hsl ⊢
  obtain ⟨b,l,m,cur,ino,log,frm,to,len,mov⟩:=s
  unfold geoPost geoV geo0 iV at hO
  unfold Sup.v iV at *
  unfold Sup.small at hs
  dsimp only at hs hO hS hD ⊢
  obtain ⟨h1,h2,h3,h4,h5,h6,h7,h8,h9,h10⟩:=hs
  have H1:=Lib.hid hst
  have H2:=Lib.hid hsl
  clear hst hsl
  go_enter Tryz.func145,Tryz.ntmps145
  go_wp2_with (first
    | (go_at_call 23;refine (hO _).mono ?_;rintro e w0 ⟨hg,hbl⟩;have hr0:=row_below (row_new _ _) hbl;obtain ⟨l0,c0,c1,c2,c3,c4,c5,c6,c7,c8,c9⟩:=ten hr0;rcases hg with ⟨hok,rfl⟩ | ⟨hok,rfl⟩)
    | (go_at_call 205;refine (hS _).mono ?_;rintro e w1 ⟨rfl,hbl1⟩;have hr1:=row_below (row_old hr0) hbl1;obtain ⟨l1,d0,d1,d2,d3,d4,d5,d6,d7,d8,d9⟩:=ten hr1)
    | (go_at_call 206;refine (hD _).mono ?_;rintro e w2 ⟨rfl,hbl2⟩))
  all_goals
    go_ret
    refine ⟨⟨_,rfl,?_⟩,by first | exact bl_trans (bl_trans (bl_alloc (bl_trans (below_one w _) hbl) _) hbl1) hbl2 | exact bl_trans (bl_alloc (bl_trans (below_one w _) hbl) _) hbl1 | exact bl_alloc (bl_trans (below_one w _) hbl) _⟩
    have e1:=H1.out
    have e2:=H2.out
    try clear hbl2
    try clear hbl1 hr1 l1 d0 d1 d2 d3 d4 d5 d6 d7 d8 d9
    clear hbl hr0 l0 c0 c1 c2 c3 c4 c5 c6 c7 c8 c9 hO hS hD H1 H2
    rw [← e1,← e2]
    clear e1 e2
    simp_all
    try omega
end Go.Proofs.YtbamnpenkjfgkaaGreat
namespace Go.Proofs.YtbamnpenkjfgkaaGreat
open Go.RowKit
set_option maxRecDepth 100000 in
set_option maxHeartbeats 1000000 in
theorem get_out (b : ByteArray) (a n : Nat) (hn : sz n) (ha : a < 1000000) (hb : b.size < 1000000) (han : b.size < a+n) (w : World) : Calls Tryz.prog 144 #[.string b,.int .i64 a,.int .i64 n] w fun e w'=>e=.returned (.tuple #[.int .u64 0,.bool false])∧w'=w:=by
  have hw:=fun W=>within_walk b a n hn ha hb W
  have e1 : decide (a+n≤b.size)=false:=by simpa using han
  rw [e1] at hw
  clear hn e1
  go_enter Tryz.func144,Tryz.ntmps144
  go_wp2_with (go_at_call 204;refine (hw _).mono ?_;rintro e w0 ⟨rfl,rfl⟩)
  go_ret2
  exact ⟨rfl,rfl⟩
set_option maxRecDepth 100000 in
set_option maxHeartbeats 1000000 in
theorem getInt_out (b : ByteArray) (a n : Nat) (hn : sz n) (ha : a < 1000000) (hb : b.size < 1000000) (han : b.size < a+n) (w : World) : Calls Tryz.prog 85 #[.string b,.int .i64 a,.int .i64 n] w fun e w'=>e=.returned (.tuple #[.int .i64 0,.bool false])∧w'=w:=by
  have hw:=fun W=>get_out b a n hn ha hb han W
  clear hn
  go_enter Tryz.func85,Tryz.ntmps85
  go_wp2_with (go_at_call 144;refine (hw _).mono ?_;rintro e w0 ⟨rfl,rfl⟩)
  go_ret2
  exact ⟨rfl,rfl⟩
set_option maxRecDepth 100000 in
set_option maxHeartbeats 1000000 in
theorem getInt_ok (b : ByteArray) (l : List UInt8) (hl : b.data.toList=l) (a n v : Nat) (hn : sz n) (ha : a < 1000000) (hb : l.length < 1000000) (han : a+n≤l.length) (hv : leN ((l.drop a).take n)=v) (hv2 : v≤9223372036854775807) (w : World) : Calls Tryz.prog 85 #[.string b,.int .i64 a,.int .i64 n] w fun e w'=>e=.returned (.tuple #[.int .i64 v,.bool true])∧w'=w:=by
  have hbs : b.size=l.length:=by rw [← hl];rfl
  have hw:=fun W=>get_walk b a n hn ha (by omega) (by omega) W
  rw [hl,hv] at hw
  clear hn hv hl
  go_enter Tryz.func85,Tryz.ntmps85
  go_wp2_with (go_at_call 144;refine (hw _).mono ?_;rintro e w0 ⟨rfl,rfl⟩)
  go_ret2
  exact ⟨rfl,rfl⟩
set_option maxRecDepth 100000 in
set_option maxHeartbeats 1000000 in
theorem getInt_big (b : ByteArray) (l : List UInt8) (hl : b.data.toList=l) (a n v : Nat) (hn : sz n) (ha : a < 1000000) (hb : l.length < 1000000) (han : a+n≤l.length) (hv : leN ((l.drop a).take n)=v) (hv2 : 9223372036854775807 < v) (w : World) : Calls Tryz.prog 85 #[.string b,.int .i64 a,.int .i64 n] w fun e w'=>e=.returned (.tuple #[.int .i64 0,.bool false])∧w'=w:=by
  have hbs : b.size=l.length:=by rw [← hl];rfl
  have hw:=fun W=>get_walk b a n hn ha (by omega) (by omega) W
  rw [hl,hv] at hw
  clear hn hv hl
  go_enter Tryz.func85,Tryz.ntmps85
  go_wp2_with (go_at_call 144;refine (hw _).mono ?_;rintro e w0 ⟨rfl,rfl⟩)
  go_ret2
  exact ⟨rfl,rfl⟩
set_option maxRecDepth 100000 in
set_option maxHeartbeats 1000000 in
theorem putInt_walk (b : ByteArray) (l : List UInt8) (hl : b.data.toList=l) (a n x : Nat) (hn : sz n) (ha : a < 1000000) (hb : l.length < 1000000) (han : a+n≤l.length) (hx : x < 2 ^ (8 * n)) (hx2 : x≤9223372036854775807) (w : World) : Calls Tryz.prog 146 #[.string b,.int .i64 a,.int .i64 n,.int .i64 x] w fun e w'=>e=.returned (.tuple #[.string ⟨(putL l a n x).toArray⟩,.bool true])∧Below w.heap.size w w':=by
  have hw:=fun W=>put_walk b l hl a n x hn ha hb han hx W
  clear hn hx hl
  go_enter Tryz.func146,Tryz.ntmps146
  go_wp2_with (go_at_call 207;refine (hw _).mono ?_;rintro e w0 ⟨rfl,hbl⟩)
  go_ret2
  exact ⟨rfl,hbl⟩
end Go.Proofs.YtbamnpenkjfgkaaGreat
namespace Go.Proofs.YtbamnpenkjfgkaaGreat
open Go.RowKit
def zeros (c : Nat) : ByteArray:=⟨(List.replicate c 0).toArray⟩
def RepIs : Prop:=∀ (c : Nat) (w : World),2≤c→c < 1000000→Calls Tryz.prog 30 #[.string ⟨#[0]⟩,.int .i64 c] w fun e w'=>e=.returned (.string (zeros c))∧Below w.heap.size w w'
def nameL : List UInt8:=[103,108,105,115,115,97,100,101]
def encK (fs : List Nat) (k : Nat) : List UInt8:=nameL ++ (fs.take k).flatMap (leB 4) ++ List.replicate (120 - 4 * k) 0
theorem flat_len (l : List Nat) : (l.flatMap (leB 4)).length=4 * l.length:=by
  induction l with
  | nil=>rfl
  | cons a l ih=>simp only [List.flatMap_cons,List.length_append,ih,leB_len,List.length_cons];omega
theorem encK_len (fs : List Nat) (k : Nat) (hk : k≤10) (hf : fs.length=10) : (encK fs k).length=128:=by
  unfold encK
  simp only [List.length_append,flat_len,List.length_take,List.length_replicate,hf]
  have : nameL.length=8:=rfl
  omega
theorem encK_next (fs : List Nat) (k x : Nat) (hk : k < 10) (hf : fs.length=10) (hx : fs[k]?=some x) : putL (encK fs k) (8+4 * k) 4 x=encK fs (k+1):=by
  have h8 : nameL.length=8:=rfl
  have hl : (nameL ++ (fs.take k).flatMap (leB 4)).length=8+4 * k:=by
    simp only [List.length_append,flat_len,List.length_take,hf];omega
  have ht : fs.take (k+1)=fs.take k ++ [x]:=by
    rw [List.take_add_one,hx];rfl
  unfold putL encK
  rw [List.take_left' hl,← List.drop_drop,List.drop_left' hl,ht,List.flatMap_append]
  simp only [List.flatMap_cons,List.flatMap_nil,List.append_nil,List.drop_replicate,List.append_assoc]
  congr 4
def Sup.fs (s : Sup) : List Nat:=[s.b,s.l,s.m,s.cur,s.ino,s.log,s.frm,s.tto,s.len,s.mov]
def Sup.enc (s : Sup) : List UInt8:=encK s.fs 10
set_option maxRecDepth 100000 in
theorem place_walk (i : Nat) (hi : i < 1000) (w : World) : Calls Tryz.prog 86 #[.int .i64 i] w fun e w'=>e=.returned (.int .i64 (8+4 * i : Nat))∧w'=w:=by
  go_enter Tryz.func86,Tryz.ntmps86
  go_wp2
  go_ret
  exact ⟨by push_cast;rfl,rfl⟩
theorem idx_arr {t n : Nat} (ht : Tryz.prog.underlying t=some (.array n 3)) (cs : Array Value) (i : Nat) (v : Value) (hi : i < n) (hv : cs[i]?=some v) (W : World) : (Instr.index t (.agg cs) (.int .i64 (i : Int))).run Tryz.prog W=.ok v W:=by
  have h1 : (0 : Int)≤i∧(i : Int) < n:=by omega
  have h2 : (i : Int).toNat=i:=by omega
  simp [Instr.index,asIntOf,run_underlying ht,h1,h2,part,go_sem,hv,Tryz.sizeOf3,Tryz.isAgg3]
  intro h
  omega
set_option maxRecDepth 100000 in
set_option maxHeartbeats 8000000 in
theorem supEnc_walk (HRep : RepIs) (s : Sup) (hs : s.small) (w : World) : Calls Tryz.prog 87 #[s.v] w fun e w'=>((s.ok∧e=.returned (.tuple #[.string ⟨s.enc.toArray⟩,.int .i64 0]))∨(¬ s.ok∧e=.returned (.tuple #[.string ⟨#[]⟩,.int .i64 2])))∧Below w.heap.size w w':=by
  have hC:=fun W=>supCheck_walk s hs W
  have hR:=fun W=>HRep 120 W (by omega) (by omega)
  have hE0 : (ByteArray.mk #[103,108,105,115,115,97,100,101] ++ zeros 120).data.toList=encK s.fs 0:=by
    rw [ByteArray.data_append,Array.toList_append]
    rfl
  have hZ : (zeros 120).size=120:=by unfold zeros;exact List.size_toArray.trans List.length_replicate
  generalize zeros 120=Z at hR hE0 hZ
  clear HRep
  have hf : s.fs.length=10:=rfl
  have hnext:=fun (k x : Nat) (hk : k < 10) (hx : s.fs[k]?=some x)=>encK_next s.fs k x hk hf hx
  have hlen:=fun (k : Nat) (hk : k≤10)=>encK_len s.fs k hk hf
  have hg : ∀ (k x : Nat),s.fs[k]?=some x→x < 4294967296:=by
    unfold Sup.small at hs
    intro k x hx
    have : x ∈ s.fs:=List.mem_of_getElem? hx
    unfold Sup.fs at this
    simp only [List.mem_cons,List.not_mem_nil,or_false] at this
    omega
  have hgv : s.fs[0]?=some s.b∧s.fs[1]?=some s.l∧s.fs[2]?=some s.m∧s.fs[3]?=some s.cur∧s.fs[4]?=some s.ino∧s.fs[5]?=some s.log∧s.fs[6]?=some s.frm∧s.fs[7]?=some s.tto∧s.fs[8]?=some s.len∧s.fs[9]?=some s.mov:=⟨rfl,rfl,rfl,rfl,rfl,rfl,rfl,rfl,rfl,rfl⟩
  unfold Sup.enc
  generalize s.fs=fs at *
  generalize s.ok=OK at *
  obtain ⟨b,l,m,cur,ino,log,frm,tto,len,mov⟩:=s
  unfold Sup.v iV at *
  dsimp only at hC hgv ⊢
  clear hs
  have HG:=Lib.hid hg
  have HN:=Lib.hid hnext
  have HL:=Lib.hid hlen
  have HE:=Lib.hid hE0
  have HV:=Lib.hid hgv
  clear hg hnext hlen hE0 hgv hf
  go_enter Tryz.func87,Tryz.ntmps87
  go_wp2_with (first
    | (go_at_call 145;refine (hC _).mono ?_;rintro e w0 ⟨⟨c,rfl,hc⟩,hbl⟩;have hr0:=Lib.hid (row_below (row_new _ _) hbl);obtain ⟨l0,c0,c1,c2,c3,c4,c5,c6,c7,c8,c9⟩:=ten hr0.out;have HC:=Lib.hid hc;clear hc;cases c)
    | (go_at_call 30;refine (hR _).mono ?_;rintro e w1 ⟨rfl,hbl1⟩;have hr1:=Lib.hid (row_below hr0.out hbl1);obtain ⟨l1,d0,d1,d2,d3,d4,d5,d6,d7,d8,d9⟩:=ten hr1.out))
  · go_ret2
    exact ⟨.inr ⟨fun h=>absurd (HC.out.2 h) (by first | decide | simp),rfl⟩,bl_trans (below_one w _) hbl⟩
  · have hok:=Lib.hid (HC.out.1 (by first | rfl | trivial))
    have HB:=Lib.hid (bl_trans (bl_trans (below_one w _) hbl) hbl1)
    generalize hS : ByteArray.mk #[103,108,105,115,115,97,100,101] ++ Z=S0 at HE
    clear hC hR hr0 hr1 hbl hbl1 HC hS hZ c0 c1 c2 c3 c4 c5 c6 c7 c8 c9 d0 d1 d2 d3 d4 d5 d6 d7 d8 d9 l0 l1
    generalize harr : Value.agg #[Value.int IntKind.i64 ↑b,Value.int IntKind.i64 ↑l,Value.int IntKind.i64 ↑m,Value.int IntKind.i64 ↑cur,Value.int IntKind.i64 ↑ino,Value.int IntKind.i64 ↑log,Value.int IntKind.i64 ↑frm,Value.int IntKind.i64 ↑tto,Value.int IntKind.i64 ↑len,Value.int IntKind.i64 ↑mov]=arr
    have harr:=Lib.hid harr.symm
    go_loopw [4,35] (fun v i wr=>∃ (k : Nat) (bs : ByteArray),i=.int .i64 k∧v=.string bs∧k≤10∧Hid (bs.data.toList=encK fs k)∧Hid (Below w.heap.size w wr)) (fun _ i _=>10 - intV i)
    case atStart=>exact ⟨0,S0,rfl,rfl,by omega,HE.out,HB.out⟩
    case round =>
      obtain ⟨k,bs,rfl,rfl,hk,hb,hB⟩:=hrel
      by_cases h10 : k=10
      · subst h10
        go_wp2
        go_ret2
        refine ⟨.inl ⟨hok.out,?_⟩,hB.out⟩
        have : bs=⟨(encK fs 10).toArray⟩:=by
          apply ByteArray.ext
          apply Array.toList_inj.1
          rw [hb.out]
        rw [this]
        rfl
      · have hput:=fun (a x : Nat) (ha : a=8+4 * k) (hx : fs[k]?=some x) (W : World)=>(putInt_walk bs (encK fs k) hb.out a 4 x (by unfold sz;omega) (by omega) (by have:=HL.out k hk;omega) (by have:=HL.out k hk;omega) (HG.out k x hx) (by have:=HG.out k x hx;omega) W).mono fun e w' h=>by
          rw [ha,HN.out k x (by omega) hx] at h
          exact h
        have hK:=Lib.hid hput
        clear hput
        obtain ⟨v0,v1,v2,v3,v4,v5,v6,v7,v8,v9⟩:=HV.out
        have V:=Lib.hid (And.intro v0 (And.intro v1 (And.intro v2 (And.intro v3 (And.intro v4 (And.intro v5 (And.intro v6 (And.intro v7 (And.intro v8 v9)))))))))
        clear v0 v1 v2 v3 v4 v5 v6 v7 v8 v9
        have hkk : k=0∨k=1∨k=2∨k=3∨k=4∨k=5∨k=6∨k=7∨k=8∨k=9:=by omega
        rcases hkk with rfl | rfl | rfl | rfl | rfl | rfl | rfl | rfl | rfl | rfl
        · have hp:=hK.out 8 b rfl V.out.1
          have hpl : ∀ W,Calls Tryz.prog 86 #[.int .i64 0] W fun e w'=>e=.returned (.int .i64 8)∧w'=W:=fun W=>place_walk 0 (by omega) W
          have hi : ∀ W,(Instr.index 247 arr (.int .i64 0)).run Tryz.prog W=.ok (.int .i64 b) W:=fun W=>by rw [harr.out];exact idx_arr Tryz.underlying247 _ 0 _ (by omega) rfl W
          go_wp2_with (first | (go_at_call 86;refine (hpl _).mono ?_;rintro e w4 ⟨rfl,rfl⟩) | (go_at_call 146;refine (hp _).mono ?_;rintro e w3 ⟨rfl,hb3⟩))
          exact ⟨⟨1,_,rfl,rfl,by omega,rfl,Lib.hid (bl_trans hB.out hb3)⟩,by simp [intV]⟩
        · have hp:=hK.out 12 l rfl V.out.2.1
          have hpl : ∀ W,Calls Tryz.prog 86 #[.int .i64 1] W fun e w'=>e=.returned (.int .i64 12)∧w'=W:=fun W=>place_walk 1 (by omega) W
          have hi : ∀ W,(Instr.index 247 arr (.int .i64 1)).run Tryz.prog W=.ok (.int .i64 l) W:=fun W=>by rw [harr.out];exact idx_arr Tryz.underlying247 _ 1 _ (by omega) rfl W
          go_wp2_with (first | (go_at_call 86;refine (hpl _).mono ?_;rintro e w4 ⟨rfl,rfl⟩) | (go_at_call 146;refine (hp _).mono ?_;rintro e w3 ⟨rfl,hb3⟩))
          exact ⟨⟨2,_,rfl,rfl,by omega,rfl,Lib.hid (bl_trans hB.out hb3)⟩,by simp [intV]⟩
        · have hp:=hK.out 16 m rfl V.out.2.2.1
          have hpl : ∀ W,Calls Tryz.prog 86 #[.int .i64 2] W fun e w'=>e=.returned (.int .i64 16)∧w'=W:=fun W=>place_walk 2 (by omega) W
          have hi : ∀ W,(Instr.index 247 arr (.int .i64 2)).run Tryz.prog W=.ok (.int .i64 m) W:=fun W=>by rw [harr.out];exact idx_arr Tryz.underlying247 _ 2 _ (by omega) rfl W
          go_wp2_with (first | (go_at_call 86;refine (hpl _).mono ?_;rintro e w4 ⟨rfl,rfl⟩) | (go_at_call 146;refine (hp _).mono ?_;rintro e w3 ⟨rfl,hb3⟩))
          exact ⟨⟨3,_,rfl,rfl,by omega,rfl,Lib.hid (bl_trans hB.out hb3)⟩,by simp [intV]⟩
        · have hp:=hK.out 20 cur rfl V.out.2.2.2.1
          have hpl : ∀ W,Calls Tryz.prog 86 #[.int .i64 3] W fun e w'=>e=.returned (.int .i64 20)∧w'=W:=fun W=>place_walk 3 (by omega) W
          have hi : ∀ W,(Instr.index 247 arr (.int .i64 3)).run Tryz.prog W=.ok (.int .i64 cur) W:=fun W=>by rw [harr.out];exact idx_arr Tryz.underlying247 _ 3 _ (by omega) rfl W
          go_wp2_with (first | (go_at_call 86;refine (hpl _).mono ?_;rintro e w4 ⟨rfl,rfl⟩) | (go_at_call 146;refine (hp _).mono ?_;rintro e w3 ⟨rfl,hb3⟩))
          exact ⟨⟨4,_,rfl,rfl,by omega,rfl,Lib.hid (bl_trans hB.out hb3)⟩,by simp [intV]⟩
        · have hp:=hK.out 24 ino rfl V.out.2.2.2.2.1
          have hpl : ∀ W,Calls Tryz.prog 86 #[.int .i64 4] W fun e w'=>e=.returned (.int .i64 24)∧w'=W:=fun W=>place_walk 4 (by omega) W
          have hi : ∀ W,(Instr.index 247 arr (.int .i64 4)).run Tryz.prog W=.ok (.int .i64 ino) W:=fun W=>by rw [harr.out];exact idx_arr Tryz.underlying247 _ 4 _ (by omega) rfl W
          go_wp2_with (first | (go_at_call 86;refine (hpl _).mono ?_;rintro e w4 ⟨rfl,rfl⟩) | (go_at_call 146;refine (hp _).mono ?_;rintro e w3 ⟨rfl,hb3⟩))
          exact ⟨⟨5,_,rfl,rfl,by omega,rfl,Lib.hid (bl_trans hB.out hb3)⟩,by simp [intV]⟩
        · have hp:=hK.out 28 log rfl V.out.2.2.2.2.2.1
          have hpl : ∀ W,Calls Tryz.prog 86 #[.int .i64 5] W fun e w'=>e=.returned (.int .i64 28)∧w'=W:=fun W=>place_walk 5 (by omega) W
          have hi : ∀ W,(Instr.index 247 arr (.int .i64 5)).run Tryz.prog W=.ok (.int .i64 log) W:=fun W=>by rw [harr.out];exact idx_arr Tryz.underlying247 _ 5 _ (by omega) rfl W
          go_wp2_with (first | (go_at_call 86;refine (hpl _).mono ?_;rintro e w4 ⟨rfl,rfl⟩) | (go_at_call 146;refine (hp _).mono ?_;rintro e w3 ⟨rfl,hb3⟩))
          exact ⟨⟨6,_,rfl,rfl,by omega,rfl,Lib.hid (bl_trans hB.out hb3)⟩,by simp [intV]⟩
        · have hp:=hK.out 32 frm rfl V.out.2.2.2.2.2.2.1
          have hpl : ∀ W,Calls Tryz.prog 86 #[.int .i64 6] W fun e w'=>e=.returned (.int .i64 32)∧w'=W:=fun W=>place_walk 6 (by omega) W
          have hi : ∀ W,(Instr.index 247 arr (.int .i64 6)).run Tryz.prog W=.ok (.int .i64 frm) W:=fun W=>by rw [harr.out];exact idx_arr Tryz.underlying247 _ 6 _ (by omega) rfl W
          go_wp2_with (first | (go_at_call 86;refine (hpl _).mono ?_;rintro e w4 ⟨rfl,rfl⟩) | (go_at_call 146;refine (hp _).mono ?_;rintro e w3 ⟨rfl,hb3⟩))
          exact ⟨⟨7,_,rfl,rfl,by omega,rfl,Lib.hid (bl_trans hB.out hb3)⟩,by simp [intV]⟩
        · have hp:=hK.out 36 tto rfl V.out.2.2.2.2.2.2.2.1
          have hpl : ∀ W,Calls Tryz.prog 86 #[.int .i64 7] W fun e w'=>e=.returned (.int .i64 36)∧w'=W:=fun W=>place_walk 7 (by omega) W
          have hi : ∀ W,(Instr.index 247 arr (.int .i64 7)).run Tryz.prog W=.ok (.int .i64 tto) W:=fun W=>by rw [harr.out];exact idx_arr Tryz.underlying247 _ 7 _ (by omega) rfl W
          go_wp2_with (first | (go_at_call 86;refine (hpl _).mono ?_;rintro e w4 ⟨rfl,rfl⟩) | (go_at_call 146;refine (hp _).mono ?_;rintro e w3 ⟨rfl,hb3⟩))
          exact ⟨⟨8,_,rfl,rfl,by omega,rfl,Lib.hid (bl_trans hB.out hb3)⟩,by simp [intV]⟩
        · have hp:=hK.out 40 len rfl V.out.2.2.2.2.2.2.2.2.1
          have hpl : ∀ W,Calls Tryz.prog 86 #[.int .i64 8] W fun e w'=>e=.returned (.int .i64 40)∧w'=W:=fun W=>place_walk 8 (by omega) W
          have hi : ∀ W,(Instr.index 247 arr (.int .i64 8)).run Tryz.prog W=.ok (.int .i64 len) W:=fun W=>by rw [harr.out];exact idx_arr Tryz.underlying247 _ 8 _ (by omega) rfl W
          go_wp2_with (first | (go_at_call 86;refine (hpl _).mono ?_;rintro e w4 ⟨rfl,rfl⟩) | (go_at_call 146;refine (hp _).mono ?_;rintro e w3 ⟨rfl,hb3⟩))
          exact ⟨⟨9,_,rfl,rfl,by omega,rfl,Lib.hid (bl_trans hB.out hb3)⟩,by simp [intV]⟩
        · have hp:=hK.out 44 mov rfl V.out.2.2.2.2.2.2.2.2.2
          have hpl : ∀ W,Calls Tryz.prog 86 #[.int .i64 9] W fun e w'=>e=.returned (.int .i64 44)∧w'=W:=fun W=>place_walk 9 (by omega) W
          have hi : ∀ W,(Instr.index 247 arr (.int .i64 9)).run Tryz.prog W=.ok (.int .i64 mov) W:=fun W=>by rw [harr.out];exact idx_arr Tryz.underlying247 _ 9 _ (by omega) rfl W
          go_wp2_with (first | (go_at_call 86;refine (hpl _).mono ?_;rintro e w4 ⟨rfl,rfl⟩) | (go_at_call 146;refine (hp _).mono ?_;rintro e w3 ⟨rfl,hb3⟩))
          exact ⟨⟨10,_,rfl,rfl,by omega,rfl,Lib.hid (bl_trans hB.out hb3)⟩,by simp [intV]⟩
end Go.Proofs.YtbamnpenkjfgkaaGreat
namespace Go.Proofs.YtbamnpenkjfgkaaGreat
open Go.RowKit
theorem row_set {w : World} {n i : Nat} {cs : Array Value} {T : TypeId} {fz : Nat × Nat} (h : w.heap[n]?=some (.cells cs T fz)) (v : Value) : (w.setCell ⟨n,i,none⟩ v).heap[n]?=some (.cells (cs.setIfInBounds i v) T fz):=by
  rw [heap_setCell,if_pos rfl,h];rfl
theorem row_setO {w : World} {n m i : Nat} {o : Obj} (h : w.heap[n]?=some o) (hm : m ≠ n) (v : Value) : (w.setCell ⟨m,i,none⟩ v).heap[n]?=some o:=by
  rw [heap_setCell,if_neg hm];exact h
theorem row_frozen {w : World} {n i : Nat} {cs : Array Value} {T : TypeId} (h : w.heap[n]?=some (.cells cs T (0,0))) : w.frozen? ⟨n,i,none⟩=false:=by
  unfold World.frozen?
  rw [h]
  simp
theorem tenF {w : World} {n : Nat} {cs : Array Value} {T : TypeId} (h : w.heap[n]?=some (.cells cs T (0,0))) :
    w.frozen? ⟨n,0,none⟩=false∧w.frozen? ⟨n,1,none⟩=false∧w.frozen? ⟨n,2,none⟩=false∧w.frozen? ⟨n,3,none⟩=false∧w.frozen? ⟨n,4,none⟩=false∧w.frozen? ⟨n,5,none⟩=false∧w.frozen? ⟨n,6,none⟩=false∧w.frozen? ⟨n,7,none⟩=false∧w.frozen? ⟨n,8,none⟩=false∧w.frozen? ⟨n,9,none⟩=false :=
  ⟨row_frozen h,row_frozen h,row_frozen h,row_frozen h,row_frozen h,row_frozen h,row_frozen h,row_frozen h,row_frozen h,row_frozen h⟩
theorem row_set10 {w : World} {n : Nat} {T : TypeId} {a0 a1 a2 a3 a4 a5 a6 a7 a8 a9 v0 v1 v2 v3 v4 v5 v6 v7 v8 v9 : Value} (h : w.heap[n]?=some (.cells #[a0,a1,a2,a3,a4,a5,a6,a7,a8,a9] T (0,0))) :
    (((((((((((w.setCell ⟨n,0,none⟩ v0).setCell ⟨n,1,none⟩ v1).setCell ⟨n,2,none⟩ v2).setCell ⟨n,3,none⟩ v3).setCell ⟨n,4,none⟩ v4).setCell ⟨n,5,none⟩ v5).setCell ⟨n,6,none⟩ v6).setCell ⟨n,7,none⟩ v7).setCell ⟨n,8,none⟩ v8).setCell ⟨n,9,none⟩ v9)).heap[n]?=some (.cells #[v0,v1,v2,v3,v4,v5,v6,v7,v8,v9] T (0,0)):=by
  have h0:=row_set (i:=0) h v0
  rw [show (#[a0,a1,a2,a3,a4,a5,a6,a7,a8,a9] : Array Value).setIfInBounds 0 v0=#[v0,a1,a2,a3,a4,a5,a6,a7,a8,a9] from by simp] at h0
  have h1:=row_set (i:=1) h0 v1
  rw [show (#[v0,a1,a2,a3,a4,a5,a6,a7,a8,a9] : Array Value).setIfInBounds 1 v1=#[v0,v1,a2,a3,a4,a5,a6,a7,a8,a9] from by simp] at h1
  have h2:=row_set (i:=2) h1 v2
  rw [show (#[v0,v1,a2,a3,a4,a5,a6,a7,a8,a9] : Array Value).setIfInBounds 2 v2=#[v0,v1,v2,a3,a4,a5,a6,a7,a8,a9] from by simp] at h2
  have h3:=row_set (i:=3) h2 v3
  rw [show (#[v0,v1,v2,a3,a4,a5,a6,a7,a8,a9] : Array Value).setIfInBounds 3 v3=#[v0,v1,v2,v3,a4,a5,a6,a7,a8,a9] from by simp] at h3
  have h4:=row_set (i:=4) h3 v4
  rw [show (#[v0,v1,v2,v3,a4,a5,a6,a7,a8,a9] : Array Value).setIfInBounds 4 v4=#[v0,v1,v2,v3,v4,a5,a6,a7,a8,a9] from by simp] at h4
  have h5:=row_set (i:=5) h4 v5
  rw [show (#[v0,v1,v2,v3,v4,a5,a6,a7,a8,a9] : Array Value).setIfInBounds 5 v5=#[v0,v1,v2,v3,v4,v5,a6,a7,a8,a9] from by simp] at h5
  have h6:=row_set (i:=6) h5 v6
  rw [show (#[v0,v1,v2,v3,v4,v5,a6,a7,a8,a9] : Array Value).setIfInBounds 6 v6=#[v0,v1,v2,v3,v4,v5,v6,a7,a8,a9] from by simp] at h6
  have h7:=row_set (i:=7) h6 v7
  rw [show (#[v0,v1,v2,v3,v4,v5,v6,a7,a8,a9] : Array Value).setIfInBounds 7 v7=#[v0,v1,v2,v3,v4,v5,v6,v7,a8,a9] from by simp] at h7
  have h8:=row_set (i:=8) h7 v8
  rw [show (#[v0,v1,v2,v3,v4,v5,v6,v7,a8,a9] : Array Value).setIfInBounds 8 v8=#[v0,v1,v2,v3,v4,v5,v6,v7,v8,a9] from by simp] at h8
  have h9:=row_set (i:=9) h8 v9
  rw [show (#[v0,v1,v2,v3,v4,v5,v6,v7,v8,a9] : Array Value).setIfInBounds 9 v9=#[v0,v1,v2,v3,v4,v5,v6,v7,v8,v9] from by simp] at h9
  exact h9
theorem bl_set {w a : World} (h : Below w.heap.size w a) {n : Nat} (hn : w.heap.size≤n) (i : Nat) (v : Value) : Below w.heap.size w (a.setCell ⟨n,i,none⟩ v):=h.setCell hn v
theorem idx_arrE {t n e : Nat} (ht : Tryz.prog.underlying t=some (.array n e)) (hs : ∀ w,(sizeOf e).run Tryz.prog w=.ok 1 w) (ha : ∀ w,(isAgg e).run Tryz.prog w=.ok false w) (cs : Array Value) (i : Nat) (v : Value) (hi : i < n) (hv : cs[i]?=some v) (W : World) : (Instr.index t (.agg cs) (.int .i64 (i : Int))).run Tryz.prog W=.ok v W:=by
  have h1 : (0 : Int)≤i∧(i : Int) < n:=by omega
  have h2 : (i : Int).toNat=i:=by omega
  simp [Instr.index,asIntOf,run_underlying ht,h1,h2,part,go_sem,hv,hs,ha]
  intro h
  omega
def le4 (l : List UInt8) (a : Nat) : Nat:=leN ((l.drop a).take 4)
theorem le4_lt (l : List UInt8) (a : Nat) : le4 l a < 4294967296:=by
  have h:=leN_lt ((l.drop a).take 4)
  have : ((l.drop a).take 4).length≤4:=by simp;omega
  have h2 : 2 ^ (8 * ((l.drop a).take 4).length)≤2 ^ (8 * 4):=Nat.pow_le_pow_right (by omega) (by omega)
  unfold le4
  have : (2 : Nat) ^ (8 * 4)=4294967296:=by decide
  omega
def decS (l : List UInt8) : Sup:=⟨le4 l 8,le4 l 12,le4 l 16,le4 l 20,le4 l 24,le4 l 28,le4 l 32,le4 l 36,le4 l 40,le4 l 44⟩
theorem decS_small (l : List UInt8) : (decS l).small:=⟨le4_lt _ _,le4_lt _ _,le4_lt _ _,le4_lt _ _,le4_lt _ _,le4_lt _ _,le4_lt _ _,le4_lt _ _,le4_lt _ _,le4_lt _ _⟩
def decK (l : List UInt8) (k : Nat) : Array Value:=⟨(List.range 10).map fun j=>if j < k then iV (le4 l (8+4 * j)) else .int .i64 0⟩
theorem decK_next (l : List UInt8) : ∀ k,k < 10→(decK l k).setIfInBounds k (iV (le4 l (8+4 * k)))=decK l (k+1):=fun k hk=>by
  unfold decK
  apply Array.ext_getElem?
  intro j
  rw [Array.getElem?_setIfInBounds]
  simp only [List.getElem?_toArray,List.getElem?_map,List.size_toArray,List.length_map,List.length_range]
  by_cases h : k=j
  · subst h
    simp [hk]
  · rw [if_neg h]
    by_cases hj : j < 10
    · simp only [List.getElem?_range hj,Option.map_some]
      congr 1
      by_cases h1 : j < k
      · rw [if_pos h1,if_pos (by omega)]
      · rw [if_neg h1,if_neg (by omega)]
    · simp [hj]
theorem decK_at (l : List UInt8) (k j : Nat) (hj : j < 10) : ∃ v,(decK l k)[j]?=some v:=by
  unfold decK
  simp [hj]
theorem decK_all (l : List UInt8) : decK l 10=#[iV (le4 l 8),iV (le4 l 12),iV (le4 l 16),iV (le4 l 20),iV (le4 l 24),iV (le4 l 28),iV (le4 l 32),iV (le4 l 36),iV (le4 l 40),iV (le4 l 44)]:=rfl
theorem decK_none (l : List UInt8) : decK l 0=#[.int .i64 0,.int .i64 0,.int .i64 0,.int .i64 0,.int .i64 0,.int .i64 0,.int .i64 0,.int .i64 0,.int .i64 0,.int .i64 0]:=rfl
def sup0 : Value:=.agg #[.int .i64 0,.int .i64 0,.int .i64 0,.int .i64 0,.int .i64 0,.int .i64 0,.int .i64 0,.int .i64 0,.int .i64 0,.int .i64 0]
theorem Tryz.size67 : (Tryz.prog.info? 67).map (·.size)=some 10:=by kernel_rfl
def SupSays (l : List UInt8) (e : Ending) : Prop:=(((decS l).ok∧(decS l).enc=l)∧e=.returned (.tuple #[(decS l).v,.int .i64 0]))∨(¬ ((decS l).ok∧(decS l).enc=l)∧e=.returned (.tuple #[sup0,.int .i64 80]))
set_option maxRecDepth 100000 in
set_option maxHeartbeats 8000000 in
theorem supDec_walk (HRep : RepIs) (b : ByteArray) (l : List UInt8) (hl : b.data.toList=l) (hlen : l.length=128) (w : World) : Calls Tryz.prog 34 #[.string b] w fun e w'=>SupSays l e∧Below w.heap.size w w':=by
  have hget:=fun (a : Nat) (ha : a+4≤128) (W : World)=>getInt_ok b l hl a 4 (le4 l a) (by unfold sz;omega) (by omega) (by omega) (by omega) rfl (by have:=le4_lt l a;omega) W
  have HG:=Lib.hid hget
  have HE:=Lib.hid (fun W=>supEnc_walk HRep (decS l) (decS_small l) W)
  clear hget HRep
  go_enter Tryz.func34,Tryz.ntmps34
  go_wp2
  have hz : w.heap.size+1 ≠ w.heap.size:=by omega
  have HR : Hid ((((w.alloc (.cells (decK l 0) 67)).alloc (.cells (decK l 0) 67)).heap[w.heap.size+1]?=some (.cells (decK l 0) 67 (0,0)))∧(((w.alloc (.cells (decK l 0) 67)).alloc (.cells (decK l 0) 67)).heap[w.heap.size]?=some (.cells (decK l 0) 67 (0,0)))):=by
    refine ⟨?_,row_old (row_new w _)⟩
    have:=row_new (w.alloc (.cells (decK l 0) 67)) (.cells (decK l 0) 67)
    have hs : (w.alloc (.cells (decK l 0) 67)).heap.size=w.heap.size+1:=by unfold World.alloc;simp
    rw [hs] at this
    exact this
  have HB:=Lib.hid (below_two w (.cells (decK l 0) 67) (.cells (decK l 0) 67))
  rw [decK_none] at HR HB
  generalize harr : Value.agg #[Value.pointer (some { block:=w.heap.size+1,off:=0 }),Value.pointer (some { block:=w.heap.size+1,off:=1 }),Value.pointer (some { block:=w.heap.size+1,off:=2 }),Value.pointer (some { block:=w.heap.size+1,off:=3 }),Value.pointer (some { block:=w.heap.size+1,off:=4 }),Value.pointer (some { block:=w.heap.size+1,off:=5 }),Value.pointer (some { block:=w.heap.size+1,off:=6 }),Value.pointer (some { block:=w.heap.size+1,off:=7 }),Value.pointer (some { block:=w.heap.size+1,off:=8 }),Value.pointer (some { block:=w.heap.size+1,off:=9 })]=arr
  have harr:=Lib.hid harr.symm
  generalize ((w.alloc (.cells #[.int .i64 0,.int .i64 0,.int .i64 0,.int .i64 0,.int .i64 0,.int .i64 0,.int .i64 0,.int .i64 0,.int .i64 0,.int .i64 0] 67)).alloc (.cells #[.int .i64 0,.int .i64 0,.int .i64 0,.int .i64 0,.int .i64 0,.int .i64 0,.int .i64 0,.int .i64 0,.int .i64 0,.int .i64 0] 67))=w1 at HR HB ⊢
  go_loopw [20] (fun i wr=>∃ (k : Nat),i=.int .i64 k∧k≤10∧Hid (wr.heap[w.heap.size+1]?=some (.cells (decK l k) 67 (0,0))∧wr.heap[w.heap.size]?=some (.cells (decK l 0) 67 (0,0)))∧Hid (Below w.heap.size w wr)) (fun i _=>10 - intV i)
  case atStart=>exact ⟨0,rfl,by omega,HR.out,HB.out⟩
  case round =>
    obtain ⟨k,rfl,hk,hR,hB⟩:=hrel
    by_cases h10 : k=10
    · subst h10
      have hr:=Lib.hid (hR.out.1)
      rw [decK_all] at hr
      obtain ⟨l1,d0,d1,d2,d3,d4,d5,d6,d7,d8,d9⟩:=ten hr.out
      have hE:=HE.out
      have hv : (decS l).v=.agg #[.int .i64 (le4 l 8),.int .i64 (le4 l 12),.int .i64 (le4 l 16),.int .i64 (le4 l 20),.int .i64 (le4 l 24),.int .i64 (le4 l 28),.int .i64 (le4 l 32),.int .i64 (le4 l 36),.int .i64 (le4 l 40),.int .i64 (le4 l 44)]:=rfl
      rw [hv] at hE
      clear hv
      have hbl : b.toList=l:=by rw [Go.ByteArray.toList_eq b,hl]
      have HBL:=Lib.hid hbl
      clear hbl
      unfold iV at *
      go_wp2_with (go_at_call 87;refine (hE _).mono ?_;rintro e w3 ⟨h3,hb3⟩;have hz3:=Lib.hid (row_below hR.out.2 hb3);rw [decK_none] at hz3;obtain ⟨m1,q0,q1,q2,q3,q4,q5,q6,q7,q8,q9⟩:=ten hz3.out;obtain ⟨f0,f1,f2,f3,f4,f5,f6,f7,f8,f9⟩:=tenF hz3.out;have hy3:=Lib.hid (row_below hR.out.1 hb3);rw [decK_all] at hy3;unfold iV at hy3;obtain ⟨m2,p0,p1,p2,p3,p4,p5,p6,p7,p8,p9⟩:=ten hy3.out;rcases h3 with ⟨hok,rfl⟩ | ⟨hok,rfl⟩)
      all_goals
        refine bodyPost_ret (ret_cellP (n:=w.heap.size) rfl rfl (row_set10 hz3.out) Tryz.underlying67 rfl Tryz.size67) rfl ⟨?_,?_⟩
        rotate_left
        · exact bl_set (bl_set (bl_set (bl_set (bl_set (bl_set (bl_set (bl_set (bl_set (bl_set (bl_trans hB.out hb3) (Nat.le_refl _) _ _) (Nat.le_refl _) _ _) (Nat.le_refl _) _ _) (Nat.le_refl _) _ _) (Nat.le_refl _) _ _) (Nat.le_refl _) _ _) (Nat.le_refl _) _ _) (Nat.le_refl _) _ _) (Nat.le_refl _) _ _) (Nat.le_refl _) _ _
      · rename_i hne
        rw [HBL.out] at hne
        refine .inr ⟨fun h=>?_,rfl⟩
        rw [h.2] at hne
        simp at hne
      · rename_i heq
        rw [HBL.out] at heq
        refine .inl ⟨⟨hok,by simpa using heq⟩,rfl⟩
      · exact .inr ⟨fun h=>hok h.1,rfl⟩
    · have hkk : k=0∨k=1∨k=2∨k=3∨k=4∨k=5∨k=6∨k=7∨k=8∨k=9:=by omega
      rcases hkk with rfl | rfl | rfl | rfl | rfl | rfl | rfl | rfl | rfl | rfl
      · have hp:=fun W=>HG.out 8 (by omega) W
        have hpl : ∀ W,Calls Tryz.prog 86 #[.int .i64 0] W fun e w'=>e=.returned (.int .i64 8)∧w'=W:=fun W=>place_walk 0 (by omega) W
        have hi : ∀ W,(Instr.index 152 arr (.int .i64 0)).run Tryz.prog W=.ok (.pointer (some ⟨w.heap.size+1,0,none⟩)) W:=fun W=>by rw [harr.out];exact idx_arrE Tryz.underlying152 Tryz.sizeOf151 Tryz.isAgg151 _ 0 _ (by omega) rfl W
        have hc:=row_cell hR.out.1 (decK_at l 0 0 (by omega)).choose_spec
        have hf : wr.frozen? ⟨w.heap.size+1,0,none⟩=false:=row_frozen hR.out.1
        go_wp2_with (first | (go_at_call 86;refine (hpl _).mono ?_;rintro e w4 ⟨rfl,rfl⟩) | (go_at_call 85;refine (hp _).mono ?_;rintro e w3 ⟨rfl,rfl⟩))
        refine ⟨⟨1,rfl,by omega,Lib.hid ⟨?_,row_setO hR.out.2 hz _⟩,Lib.hid (bl_set hB.out (Nat.le_succ _) _ _)⟩,by simp [intV]⟩
        rw [← decK_next l 0 (by omega)]
        exact row_set hR.out.1 _
      · have hp:=fun W=>HG.out 12 (by omega) W
        have hpl : ∀ W,Calls Tryz.prog 86 #[.int .i64 1] W fun e w'=>e=.returned (.int .i64 12)∧w'=W:=fun W=>place_walk 1 (by omega) W
        have hi : ∀ W,(Instr.index 152 arr (.int .i64 1)).run Tryz.prog W=.ok (.pointer (some ⟨w.heap.size+1,1,none⟩)) W:=fun W=>by rw [harr.out];exact idx_arrE Tryz.underlying152 Tryz.sizeOf151 Tryz.isAgg151 _ 1 _ (by omega) rfl W
        have hc:=row_cell hR.out.1 (decK_at l 1 1 (by omega)).choose_spec
        have hf : wr.frozen? ⟨w.heap.size+1,1,none⟩=false:=row_frozen hR.out.1
        go_wp2_with (first | (go_at_call 86;refine (hpl _).mono ?_;rintro e w4 ⟨rfl,rfl⟩) | (go_at_call 85;refine (hp _).mono ?_;rintro e w3 ⟨rfl,rfl⟩))
        refine ⟨⟨2,rfl,by omega,Lib.hid ⟨?_,row_setO hR.out.2 hz _⟩,Lib.hid (bl_set hB.out (Nat.le_succ _) _ _)⟩,by simp [intV]⟩
        rw [← decK_next l 1 (by omega)]
        exact row_set hR.out.1 _
      · have hp:=fun W=>HG.out 16 (by omega) W
        have hpl : ∀ W,Calls Tryz.prog 86 #[.int .i64 2] W fun e w'=>e=.returned (.int .i64 16)∧w'=W:=fun W=>place_walk 2 (by omega) W
        have hi : ∀ W,(Instr.index 152 arr (.int .i64 2)).run Tryz.prog W=.ok (.pointer (some ⟨w.heap.size+1,2,none⟩)) W:=fun W=>by rw [harr.out];exact idx_arrE Tryz.underlying152 Tryz.sizeOf151 Tryz.isAgg151 _ 2 _ (by omega) rfl W
        have hc:=row_cell hR.out.1 (decK_at l 2 2 (by omega)).choose_spec
        have hf : wr.frozen? ⟨w.heap.size+1,2,none⟩=false:=row_frozen hR.out.1
        go_wp2_with (first | (go_at_call 86;refine (hpl _).mono ?_;rintro e w4 ⟨rfl,rfl⟩) | (go_at_call 85;refine (hp _).mono ?_;rintro e w3 ⟨rfl,rfl⟩))
        refine ⟨⟨3,rfl,by omega,Lib.hid ⟨?_,row_setO hR.out.2 hz _⟩,Lib.hid (bl_set hB.out (Nat.le_succ _) _ _)⟩,by simp [intV]⟩
        rw [← decK_next l 2 (by omega)]
        exact row_set hR.out.1 _
      · have hp:=fun W=>HG.out 20 (by omega) W
        have hpl : ∀ W,Calls Tryz.prog 86 #[.int .i64 3] W fun e w'=>e=.returned (.int .i64 20)∧w'=W:=fun W=>place_walk 3 (by omega) W
        have hi : ∀ W,(Instr.index 152 arr (.int .i64 3)).run Tryz.prog W=.ok (.pointer (some ⟨w.heap.size+1,3,none⟩)) W:=fun W=>by rw [harr.out];exact idx_arrE Tryz.underlying152 Tryz.sizeOf151 Tryz.isAgg151 _ 3 _ (by omega) rfl W
        have hc:=row_cell hR.out.1 (decK_at l 3 3 (by omega)).choose_spec
        have hf : wr.frozen? ⟨w.heap.size+1,3,none⟩=false:=row_frozen hR.out.1
        go_wp2_with (first | (go_at_call 86;refine (hpl _).mono ?_;rintro e w4 ⟨rfl,rfl⟩) | (go_at_call 85;refine (hp _).mono ?_;rintro e w3 ⟨rfl,rfl⟩))
        refine ⟨⟨4,rfl,by omega,Lib.hid ⟨?_,row_setO hR.out.2 hz _⟩,Lib.hid (bl_set hB.out (Nat.le_succ _) _ _)⟩,by simp [intV]⟩
        rw [← decK_next l 3 (by omega)]
        exact row_set hR.out.1 _
      · have hp:=fun W=>HG.out 24 (by omega) W
        have hpl : ∀ W,Calls Tryz.prog 86 #[.int .i64 4] W fun e w'=>e=.returned (.int .i64 24)∧w'=W:=fun W=>place_walk 4 (by omega) W
        have hi : ∀ W,(Instr.index 152 arr (.int .i64 4)).run Tryz.prog W=.ok (.pointer (some ⟨w.heap.size+1,4,none⟩)) W:=fun W=>by rw [harr.out];exact idx_arrE Tryz.underlying152 Tryz.sizeOf151 Tryz.isAgg151 _ 4 _ (by omega) rfl W
        have hc:=row_cell hR.out.1 (decK_at l 4 4 (by omega)).choose_spec
        have hf : wr.frozen? ⟨w.heap.size+1,4,none⟩=false:=row_frozen hR.out.1
        go_wp2_with (first | (go_at_call 86;refine (hpl _).mono ?_;rintro e w4 ⟨rfl,rfl⟩) | (go_at_call 85;refine (hp _).mono ?_;rintro e w3 ⟨rfl,rfl⟩))
        refine ⟨⟨5,rfl,by omega,Lib.hid ⟨?_,row_setO hR.out.2 hz _⟩,Lib.hid (bl_set hB.out (Nat.le_succ _) _ _)⟩,by simp [intV]⟩
        rw [← decK_next l 4 (by omega)]
        exact row_set hR.out.1 _
      · have hp:=fun W=>HG.out 28 (by omega) W
        have hpl : ∀ W,Calls Tryz.prog 86 #[.int .i64 5] W fun e w'=>e=.returned (.int .i64 28)∧w'=W:=fun W=>place_walk 5 (by omega) W
        have hi : ∀ W,(Instr.index 152 arr (.int .i64 5)).run Tryz.prog W=.ok (.pointer (some ⟨w.heap.size+1,5,none⟩)) W:=fun W=>by rw [harr.out];exact idx_arrE Tryz.underlying152 Tryz.sizeOf151 Tryz.isAgg151 _ 5 _ (by omega) rfl W
        have hc:=row_cell hR.out.1 (decK_at l 5 5 (by omega)).choose_spec
        have hf : wr.frozen? ⟨w.heap.size+1,5,none⟩=false:=row_frozen hR.out.1
        go_wp2_with (first | (go_at_call 86;refine (hpl _).mono ?_;rintro e w4 ⟨rfl,rfl⟩) | (go_at_call 85;refine (hp _).mono ?_;rintro e w3 ⟨rfl,rfl⟩))
        refine ⟨⟨6,rfl,by omega,Lib.hid ⟨?_,row_setO hR.out.2 hz _⟩,Lib.hid (bl_set hB.out (Nat.le_succ _) _ _)⟩,by simp [intV]⟩
        rw [← decK_next l 5 (by omega)]
        exact row_set hR.out.1 _
      · have hp:=fun W=>HG.out 32 (by omega) W
        have hpl : ∀ W,Calls Tryz.prog 86 #[.int .i64 6] W fun e w'=>e=.returned (.int .i64 32)∧w'=W:=fun W=>place_walk 6 (by omega) W
        have hi : ∀ W,(Instr.index 152 arr (.int .i64 6)).run Tryz.prog W=.ok (.pointer (some ⟨w.heap.size+1,6,none⟩)) W:=fun W=>by rw [harr.out];exact idx_arrE Tryz.underlying152 Tryz.sizeOf151 Tryz.isAgg151 _ 6 _ (by omega) rfl W
        have hc:=row_cell hR.out.1 (decK_at l 6 6 (by omega)).choose_spec
        have hf : wr.frozen? ⟨w.heap.size+1,6,none⟩=false:=row_frozen hR.out.1
        go_wp2_with (first | (go_at_call 86;refine (hpl _).mono ?_;rintro e w4 ⟨rfl,rfl⟩) | (go_at_call 85;refine (hp _).mono ?_;rintro e w3 ⟨rfl,rfl⟩))
        refine ⟨⟨7,rfl,by omega,Lib.hid ⟨?_,row_setO hR.out.2 hz _⟩,Lib.hid (bl_set hB.out (Nat.le_succ _) _ _)⟩,by simp [intV]⟩
        rw [← decK_next l 6 (by omega)]
        exact row_set hR.out.1 _
      · have hp:=fun W=>HG.out 36 (by omega) W
        have hpl : ∀ W,Calls Tryz.prog 86 #[.int .i64 7] W fun e w'=>e=.returned (.int .i64 36)∧w'=W:=fun W=>place_walk 7 (by omega) W
        have hi : ∀ W,(Instr.index 152 arr (.int .i64 7)).run Tryz.prog W=.ok (.pointer (some ⟨w.heap.size+1,7,none⟩)) W:=fun W=>by rw [harr.out];exact idx_arrE Tryz.underlying152 Tryz.sizeOf151 Tryz.isAgg151 _ 7 _ (by omega) rfl W
        have hc:=row_cell hR.out.1 (decK_at l 7 7 (by omega)).choose_spec
        have hf : wr.frozen? ⟨w.heap.size+1,7,none⟩=false:=row_frozen hR.out.1
        go_wp2_with (first | (go_at_call 86;refine (hpl _).mono ?_;rintro e w4 ⟨rfl,rfl⟩) | (go_at_call 85;refine (hp _).mono ?_;rintro e w3 ⟨rfl,rfl⟩))
        refine ⟨⟨8,rfl,by omega,Lib.hid ⟨?_,row_setO hR.out.2 hz _⟩,Lib.hid (bl_set hB.out (Nat.le_succ _) _ _)⟩,by simp [intV]⟩
        rw [← decK_next l 7 (by omega)]
        exact row_set hR.out.1 _
      · have hp:=fun W=>HG.out 40 (by omega) W
        have hpl : ∀ W,Calls Tryz.prog 86 #[.int .i64 8] W fun e w'=>e=.returned (.int .i64 40)∧w'=W:=fun W=>place_walk 8 (by omega) W
        have hi : ∀ W,(Instr.index 152 arr (.int .i64 8)).run Tryz.prog W=.ok (.pointer (some ⟨w.heap.size+1,8,none⟩)) W:=fun W=>by rw [harr.out];exact idx_arrE Tryz.underlying152 Tryz.sizeOf151 Tryz.isAgg151 _ 8 _ (by omega) rfl W
        have hc:=row_cell hR.out.1 (decK_at l 8 8 (by omega)).choose_spec
        have hf : wr.frozen? ⟨w.heap.size+1,8,none⟩=false:=row_frozen hR.out.1
        go_wp2_with (first | (go_at_call 86;refine (hpl _).mono ?_;rintro e w4 ⟨rfl,rfl⟩) | (go_at_call 85;refine (hp _).mono ?_;rintro e w3 ⟨rfl,rfl⟩))
        refine ⟨⟨9,rfl,by omega,Lib.hid ⟨?_,row_setO hR.out.2 hz _⟩,Lib.hid (bl_set hB.out (Nat.le_succ _) _ _)⟩,by simp [intV]⟩
        rw [← decK_next l 8 (by omega)]
        exact row_set hR.out.1 _
      · have hp:=fun W=>HG.out 44 (by omega) W
        have hpl : ∀ W,Calls Tryz.prog 86 #[.int .i64 9] W fun e w'=>e=.returned (.int .i64 44)∧w'=W:=fun W=>place_walk 9 (by omega) W
        have hi : ∀ W,(Instr.index 152 arr (.int .i64 9)).run Tryz.prog W=.ok (.pointer (some ⟨w.heap.size+1,9,none⟩)) W:=fun W=>by rw [harr.out];exact idx_arrE Tryz.underlying152 Tryz.sizeOf151 Tryz.isAgg151 _ 9 _ (by omega) rfl W
        have hc:=row_cell hR.out.1 (decK_at l 9 9 (by omega)).choose_spec
        have hf : wr.frozen? ⟨w.heap.size+1,9,none⟩=false:=row_frozen hR.out.1
        go_wp2_with (first | (go_at_call 86;refine (hpl _).mono ?_;rintro e w4 ⟨rfl,rfl⟩) | (go_at_call 85;refine (hp _).mono ?_;rintro e w3 ⟨rfl,rfl⟩))
        refine ⟨⟨10,rfl,by omega,Lib.hid ⟨?_,row_setO hR.out.2 hz _⟩,Lib.hid (bl_set hB.out (Nat.le_succ _) _ _)⟩,by simp [intV]⟩
        rw [← decK_next l 9 (by omega)]
        exact row_set hR.out.1 _
end Go.Proofs.YtbamnpenkjfgkaaGreat
