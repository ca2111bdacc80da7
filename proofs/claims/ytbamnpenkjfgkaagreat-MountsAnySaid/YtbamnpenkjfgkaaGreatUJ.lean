/- A slice of texts copied. -/
import Derived.Test.YtbamnpenkjfgkaaGreatUI
import Derived.Maps.AppendAt
import Derived.OwnWalk
import Derived.Test.YtbamnpenkjfgkaaGreatUB
import Derived.Deep.RegionHeld3
import Derived.Laws.MakeOwn
namespace Go.Proofs.YtbamnpenkjfgkaaGreat
open Go.RowKit
theorem Tryz.info9 : (Tryz.prog.info? 9).map (fun i=>(i.zero,i.size,i.bytes))=some (some (.string ⟨#[]⟩),1,16):=by kernel_rfl
theorem texts_cell {w : World} {B : Nat} {v : Value} {l : List Value} (h : w.ownsRow B 9 1 v l.length l) (hl : 1≤l.length) : ∃ g cap,v=.slice (some ⟨g,0,none⟩) l.length cap∧g < w.heap.size∧∀ (j : Nat) (u : Value),l[j]?=some u→w.cell? ⟨g,j,none⟩=some u:=by
  rcases h.2 with ⟨_,h0⟩ | ⟨g,cap,cur,h1,h2,h3,h4,h5,h6,h7⟩
  · omega
  · refine ⟨g,cap,h1,row_lt h3,fun j u hu=>row_cell h3 ?_⟩
    rw [← h7] at hu
    rw [List.getElem?_take] at hu
    split at hu
    · rw [← Array.getElem?_toList];exact hu
    · cases hu
set_option maxRecDepth 100000 in
set_option maxHeartbeats 8000000 in
theorem clone_walk (l : List Value) (hl : 1≤l.length) (hm : l.length < 100000) (h1 : ∀ u ∈ l,u.oneCell'=true) (B : Nat) (v : Value) (w : World) (h : w.ownsRow B 9 1 v l.length l) : Calls Tryz.prog 33 #[v] w fun e w'=>∃ u,e=.returned u∧w'.ownsRow w.heap.size 9 1 u l.length l∧Below w.heap.size w w':=by
  obtain ⟨y,cap,rfl,ly,hc⟩:=texts_cell h hl
  have hn : ∀ W,Sem.run Tryz.prog (binOp .eql 38 (Value.slice (some { block:=y,off:=0 }) l.length cap) (Value.slice none 0 0)) W=.ok (.bool false) W:=fun W=>rfl
  have own0 : (w.alloc (.cells #[] 9)).ownsRow w.heap.size 9 1 (.slice (some ⟨w.heap.size,0,none⟩) 0 0) 0 []:=⟨rfl,.inr ⟨w.heap.size,0,#[],rfl,Nat.le_refl _,row_new w _,by omega,by unfold maxLen;omega,rfl,rfl⟩⟩
  have hc2 : ∀ (j : Nat) (u : Value),l[j]?=some u→(w.alloc (.cells #[] 9)).cell? ((⟨y,0,none⟩ : Addr).add j)=some u:=fun j u hu=>by
    have e : ((⟨y,0,none⟩ : Addr).add j)=⟨y,j,none⟩:=by unfold Addr.add;simp;intro h;exact h.symm
    rw [e]
    exact ((below_one w (.cells #[] 9)).cell (p:=⟨y,j,none⟩) ly).trans (hc j u hu)
  clear h hc
  obtain ⟨i0,hi,hz0,hz1,hz2⟩:=info_parts Tryz.info9
  have HI:=Lib.hid hi
  have H0:=Lib.hid hz0
  have H1:=Lib.hid hz1
  have H2:=Lib.hid hz2
  clear hi hz0 hz1 hz2
  go_enter Tryz.func33,Tryz.ntmps33
  go_wp2_with (at_builtin;refine wpList_append_own _ rfl _ _ 38 rfl w.heap.size 9 i0 (.string ⟨#[]⟩) 1 16 Tryz.underlying38 HI.out H0.out H1.out H2.out rfl (by decide) _ 0 [] rfl own0 ⟨y,0,none⟩ l.length cap l rfl (by omega) hc2 h1 (by unfold maxLen;omega) (by omega) (by simp) ?_;intro v' w3 hown' hgrow3 hnil3)
  go_ret
  refine ⟨_,rfl,by simpa using hown',?_⟩
  exact (below_one w _).grown hgrow3 (by simp) (fun q hq=>(own0.lt q hq).1)
end Go.Proofs.YtbamnpenkjfgkaaGreat
namespace Go.Proofs.YtbamnpenkjfgkaaGreat
open Go.RowKit
def TextsAt (w : World) (g : Nat) (bs : List ByteArray) : Prop:=∃ cs : Array Value,w.heap[g]?=some (.cells cs 9)∧∀ (k : Nat) (b : ByteArray),bs[k]?=some b→cs[k]?=some (Value.string b)
theorem TextsAt.below {w w' : World} {g : Nat} {bs : List ByteArray} (h : TextsAt w g bs) (hb : Below w.heap.size w w') : TextsAt w' g bs:=by
  obtain ⟨cs,h1,h2⟩:=h
  exact ⟨cs,row_below h1 hb,h2⟩
theorem texts_at {w : World} {B : Nat} {v : Value} {bs : List ByteArray} (h : w.ownsRow B 9 1 v (bs.map Value.string).length (bs.map .string)) (hl : 1≤bs.length) : ∃ g cap,v=.slice (some ⟨g,0,none⟩) bs.length cap∧TextsAt w g bs:=by
  rw [List.length_map] at h
  rcases h.2 with ⟨_,h0⟩ | ⟨g,cap,cur,h1,h2,h3,h4,h5,h6,h7⟩
  · omega
  · refine ⟨g,cap,h1,cur,h3,fun k b hk=>?_⟩
    have hu : (bs.map Value.string)[k]?=some (Value.string b):=by rw [List.getElem?_map,hk];rfl
    rw [← h7,List.getElem?_take] at hu
    split at hu
    · rw [← Array.getElem?_toList];exact hu
    · cases hu
theorem Tryz.info4 : (Tryz.prog.info? 4).map (fun i=>(i.zero,i.size,i.bytes))=some (some (.bool false),1,1):=by kernel_rfl
theorem make_bools (n : Nat) (h : n < 100000) : ∃ M,∀ W,(Instr.makeSlice 63 (.int .i64 (n : Int)) (.int .i64 (n : Int))).run Tryz.prog W=.ok (.slice (some ⟨W.heap.size,0,none⟩) n n) (W.alloc (.cells M 4)):=by
  obtain ⟨i0,hi,hz0,hz1,hz2⟩:=info_parts Tryz.info4
  refine ⟨madeCells (Value.bool false).cells (n * i0.size),fun W=>?_⟩
  have hr:=run_make (P:=Tryz.prog) W 63 4 i0 (.bool false) Tryz.underlying63 hi hz0 .i64 .i64 n n (by omega) (Int.le_refl _) (by rw [hz2];omega) (by omega)
  simpa only [Int.toNat_natCast] using hr
set_option maxRecDepth 100000 in
set_option maxHeartbeats 8000000 in
theorem made_walk (bs : List ByteArray) (hl : 1≤bs.length) (hm : bs.length < 100000) (B : Nat) (v : Value) (w : World) (h : w.ownsRow B 9 1 v bs.length (bs.map .string)) : Calls Tryz.prog 11 #[v] w fun e w'=>(∃ d,e=.returned (pV d)∧DevIs w' d bs∧w'.cell? ⟨d,3,none⟩=some (.bool false))∧Below w.heap.size w w':=by
  have HK:=Lib.hid (fun (W : World) (hb : Below w.heap.size w W)=>clone_walk (bs.map .string) (by simpa using hl) (by simpa using hm) (fun u hu=>by obtain ⟨x,_,rfl⟩:=List.mem_map.1 hu;rfl) B v W (by rw [List.length_map];exact own_below h hb))
  obtain ⟨y,cap,hv,ly,hc⟩:=texts_cell (l:=bs.map .string) (by rw [List.length_map];exact h) (by simpa using hl)
  rw [List.length_map] at hv
  subst hv
  have HC:=Lib.hid hc
  clear hc h
  obtain ⟨M,hmk⟩:=make_bools bs.length hm
  go_enter Tryz.func11,Tryz.ntmps11
  go_wp2
  go_region_held3 (fun W=>Below w.heap.size w W) (first | exact ⟨rfl,rfl,rfl,Nat.le_refl _,fun _ _=>rfl⟩ | exact undrew hb1 | exact bl_trans (by assumption) hb1 | exact bl_alloc (by assumption) _ | exact bl_alloc (undrew hb1) _ | trace_state)
    (first | (go_at_call 33;refine (HK.out _ (by assumption)).mono ?_;rintro e w1 ⟨u,rfl,ho1,hb1⟩;obtain ⟨g1,cap1,rfl,hT1⟩:=texts_at ho1 hl;have HT1:=Lib.hid hT1;clear hT1))
  · have a:=undrew hb1
    have b:=row_below (row_below HT1.out.choose_spec.1 (below_one w1 (.cells M 4))) (below_one _ (.cells #[.slice (some ⟨y,0,none⟩) bs.length cap,.slice (some ⟨g1,0,none⟩) bs.length cap1,.slice (some ⟨w1.heap.size,0,none⟩) bs.length bs.length,.bool false,.int .i64 0,.int .i64 0] 65))
    have c:=HT1.out.choose_spec.2
    go_wp2
    go_ret
    exact ⟨⟨_,rfl,⟨_,_,_,_,_,_,_,_,_,row_new2 w1 _ _,b,c⟩,row_cell (i:=3) (row_new2 w1 _ _) rfl⟩,bl_alloc (bl_alloc a _) _⟩
  · have a:=bl_trans (below_one w (.cells M 4)) (undrew hb1)
    have b:=row_below HT1.out.choose_spec.1 (below_one w1 (.cells #[.slice (some ⟨y,0,none⟩) bs.length cap,.slice (some ⟨g1,0,none⟩) bs.length cap1,.slice (some ⟨w.heap.size,0,none⟩) bs.length bs.length,.bool false,.int .i64 0,.int .i64 0] 65))
    have c:=HT1.out.choose_spec.2
    go_wp2
    go_ret
    exact ⟨⟨_,rfl,⟨_,_,_,_,_,_,_,_,_,row_new w1 _,b,c⟩,row_cell (i:=3) (row_new w1 _) rfl⟩,bl_alloc a _⟩
end Go.Proofs.YtbamnpenkjfgkaaGreat
namespace Go.Proofs.YtbamnpenkjfgkaaGreat
theorem ext_rest (b : ByteArray) (n k : Nat) (hk : k < n) : (b.extract (128 * k) (128 * n)).extract 128 (128 * n - 128 * k)=b.extract (128 * (k+1)) (128 * n):=by
  rw [ByteArray.extract_extract]
  congr 1 <;> omega
theorem ext_first (b : ByteArray) (n k : Nat) (hk : k < n) : (b.extract (128 * k) (128 * n)).extract 0 128=b.extract (128 * k) (128 * k+128):=by
  rw [ByteArray.extract_extract]
  congr 1 <;> omega
theorem ext_size (b : ByteArray) (n k : Nat) (hb : b.size=128 * n) : (b.extract (128 * k) (128 * n)).size=128 * n - 128 * k:=by
  rw [ByteArray.size_extract,hb];omega
theorem ext_list (b : ByteArray) (i j : Nat) : (b.extract i j).toList=(b.data.toList.drop i).take (j - i):=by
  rw [Go.ByteArray.toList_eq,ByteArray.data_extract,Array.toList_extract]
theorem ext_done (b : ByteArray) (n : Nat) (hb : b.size=128 * n) : ((b.extract (128 * n) b.size).toList != [])=false:=by
  rw [ext_list,hb,Nat.sub_self];rfl
theorem ext_more (b : ByteArray) (n k : Nat) (hk : k < n) (hb : b.size=128 * n) : ((b.extract (128 * k) b.size).toList != [])=true:=by
  have hl : b.data.toList.length=128 * n:=hb
  rw [ext_list,hb]
  have h : ((b.data.toList.drop (128 * k)).take (128 * n - 128 * k)).length ≠ 0:=by rw [List.length_take,List.length_drop,hl];omega
  rw [bne_iff_ne]
  intro h0
  rw [h0] at h
  exact h rfl
end Go.Proofs.YtbamnpenkjfgkaaGreat
namespace Go.Proofs.YtbamnpenkjfgkaaGreat
open Go.RowKit
theorem cell_one_new (w : World) (x : Value) (t : TypeId) : ∀ j u,[x][j]?=some u→(w.alloc (.cells #[x] t)).cell? ((⟨w.heap.size,0,none⟩ : Addr).add j)=some u:=by
  intro j u hj
  have hr:=row_new w (.cells #[x] t)
  match j,hj with
  | 0,hj=>simp at hj;subst hj;exact row_cell (i:=0) hr rfl
  | j+1,hj=>simp at hj
def blk (b : ByteArray) (k : Nat) : ByteArray:=b.extract (128 * k) (128 * k+128)
def blks (b : ByteArray) (n : Nat) : List ByteArray:=(List.range n).map (blk b)
set_option maxRecDepth 100000 in
set_option maxHeartbeats 8000000 in
theorem open_walk (b : ByteArray) (n : Nat) (hn : 1≤n) (hn2 : n≤4096) (hb : b.size=128 * n) (w : World) : Calls Tryz.prog 5 #[.string b] w fun e w'=>(∃ d,e=.returned (.tuple #[pV d,.int .i64 0])∧DevIs w' d (blks b n)∧w'.cell? ⟨d,3,none⟩=some (.bool false))∧Below w.heap.size w w':=by
  obtain ⟨i0,hi,hz0,hz1,hz2⟩:=info_parts Tryz.info9
  have HI:=Lib.hid hi
  have H0:=Lib.hid hz0
  have H1:=Lib.hid hz1
  have H2:=Lib.hid hz2
  clear hi hz0 hz1 hz2
  have e0 : ((128 * (n : Int)) == 0)=false:=by simp;omega
  go_enter Tryz.func5,Tryz.ntmps5
  go_wp2
  go_loopw [0,5] (fun s v wr=>∃ (k : Nat),k≤n∧s=.string (b.extract (128 * k) b.size)∧Hid (wr.ownsRow w.heap.size 9 1 v k ((blks b k).map .string))∧Hid (Below w.heap.size w wr)) (fun s _ _=>match s with | .string x=>x.size | _=>0)
  case atStart=>exact ⟨0,by omega,by rw [Nat.mul_zero,ByteArray.extract_zero_size],⟨rfl,.inl ⟨rfl,rfl⟩⟩,Below.refl _ _⟩
  case round =>
    obtain ⟨k,hk,rfl,hO,hB⟩:=hrel
    by_cases hkn : k=n
    · subst hkn
      have e1 : ((b.extract (128 * k) b.size).toList != [])=false:=ext_done b k hb
      go_wp2_with (go_at_call 11;refine (made_walk (blks b k) (by simp [blks];omega) (by simp [blks];omega) w.heap.size _ _ (by have:=hO.out;simpa [blks] using this)).mono ?_;rintro e w9 ⟨⟨d,rfl,hD,hz⟩,hb9⟩)
      go_ret2
      exact ⟨⟨d,rfl,hD,hz⟩,bl_trans hB.out hb9⟩
    · have e1 : (b.extract (128 * k) (128 * n)).toList.isEmpty=false:=by have:=ext_more b n k (by omega) hb;rw [hb] at this;simpa using this
      have hown:=hO.out
      have hbs:=hB.out.size
      go_wp2_with (at_builtin;refine wpList_append_own _ rfl _ _ 38 rfl w.heap.size 9 i0 (.string ⟨#[]⟩) 1 16 Tryz.underlying38 HI.out H0.out H1.out H2.out rfl (by decide) _ _ _ rfl (hown.alloc _) ⟨wr.heap.size,0,none⟩ 1 1 [.string ((b.extract (128 * k) (128 * n)).extract 0 128)] rfl rfl (cell_one_new _ _ _) (fun x hx=>by simp at hx;subst hx;rfl) (by unfold maxLen;omega) (by omega) (by simp;omega) ?_;intro v' w3 hown' hgrow3 hnil3)
      refine ⟨⟨k+1,by omega,by rw [ext_rest b n k (by omega),hb],?_,?_⟩,?_⟩
      · rw [ext_first b n k (by omega)] at hown'
        apply Lib.hid
        have e9 : (blks b (k+1)).map Value.string=(blks b k).map Value.string ++ [Value.string (b.extract (128 * k) (128 * k+128))]:=by
          unfold blks blk;simp [List.range_succ]
        rw [e9];exact hown'
      · exact Lib.hid ((bl_alloc hB.out _).grown hgrow3 (by have:=hB.out.size;simp;omega) (fun q hq=>(hown.lt q hq).1))
      · show ByteArray.size _ < ByteArray.size _
        rw [ext_rest b n k (by omega),hb,ext_size b n (k+1) hb,ext_size b n k hb];omega
end Go.Proofs.YtbamnpenkjfgkaaGreat
namespace Go.Proofs.YtbamnpenkjfgkaaGreat
open Go.RowKit
def putK (l : List UInt8) (a s : Nat) (hs : List Nat) : Nat→List UInt8
  | 0=>l
  | k+1=>putL (putK l a s hs k) (a+s * k) s (hs.getD k 0)
theorem putK_len (l : List UInt8) (a s : Nat) (hs : List Nat) (k : Nat) (h : a+s * k≤l.length) : (putK l a s hs k).length=l.length:=by
  induction k with
  | zero=>rfl
  | succ k ih =>
    have e : s * (k+1)=s * k+s:=Nat.mul_succ s k
    have ih:=ih (by omega)
    unfold putK
    rw [putL_len _ _ _ _ (by omega),ih]
def markN (b : Bool) : Nat:=if b then 1 else 0
def encList (kind seq : Nat) (homes : List Nat) (masked : List Bool) : List UInt8 :=
  putK (putK (putL (putL (recB seq) 4 1 kind) 13 1 homes.length) 14 2 homes homes.length) (14+2 * homes.length) 1 (masked.map markN) masked.length
end Go.Proofs.YtbamnpenkjfgkaaGreat
namespace Go.Proofs.YtbamnpenkjfgkaaGreat
def ltN (i : Nat) : Nat:=bif Nat.beq i 0 then 103 else bif Nat.beq i 1 then 108 else bif Nat.beq i 2 then 105 else bif Nat.blt i 5 then 115 else bif Nat.beq i 5 then 97 else bif Nat.beq i 6 then 100 else 101
def lgN (i : Nat) : Nat:=bif Nat.beq i 0 then 71 else bif Nat.beq i 1 then 76 else bif Nat.beq i 2 then 74 else bif Nat.beq i 3 then 119 else 1
def hiN (i : Nat) : Nat:=bif Nat.blt i 1 then 16 else bif Nat.blt i 3 then 2 else bif Nat.blt i 4 then 16 else bif Nat.blt i 5 then 2 else bif Nat.blt i 6 then 8 else 16
def kLo (i : Nat) : Nat:=bif Nat.blt i 8 then ltN i else bif Nat.beq i 9 then 1 else bif Nat.blt i 128 then 0 else bif Nat.blt i 133 then lgN (i - 128) else 0
def kHi (i : Nat) : Nat:=bif Nat.blt i 8 then ltN i else bif Nat.blt i 48 then (bif Nat.blt ((i - 8) % 4) 1 then 255 else bif Nat.blt ((i - 8) % 4) 2 then hiN ((i - 8) / 4) else 0) else bif Nat.blt i 128 then 0 else bif Nat.blt i 133 then lgN (i - 128) else bif Nat.blt i 142 then 255 else bif Nat.blt i 143 then 1 else bif Nat.blt i 256 then 0 else 255
structure Img (p : Nat) (I : Nat→Nat) : Prop where
  per : ∀ i,I i=I (i % p)
  lo : ∀ i,i < 256→kLo i≤I i
  hi : ∀ i,I i≤kHi i
  log : 1≤I 12+I 13
  ino : 1≤I 16+I 17
  top : 1≤p∧p≤300
def anyN (f : Nat→Bool) : Nat→Bool:=Nat.rec false fun i r=>bif f i then true else r
theorem anyN_ex {f : Nat→Bool} {n : Nat} (h : anyN f n=true) : ∃ i,i < n∧f i=true:=by
  induction n with
  | zero=>exact Bool.noConfusion h
  | succ n ih =>
    have h' : (bif f n then true else anyN f n)=true:=h
    cases hf : f n with
    | true=>exact ⟨n,by omega,hf⟩
    | false =>
      rw [hf] at h'
      obtain ⟨i,hi,h1⟩:=ih h'
      exact ⟨i,by omega,h1⟩
def allN (f : Nat→Bool) : Nat→Bool:=Nat.rec true fun i r=>bif f i then r else false
theorem allN_at {f : Nat→Bool} {n : Nat} (h : allN f n=true) : ∀ i,i < n→f i=true:=by
  induction n with
  | zero=>intro i hi;omega
  | succ n ih =>
    have h' : (bif f n then allN f n else false)=true:=h
    cases hf : f n with
    | false=>rw [hf] at h';exact Bool.noConfusion h'
    | true =>
      rw [hf] at h'
      intro i hi
      by_cases hn : i=n
      · rw [hn];exact hf
      · exact ih h' i (by omega)
theorem blt_lt {a b : Nat} (h : Nat.blt a b=true) : a < b:=by simpa [Nat.blt_eq] using h
def noP (p i : Nat) : Bool:=bif Nat.blt (kHi i) (kLo (i+p)) then true else Nat.blt (kHi (i+p)) (kLo i)
set_option maxRecDepth 100000 in
theorem small_p : allN (fun p=>bif Nat.beq p 0 then true else bif Nat.beq p 133 then true else anyN (noP p) (256 - p)) 256=true:=by decide +kernel
theorem img_great {p : Nat} {I : Nat→Nat} (h : Img p I) : 256≤p:=by
  apply Nat.le_of_not_lt
  intro hp
  have h0:=h.top.1
  have hk:=allN_at small_p p hp
  have e0 : Nat.beq p 0=false:=by cases hb : Nat.beq p 0;rfl;exact absurd (Nat.eq_of_beq_eq_true hb) (by omega)
  simp only [e0,cond_false] at hk
  by_cases h133 : p=133
  · subst h133
    have a1:=h.per 145
    have a2:=h.per 146
    have b1:=h.hi 145
    have b2:=h.hi 146
    have c1 : kHi 145=0:=by decide
    have c2 : kHi 146=0:=by decide
    have:=h.log
    have e1 : 145 % 133=12:=by decide
    have e2 : 146 % 133=13:=by decide
    rw [e1] at a1
    rw [e2] at a2
    omega
  · have e1 : Nat.beq p 133=false:=by cases hb : Nat.beq p 133;rfl;exact absurd (Nat.eq_of_beq_eq_true hb) h133
    simp only [e1,cond_false] at hk
    obtain ⟨i,hi,hn⟩:=anyN_ex hk
    have hs : I (i+p)=I i:=by rw [h.per (i+p),h.per i,Nat.add_mod_right]
    have l1:=h.lo i (by omega)
    have l2:=h.lo (i+p) (by omega)
    have g1:=h.hi i
    have g2:=h.hi (i+p)
    unfold noP at hn
    cases hb : Nat.blt (kHi i) (kLo (i+p)) with
    | true=>have:=blt_lt hb;omega
    | false =>
      rw [hb] at hn
      have:=blt_lt hn
      omega
def plc (s j : Nat) : Nat:=bif Nat.blt (s+j) 256 then s+j else bif Nat.blt s 256 then 300 else bif Nat.blt (s+j) 300 then 300 else s+j - 300
def noW (lo hi : Nat→Nat) (s j : Nat) : Bool:=bif Nat.blt (hi j) (kLo (plc s j)) then true else Nat.blt (kHi (plc s j)) (lo j)
structure Win (I : Nat→Nat) (a s : Nat) : Prop where
  lo : ∀ j,j < 256→kLo (plc s j)≤I (a+j)
  hi : ∀ j,j < 256→I (a+j)≤kHi (plc s j)
  st : s < 300
  at_ : ∀ j,j < 256→plc s j < 256→I (a+j)=I (plc s j)
theorem k300 : kLo 300=0∧kHi 300=255:=by decide
theorem img_win {p : Nat} {I : Nat→Nat} (h : Img p I) (hb : ∀ i,I i < 256) (a : Nat) : Win I a (if a % p < 256 then a % p else a % p+(300 - p)):=by
  have hp:=img_great h
  have hp3:=h.top.2
  have hr:=Nat.mod_lt a (show 0 < p by omega)
  have sh : ∀ j,I (a % p+j)=I (a+j):=fun j=>by rw [h.per (a % p+j),h.per (a+j),Nat.mod_add_mod]
  have key : ∀ j,j < 256→plc (if a % p < 256 then a % p else a % p+(300 - p)) j=300∨(plc (if a % p < 256 then a % p else a % p+(300 - p)) j < 256∧I (a+j)=I (plc (if a % p < 256 then a % p else a % p+(300 - p)) j)):=by
    intro j hj
    rw [← sh]
    generalize a % p=r at *
    have be : ∀ x y : Nat,Nat.blt x y=decide (x < y):=fun x y=>by
      cases hb : Nat.blt x y with
      | true=>exact (decide_eq_true (blt_lt hb)).symm
      | false=>rw [eq_comm,decide_eq_false_iff_not];intro hlt;rw [← Nat.blt_eq] at hlt;rw [hlt] at hb;exact Bool.noConfusion hb
    unfold plc
    simp only [be,Bool.cond_decide]
    by_cases h1 : r < 256
    · rw [if_pos h1]
      by_cases h2 : r+j < 256
      · rw [if_pos h2];exact .inr ⟨h2,rfl⟩
      · rw [if_neg h2,if_pos h1];exact .inl rfl
    · rw [if_neg h1,if_neg (by omega),if_neg (by omega)]
      by_cases h3 : r+(300 - p)+j < 300
      · rw [if_pos h3];exact .inl rfl
      · rw [if_neg h3]
        refine .inr ⟨by omega,?_⟩
        rw [show r+j=(r+(300 - p)+j - 300)+p by omega,h.per (_+p),Nat.add_mod_right,← h.per]
  refine ⟨fun j hj=>?_,fun j hj=>?_,?_,fun j hj hs=>?_⟩
  · rcases key j hj with e | ⟨e,e2⟩
    · rw [e,k300.1];exact Nat.zero_le _
    · rw [e2];exact h.lo _ e
  · rcases key j hj with e | ⟨e,e2⟩
    · rw [e,k300.2];have:=hb (a+j);omega
    · rw [e2];exact h.hi _
  · split <;> omega
  · rcases key j hj with e | ⟨e,e2⟩
    · omega
    · exact e2
theorem noW_no {lo hi : Nat→Nat} {a s j : Nat} {I : Nat→Nat} (h : Win I a s) (hj : j < 256) (hn : noW lo hi s j=true) (h1 : lo j≤I (a+j)) (h2 : I (a+j)≤hi j) : False:=by
  have l:=h.lo j hj
  have g:=h.hi j hj
  unfold noW at hn
  cases hb : Nat.blt (hi j) (kLo (plc s j)) with
  | true=>have:=blt_lt hb;omega
  | false =>
    rw [hb] at hn
    have:=blt_lt hn
    omega
def bothN (s j : Nat) : Bool:=bif Nat.beq (kHi (plc s j)) 0 then Nat.beq (kHi (plc s (j+1))) 0 else false
theorem bothN_no {a s j : Nat} {I : Nat→Nat} (h : Win I a s) (hj : j+1 < 256) (hn : bothN s j=true) (h1 : 1≤I (a+j)+I (a+j+1)) : False:=by
  have g:=h.hi j (by omega)
  have g':=h.hi (j+1) hj
  rw [← Nat.add_assoc] at g'
  unfold bothN at hn
  cases hb : Nat.beq (kHi (plc s j)) 0 with
  | true =>
    rw [hb] at hn
    have e1:=Nat.eq_of_beq_eq_true hb
    have e2:=Nat.eq_of_beq_eq_true hn
    omega
  | false=>rw [hb] at hn;exact Bool.noConfusion hn
def iLo (m j : Nat) : Nat:=bif Nat.beq j 0 then 1 else bif Nat.beq j 13 then m else 0
def iHi (m j : Nat) : Nat:=bif Nat.beq j 0 then 2 else bif Nat.beq j 1 then 1 else bif Nat.beq j 2 then 100 else bif Nat.beq j 3 then 0 else bif Nat.blt j 6 then 255 else bif Nat.beq j 6 then 4 else bif Nat.blt j 12 then 0 else bif Nat.beq j 12 then 4 else bif Nat.beq j 13 then m else
  bif Nat.blt ((j - 14) / 12) m then (bif Nat.beq ((j - 14) % 4) 0 then 255 else bif Nat.beq ((j - 14) % 4) 1 then (bif Nat.beq ((j - 14) % 12) 5 then 16 else 8) else 0) else 0
def noI (s m : Nat) : Bool:=bif noW (iLo m) (iHi m) s 0 then true else bif anyN (noW (iLo m) (iHi m) s) 64 then true else anyN (fun e=>bothN s (18+12 * e)) m
set_option maxRecDepth 100000 in
theorem inodes_no : allN (fun s=>allN (fun m=>noI s (m+1)) 4) 300=true:=by decide +kernel
theorem img_ino {p : Nat} {I : Nat→Nat} (h : Img p I) (hb : ∀ i,I i < 256) (a m : Nat) (hm : 1≤m) (hm4 : m≤4) (hlo : ∀ j,j < 64→iLo m j≤I (a+j)) (hhi : ∀ j,j < 64→I (a+j)≤iHi m j) (hph : ∀ e,e < m→1≤I (a+(18+12 * e))+I (a+(18+12 * e)+1)) : False:=by
  have hw:=img_win h hb a
  generalize (if a % p < 256 then a % p else a % p+(300 - p))=s at hw
  have key:=allN_at (allN_at inodes_no s hw.st) (m - 1) (by omega)
  rw [show m - 1+1=m by omega] at key
  unfold noI at key
  cases hc : noW (iLo m) (iHi m) s 0 with
  | true=>exact noW_no hw (by omega) hc (hlo 0 (by omega)) (hhi 0 (by omega))
  | false =>
    rw [hc] at key
    cases hb : anyN (noW (iLo m) (iHi m) s) 64 with
    | true =>
      obtain ⟨j,hj,hn⟩:=anyN_ex hb
      exact noW_no hw (by omega) hn (hlo j hj) (hhi j hj)
    | false =>
      rw [hb] at key
      obtain ⟨e,he,hn⟩:=anyN_ex key
      exact bothN_no hw (by omega) hn (hph e he)
def rLo (k n j : Nat) : Nat:=bif Nat.blt j 4 then lgN j else bif Nat.beq j 4 then k else bif Nat.beq j 13 then (bif Nat.beq k 4 then 0 else n) else 0
def rHi (k n j : Nat) : Nat:=bif Nat.blt j 4 then lgN j else bif Nat.beq j 4 then k else bif Nat.blt j 13 then 255 else
  bif Nat.beq k 4 then (bif Nat.blt j 17 then 255 else 0) else bif Nat.beq j 13 then n else bif Nat.blt j (14+2 * n) then (bif Nat.beq (j % 2) 0 then 255 else 15) else bif Nat.beq k 2 then (bif Nat.blt j (14+3 * n) then 1 else 0) else 0
def noC (hi : Nat→Nat) (s c j : Nat) : Bool:=bif Nat.beq (plc s j) c then (bif Nat.beq (hi j) 0 then (bif Nat.beq (hi (j+1)) 0 then Nat.beq (plc s (j+1)) (c+1) else false) else false) else false
theorem noC_no {hi : Nat→Nat} {a s c j : Nat} {I : Nat→Nat} (h : Win I a s) (hc : c < 255) (hj : j+1 < 256) (hn : noC hi s c j=true) (h1 : I (a+j)≤hi j) (h2 : I (a+(j+1))≤hi (j+1)) (h3 : 1≤I c+I (c+1)) : False:=by
  unfold noC at hn
  cases e1 : Nat.beq (plc s j) c with
  | false=>rw [e1] at hn;exact Bool.noConfusion hn
  | true =>
    cases e2 : Nat.beq (hi j) 0 with
    | false=>rw [e1,e2] at hn;exact Bool.noConfusion hn
    | true =>
      cases e3 : Nat.beq (hi (j+1)) 0 with
      | false=>rw [e1,e2,e3] at hn;exact Bool.noConfusion hn
      | true =>
        rw [e1,e2,e3] at hn
        have f1:=Nat.eq_of_beq_eq_true e1
        have f2:=Nat.eq_of_beq_eq_true e2
        have f3:=Nat.eq_of_beq_eq_true e3
        have f4:=Nat.eq_of_beq_eq_true hn
        have g1:=h.at_ j (by omega) (by omega)
        have g2:=h.at_ (j+1) hj (by omega)
        rw [f1] at g1
        rw [f4] at g2
        omega
def most (k : Nat) : Nat:=bif Nat.beq k 4 then 1 else bif Nat.beq k 2 then 24 else 28
def noS (s : Nat) : Bool:=bif anyN (noW (rLo 0 0) (rHi 0 0) s) 4 then true else bif Nat.blt s 133 then false else Nat.blt s 141
def noR (s k n : Nat) : Bool:=bif anyN (noW (rLo k n) (rHi k n) s) 64 then true else bif anyN (noC (rHi k n) s 12) 64 then true else bif anyN (noC (rHi k n) s 16) 64 then true else bif Nat.beq k 4 then false else bif Nat.blt n 3 then false else Nat.beq s 295
set_option maxRecDepth 100000 in
theorem records_no : allN (fun s=>bif noS s then true else allN (fun k=>allN (fun n=>noR s (k+2) (n+1)) (most (k+2))) 3) 300=true:=by decide +kernel
theorem rec_in {a s : Nat} {I : Nat→Nat} (h : Win I a s) (h1 : 133≤s) (h2 : s < 141) (hg : ∀ j,j < 4→I (a+j)=lgN j) (hq : ∀ j,j < 8→I (a+(5+j))=I (133+j)) (hz : ∀ i,143≤i→i < 256→I i=0) : False:=by
  have pl : ∀ j,s+j < 256→plc s j=s+j:=fun j hj=>by
    unfold plc
    have : Nat.blt (s+j) 256=true:=by rw [Nat.blt_eq];exact hj
    rw [this];rfl
  have at_ : ∀ j,s+j < 256→I (a+j)=I (s+j):=fun j hj=>by rw [h.at_ j (by omega) (by rw [pl j hj];exact hj),pl j hj]
  have g0 : I s=71:=by have:=hg 0 (by omega);rw [at_ 0 (by omega)] at this;exact this
  have g3 : I (s+3)=119:=by have:=hg 3 (by omega);rw [at_ 3 (by omega)] at this;exact this
  have q : ∀ j,j < 8→I (s+(5+j))=I (133+j):=fun j hj=>by rw [← at_ _ (by omega)];exact hq j hj
  by_cases e1 : s=133
  · subst e1
    have a1:=q 0 (by omega)
    have a2:=q 5 (by omega)
    have a3:=hz 143 (by omega) (by omega)
    simp only [Nat.reduceAdd] at a1 a2
    omega
  · by_cases e2 : s < 138
    · have a1:=q (s - 133+3) (by omega)
      rw [show 133+(s - 133+3)=s+3 by omega] at a1
      have:=hz (s+(5+(s - 133+3))) (by omega) (by omega)
      omega
    · have a1:=q (s - 133) (by omega)
      rw [show 133+(s - 133)=s by omega] at a1
      have:=hz (s+(5+(s - 133))) (by omega) (by omega)
      omega
theorem img_rec {p : Nat} {I : Nat→Nat} (h : Img p I) (hb : ∀ i,I i < 256) (a k n : Nat) (hk : k=2∨k=3∨k=4) (hn1 : 1≤n) (hn : n≤most k) (hlo : ∀ j,j < 128→rLo k n j≤I (a+j)) (hhi : ∀ j,j < 128→I (a+j)≤rHi k n j) (hq : ∀ j,j < 8→I (a+(5+j))=I (133+j)) (hr : 3≤n→k ≠ 4→I (a+14)+256 * I (a+15)+2≤I (a+18)+256 * I (a+19)) : False:=by
  have hw:=img_win h hb a
  generalize (if a % p < 256 then a % p else a % p+(300 - p))=s at hw
  have key:=allN_at records_no s hw.st
  have hl : ∀ j,j < 4→rLo k n j=lgN j∧rHi k n j=lgN j∧rLo 0 0 j=lgN j∧rHi 0 0 j=lgN j:=fun j hj=>by
    have : Nat.blt j 4=true:=by rw [Nat.blt_eq];exact hj
    unfold rLo rHi
    rw [this]
    exact ⟨rfl,rfl,rfl,rfl⟩
  have hg : ∀ j,j < 4→I (a+j)=lgN j:=fun j hj=>by
    have h1:=hlo j (by omega)
    have h2:=hhi j (by omega)
    obtain ⟨e1,e2,_⟩:=hl j hj
    rw [e1] at h1
    rw [e2] at h2
    omega
  cases hS : noS s with
  | true =>
    unfold noS at hS
    cases hc : anyN (noW (rLo 0 0) (rHi 0 0) s) 4 with
    | true =>
      obtain ⟨j,hj,hn⟩:=anyN_ex hc
      obtain ⟨e1,e2,e3,e4⟩:=hl j hj
      have:=hg j hj
      exact noW_no hw (by omega) hn (by omega) (by omega)
    | false =>
      rw [hc] at hS
      cases h1 : Nat.blt s 133 with
      | true=>rw [h1] at hS;exact Bool.noConfusion hS
      | false =>
        rw [h1] at hS
        have h2:=blt_lt hS
        refine rec_in hw (Nat.le_of_not_lt fun hlt=>?_) h2 hg hq fun i h1 h2=>?_
        · rw [← Nat.blt_eq] at hlt;rw [hlt] at h1;exact Bool.noConfusion h1
        · have h3:=h.hi i
          have e1 : kHi i=0:=(fun (hz : allN (fun i=>bif Nat.blt i 143 then true else Nat.beq (kHi i) 0) 256=true)=>by
            have:=allN_at hz i h2
            cases hb : Nat.blt i 143 with
            | true=>have:=blt_lt hb;omega
            | false=>simp only [hb,cond_false] at this;exact Nat.eq_of_beq_eq_true this) (by decide +kernel)
          omega
  | false =>
    simp only [hS,cond_false] at key
    have key:=allN_at (allN_at key (k - 2) (by omega)) (n - 1) (by rw [show k - 2+2=k by omega];omega)
    rw [show k - 2+2=k by omega,show n - 1+1=n by omega] at key
    unfold noR at key
    cases hc : anyN (noW (rLo k n) (rHi k n) s) 64 with
    | true =>
      obtain ⟨j,hj,hn⟩:=anyN_ex hc
      exact noW_no hw (by omega) hn (hlo j (by omega)) (hhi j (by omega))
    | false =>
      rw [hc] at key
      cases hd : anyN (noC (rHi k n) s 12) 64 with
      | true =>
        obtain ⟨j,hj,hn⟩:=anyN_ex hd
        exact noC_no hw (by omega) (by omega) hn (hhi j (by omega)) (hhi (j+1) (by omega)) h.log
      | false =>
        rw [hd] at key
        cases he : anyN (noC (rHi k n) s 16) 64 with
        | true =>
          obtain ⟨j,hj,hn⟩:=anyN_ex he
          exact noC_no hw (by omega) (by omega) hn (hhi j (by omega)) (hhi (j+1) (by omega)) h.ino
        | false =>
          rw [he] at key
          cases hf : Nat.beq k 4 with
          | true=>rw [hf] at key;exact Bool.noConfusion key
          | false =>
            rw [hf] at key
            cases hm : Nat.blt n 3 with
            | true=>rw [hm] at key;exact Bool.noConfusion key
            | false =>
              rw [hm] at key
              have es:=Nat.eq_of_beq_eq_true key
              subst es
              have n3 : 3≤n:=Nat.le_of_not_lt fun hlt=>by rw [← Nat.blt_eq] at hlt;rw [hlt] at hm;exact Bool.noConfusion hm
              have k4 : k ≠ 4:=fun e=>by rw [e] at hf;exact Bool.noConfusion hf
              have:=hr n3 k4
              have b14:=hw.lo 14 (by omega)
              have b18:=hw.hi 18 (by omega)
              have b19:=hw.hi 19 (by omega)
              have e14 : kLo (plc 295 14)=1:=by decide
              have e18 : kHi (plc 295 18)=2:=by decide
              have e19 : kHi (plc 295 19)=0:=by decide
              omega
end Go.Proofs.YtbamnpenkjfgkaaGreat
