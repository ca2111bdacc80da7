/- The bytes of what is laid into texts. -/
import Derived.Test.YtbamnpenkjfgkaaGreatUK
import Derived.Test.YtbamnpenkjfgkaaGreatUB
import Derived.Test.YtbamnpenkjfgkaaGreatUP
import Derived.Test.YtbamnpenkjfgkaaGreatUJ
namespace Go.Proofs.YtbamnpenkjfgkaaGreat
def bN (l : List UInt8) (i : Nat) : Nat:=(l.getD i 0).toNat
theorem bN_lt (l : List UInt8) (i : Nat) : bN l i < 256:=UInt8.toNat_lt _
theorem bN_app (l m : List UInt8) (i : Nat) : bN (l ++ m) i=if i < l.length then bN l i else bN m (i - l.length):=by
  unfold bN
  by_cases h : i < l.length
  · rw [if_pos h];simp [List.getD,List.getElem?_append,h]
  · rw [if_neg h];simp [List.getD,List.getElem?_append,h]
theorem bN_ge (l : List UInt8) (i : Nat) (h : l.length≤i) : bN l i=0:=by
  unfold bN
  simp [List.getD,List.getElem?_eq_none h]
theorem bN_rep (n i : Nat) : bN (List.replicate n 0) i=0:=by
  unfold bN
  by_cases h : i < n
  · simp [List.getD,List.getElem?_replicate,h]
  · simp [List.getD,List.getElem?_replicate,h]
theorem bN_leB (n x i : Nat) (h : i < n) : bN (leB n x) i=x / 256 ^ i % 256:=by
  induction n generalizing x i with
  | zero=>omega
  | succ n ih =>
    match i with
    | 0 =>
      show (UInt8.ofNat x).toNat=_
      rw [UInt8.toNat_ofNat',Nat.pow_zero,Nat.div_one]
    | i+1 =>
      have e : bN (leB (n+1) x) (i+1)=bN (leB n (x / 256)) i:=rfl
      rw [e,ih _ _ (by omega),Nat.div_div_eq_div_mul,Nat.pow_succ,Nat.mul_comm 256]
theorem bN_take (l : List UInt8) (a i : Nat) (h : i < a) : bN (l.take a) i=bN l i:=by
  unfold bN
  simp [List.getD,List.getElem?_take,h]
theorem bN_drop (l : List UInt8) (a i : Nat) : bN (l.drop a) i=bN l (a+i):=by
  unfold bN
  simp [List.getD,List.getElem?_drop]
theorem bN_put (l : List UInt8) (a n x i : Nat) (h : a+n≤l.length) : bN (putL l a n x) i=if a≤i∧i < a+n then x / 256 ^ (i - a) % 256 else bN l i:=by
  unfold putL
  have h1 : (l.take a).length=a:=by simp;omega
  have h2 : (l.take a ++ leB n x).length=a+n:=by rw [List.length_append,h1,leB_len]
  rw [bN_app,h2,bN_app,h1]
  by_cases c1 : i < a
  · rw [if_pos (by omega),if_pos c1,if_neg (by omega),bN_take _ _ _ c1]
  · by_cases c2 : i < a+n
    · rw [if_pos c2,if_neg c1,if_pos ⟨by omega,c2⟩,bN_leB _ _ _ (by omega)]
    · rw [if_neg c2,if_neg (by omega),bN_drop,show a+n+(i - (a+n))=i by omega]
def entB (x : Ent) (r : Nat) : Nat:=if r < 4 then x.lg / 256 ^ r % 256 else if r < 8 then x.ph / 256 ^ (r - 4) % 256 else x.ln / 256 ^ (r - 8) % 256
theorem bN_putX (l : List UInt8) (a : Nat) (x : Ent) (i : Nat) (h : a+12≤l.length) : bN (putX l a x 3) i=if a≤i∧i < a+12 then entB x (i - a) else bN l i:=by
  have l1 : (putL l a 4 x.lg).length=l.length:=putL_len _ _ _ _ (by omega)
  have l2 : (putL (putL l a 4 x.lg) (a+4) 4 x.ph).length=l.length:=by rw [putL_len _ _ _ _ (by omega),l1]
  show bN (putL (putL (putL l a 4 x.lg) (a+4) 4 x.ph) (a+8) 4 x.ln) i=_
  rw [bN_put _ _ _ _ _ (by omega),bN_put _ _ _ _ _ (by omega),bN_put _ _ _ _ _ (by omega)]
  unfold entB
  by_cases c0 : a≤i∧i < a+12
  · rw [if_pos c0]
    by_cases c1 : i - a < 4
    · rw [if_pos c1,if_neg (by omega),if_neg (by omega),if_pos (by omega)]
    · rw [if_neg c1]
      by_cases c2 : i - a < 8
      · rw [if_pos c2,if_neg (by omega),if_pos (by omega),show i - (a+4)=i - a - 4 by omega]
      · rw [if_neg c2,if_pos (by omega),show i - (a+8)=i - a - 8 by omega]
  · rw [if_neg c0,if_neg (by omega),if_neg (by omega),if_neg (by omega)]
theorem bN_putE (l : List UInt8) (a : Nat) (es : List Ent) (i : Nat) (h : a+12 * es.length≤l.length) : bN (putE l a es) i=if a≤i∧i < a+12 * es.length then entB (es.getD ((i - a) / 12) ⟨0,0,0⟩) ((i - a) % 12) else bN l i:=by
  induction es generalizing l a with
  | nil =>
    rw [if_neg (by simp)]
    rfl
  | cons x r ih =>
    have hl:=putX_len l a x 3 (by simp at h;omega)
    have e : 12 * (x :: r).length=12+12 * r.length:=by simp;omega
    rw [e] at h ⊢
    show bN (putE (putX l a x 3) (a+12) r) i=_
    rw [ih _ _ (by rw [hl];omega),bN_putX _ _ _ _ (by omega)]
    by_cases c0 : a≤i∧i < a+(12+12 * r.length)
    · rw [if_pos c0]
      by_cases c1 : i < a+12
      · rw [if_neg (by omega),if_pos ⟨c0.1,c1⟩,show (i - a) / 12=0 by omega,show (i - a) % 12=i - a by omega]
        rfl
      · rw [if_pos (by omega),show (i - a) / 12=(i - (a+12)) / 12+1 by omega,show (i - a) % 12=(i - (a+12)) % 12 by omega]
        rfl
    · rw [if_neg c0,if_neg (by omega),if_neg (by omega)]
theorem bN_putK (l : List UInt8) (a s : Nat) (hs : List Nat) (k i : Nat) (hs0 : 1≤s) (h : a+s * k≤l.length) : bN (putK l a s hs k) i=if a≤i∧i < a+s * k then hs.getD ((i - a) / s) 0 / 256 ^ ((i - a) % s) % 256 else bN l i:=by
  induction k with
  | zero=>rw [if_neg (by omega)];rfl
  | succ k ih =>
    have e : s * (k+1)=s * k+s:=Nat.mul_succ s k
    rw [e] at h ⊢
    have hl:=putK_len l a s hs k (by omega)
    show bN (putL (putK l a s hs k) (a+s * k) s (hs.getD k 0)) i=_
    rw [bN_put _ _ _ _ _ (by omega),ih (by omega)]
    by_cases c0 : a≤i∧i < a+(s * k+s)
    · rw [if_pos c0]
      by_cases c1 : i < a+s * k
      · rw [if_neg (by omega),if_pos ⟨c0.1,c1⟩]
      · rw [if_pos (by omega)]
        obtain ⟨q,hq⟩ : ∃ q,i - a=s * k+q:=⟨i - a - s * k,by omega⟩
        have hqs : q < s:=by omega
        rw [hq,show i - (a+s * k)=q by omega,Nat.mul_add_div (by omega),Nat.div_eq_of_lt hqs,Nat.add_zero,Nat.mul_add_mod,Nat.mod_eq_of_lt hqs]
    · rw [if_neg c0,if_neg (by omega),if_neg (by omega)]
end Go.Proofs.YtbamnpenkjfgkaaGreat
namespace Go.Proofs.YtbamnpenkjfgkaaGreat
theorem per_mod {l : List UInt8} {S p : Nat} (hp : 1≤p) (h : ∀ i,i+p < S→l.getD i 0=l.getD (i+p) 0) (i : Nat) (hi : i < S) : bN l i=bN l (i % p):=by
  induction i using Nat.strongRecOn with
  | _ i ih =>
    by_cases c : i < p
    · rw [Nat.mod_eq_of_lt c]
    · have e:=h (i - p) (by omega)
      rw [show i - p+p=i by omega] at e
      have e2:=ih (i - p) (by omega) (by omega)
      have e3 : (i - p) % p=i % p:=by rw [← Nat.add_mod_right (i - p) p,show i - p+p=i by omega]
      rw [e3] at e2
      rw [← e2]
      unfold bN
      rw [e]
theorem blk_bN (b : ByteArray) (k j : Nat) (hj : j < 128) : bN (blk b k).data.toList j=bN b.data.toList (128 * k+j):=by
  unfold blk
  rw [ByteArray.data_extract,Array.toList_extract]
  have e : ∀ (l : List UInt8) (a c : Nat),bN ((l.extract a c)) j=if j < c - a then bN l (a+j) else 0:=fun l a c=>by
    unfold bN
    by_cases h : j < c - a
    · rw [if_pos h]
      simp [List.extract_eq_take_drop,List.getD,List.getElem?_take,List.getElem?_drop,h]
    · rw [if_neg h]
      simp [List.extract_eq_take_drop,List.getD,List.getElem?_take,h]
  rw [e,if_pos (by omega)]
theorem le4_bN (l : List UInt8) (a : Nat) (h : a+4≤l.length) : le4 l a=bN l a+256 * bN l (a+1)+65536 * bN l (a+2)+16777216 * bN l (a+3):=by
  have g : ∀ i (hi : i < l.length),bN l i=l[i].toNat:=fun i hi=>by simp [bN,List.getD,List.getElem?_eq_getElem hi]
  unfold le4
  rw [List.drop_eq_getElem_cons (show a < l.length by omega),List.drop_eq_getElem_cons (show a+1 < l.length by omega),List.drop_eq_getElem_cons (show a+1+1 < l.length by omega),List.drop_eq_getElem_cons (show a+1+1+1 < l.length by omega)]
  simp only [List.take_succ_cons,List.take_zero,leN]
  have e2 : bN l (a+2)=l[a+1+1].toNat:=g (a+1+1) (by omega)
  have e3 : bN l (a+3)=l[a+1+1+1].toNat:=g (a+1+1+1) (by omega)
  rw [g a (by omega),g (a+1) (by omega),e2,e3]
  show _+256 * (_+256 * (_+256 * (_+256 * 0)))=_
  omega
theorem enc_name (s : Sup) (i : Nat) (hi : i < 8) : bN s.enc i=bN nameL i:=by
  unfold Sup.enc encK
  rw [bN_app,if_pos (by rw [List.length_append];show i < 8+_;omega),bN_app,if_pos (by exact hi)]
theorem fs_len (s : Sup) : ((s.fs.take 10).flatMap (leB 4)).length=40:=by rw [flat_len];rfl
theorem enc_zero (s : Sup) (i : Nat) (h1 : 48≤i) : bN s.enc i=0:=by
  unfold Sup.enc encK
  have hn : nameL.length=8:=rfl
  rw [bN_app,List.length_append,fs_len,hn,if_neg (by omega),bN_rep]
def sgn : List UInt8:=[71,76,74,119]
theorem recZ_bN (i : Nat) : bN recZ i=bN sgn i:=by
  unfold recZ
  rw [bN_app]
  by_cases h : i < 4
  · rw [if_pos (by exact h)];rfl
  · rw [if_neg (by exact h),bN_rep,bN_ge sgn i (by show 4≤i;omega)]
theorem recB_bN (s i : Nat) : bN (recB s) i=if 5≤i∧i < 13 then s / 256 ^ (i - 5) % 256 else bN sgn i:=by
  unfold recB
  rw [bN_put _ _ _ _ _ (by rw [recZ_len];omega),recZ_bN]
theorem sgn_ge (i : Nat) (h : 4≤i) : bN sgn i=0:=bN_ge _ _ h
theorem head_bN (s p i : Nat) : bN (encHead s p) i=if 13≤i∧i < 15 then p / 256 ^ (i - 13) % 256 else if i=4 then 1 else if 5≤i∧i < 13 then s / 256 ^ (i - 5) % 256 else bN sgn i:=by
  unfold encHead
  have h1 : (putL (recB s) 4 1 1).length=128:=by rw [putL_len _ _ _ _ (by rw [recB_len];omega),recB_len]
  rw [bN_put _ _ _ _ _ (by omega),bN_put _ _ _ _ _ (by rw [recB_len];omega),recB_bN]
  by_cases c : i=4
  · subst c;rfl
  · rw [if_neg (show ¬ (4≤i∧i < 4+1) by omega),if_neg c]
set_option maxRecDepth 100000 in
theorem kLo_is : ∀ i,i < 256→(i < 8∧kLo i=bN nameL i)∨(i=9∧kLo i=1)∨(128≤i∧i < 132∧kLo i=bN sgn (i - 128))∨(i=132∧kLo i=1)∨kLo i=0:=by decide +kernel
set_option maxRecDepth 100000 in
theorem kHi_is : ∀ i,i < 256→(i < 8∧kHi i=bN nameL i)∨(8≤i∧i < 48∧kHi i=if (i - 8) % 4=0 then 255 else if (i - 8) % 4=1 then hiN ((i - 8) / 4) else 0)∨(48≤i∧i < 128∧kHi i=0)∨(128≤i∧i < 132∧kHi i=bN sgn (i - 128))∨(i=132∧kHi i=1)∨(133≤i∧i < 142∧kHi i=255)∨(i=142∧kHi i=1)∨(143≤i∧kHi i=0):=by decide +kernel
theorem kHi_ge (i : Nat) (h : 256≤i) : kHi i=255:=by
  have b : ∀ c,c≤256→Nat.blt i c=false:=fun c hc=>by
    cases hb : Nat.blt i c with
    | false=>rfl
    | true=>have:=blt_lt hb;omega
  unfold kHi
  simp only [b 8 (by omega),b 48 (by omega),b 128 (by omega),b 133 (by omega),b 142 (by omega),b 143 (by omega),b 256 (by omega),cond_false]
theorem field_hi (s : Sup) (h : s.ok) : ∀ f,f < 10→s.fs.getD f 0≤256 * hiN f+255:=by
  obtain ⟨b,l,m,cur,ino,log,frm,tto,len,mov⟩:=s
  obtain ⟨hg,hc,hs⟩:=h
  unfold geoOk at hg
  unfold Sup.still Sup.slides at hs
  dsimp only at *
  intro f hf
  have hh : hiN 0=16∧hiN 1=2∧hiN 2=2∧hiN 3=16∧hiN 4=2∧hiN 5=8∧hiN 6=16∧hiN 7=16∧hiN 8=16∧hiN 9=16:=by decide
  obtain ⟨e0,e1,e2,e3,e4,e5,e6,e7,e8,e9⟩:=hh
  match f,hf with
  | 0,_=>rw [e0];show b≤_;omega
  | 1,_=>rw [e1];show l≤_;omega
  | 2,_=>rw [e2];show m≤_;omega
  | 3,_=>rw [e3];show cur≤_;omega
  | 4,_=>rw [e4];show ino≤_;omega
  | 5,_=>rw [e5];show log≤_;omega
  | 6,_=>rw [e6];show frm≤_;omega
  | 7,_=>rw [e7];show tto≤_;omega
  | 8,_=>rw [e8];show len≤_;omega
  | 9,_=>rw [e9];show mov≤_;omega
theorem decS_f (l : List UInt8) : ∀ f,f < 10→(decS l).fs.getD f 0=le4 l (8+4 * f):=by
  intro f hf
  match f,hf with
  | 0,_=>rfl
  | 1,_=>rfl
  | 2,_=>rfl
  | 3,_=>rfl
  | 4,_=>rfl
  | 5,_=>rfl
  | 6,_=>rfl
  | 7,_=>rfl
  | 8,_=>rfl
  | 9,_=>rfl
theorem img_is {p : Nat} {I : Nat→Nat} {l0 l1 : List UInt8} {nb : Nat} (hp : 1≤p∧p≤300) (hper : ∀ i,I i=I (i % p)) (hlt : ∀ i,I i < 256) (h0 : ∀ i,i < 128→I i=bN l0 i) (h1 : ∀ i,i < 128→I (128+i)=bN l1 i) (hlen : l0.length=128) (hs : supGood l0 nb) (r : Rec) (hok : r.ok) (henc : r.enc=l1) (hk : r.kind=1) : Img p I:=by
  obtain ⟨sok,senc,sb⟩:=hs
  have hpos : r.pos≤510:=by
    rcases hok with h | h | h | h
    · exact h.2.1
    · omega
    · omega
    · omega
  have henc' : encHead r.seq r.pos=l1:=by rw [← henc];unfold Rec.enc;rw [if_pos hk]
  have hhead : ∀ i,i < 128→I (128+i)=bN (encHead r.seq r.pos) i:=fun i hi=>by rw [h1 i hi,henc']
  have hname : ∀ i,i < 8→I i=bN nameL i:=fun i hi=>by rw [h0 i (by omega),← enc_name (decS l0) i hi,senc]
  have hzero : ∀ i,48≤i→i < 128→I i=0:=fun i h1 h2=>by rw [h0 i h2,← senc,enc_zero _ _ h1]
  have hf : ∀ f,f < 10→I (8+4 * f)+256 * I (8+4 * f+1)+65536 * I (8+4 * f+2)+16777216 * I (8+4 * f+3)=le4 l0 (8+4 * f):=fun f hf=>by
    rw [le4_bN _ _ (by omega),h0 _ (by omega),h0 _ (by omega),h0 _ (by omega),h0 _ (by omega)]
  have hfh : ∀ f,f < 10→le4 l0 (8+4 * f)≤256 * hiN f+255:=fun f hf=>by
    rw [← decS_f l0 f hf];exact field_hi _ sok f hf
  have hiL : ∀ f,hiN f < 20:=fun f=>by
    unfold hiN
    repeat' (first | omega | (cases Nat.blt f _ <;> simp only [cond_true,cond_false]))
  have hg : geoOk (le4 l0 8) (le4 l0 12) (le4 l0 16):=sok.1
  unfold geoOk at hg
  have f0:=hf 0 (by omega)
  have f1:=hf 1 (by omega)
  have f2:=hf 2 (by omega)
  have g0:=hfh 0 (by omega)
  have g1:=hfh 1 (by omega)
  have g2:=hfh 2 (by omega)
  have k0 : hiN 0=16:=by decide
  have k1 : hiN 1=2:=by decide
  have k2 : hiN 2=2:=by decide
  rw [k0] at g0
  rw [k1] at g1
  rw [k2] at g2
  refine ⟨hper,fun i hi=>?_,fun i=>?_,?_,?_,hp⟩
  · rcases kLo_is i hi with ⟨h,e⟩ | ⟨rfl,e⟩ | ⟨h,h',e⟩ | ⟨rfl,e⟩ | e
    · rw [e,hname i h];exact Nat.le_refl _
    · rw [e]
      have:=hlt 8
      simp only [Nat.mul_zero,Nat.add_zero] at f0 g0
      show 1≤I (8+1)
      omega
    · rw [e]
      have:=hhead (i - 128) (by omega)
      rw [show 128+(i - 128)=i by omega,head_bN,if_neg (by omega),if_neg (by omega),if_neg (by omega)] at this
      rw [this];exact Nat.le_refl _
    · rw [e]
      have:=hhead 4 (by omega)
      rw [head_bN,if_neg (by omega),if_pos rfl] at this
      show 1≤I (128+4)
      omega
    · rw [e];exact Nat.zero_le _
  · by_cases hi : i < 256
    · rcases kHi_is i hi with ⟨h,e⟩ | ⟨h,h',e⟩ | ⟨h,h',e⟩ | ⟨h,h',e⟩ | ⟨rfl,e⟩ | ⟨h,h',e⟩ | ⟨rfl,e⟩ | ⟨h,e⟩
      · rw [e,hname i h];exact Nat.le_refl _
      · rw [e]
        have hff : (i - 8) / 4 < 10:=by omega
        have a:=hf _ hff
        have b:=hfh _ hff
        have c:=hiL ((i - 8) / 4)
        generalize hq : (i - 8) / 4=f at *
        have hr : (i - 8) % 4 < 4:=Nat.mod_lt _ (by omega)
        have hi' : i=8+4 * f+(i - 8) % 4:=by omega
        generalize (i - 8) % 4=q at *
        subst hi'
        have hqq : q=0∨q=1∨q=2∨q=3:=by omega
        rcases hqq with rfl | rfl | rfl | rfl
        · have:=hlt (8+4 * f+0);simp only [if_true];omega
        · simp only [if_true];rw [if_neg (by omega)];omega
        · rw [if_neg (by omega),if_neg (by omega)];omega
        · rw [if_neg (by omega),if_neg (by omega)];omega
      · rw [e,hzero i h h'];exact Nat.le_refl _
      · rw [e]
        have:=hhead (i - 128) (by omega)
        rw [show 128+(i - 128)=i by omega,head_bN,if_neg (by omega),if_neg (by omega),if_neg (by omega)] at this
        rw [this];exact Nat.le_refl _
      · rw [e]
        have:=hhead 4 (by omega)
        rw [head_bN,if_neg (by omega),if_pos rfl] at this
        show I (128+4)≤1
        omega
      · rw [e];have:=hlt i;omega
      · rw [e]
        have:=hhead 14 (by omega)
        rw [head_bN,if_pos (by omega)] at this
        rw [show 128+14=142 from rfl] at this
        rw [this,show 256 ^ (14 - 13)=256 from rfl]
        omega
      · rw [e]
        have:=hhead (i - 128) (by omega)
        rw [show 128+(i - 128)=i by omega,head_bN,if_neg (by omega),if_neg (by omega),if_neg (by omega),sgn_ge _ (by omega)] at this
        rw [this];exact Nat.le_refl _
    · rw [kHi_ge i (by omega)];have:=hlt i;omega
  · have f1' : I 12+256 * I 13+65536 * I 14+16777216 * I 15=le4 l0 12:=f1
    have g1' : le4 l0 12≤256 * 2+255:=g1
    omega
  · have f2' : I 16+256 * I 17+65536 * I 18+16777216 * I 19=le4 l0 16:=f2
    have g2' : le4 l0 16≤256 * 2+255:=g2
    omega
end Go.Proofs.YtbamnpenkjfgkaaGreat
namespace Go.Proofs.YtbamnpenkjfgkaaGreat
theorem cblt (a b x y : Nat) : (bif Nat.blt a b then x else y)=if a < b then x else y:=by
  cases hb : Nat.blt a b with
  | true=>rw [if_pos (blt_lt hb)];rfl
  | false =>
    rw [if_neg];rfl
    intro hlt
    rw [← Nat.blt_eq,hb] at hlt
    exact Bool.noConfusion hlt
theorem cbeq (a b x y : Nat) : (bif Nat.beq a b then x else y)=if a=b then x else y:=by
  cases hb : Nat.beq a b with
  | true=>rw [if_pos (Nat.eq_of_beq_eq_true hb)];rfl
  | false=>rw [if_neg (Nat.ne_of_beq_eq_false hb)];rfl
theorem in6_bN (x : Ino) (m i : Nat) : bN (in6 x m) i=if i=13 then m % 256 else if i=12 then x.depth % 256 else if 4≤i∧i < 12 then x.size / 256 ^ (i - 4) % 256 else if 2≤i∧i < 4 then x.links / 256 ^ (i - 2) % 256 else if i=1 then pinN x.pin % 256 else if i=0 then x.kind % 256 else 0:=by
  have h0 : in0.length=64:=List.length_replicate
  have h1 : (in1 x).length=64:=by unfold in1;rw [putL_len _ _ _ _ (by omega),h0]
  have h2 : (in2 x).length=64:=by unfold in2;rw [putL_len _ _ _ _ (by omega),h1]
  have h3 : (in3 x).length=64:=by unfold in3;rw [putL_len _ _ _ _ (by omega),h2]
  have h4 : (in4 x).length=64:=by unfold in4;rw [putL_len _ _ _ _ (by omega),h3]
  have h5 : (in5 x).length=64:=by unfold in5;rw [putL_len _ _ _ _ (by omega),h4]
  unfold in6;rw [bN_put _ _ _ _ _ (by omega)]
  unfold in5;rw [bN_put _ _ _ _ _ (by omega)]
  unfold in4;rw [bN_put _ _ _ _ _ (by omega)]
  unfold in3;rw [bN_put _ _ _ _ _ (by omega)]
  unfold in2;rw [bN_put _ _ _ _ _ (by omega)]
  unfold in1;rw [bN_put _ _ _ _ _ (by omega)]
  unfold in0;rw [bN_rep]
  by_cases c13 : i=13
  · subst c13;rw [if_pos (by omega),if_pos rfl,show 256 ^ (13 - 13)=1 from rfl,Nat.div_one]
  · rw [if_neg (show ¬ (13≤i∧i < 13+1) by omega),if_neg c13]
    by_cases c12 : i=12
    · subst c12;rw [if_pos (by omega),if_pos rfl,show 256 ^ (12 - 12)=1 from rfl,Nat.div_one]
    · rw [if_neg (show ¬ (12≤i∧i < 12+1) by omega),if_neg c12]
      by_cases c4 : 4≤i∧i < 12
      · rw [if_pos (by omega),if_pos c4]
      · rw [if_neg (show ¬ (4≤i∧i < 4+8) by omega),if_neg c4]
        by_cases c2 : 2≤i∧i < 4
        · rw [if_pos (by omega),if_pos c2]
        · rw [if_neg (show ¬ (2≤i∧i < 2+2) by omega),if_neg c2]
          by_cases c1 : i=1
          · subst c1;rw [if_pos (by omega),if_pos rfl,show 256 ^ (1 - 1)=1 from rfl,Nat.div_one]
          · rw [if_neg (show ¬ (1≤i∧i < 1+1) by omega),if_neg c1]
            by_cases c0 : i=0
            · subst c0;rw [if_pos (by omega),if_pos rfl,show 256 ^ (0 - 0)=1 from rfl,Nat.div_one]
            · rw [if_neg (show ¬ (0≤i∧i < 0+1) by omega),if_neg c0]
theorem entB_hi (x : Ent) (h1 : x.lg≤2048) (h2 : x.ph≤4096) (h3 : x.ln≤2048) (r : Nat) (hr : r < 12) : entB x r≤if r % 4=0 then 255 else if r % 4=1 then (if r=5 then 16 else 8) else 0:=by
  have p1 : 256 ^ 1=256:=rfl
  have p2 : 256 ^ 2=65536:=rfl
  have p3 : 256 ^ 3=16777216:=rfl
  unfold entB
  match r,hr with
  | 0,_=>show x.lg / 256 ^ 0 % 256≤255;omega
  | 1,_=>show x.lg / 256 ^ 1 % 256≤8;rw [p1];omega
  | 2,_=>show x.lg / 256 ^ 2 % 256≤0;rw [p2];omega
  | 3,_=>show x.lg / 256 ^ 3 % 256≤0;rw [p3];omega
  | 4,_=>show x.ph / 256 ^ 0 % 256≤255;omega
  | 5,_=>show x.ph / 256 ^ 1 % 256≤16;rw [p1];omega
  | 6,_=>show x.ph / 256 ^ 2 % 256≤0;rw [p2];omega
  | 7,_=>show x.ph / 256 ^ 3 % 256≤0;rw [p3];omega
  | 8,_=>show x.ln / 256 ^ 0 % 256≤255;omega
  | 9,_=>show x.ln / 256 ^ 1 % 256≤8;rw [p1];omega
  | 10,_=>show x.ln / 256 ^ 2 % 256≤0;rw [p2];omega
  | 11,_=>show x.ln / 256 ^ 3 % 256≤0;rw [p3];omega
theorem ino_none {p : Nat} {I : Nat→Nat} (h : Img p I) (hb : ∀ i,I i < 256) (a : Nat) (win : List UInt8) (hw : ∀ j,j < 64→bN win j=I (a+j)) (hg : inoGood win) : decE win=[]:=by
  obtain ⟨_,hok,henc⟩:=hg
  generalize decE win=es at *
  generalize decI win=x at *
  apply Classical.byContradiction
  intro hne
  have hm1 : 1≤es.length:=by
    cases es with
    | nil=>exact absurd rfl hne
    | cons y r=>simp
  rcases hok with hk | ⟨hk,hl,hs,hd,hm,_,hes⟩
  · omega
  have hen : ∀ e,e < es.length→(es.getD e ⟨0,0,0⟩).lg≤2048∧1≤(es.getD e ⟨0,0,0⟩).ph∧(es.getD e ⟨0,0,0⟩).ph≤4096∧(es.getD e ⟨0,0,0⟩).ln≤2048:=fun e he=>by
    have hx : es[e]?=some (es.getD e ⟨0,0,0⟩):=by rw [List.getD,List.getElem?_eq_getElem he];rfl
    have hmay:=(hes e _ he hx).1
    generalize es.getD e ⟨0,0,0⟩=y at *
    cases hc : decide (x.depth=0) with
    | true=>rw [hc] at hmay;obtain ⟨b1,b2,b3,b4,b5⟩:=hmay;omega
    | false=>rw [hc] at hmay;obtain ⟨b1,b2,b3,b4⟩:=hmay;omega
  have h6 : (in6 x es.length).length=64:=inoK_len x es.length 6
  have hbN : ∀ j,j < 64→I (a+j)=if 14≤j∧j < 14+12 * es.length then entB (es.getD ((j - 14) / 12) ⟨0,0,0⟩) ((j - 14) % 12) else bN (in6 x es.length) j:=fun j hj=>by
    rw [← hw j hj,← henc]
    unfold Ino.enc
    show bN (putE (in6 x es.length) 14 es) j=_
    rw [bN_putE _ _ _ _ (by omega)]
  have hpin : pinN x.pin≤1:=by unfold pinN;split <;> omega
  refine img_ino h hb a es.length hm1 hm (fun j hj=>?_) (fun j hj=>?_) (fun e he=>?_)
  · rw [hbN j hj]
    simp only [iLo,cbeq]
    by_cases c0 : j=0
    · subst c0;rw [if_pos rfl,if_neg (by omega),in6_bN];simp only [Nat.reduceEqDiff,if_false,if_true];rw [if_neg (by omega),if_neg (by omega)];omega
    · rw [if_neg c0]
      by_cases c13 : j=13
      · subst c13;rw [if_pos rfl,if_neg (by omega),in6_bN,if_pos rfl];omega
      · rw [if_neg c13];omega
  · rw [hbN j hj]
    simp only [iHi,cbeq,cblt]
    by_cases c14 : 14≤j
    · rw [if_neg (show ¬ j=0 by omega),if_neg (show ¬ j=1 by omega),if_neg (show ¬ j=2 by omega),if_neg (show ¬ j=3 by omega),if_neg (show ¬ j < 6 by omega),if_neg (show ¬ j=6 by omega),if_neg (show ¬ j < 12 by omega),if_neg (show ¬ j=12 by omega),if_neg (show ¬ j=13 by omega)]
      by_cases cm : j < 14+12 * es.length
      · rw [if_pos ⟨c14,cm⟩,if_pos (show (j - 14) / 12 < es.length by omega)]
        have hq:=hen ((j - 14) / 12) (by omega)
        have he:=entB_hi (es.getD ((j - 14) / 12) ⟨0,0,0⟩) hq.1 hq.2.2.1 hq.2.2.2 ((j - 14) % 12) (by omega)
        rw [show (j - 14) % 12 % 4=(j - 14) % 4 by omega] at he
        exact he
      · rw [if_neg (by omega),if_neg (show ¬ (j - 14) / 12 < es.length by omega),in6_bN,if_neg (by omega),if_neg (by omega),if_neg (by omega),if_neg (by omega),if_neg (by omega),if_neg (by omega)]
        exact Nat.le_refl _
    · rw [if_neg (by omega),in6_bN]
      have p0 : 256 ^ 0=1:=rfl
      have p1 : 256 ^ 1=256:=rfl
      have p2 : 256 ^ 2=65536:=rfl
      have p3 : 256 ^ 3=16777216:=rfl
      have p4 : 256 ^ 4=4294967296:=rfl
      have p5 : 256 ^ 5=1099511627776:=rfl
      have p6 : 256 ^ 6=281474976710656:=rfl
      have p7 : 256 ^ 7=72057594037927936:=rfl
      have hj14 : j < 14:=by omega
      match j,hj14 with
      | 0,_=>show x.kind % 256≤2;omega
      | 1,_=>show pinN x.pin % 256≤1;omega
      | 2,_=>show x.links / 256 ^ 0 % 256≤100;rw [p0];omega
      | 3,_=>show x.links / 256 ^ 1 % 256≤0;rw [p1];omega
      | 4,_=>show x.size / 256 ^ 0 % 256≤255;omega
      | 5,_=>show x.size / 256 ^ 1 % 256≤255;omega
      | 6,_=>show x.size / 256 ^ 2 % 256≤4;rw [p2];omega
      | 7,_=>show x.size / 256 ^ 3 % 256≤0;rw [p3];omega
      | 8,_=>show x.size / 256 ^ 4 % 256≤0;rw [p4];omega
      | 9,_=>show x.size / 256 ^ 5 % 256≤0;rw [p5];omega
      | 10,_=>show x.size / 256 ^ 6 % 256≤0;rw [p6];omega
      | 11,_=>show x.size / 256 ^ 7 % 256≤0;rw [p7];omega
      | 12,_=>show x.depth % 256≤4;omega
      | 13,_=>show es.length % 256≤es.length;omega
  · have hq:=hen e he
    have a1:=hbN (18+12 * e) (by omega)
    have a2:=hbN (18+12 * e+1) (by omega)
    rw [if_pos (by omega),show (18+12 * e - 14) / 12=e by omega,show (18+12 * e - 14) % 12=4 by omega] at a1
    rw [if_pos (by omega),show (18+12 * e+1 - 14) / 12=e by omega,show (18+12 * e+1 - 14) % 12=5 by omega] at a2
    rw [a1,show a+(18+12 * e)+1=a+(18+12 * e+1) by omega,a2]
    generalize es.getD e ⟨0,0,0⟩=y at *
    show 1≤y.ph / 256 ^ 0 % 256+y.ph / 256 ^ 1 % 256
    have p0 : 256 ^ 0=1:=rfl
    have p1 : 256 ^ 1=256:=rfl
    rw [p0,p1]
    omega
end Go.Proofs.YtbamnpenkjfgkaaGreat
namespace Go.Proofs.YtbamnpenkjfgkaaGreat
theorem lgN_bN (j : Nat) (h : j < 4) : lgN j=bN sgn j:=by
  match j,h with
  | 0,_=>rfl
  | 1,_=>rfl
  | 2,_=>rfl
  | 3,_=>rfl
theorem commit_bN (s c i : Nat) : bN (encCommit s c) i=if 13≤i∧i < 17 then c / 256 ^ (i - 13) % 256 else if i=4 then 4 else if 5≤i∧i < 13 then s / 256 ^ (i - 5) % 256 else bN sgn i:=by
  unfold encCommit
  have h1 : (putL (recB s) 4 1 4).length=128:=by rw [putL_len _ _ _ _ (by rw [recB_len];omega),recB_len]
  rw [bN_put _ _ _ _ _ (by omega),bN_put _ _ _ _ _ (by rw [recB_len];omega),recB_bN]
  by_cases c : i=4
  · subst c;rfl
  · rw [if_neg (show ¬ (4≤i∧i < 4+1) by omega),if_neg c]
theorem list_bN (k s : Nat) (hs : List Nat) (ms : List Bool) (h : 14+2 * hs.length+ms.length≤128) (i : Nat) : bN (encList k s hs ms) i=if 14+2 * hs.length≤i∧i < 14+2 * hs.length+ms.length then (ms.map markN).getD (i - (14+2 * hs.length)) 0 % 256 else if 14≤i∧i < 14+2 * hs.length then hs.getD ((i - 14) / 2) 0 / 256 ^ ((i - 14) % 2) % 256 else if i=13 then hs.length % 256 else if i=4 then k % 256 else if 5≤i∧i < 13 then s / 256 ^ (i - 5) % 256 else bN sgn i:=by
  have e1 : (putL (recB s) 4 1 k).length=128:=by rw [putL_len _ _ _ _ (by rw [recB_len];omega),recB_len]
  have e2 : (putL (putL (recB s) 4 1 k) 13 1 hs.length).length=128:=by rw [putL_len _ _ _ _ (by omega),e1]
  have e3:=putK_len (putL (putL (recB s) 4 1 k) 13 1 hs.length) 14 2 hs hs.length (by omega)
  unfold encList
  rw [bN_putK _ _ _ _ _ _ (by omega) (by omega),bN_putK _ _ _ _ _ _ (by omega) (by omega),bN_put _ _ _ _ _ (by omega),bN_put _ _ _ _ _ (by rw [recB_len];omega),recB_bN,Nat.one_mul,Nat.div_one,Nat.mod_one,Nat.pow_zero,Nat.div_one]
  by_cases c1 : 14+2 * hs.length≤i∧i < 14+2 * hs.length+ms.length
  · rw [if_pos c1,if_pos c1]
  · rw [if_neg c1,if_neg c1]
    by_cases c2 : 14≤i∧i < 14+2 * hs.length
    · rw [if_pos c2,if_pos c2]
    · rw [if_neg c2,if_neg c2]
      by_cases c3 : i=13
      · subst c3;rw [if_pos (by omega),if_pos rfl,show 256 ^ (13 - 13)=1 from rfl,Nat.div_one]
      · rw [if_neg (show ¬ (13≤i∧i < 13+1) by omega),if_neg c3]
        by_cases c4 : i=4
        · subst c4;rw [if_pos (by omega),if_pos rfl,show 256 ^ (4 - 4)=1 from rfl,Nat.div_one]
        · rw [if_neg (show ¬ (4≤i∧i < 4+1) by omega),if_neg c4]
theorem marks_le (ms : List Bool) (i : Nat) : (ms.map markN).getD i 0≤1:=by
  rw [List.getD,List.getElem?_map]
  cases ms[i]? with
  | none=>simp
  | some b=>cases b <;> simp [markN]
theorem list_none {p : Nat} {I : Nat→Nat} (h : Img p I) (hb : ∀ i,I i < 256) (a k s : Nat) (hs : List Nat) (ms : List Bool) (hk : k=2∨k=3) (hn : homesOk hs (most k)) (hm : ms.length=if k=2 then hs.length else 0) (hw : ∀ j,j < 128→bN (encList k s hs ms) j=I (a+j)) (hsq : ∀ j,j < 8→I (133+j)=s / 256 ^ j % 256) : False:=by
  obtain ⟨hup,h1,h2⟩:=hn
  have m2 : most 2=24:=rfl
  have m3 : most 3=28:=rfl
  have hmk : most k≤28∧(k=2→most k=24):=by rcases hk with rfl | rfl <;> omega
  have hlen : 14+2 * hs.length+ms.length≤128:=by
    rcases hk with rfl | rfl
    · rw [hm,if_pos rfl];omega
    · rw [hm,if_neg (by omega)];omega
  have hI : ∀ j,j < 128→I (a+j)=_:=fun j hj=>by rw [← hw j hj,list_bN k s hs ms hlen j]
  have hh : ∀ i,hs.getD i 0 < 4096:=fun i=>by
    by_cases c : i < hs.length
    · have e : hs[i]?=some (hs.getD i 0):=by rw [List.getD,List.getElem?_eq_getElem c];rfl
      exact (hup i _ c e).1
    · rw [List.getD,List.getElem?_eq_none (by omega)];simp
  have hrise : ∀ i,i+1 < hs.length→hs.getD i 0 < hs.getD (i+1) 0:=fun i c=>by
    have e : hs[i+1]?=some (hs.getD (i+1) 0):=by rw [List.getD,List.getElem?_eq_getElem c];rfl
    have e' : hs[i]?=some (hs.getD i 0):=by rw [List.getD,List.getElem?_eq_getElem (by omega)];rfl
    exact (hup (i+1) _ c e).2 _ (by omega) (by rw [Nat.add_sub_cancel];exact e')
  have hk4 : k ≠ 4:=by omega
  refine img_rec h hb a k hs.length (by omega) h1 h2 (fun j hj=>?_) (fun j hj=>?_) (fun j hj=>?_) (fun h3 _=>?_)
  · rw [hI j hj]
    simp only [rLo,cbeq,cblt]
    by_cases c0 : j < 4
    · rw [if_pos c0,lgN_bN j c0,if_neg (by omega),if_neg (by omega),if_neg (by omega),if_neg (by omega),if_neg (by omega)]
      exact Nat.le_refl _
    · rw [if_neg c0]
      by_cases c4 : j=4
      · subst c4;rw [if_pos rfl,if_neg (by omega),if_neg (by omega),if_neg (by omega),if_pos rfl];omega
      · rw [if_neg c4]
        by_cases c13 : j=13
        · subst c13;rw [if_pos rfl,if_neg hk4,if_neg (by omega),if_neg (by omega),if_pos rfl];omega
        · rw [if_neg c13];omega
  · rw [hI j hj]
    simp only [rHi,cbeq,cblt]
    by_cases c0 : j < 4
    · rw [if_pos c0,lgN_bN j c0,if_neg (by omega),if_neg (by omega),if_neg (by omega),if_neg (by omega),if_neg (by omega)]
      exact Nat.le_refl _
    · rw [if_neg c0]
      by_cases c4 : j=4
      · subst c4;rw [if_pos rfl,if_neg (by omega),if_neg (by omega),if_neg (by omega),if_pos rfl];omega
      · rw [if_neg c4]
        by_cases c5 : j < 13
        · rw [if_pos c5,if_neg (by omega),if_neg (by omega),if_neg (by omega),if_neg c4,if_pos (by omega)]
          omega
        · rw [if_neg c5,if_neg hk4]
          by_cases c13 : j=13
          · subst c13;rw [if_pos rfl,if_neg (by omega),if_neg (by omega),if_pos rfl];(repeat' split) <;> omega
          · rw [if_neg c13]
            by_cases c14 : j < 14+2 * hs.length
            · rw [if_pos c14,if_neg (by omega),if_pos (by omega)]
              have hx:=hh ((j - 14) / 2)
              generalize hs.getD ((j - 14) / 2) 0=y at *
              have hp : j % 2=0∨j % 2=1:=by omega
              rcases hp with hp | hp
              · rw [if_pos hp];(repeat' split) <;> omega
              · rw [if_neg (by omega),show (j - 14) % 2=1 by omega,show 256 ^ 1=256 from rfl];(repeat' split) <;> omega
            · rw [if_neg c14]
              rcases hk with rfl | rfl
              · rw [if_pos rfl] at hm
                rw [if_pos rfl]
                by_cases c3 : j < 14+3 * hs.length
                · rw [if_pos c3,if_pos (by omega)]
                  have:=marks_le ms (j - (14+2 * hs.length))
                  (repeat' split) <;> omega
                · rw [if_neg c3,if_neg (by omega),if_neg (by omega),if_neg c13,if_neg c4,if_neg (by omega),sgn_ge _ (by omega)]
                  exact Nat.le_refl _
              · rw [if_neg (by omega)] at hm
                rw [if_neg (by omega),if_neg (by omega),if_neg (by omega),if_neg c13,if_neg c4,if_neg (by omega),sgn_ge _ (by omega)]
                exact Nat.le_refl _
  · rw [hI (5+j) (by omega),if_neg (by omega),if_neg (by omega),if_neg (by omega),if_neg (by omega),if_pos (by omega),hsq j hj,show 5+j - 5=j by omega]
  · have g0 : hs.getD 0 0 < hs.getD 1 0:=hrise 0 (by omega)
    have g1 : hs.getD 1 0 < hs.getD 2 0:=hrise 1 (by omega)
    have l0:=hh 0
    have l2:=hh 2
    rw [hI 14 (by omega),hI 15 (by omega),hI 18 (by omega),hI 19 (by omega)]
    rw [if_neg (by omega),if_pos (by omega),if_neg (by omega),if_pos (by omega),if_neg (by omega),if_pos (by omega),if_neg (by omega),if_pos (by omega)]
    show hs.getD 0 0 / 256 ^ 0 % 256+256 * (hs.getD 0 0 / 256 ^ 1 % 256)+2≤hs.getD 2 0 / 256 ^ 0 % 256+256 * (hs.getD 2 0 / 256 ^ 1 % 256)
    have p0 : 256 ^ 0=1:=rfl
    have p1 : 256 ^ 1=256:=rfl
    rw [p0,p1]
    omega
theorem rec_none {p : Nat} {I : Nat→Nat} (h : Img p I) (hb : ∀ i,I i < 256) (a : Nat) (l : List UInt8) (hw : ∀ j,j < 128→bN l j=I (a+j)) (sq : Nat) (hsq : ∀ j,j < 8→I (133+j)=sq / 256 ^ j % 256) : NoTxn l sq:=by
  intro r hok henc hs
  have hsq' : ∀ j,j < 8→I (133+j)=r.seq / 256 ^ j % 256:=by rw [hs];exact hsq
  rcases hok with hk | ⟨hk,_,_,hh,hm⟩ | ⟨hk,_,_,hh,hm⟩ | ⟨hk,_⟩
  · exact hk.1
  · exfalso
    have e : encList 2 r.seq r.homes r.masked=l:=by rw [← henc];unfold Rec.enc;rw [if_neg (by omega),if_neg (by omega),hk]
    exact list_none h hb a 2 r.seq r.homes r.masked (.inl rfl) hh (by rw [if_pos rfl];exact hm) (fun j hj=>by rw [e];exact hw j hj) hsq'
  · exfalso
    have e : encList 3 r.seq r.homes r.masked=l:=by rw [← henc];unfold Rec.enc;rw [if_neg (by omega),if_neg (by omega),hk]
    exact list_none h hb a 3 r.seq r.homes r.masked (.inr rfl) hh (by rw [if_neg (by omega)];exact hm) (fun j hj=>by rw [e];exact hw j hj) hsq'
  · exfalso
    have e : encCommit r.seq r.sum=l:=by rw [← henc];unfold Rec.enc;rw [if_neg (by omega),if_pos hk]
    have hI : ∀ j,j < 128→I (a+j)=_:=fun j hj=>by rw [← hw j hj,← e,commit_bN]
    refine img_rec h hb a 4 1 (by omega) (by omega) (by decide) (fun j hj=>?_) (fun j hj=>?_) (fun j hj=>?_) (fun h3 _=>by omega)
    · rw [hI j hj]
      simp only [rLo,cbeq,cblt]
      by_cases c0 : j < 4
      · rw [if_pos c0,lgN_bN j c0,if_neg (by omega),if_neg (by omega),if_neg (by omega)]
        exact Nat.le_refl _
      · rw [if_neg c0,sgn_ge j (by omega)]
        simp only [if_true,reduceIte]
        (repeat' split) <;> omega
    · rw [hI j hj]
      simp only [rHi,cbeq,cblt]
      by_cases c0 : j < 4
      · rw [if_pos c0,lgN_bN j c0,if_neg (by omega),if_neg (by omega),if_neg (by omega)]
        exact Nat.le_refl _
      · rw [if_neg c0,sgn_ge j (by omega)]
        simp only [if_true,reduceIte]
        (repeat' split) <;> omega
    · rw [hI (5+j) (by omega),if_neg (by omega),if_neg (by omega),if_pos (by omega),hsq' j hj,show 5+j - 5=j by omega]
theorem joins : Joins:=fun img nb h1 h2 hsz ⟨p,hp1,hp2,hper⟩ hsup r hok henc hk=>by
  have hpm : ∀ i,i < img.size→bN img.data.toList i=bN img.data.toList (i % p):=fun i hi=>per_mod hp1 hper i hi
  have hb : ∀ i,(fun i=>bN img.data.toList (i % p)) i < 256:=fun i=>bN_lt _ _
  have hlen : (blk img 0).data.toList.length=128:=blk_len img nb 0 hsz (by omega)
  have hI : ∀ k j,k < nb→j < 128→bN (blk img k).data.toList j=(fun i=>bN img.data.toList (i % p)) (128 * k+j):=fun k j hk hj=>by
    rw [blk_bN _ _ _ hj,hpm _ (by rw [hsz];omega)]
  have himg : Img p (fun i=>bN img.data.toList (i % p)):=img_is ⟨hp1,hp2⟩ (fun i=>by show bN _ (i % p)=bN _ (i % p % p);rw [Nat.mod_mod]) hb (fun i hi=>by rw [hI 0 i (by omega) hi,Nat.mul_zero,Nat.zero_add]) (fun i hi=>by rw [hI 1 i (by omega) hi,Nat.mul_one]) hlen hsup r hok henc hk
  have henc' : encHead r.seq r.pos=(blk img 1).data.toList:=by rw [← henc];unfold Rec.enc;rw [if_pos hk]
  have hsq : ∀ j,j < 8→(fun i=>bN img.data.toList (i % p)) (133+j)=r.seq / 256 ^ j % 256:=fun j hj=>by
    have e:=hI 1 (5+j) (by omega) (by omega)
    rw [← henc',head_bN,if_neg (by omega),if_neg (by omega),if_pos (by omega),show 5+j - 5=j by omega,show 128 * 1+(5+j)=133+j by omega] at e
    exact e.symm
  have hat : ∀ (k : Nat) (b : ByteArray),(blks img nb)[k]?=some b→k < nb∧b=blk img k:=fun k b hkb=>by
    rw [blks_get] at hkb
    by_cases c : k < nb
    · rw [if_pos c] at hkb;exact ⟨c,(Option.some.inj hkb).symm⟩
    · rw [if_neg c] at hkb;cases hkb
  refine ⟨fun k b hkb o ho hg=>?_,fun k b hkb=>?_⟩
  · obtain ⟨hkn,rfl⟩:=hat k b hkb
    refine ino_none himg hb (128 * k+o) _ (fun j hj=>?_) hg
    rw [bN_take _ _ _ hj,bN_drop,hI k (o+j) hkn (by omega),show 128 * k+(o+j)=128 * k+o+j by omega]
  · obtain ⟨hkn,rfl⟩:=hat k b hkb
    exact rec_none himg hb (128 * k) _ (fun j hj=>hI k j hkn hj) r.seq hsq
end Go.Proofs.YtbamnpenkjfgkaaGreat
