/- A verified executor: part 6. -/
import Derived.Test.YtbamnpenkjfgkaaGreatEd
import Derived.Test.YtbamnpenkjfgkaaGreatE0
import Derived.Shelf.SlIterI.Nil
import Derived.Shelf.SlIterI.Sorted
import Derived.Shelf.Strings.IndexAnyAll
import Derived.Lib.Bytealg
namespace Go.Ex
variable {ε : Cx}
variable {P : Program} {T : Tr Ty} {F : Tr Func} {ρ : Env} {n : Nat}
noncomputable section
def Id.alike (i j : Id) : Bool:=Nat.beq i.nat j.nat
def rawE (v w : Value) : Bool:=match v,w with
 | .tuple xs,.tuple ys=>Bool.and (Nat.beq xs.size 0) (Nat.beq ys.size 0)
 | .map none,.map none=>true
 | .nilFunc,.nilFunc=>true
 | .nilIface,.nilIface=>true
 | v,w=>eqV 4 v w
def V.alike (a : V) : V→Bool:=V.rec (motive:=fun _=>V→Bool)
 (fun k n b=>match b with | .int k' n'=>Bool.and (kindE k k') (Nat.beq n n') | _=>false)
 (fun k n b=>match b with | .neg k' n'=>Bool.and (kindE k k') (Nat.beq n n') | _=>false)
 (fun x b=>match b with | .bool y=>(match x with | true=>y | false=>Bool.not y) | _=>false)
 (fun l n b=>match b with | .str l' n'=>Bool.and (Nat.beq l l') (Nat.beq n n') | _=>false)
 (fun i o b=>match b with | .ptr i' o'=>Bool.and (Id.alike i i') (Nat.beq o o') | _=>false)
 (fun b=>match b with | .nptr=>true | _=>false)
 (fun i o l c b=>match b with | .slc i' o' l' c'=>Bool.and (Bool.and (Id.alike i i') (Nat.beq o o')) (Bool.and (Nat.beq l l') (Nat.beq c c')) | _=>false)
 (fun b=>match b with | .nslc=>true | _=>false)
 (fun _ _ f g b=>match b with | .cons a' l'=>Bool.and (f a') (g l') | _=>false)
 (fun b=>match b with | .nil=>true | _=>false)
 (fun _ f b=>match b with | .agg l'=>f l' | _=>false)
 (fun _ f b=>match b with | .tup l'=>f l' | _=>false)
 (fun i _ _ f g b=>match b with | .fn i' a' c'=>Bool.and (Nat.beq i i') (Bool.and (f a') (g c')) | _=>false)
 (fun t _ f b=>match b with | .ifc t' v'=>Bool.and (Nat.beq t t') (f v') | _=>false)
 (fun i b=>match b with | .map i'=>Id.alike i i' | _=>false)
 (fun j b=>match b with | .tok j'=>Nat.beq j j' | _=>false)
 (fun v b=>match b with | .raw v'=>rawE v v' | _=>false) a
def N.alike {α : Type} (f : α→α→Bool) (s t : N α) : Bool:=Bool.and (f s.c0 t.c0) (Bool.and (f s.c1 t.c1) (Bool.and (f s.c2 t.c2) (Bool.and (f s.c3 t.c3) (Bool.and (f s.c4 t.c4) (Bool.and (f s.c5 t.c5) (Bool.and (f s.c6 t.c6) (f s.c7 t.c7)))))))
def optE {α : Type} (f : α→α→Bool) (a b : Option α) : Bool:=match a,b with
 | none,none=>true
 | some a,some b=>f a b
 | _,_=>false
def Tr.alike {α : Type} (f : α→α→Bool) (t : Tr α) : Tr α→Bool:=Tr.rec (motive:=fun _=>Tr α→Bool) (fun u=>match u with | .lf=>true | _=>false)
 (fun _ v _ el er u=>match u with | .nd l v' r=>Bool.and (optE f v v') (Bool.and (el l) (er r)) | .lf=>false) t
def ML.alike (s : ML) : ML→Bool:=ML.rec (motive:=fun _=>ML→Bool) (fun t=>match t with | .nil=>true | _=>false)
 (fun k v b _ e t=>match t with | .cons k' v' b' r=>Bool.and (Bool.and (V.alike k k') (V.alike v v')) (Bool.and (Nat.beq b b') (e r)) | _=>false) s
def O.code (o : O) : Option (Nat × Nat):=if o.is=true then (match o.tail with | some z=>if hid≤z then some (o.size,z) else none | none=>none) else none
def O.hidB (o : O) : Bool:=Bool.and o.is (Bool.not (openT o.tail))
def O.alike (o : O) (p : O) : Bool:=match o,p with
 | .no,.no=>true
 | .one v e,.one v' e'=>Bool.and (V.alike v v') (Nat.beq e e')
 | .row s c e t,.row s' c' e' t'=>Bool.and (Bool.and (Nat.beq s s') (N.alike (N.alike V.alike) c c')) (Bool.and (Nat.beq e e') (optE Nat.beq t t'))
 | .big s l p c e t,.big s' l' p' c' e' t'=>Bool.and (Bool.and (Bool.and (Nat.beq s s') (Nat.beq l l')) (Bool.and (V.alike p p') (Tr.alike V.alike c c'))) (Bool.and (Nat.beq e e') (optE Nat.beq t t'))
 | .byt s n e t,.byt s' n' e' t'=>Bool.and (Bool.and (Nat.beq s s') (Nat.beq n n')) (Bool.and (Nat.beq e e') (optE Nat.beq t t'))
 | .map es c,.map es' c'=>Bool.and (ML.alike es es') (Nat.beq c c')
 | .txt l n e,.txt l' n' e'=>Bool.and (Nat.beq l l') (Bool.and (Nat.beq n n') (Nat.beq e e'))
 | _,_=>false
end
theorem Id.alike_ok {i j : Id} (h : Id.alike i j=true) : i=j:=Id.nat_inj (Nat.eq_of_beq_eq_true h)
theorem rawE_ok {v w : Value} (h : rawE v w=true) : v=w:=by
 unfold rawE at h
 split at h
 ·rename_i xs ys
  have h : (Nat.beq xs.size 0 && Nat.beq ys.size 0)=true:=h
  rw [Bool.and_eq_true] at h
  rw [Array.eq_empty_of_size_eq_zero (Nat.eq_of_beq_eq_true h.1),Array.eq_empty_of_size_eq_zero (Nat.eq_of_beq_eq_true h.2)]
 ·rfl
 ·rfl
 ·rfl
 ·exact eqV_ok h
theorem O.code_hid {o : O} (h : o.hidB=false) : o.code=none:=by
 unfold O.code
 split
 ·rename_i hi
  have h : (o.is && !openT o.tail)=false:=h
  rw [hi,Bool.true_and] at h
  have h2 : openT o.tail=true:=by simpa using h
  split
  ·rename_i z hz
   rw [hz] at h2
   have h2 : Nat.blt z hid=true:=h2
   rw [Nat.blt_eq] at h2
   exact if_neg (by omega)
  ·rfl
 ·rfl
theorem HR.hc {l : H} {h : CH} (hr : HR ρ l h) (i : Id) : h.hc i.nat=(l.t.at i).code:=by
 cases his : (l.t.at i).is with
 | true =>
  obtain ⟨x,h1,_,pat,cs,rfl,_⟩:=hr.here i his
  rw [CH.hc_at h1]
  unfold O.code
  rw [if_pos his]
  generalize (l.t.at i).tail=t
  cases t <;> rfl
 | false =>
  have hc : (l.t.at i).code=none:=by unfold O.code;rw [if_neg (by rw [his];simp)]
  rw [hc]
  cases ho : (l.t.at i).other ρ with
  | some x =>
   rw [CH.hc_at (hr.other i x ho)]
   generalize l.t.at i=o at ho his
   cases o <;> first | (cases his;done) | (cases ho;done) | (injection ho with ho;subst ho;rfl)
  | none =>
   refine CH.hc_no (hr.gone _ fun j hj=>?_)
   rw [Id.nat_inj hj]
   generalize l.t.at i=o at ho his
   cases o <;> first | (cases his;done) | (cases ho;done) | rfl
theorem HR.hc_eq {ρ' : Env} {l l' : H} {h h' : CH} (hr : HR ρ l h) (hr' : HR ρ' l' h') (hc : ∀ i,(l'.t.at i).code=(l.t.at i).code) (j : Nat) : h'.hc j=h.hc j:=by
 by_cases hex : ∃ i : Id,i.nat=j
 ·obtain ⟨i,rfl⟩:=hex
  rw [hr.hc,hr'.hc,hc]
 ·rw [CH.hc_no (hr.gone j fun i hi=>absurd ⟨i,hi⟩ hex),CH.hc_no (hr'.gone j fun i hi=>absurd ⟨i,hi⟩ hex)]
theorem andB_ok {a b : Bool} (h : Bool.and a b=true) : a=true∧b=true:=by
 have h : (a && b)=true:=h
 rwa [Bool.and_eq_true] at h
theorem beq_ok {a b : Nat} (h : Nat.beq a b=true) : a=b:=Nat.eq_of_beq_eq_true h
theorem kind_ok {a b : IntKind} (h : kindE a b=true) : a=b:=kindBeq _ _ (kindE_eq h)
theorem V.alike_ok {a b : V} (h : V.alike a b=true) : a=b:=by
 induction a generalizing b with
 | int k n =>
  cases b <;> first | (obtain ⟨h1,h2⟩:=andB_ok h;rw [kind_ok h1,beq_ok h2]) | cases h
 | neg k n =>
  cases b <;> first | (obtain ⟨h1,h2⟩:=andB_ok h;rw [kind_ok h1,beq_ok h2]) | cases h
 | bool x =>
  cases b with
  | bool y=>cases x <;> cases y <;> first | rfl | cases h
  | _=>cases h
 | str l n =>
  cases b <;> first | (obtain ⟨h1,h2⟩:=andB_ok h;rw [beq_ok h1,beq_ok h2]) | cases h
 | ptr i o =>
  cases b <;> first | (obtain ⟨h1,h2⟩:=andB_ok h;rw [Id.alike_ok h1,beq_ok h2]) | cases h
 | nptr=>cases b <;> first | rfl | cases h
 | slc i o l c =>
  cases b <;> first | (obtain ⟨h1,h2⟩:=andB_ok h;obtain ⟨h3,h4⟩:=andB_ok h1;obtain ⟨h5,h6⟩:=andB_ok h2;rw [Id.alike_ok h3,beq_ok h4,beq_ok h5,beq_ok h6]) | cases h
 | nslc=>cases b <;> first | rfl | cases h
 | cons a l iha ihl =>
  cases b with
  | cons a' l'=>obtain ⟨h1,h2⟩:=andB_ok h;rw [iha h1,ihl h2]
  | _=>exact Bool.noConfusion h
 | nil=>cases b <;> first | rfl | cases h
 | agg l ih =>
  cases b with
  | agg l'=>rw [ih h]
  | _=>exact Bool.noConfusion h
 | tup l ih =>
  cases b with
  | tup l'=>rw [ih h]
  | _=>exact Bool.noConfusion h
 | fn f a c iha ihc =>
  cases b with
  | fn f' a' c'=>obtain ⟨h1,h2⟩:=andB_ok h;obtain ⟨h3,h4⟩:=andB_ok h2;rw [beq_ok h1,iha h3,ihc h4]
  | _=>exact Bool.noConfusion h
 | ifc t v ih =>
  cases b with
  | ifc t' v'=>obtain ⟨h1,h2⟩:=andB_ok h;rw [beq_ok h1,ih h2]
  | _=>exact Bool.noConfusion h
 | map i=>cases b <;> first | (rw [Id.alike_ok h]) | cases h
 | tok j=>cases b <;> first | (rw [beq_ok h]) | cases h
 | raw v=>cases b <;> first | (rw [rawE_ok h]) | cases h
theorem N.alike_ok {α : Type} {f : α→α→Bool} (hf : ∀ a b,f a b=true→a=b) {s t : N α} (h : N.alike f s t=true) : s=t:=by
 obtain ⟨a0,a1,a2,a3,a4,a5,a6,a7⟩:=s
 obtain ⟨b0,b1,b2,b3,b4,b5,b6,b7⟩:=t
 obtain ⟨h0,h⟩:=andB_ok h
 obtain ⟨h1,h⟩:=andB_ok h
 obtain ⟨h2,h⟩:=andB_ok h
 obtain ⟨h3,h⟩:=andB_ok h
 obtain ⟨h4,h⟩:=andB_ok h
 obtain ⟨h5,h⟩:=andB_ok h
 obtain ⟨h6,h7⟩:=andB_ok h
 have e0:=hf _ _ h0;have e1:=hf _ _ h1;have e2:=hf _ _ h2;have e3:=hf _ _ h3;have e4:=hf _ _ h4;have e5:=hf _ _ h5;have e6:=hf _ _ h6;have e7:=hf _ _ h7
 dsimp only at e0 e1 e2 e3 e4 e5 e6 e7
 subst e0 e1 e2 e3 e4 e5 e6 e7
 rfl
theorem optE_ok {α : Type} {f : α→α→Bool} (hf : ∀ a b,f a b=true→a=b) {s t : Option α} (h : optE f s t=true) : s=t:=by
 cases s <;> cases t <;> first | rfl | (rw [hf _ _ h]) | cases h
theorem Tr.alike_ok {α : Type} {f : α→α→Bool} (hf : ∀ a b,f a b=true→a=b) {s t : Tr α} (h : Tr.alike f s t=true) : s=t:=by
 induction s generalizing t with
 | lf=>cases t <;> first | rfl | cases h
 | nd l v r ihl ihr =>
  cases t with
  | lf=>cases h
  | nd l' v' r' =>
   obtain ⟨h1,h2⟩:=andB_ok h
   obtain ⟨h3,h4⟩:=andB_ok h2
   rw [optE_ok hf h1,ihl h3,ihr h4]
theorem ML.alike_ok {s t : ML} (h : ML.alike s t=true) : s=t:=by
 induction s generalizing t with
 | nil=>cases t <;> first | rfl | cases h
 | cons k v b r ih =>
  cases t with
  | nil=>cases h
  | cons k' v' b' r' =>
   obtain ⟨h1,h2⟩:=andB_ok h
   obtain ⟨h3,h4⟩:=andB_ok h1
   obtain ⟨h5,h6⟩:=andB_ok h2
   rw [V.alike_ok h3,V.alike_ok h4,beq_ok h5,ih h6]
theorem O.alike_ok {o p : O} (h : O.alike o p=true) : o=p:=by
 unfold O.alike at h
 split at h
 ·rfl
 ·obtain ⟨h1,h2⟩:=andB_ok h
  rw [V.alike_ok h1,beq_ok h2]
 ·obtain ⟨h1,h2⟩:=andB_ok h
  obtain ⟨h3,h4⟩:=andB_ok h1
  obtain ⟨h5,h6⟩:=andB_ok h2
  rw [beq_ok h3,N.alike_ok (fun a b h=>N.alike_ok (fun a b h=>V.alike_ok h) h) h4,beq_ok h5,optE_ok (fun a b h=>beq_ok h) h6]
 ·obtain ⟨h1,h2⟩:=andB_ok h
  obtain ⟨h3,h4⟩:=andB_ok h1
  obtain ⟨h5,h6⟩:=andB_ok h2
  obtain ⟨h7,h8⟩:=andB_ok h3
  obtain ⟨h9,h10⟩:=andB_ok h4
  rw [beq_ok h7,beq_ok h8,V.alike_ok h9,Tr.alike_ok (fun a b h=>V.alike_ok h) h10,beq_ok h5,optE_ok (fun a b h=>beq_ok h) h6]
 ·obtain ⟨h1,h2⟩:=andB_ok h
  obtain ⟨h3,h4⟩:=andB_ok h1
  obtain ⟨h5,h6⟩:=andB_ok h2
  rw [beq_ok h3,beq_ok h4,beq_ok h5,optE_ok (fun a b h=>beq_ok h) h6]
 ·obtain ⟨h1,h2⟩:=andB_ok h
  rw [ML.alike_ok h1,beq_ok h2]
 ·obtain ⟨h1,h2⟩:=andB_ok h
  obtain ⟨h3,h4⟩:=andB_ok h2
  rw [beq_ok h1,beq_ok h3,beq_ok h4]
 ·cases h
def RunS (P : Program) (n : Nat) (c : Code) (t : Tr Value) (h : CH) (S : XE→Tr Value→CH→Prop) : Prop:=∀ (ε : Cx) (r : Ren) (a : Act) (w : World),RF ε r n t a→RW r h w→∀ (Q : Exit→Act→World→Prop),
 (∀ x t' h' r' a' w',S x t' h'→Nx r h w r' h' w'→RF ε r' n t' a'→Q x.out a' w')→c.wpIn (Fe ε.ro) 0 P Q a w
def RoundsS (P : Program) (n : Nat) (c : Code) (k : Nat) (t : Tr Value) (h : CH) (S : XE→Tr Value→CH→Prop) : Prop:=∀ (ε : Cx) (r : Ren) (a : Act) (w : World),RF ε r n t a→RW r h w→∀ (Q : Exit→Act→World→Prop),
 (∀ x t' h' r' a' w',S x t' h'→Nx r h w r' h' w'→RF ε r' n t' a'→Q x.out a' w')→Code.roundsIn (Fe ε.ro) 0 P c Q k a w
theorem runS_of {c : Code} {t t1 : Tr Value} {h h1 : CH} {x : XE} {S : XE→Tr Value→CH→Prop} (hr : RunRel P n c t h x t1 h1) (hS : S x t1 h1) : RunS P n c t h S:=fun ε r a w hF hW Q hQ =>
 hr ε r a w hF hW Q fun r' a' w' hN hF'=>hQ x t1 h1 r' a' w' hS hN hF'
theorem runS_mono {c : Code} {t : Tr Value} {h : CH} {S S' : XE→Tr Value→CH→Prop} (hr : RunS P n c t h S) (hS : ∀ x t h,S x t h→S' x t h) : RunS P n c t h S':=fun ε r a w hF hW Q hQ =>
 hr ε r a w hF hW Q fun x t' h' r' a' w' hs=>hQ x t' h' r' a' w' (hS _ _ _ hs)
theorem runS_seq {c d : Code} {t : Tr Value} {h : CH} {S : XE→Tr Value→CH→Prop} (h1 : RunS P n c t h fun x t1 h1=>(x=.normal→RunS P n d t1 h1 S)∧(x ≠ .normal→S x t1 h1)) : RunS P n (.seq c d) t h S:=fun ε r a w hF hW Q hQ =>
 wpIn_seq (h1 ε r a w hF hW _ fun x t1 h1 r1 a1 w1 hs hN hF1=>then_mono (fun e=>hs.1 e ε r1 a1 w1 hF1 hN.rw Q fun x2 t2 h2 r2 a2 w2 hs2 hN2 hF2=>hQ x2 t2 h2 r2 a2 w2 hs2 (hN.trans hN2) hF2) fun e=>hQ x t1 h1 r1 a1 w1 (hs.2 e) hN hF1)
theorem runS_cond {o : Operand} {c d : Code} {t : Tr Value} {h : CH} {S : XE→Tr Value→CH→Prop} {b : Bool} (ho : evT n t o=some (.bool b)) (hc : RunS P n (if b then c else d) t h S) : RunS P n (.cond o c d) t h S:=fun ε r a w hF hW Q hQ=>by
 have hv:=ev_ok hF ho
 generalize hev : a.eval o=v at hv
 cases hv
 cases b with
 | true=>exact wpIn_cond_true hev (hc ε r a w hF hW Q hQ)
 | false=>exact wpIn_cond_false hev (hc ε r a w hF hW Q hQ)
theorem runS_block {id : Nat} {c : Code} {t : Tr Value} {h : CH} {S : XE→Tr Value→CH→Prop} (hc : RunS P n c t h fun x t1 h1=>(x=.exit id→S .normal t1 h1)∧(x ≠ .exit id→S x t1 h1)) : RunS P n (.block id c) t h S:=fun ε r a w hF hW Q hQ =>
 wpIn_block (hc ε r a w hF hW _ fun x t1 h1 r1 a1 w1 hs hN hF1=>by
  cases x with
  | normal=>exact hQ _ _ _ _ _ _ (hs.2 (by simp)) hN hF1
  | ret=>exact hQ _ _ _ _ _ _ (hs.2 (by simp)) hN hF1
  | exit i =>
   show (if i=id then Q .normal a1 w1 else Q (.exit i) a1 w1)
   by_cases hi : i=id
   ·subst hi
    rw [if_pos rfl]
    exact hQ _ _ _ _ _ _ (hs.1 rfl) hN hF1
   ·rw [if_neg hi]
    exact hQ (.exit i) _ _ _ _ _ (hs.2 (by intro e;injection e with e;exact hi e)) hN hF1)
theorem roundsS_succ {c : Code} {k : Nat} {t : Tr Value} {h : CH} {S : XE→Tr Value→CH→Prop} (hc : RunS P n c t h fun x t1 h1=>(x=.normal→RoundsS P n c k t1 h1 S)∧(x ≠ .normal→S x t1 h1)) : RoundsS P n c (k+1) t h S:=fun ε r a w hF hW Q hQ=>by
 rw [roundsIn_succ]
 exact hc ε r a w hF hW _ fun x t1 h1 r1 a1 w1 hs hN hF1=>then_mono (fun e=>hs.1 e ε r1 a1 w1 hF1 hN.rw Q fun x2 t2 h2 r2 a2 w2 hs2 hN2 hF2=>hQ x2 t2 h2 r2 a2 w2 hs2 (hN.trans hN2) hF2) fun e=>hQ x t1 h1 r1 a1 w1 (hs.2 e) hN hF1
theorem runS_loop {c : Code} {k : Nat} {t : Tr Value} {h : CH} {S : XE→Tr Value→CH→Prop} (hl : RoundsS P n c k t h S) : RunS P n (.loop c) t h S:=fun ε r a w hF hW Q hQ=>wpIn_loop_rounds k (hl ε r a w hF hW Q hQ)
theorem runS_region {o : Oper} {ops : Array Oper} {l : List Oper} {id : Nat} (hops : ops.toList=o :: l) (hg : o.guard=none) (hb : ∀ d,o.dst=some d→d < n∧d < 100000) {t : Tr Value} {h : CH} {S1 : Value→CH→Prop} (hs : StepS P n o t h S1) {S : XE→Tr Value→CH→Prop}
  (hl : ∀ v h1,S1 v h1→∃ t1 t2 h2,(∀ s,t1.get s=(match o.dst with | none=>t | some d=>t.set d v).get s)∧ListRel P n ops l t1 h1 t2 h2∧S .normal t2 h2) : RunS P n (.region id ops false) t h S:=fun ε r a w hF hW Q hQ=>by
 refine wpIn_region_list ?_
 rw [hops]
 unfold wpListIn
 have hw : wantT n t ops o=true:=by unfold wantT;rw [hg]
 rw [want_ok hF (o:=o),hw,if_pos rfl]
 refine hs ε t (fun _ _=>rfl) r a w hF hW _ _ fun r1 v v1 w1 h1 hS hN hv=>?_
 obtain ⟨t1,t2,h2,g1,g2,g3⟩:=hl v h1 hS
 refine g2 ε r1 _ w1 ?_ hN.rw Q fun r2 a2 w2 hN2 hF2=>hQ _ _ _ _ _ _ g3 (hN.trans hN2) hF2
 refine RF.congr (t:=match o.dst with | none=>t | some d=>t.set d v) ?_ g1
 cases hd : o.dst with
 | none=>exact hF.mono hN.le
 | some d =>
  obtain ⟨b1,b2⟩:=hb d hd
  exact (hF.mono hN.le).put b1 (Nat.lt_trans b2 (by decide)) hv
noncomputable section
def regW (fst : Bool) (T : Tr Ty) (n : Nat) (ops : Array Oper) : CC:=match ops.toList with
 | o :: l=>match o.op,o.guard with
  | .next x false,none=>match nextW fst n x,regC T n ops l with
   | some f,some r=>match afC n o.dst r with
    | some a=>⟨fun c _ φ h kn _ _=>f.f c φ h fun v h=>a.f v c φ h kn⟩
    | none=>failCC
   | _,_=>failCC
  | _,_=>rgCC (regC T n ops ops.toList)
 | []=>rgCC (regC T n ops ops.toList)
def codeW (fst : Bool) (T : Tr Ty) (dr : Nat→Array Oper→Option RgF) (n : Nat) (c : Code) : CC:=Code.rec (motive:=fun _=>CC)
 ⟨fun _ _ φ l kn _ _=>kn φ l⟩
 (fun _ ops draw=>Bool.rec (motive:=fun _=>CC) (regW fst T n ops) (rgCC (dr n ops)) draw)
 (fun _ _ a b=>⟨fun c m φ l kn ke kr=>a.f c m φ l (fun φ l=>b.f c m φ l kn ke kr) ke kr⟩)
 (fun o _ _ a b=>match evC n o with
  | some e=>⟨fun c m φ l kn ke kr=>V.onB (e.f φ) fun t=>Bool.rec (motive:=fun _=>Bool) (b.f c m φ l kn ke kr) (a.f c m φ l kn ke kr) t⟩
  | none=>failCC)
 (fun id _ a=>⟨fun c m φ l kn ke kr=>a.f c m φ l kn (fun j φ l=>Bool.rec (motive:=fun _=>Bool) (ke j φ l) (kn φ l) (Nat.beq j id)) kr⟩)
 (fun _ a=>⟨fun c m φ l _ ke kr=>loopK a c m ke kr m φ l⟩)
 (fun _ _ _ _ _ _=>failCC)
 (fun id=>⟨fun _ _ φ l _ ke _=>ke id φ l⟩)
 (fun _ _=>failCC)
 (fun _=>failCC) (fun _=>failCC)
 ⟨fun _ _ φ l _ _ kr=>kr φ l⟩
 (fun _=>failCC) c
end
def CCS (P : Program) (ρ : Env) (n : Nat) (c : Code) (x : CC) : Prop:=∀ cK,CallKOK P ρ cK→CallE P cK→∀ m φ l kn ke kr,x.f cK m φ l kn ke kr=true→∀ h,HR ρ l h→RunS P n c (trF ρ φ n) h fun e t' h'=>∃ φ' l',toK kn ke kr e φ' l'=true∧t'=trF ρ φ' n∧HR ρ l' h'
theorem ccs_of {c : Code} {x : CC} (hx : CCOK P ρ n c x) : CCS P ρ n c x:=fun cK hC hE m φ l kn ke kr h hh hr=>by
 obtain ⟨e,φ',l',h1,h2⟩:=hx cK hC hE m φ l kn ke kr h
 obtain ⟨h',g1,g2⟩:=h2 hh hr
 exact runS_of g2 ⟨φ',l',h1,rfl,g1⟩
theorem regW_ok (hT : TabOK P T) {id : Nat} {ops : Array Oper} : CCS P ρ n (.region id ops false) (regW false T n ops):=by
 have det : CCS P ρ n (.region id ops false) (rgCC (regC T n ops ops.toList)):=by
  refine ccs_of ?_
  cases hr : regC T n ops ops.toList with
  | none=>exact fail_ok
  | some r =>
   intro cK hC hE m φ l kn ke kr h
   obtain ⟨φ',l',h1,h2⟩:=regC_ok (ρ:=ρ) hT hr cK hC hE φ l _ h
   refine ⟨.normal,φ',l',h1,fun h hrr=>?_⟩
   obtain ⟨h',g1,g2⟩:=h2 h hrr
   exact ⟨h',g1,run_region g2⟩
 unfold regW
 split
 ·rename_i o l hops
  split
  ·rename_i x hop hg
   split
   case h_2=>exact ccs_of fail_ok
   rename_i f r hf hr
   split
   case h_2=>exact ccs_of fail_ok
   rename_i a ha
   intro cK hC hE m φ hl kn ke kr h hh hr0
   dsimp only at h
   have hst:=nextW_ok (P:=P) (ρ:=ρ) hop hf h hr0
   have hbd : ∀ d,o.dst=some d→d < n∧d < 100000:=by
    intro d hd
    unfold afC at ha
    rw [hd] at ha
    dsimp only at ha
    split at ha
    case h_2=>cases ha
    rename_i hb
    simp only [Bool.and_eq_true,Nat.blt_eq,Nat.ble_eq] at hb
    exact ⟨hb.1,Nat.lt_of_lt_of_le hb.1 (Nat.le_trans hb.2 (by decide))⟩
   refine runS_region hops hg hbd hst fun v h1 hS=>?_
   obtain ⟨u,l',k1,rfl,k3⟩:=hS
   obtain ⟨φ1,g1,g2,g3⟩:=afC_ok (ρ:=ρ) ha k1
   obtain ⟨φ2,l2,q1,q2⟩:=regC_ok (ρ:=ρ) hT hr cK hC hE φ1 l' _ g1
   obtain ⟨h2,q3,q4⟩:=q2 h1 k3
   exact ⟨_,_,h2,g2,q4,φ2,l2,q1,rfl,q3⟩
  ·exact det
 ·exact det
theorem loopS {c : Code} {x : CC} (hx : CCS P ρ n c x) {cK : CallK} (hC : CallKOK P ρ cK) (hE : CallE P cK) {m : Nat} {kn : FT→H→Bool} {ke : Nat→FT→H→Bool} {kr : FT→H→Bool} {k : Nat} {φ : FT} {l : H} (h : loopK x cK m ke kr k φ l=true) {hh : CH} (hr : HR ρ l hh) :
  RoundsS P n c k (trF ρ φ n) hh fun e t' h'=>∃ φ' l',toK kn ke kr e φ' l'=true∧t'=trF ρ φ' n∧HR ρ l' h':=by
 induction k generalizing φ l hh with
 | zero=>cases h
 | succ k ih =>
  refine roundsS_succ (runS_mono (hx cK hC hE m φ l _ ke kr h hh hr) fun e t1 h1 hs=>?_)
  obtain ⟨φ1,l1,g1,rfl,g3⟩:=hs
  refine ⟨fun e0=>?_,fun e0=>?_⟩
  ·subst e0
   exact ih g1 g3
  ·refine ⟨φ1,l1,?_,rfl,g3⟩
   cases e with
   | normal=>exact absurd rfl e0
   | exit i=>exact g1
   | ret=>exact g1
theorem codeW_ok (hT : TabOK P T) {dr : Nat→Array Oper→Option RgF} (hD : DrOK P ρ dr) (c : Code) : CCS P ρ n c (codeW false T dr n c):=by
 induction c with
 | skip=>exact ccs_of (codeC_ok hT hD .skip)
 | region id ops draw =>
  cases draw with
  | false=>exact regW_ok hT
  | true=>exact ccs_of (codeC_ok hT hD (.region id ops true))
 | seq a b iha ihb =>
  intro cK hC hE m φ l kn ke kr h hh hr
  refine runS_seq (runS_mono (iha cK hC hE m φ l _ ke kr h hh hr) fun e t1 h1 hs=>?_)
  obtain ⟨φ1,l1,g1,rfl,g3⟩:=hs
  refine ⟨fun e0=>?_,fun e0=>⟨φ1,l1,?_,rfl,g3⟩⟩
  ·subst e0
   exact ihb cK hC hE m φ1 l1 kn ke kr g1 h1 g3
  ·cases e with
   | normal=>exact absurd rfl e0
   | exit i=>exact g1
   | ret=>exact g1
 | cond o a b iha ihb =>
  show CCS P ρ n _ (match evC n o with
   | some e=>⟨fun c m φ l kn ke kr=>V.onB (e.f φ) fun t=>Bool.rec (motive:=fun _=>Bool) ((codeW false T dr n b).f c m φ l kn ke kr) ((codeW false T dr n a).f c m φ l kn ke kr) t⟩
   | none=>failCC)
  cases ho : evC n o with
  | none=>exact ccs_of fail_ok
  | some e =>
   intro cK hC hE m φ l kn ke kr h hh hr
   obtain ⟨t,h0,h⟩:=V.onB_ok h
   have ev:=evC_ok (ρ:=ρ) ho φ
   rw [h0] at ev
   rcases brec_ok h with ⟨ht,hk⟩ | ⟨ht,hk⟩
   ·subst ht
    exact runS_cond (b:=true) ev (iha cK hC hE m φ l kn ke kr hk hh hr)
   ·subst ht
    exact runS_cond (b:=false) ev (ihb cK hC hE m φ l kn ke kr hk hh hr)
 | block id a iha =>
  intro cK hC hE m φ l kn ke kr h hh hr
  refine runS_block (runS_mono (iha cK hC hE m φ l kn _ kr h hh hr) fun e t1 h1 hs=>?_)
  obtain ⟨φ1,l1,g1,rfl,g3⟩:=hs
  refine ⟨fun e0=>⟨φ1,l1,?_,rfl,g3⟩,fun e0=>⟨φ1,l1,?_,rfl,g3⟩⟩
  ·subst e0
   have g1 : Bool.rec (motive:=fun _=>Bool) (ke id φ1 l1) (kn φ1 l1) (Nat.beq id id)=true:=g1
   rw [Nat.beq_refl] at g1
   exact g1
  ·cases e with
   | normal=>exact g1
   | ret=>exact g1
   | exit j =>
    rcases brec_ok g1 with ⟨hj,_⟩ | ⟨_,hk⟩
    ·exact absurd (by rw [Nat.eq_of_beq_eq_true hj]) e0
    ·exact hk
 | loop a iha =>
  intro cK hC hE m φ l kn ke kr h hh hr
  exact runS_loop (loopS iha hC hE h hr)
 | rangeFunc f ps a b _ _=>exact ccs_of fail_ok
 | exit id=>exact ccs_of (codeC_ok hT hD (.exit id))
 | scope a iha=>exact ccs_of fail_ok
 | label l=>exact ccs_of fail_ok
 | goto l=>exact ccs_of fail_ok
 | ret=>exact ccs_of (codeC_ok hT hD .ret)
 | refuse s=>exact ccs_of fail_ok
end Go.Ex
namespace Go.Ex
variable {ε : Cx}
variable {P : Program} {T : Tr Ty} {F : Tr Func} {ρ : Env} {n : Nat}
structure TC where
 f : CallK→Nat→FT→H→(V→H→Bool)→Bool
noncomputable section
def O.shed (o : O) : O:=O.rec (motive:=fun _=>O) .no .one .row .big .byt .map (fun _ _ _ _=>.no) .txt o
def eqAt (s : List Id) (a b : HT) : Bool:=List.rec (motive:=fun _=>Bool) true (fun i _ ih=>Bool.and (match HT.at b i with | .no=>Bool.not (O.hidB (HT.at a i)) | o=>O.alike (O.shed (HT.at a i)) o) ih) s
def layL (s : List Id) (g : Id→O) : HT→(HT→Bool)→Bool:=List.rec (motive:=fun _=>HT→(HT→Bool)→Bool) (fun t k=>k t) (fun i _ ih t k=>ih t fun t=>HT.putK t i (g i) k) s
def V.idsL (v : V) : List Id→List Id:=V.rec (motive:=fun _=>List Id→List Id) (fun _ _ s=>s) (fun _ _ s=>s) (fun _ s=>s) (fun _ _ s=>s) (fun i _ s=>.cons i s) (fun s=>s) (fun i _ _ _ s=>.cons i s) (fun s=>s) (fun _ _ f g s=>f (g s)) (fun s=>s) (fun _ f s=>f s) (fun _ f s=>f s)
 (fun _ _ _ f g s=>f (g s)) (fun _ _ f s=>f s) (fun i s=>.cons i s) (fun _ s=>s) (fun _ s=>s) v
def N.idsL {α : Type} (f : α→List Id→List Id) (t : N α) (s : List Id) : List Id:=f t.c0 (f t.c1 (f t.c2 (f t.c3 (f t.c4 (f t.c5 (f t.c6 (f t.c7 s)))))))
def Tr.idsL (t : Tr V) : List Id→List Id:=Tr.rec (motive:=fun _=>List Id→List Id) (fun s=>s) (fun _ v _ f g s=>f (Option.rec (motive:=fun _=>List Id) (g s) (fun v=>V.idsL v (g s)) v)) t
def ML.idsL (es : ML) : List Id→List Id:=ML.rec (motive:=fun _=>List Id→List Id) (fun s=>s) (fun k v _ _ ih s=>V.idsL k (V.idsL v (ih s))) es
def O.idsL (o : O) (s : List Id) : List Id:=O.rec (motive:=fun _=>List Id) s (fun v _=>V.idsL v s) (fun _ c _ _=>N.idsL (N.idsL V.idsL) c s) (fun _ _ p c _ _=>V.idsL p (Tr.idsL c s)) (fun _ _ _ _=>s) (fun es _=>ML.idsL es s) (fun _ _ _ _=>s) (fun _ _ _=>s) o
def refsL (s : List Id) (t : HT) (d : List Id) : List Id:=List.rec (motive:=fun _=>List Id) d (fun i _ ih=>O.idsL (HT.at t i) ih) s
def memI (i : Id) (s : List Id) : Bool:=List.rec (motive:=fun _=>Bool) false (fun j _ ih=>Bool.or (Id.alike i j) ih) s
def keptO (fg : O→Bool) (n : Nat) (refs : List Id) (t : HT) (i : Id) : O:=Bool.rec (motive:=fun _=>O) (Bool.rec (motive:=fun _=>O) .no (Bool.rec (motive:=fun _=>O) (O.shed (HT.at t i)) .no (fg (HT.at t i))) (Bool.or (Nat.blt i.nat n) (memI i refs))) (HT.at t i) (O.hidB (HT.at t i))
def insL (i : Id) (s : List Id) : List Id:=List.rec (motive:=fun _=>List Id) (.cons i .nil) (fun j r ih=>Bool.rec (motive:=fun _=>List Id) (.cons j ih) (.cons j r) (Id.alike i j)) s
def onceL (s : List Id) : List Id→(List Id→Bool)→Bool:=List.rec (motive:=fun _=>List Id→(List Id→Bool)→Bool) (fun d k=>k d) (fun i _ ih d k=>ih (insL i d) k) s
structure Clo where
 f : HT→(HT→Bool)→Bool
def Clo.no : Clo:=⟨fun t k=>k t⟩
def sameK (cl : Clo) (r : RsF) (v0 : V) (n0 : Id) (s : List Id) (t0 : HT) (φ : FT) (l : H) : Bool:=r.f φ l fun v=>cl.f l.t fun t=>Bool.and (Bool.and (V.alike v v0) (Id.alike l.n n0)) (onceL t.lg .nil fun s2=>Bool.and (eqAt s2 t t0) (eqAt s t t0))
def endK (cl : Clo) (fg : O→Bool) (x1 : CC) (r : RsF) (cK : CallK) (m : Nat) (φ : FT) (l : H) (k : V→H→Bool) (φ0 : FT) (l0 : H) : Bool:=r.f φ0 l0 fun v0=>cl.f l0.t fun tc=>onceL tc.lg .nil fun s=>layL s (keptO fg l.n.nat (refsL s tc (V.idsL v0 .nil)) tc) l.t fun t0 =>
 Bool.and (x1.f cK m φ ⟨⟨l.t.tr,.nil⟩,l.n⟩ (sameK cl r v0 l0.n s t0) (fun _ _ _=>false) (sameK cl r v0 l0.n s t0)) (k v0 ⟨t0,l0.n⟩)
def joinK (cl : Clo) (fg : O→Bool) (x0 x1 : CC) (r : RsF) : TC:=⟨fun cK m φ l k=>x0.f cK m φ ⟨⟨l.t.tr,.nil⟩,l.n⟩ (endK cl fg x1 r cK m φ l k) (fun _ _ _=>false) (endK cl fg x1 r cK m φ l k)⟩
def isNext (o : Op) : Bool:=match o with
 | .next _ _=>true
 | _=>false
def hasNext (c : Code) : Bool:=Code.rec (motive:=fun _=>Bool) false (fun _ ops _=>ops.toList.any fun o=>isNext o.op) (fun _ _ a b=>a || b) (fun _ _ _ a b=>a || b) (fun _ _ a=>a) (fun _ a=>a) (fun _ _ _ _ _ _=>false) (fun _=>false) (fun _ a=>a) (fun _=>false) (fun _=>false) false (fun _=>false) c
def detT (x : CC) (r : RsF) : TC:=⟨fun cK m φ l k=>x.f cK m φ l (fun φ l=>r.f φ l fun v=>k v l) (fun _ _ _=>false) (fun φ l=>r.f φ l fun v=>k v l)⟩
def seqT (x : CC) (y : TC) (r : RsF) : TC:=⟨fun cK m φ l k=>x.f cK m φ l (fun φ l=>y.f cK m φ l k) (fun _ _ _=>false) (fun φ l=>r.f φ l fun v=>k v l)⟩
def codeTc (cl : Clo) (fg : O→Bool) (T : Tr Ty) (dr : Nat→Array Oper→Option RgF) (n : Nat) (r : RsF) : Code→TC
 | .seq a b=>match hasNext a with
  | true=>joinK cl fg (codeW true T dr n (.seq a b)) (codeW false T dr n (.seq a b)) r
  | false=>seqT (codeC T dr n a) (codeTc cl fg T dr n r b) r
 | c=>match hasNext c with
  | true=>joinK cl fg (codeW true T dr n c) (codeW false T dr n c) r
  | false=>detT (codeC T dr n c) r
def funTc (cl : V→Clo) (fg : O→Bool) (T : Tr Ty) (dr : Nat→Array Oper→Option RgF) (fn : Func) : CF:=match fn.body with
 | some c=>match Nat.ble fn.ntmps 512 with
  | true=>match resC T fn.ntmps fn.results.toList with
   | some r=>⟨fun cK m args l k=>frameK fn.ntmps args 0 FT.new fun φ=>(codeTc (cl args) fg T dr fn.ntmps r c).f cK m φ l k⟩
   | none=>failCF
  | false=>failCF
 | none=>failCF
def funT (fg : O→Bool) (T : Tr Ty) (dr : Nat→Array Oper→Option RgF) (fn : Func) : CF:=funTc (fun _=>.no) fg T dr fn
end
theorem insL_in {i j : Id} {s : List Id} : j ∈ insL i s ↔ j=i∨j ∈ s:=by
 induction s with
 | nil=>exact List.mem_cons
 | cons x r ih =>
  show j ∈ (Bool.rec (motive:=fun _=>List Id) (.cons x (insL i r)) (.cons x r) (Id.alike i x) : List Id) ↔ _
  cases hb : Id.alike i x with
  | true =>
   have:=Id.alike_ok hb
   subst this
   constructor
   ·exact fun h=>.inr h
   ·rintro (rfl | h)
    ·exact List.mem_cons_self ..
    ·exact h
  | false =>
   show j ∈ x :: insL i r ↔ _
   rw [List.mem_cons,ih,List.mem_cons]
   constructor
   ·rintro (h | h | h)
    ·exact .inr (.inl h)
    ·exact .inl h
    ·exact .inr (.inr h)
   ·rintro (h | h | h)
    ·exact .inr (.inl h)
    ·exact .inl h
    ·exact .inr (.inr h)
theorem onceL_ok {s d : List Id} {k : List Id→Bool} (h : onceL s d k=true) : ∃ s2,k s2=true∧∀ i,i ∈ s2 ↔ i ∈ s∨i ∈ d:=by
 induction s generalizing d with
 | nil=>exact ⟨d,h,fun i=>by simp⟩
 | cons x r ih =>
  obtain ⟨s2,h1,h2⟩:=ih (d:=insL x d) h
  refine ⟨s2,h1,fun i=>?_⟩
  rw [h2,insL_in,List.mem_cons]
  constructor
  ·rintro (h | h | h)
   ·exact .inl (.inr h)
   ·exact .inl (.inl h)
   ·exact .inr h
  ·rintro ((h | h) | h)
   ·exact .inr (.inl h)
   ·exact .inl h
   ·exact .inr (.inr h)
theorem eqAt_ok {s : List Id} {a b : HT} (h : eqAt s a b=true) : ∀ i ∈ s,((b.at i).live=true→O.shed (a.at i)=b.at i)∧(a.at i).code=(b.at i).code:=by
 induction s with
 | nil=>intro i hi;cases hi
 | cons x r ih =>
  obtain ⟨h1,h2⟩:=andB_ok h
  intro i hi
  rcases List.mem_cons.1 hi with rfl | hi
  ·split at h1
   ·rename_i he
    refine ⟨fun hl=>?_,?_⟩
    ·rw [he] at hl
     cases hl
    ·rw [he,O.code_hid (by simpa using h1)];rfl
   ·have h3:=O.alike_ok h1
    refine ⟨fun _=>h3,?_⟩
    rw [← h3]
    generalize a.at i=o
    cases o <;> rfl
  ·exact ih h2 i hi
theorem layL_ok {s : List Id} {g : Id→O} {t : HT} {k : HT→Bool} (h : layL s g t k=true) : ∃ t',k t'=true∧(∀ i,t'.at i=if i ∈ s then g i else t.at i)∧∀ i,i ∈ t'.lg ↔ i ∈ s∨i ∈ t.lg:=by
 induction s generalizing k with
 | nil=>exact ⟨t,h,fun i=>by simp,fun i=>by simp⟩
 | cons x r ih =>
  obtain ⟨t1,h1,h2,h3⟩:=ih (k:=fun t=>HT.putK t x (g x) k) h
  rw [HT.putK_eq] at h1
  refine ⟨_,h1,fun i=>?_,fun i=>?_⟩
  ·rw [HT.at_put]
   by_cases hi : x=i
   ·subst hi;rw [if_pos rfl,if_pos (List.mem_cons_self ..)]
   ·rw [if_neg hi,h2]
    by_cases hr : i ∈ r
    ·rw [if_pos hr,if_pos (List.mem_cons_of_mem _ hr)]
    ·rw [if_neg hr,if_neg fun e=>?_]
     rcases List.mem_cons.1 e with e | e
     ·exact hi e.symm
     ·exact hr e
  ·show i ∈ x :: t1.lg ↔ _
   rw [List.mem_cons,h3,List.mem_cons]
   constructor
   ·rintro (h | h | h)
    ·exact .inl (.inl h)
    ·exact .inl (.inr h)
    ·exact .inr h
   ·rintro ((h | h) | h)
    ·exact .inl h
    ·exact .inr (.inl h)
    ·exact .inr (.inr h)
theorem OR.make {o : O} (h : o.is=true) : ∃ x,OR ρ o x:=by
 refine ⟨.row o.size ((List.range o.size).map fun i=>(o.get i).val ρ).toArray .lf o.elem o.tail,h,_,_,rfl,fun i hi=>?_⟩
 unfold CObj.at
 rw [Tr.get_lf]
 dsimp only
 have hs : ((List.range o.size).map fun i=>(o.get i).val ρ).toArray.size=o.size:=by simp
 rw [hs,Nat.mod_eq_of_lt hi]
 simp [hi]
theorem OX.make {o : O} (h : o.live=true) : ∃ x,OX ρ o x:=by
 cases o with
 | no=>cases h
 | one v e=>obtain ⟨x,hx⟩:=OR.make (ρ:=ρ) (o:=.one v e) rfl;exact ⟨x,.inl hx⟩
 | row s c e t=>obtain ⟨x,hx⟩:=OR.make (ρ:=ρ) (o:=.row s c e t) rfl;exact ⟨x,.inl hx⟩
 | big s l p c e t=>obtain ⟨x,hx⟩:=OR.make (ρ:=ρ) (o:=.big s l p c e t) rfl;exact ⟨x,.inl hx⟩
 | byt s m e t=>obtain ⟨x,hx⟩:=OR.make (ρ:=ρ) (o:=.byt s m e t) rfl;exact ⟨x,.inl hx⟩
 | map es c=>exact ⟨_,.inr rfl⟩
 | iter m a b c=>exact ⟨_,.inr rfl⟩
 | txt a b c=>exact ⟨_,.inr rfl⟩
theorem HR.same {ρ' : Env} (hv : ρ'.tok=ρ.tok) {l l' : H} {h : CH} (hr : HR ρ l h) (hn : l'.n=l.n) (ha : ∀ i,l'.t.at i=l.t.at i) (ho : ∀ i,i ∉ l'.t.lg→l'.t.at i=T5.at ρ'.base i) : HR ρ' l' h:=by
 have hval : ∀ v : V,v.val ρ'=v.val ρ:=fun v=>by unfold V.val;rw [hv]
 have hOR : ∀ {o x},OR ρ o x→OR ρ' o x:=fun ⟨h1,p,c,h2,h3⟩=>⟨h1,p,c,h2,fun i hi=>by rw [hval];exact h3 i hi⟩
 have hother : ∀ o : O,o.other ρ'=o.other ρ:=fun o=>by
  cases o <;> first | rfl | (unfold O.other ML.ents;rw [hv])
 refine ⟨by rw [hn];exact hr.n,fun i hi=>?_,fun i x hi=>?_,fun j hj=>?_,ho⟩
 ·rw [ha] at hi ⊢
  obtain ⟨x,h1,h2⟩:=hr.here i hi
  exact ⟨x,h1,hOR h2⟩
 ·rw [ha,hother] at hi
  exact hr.other i x hi
 ·exact hr.gone j fun i hi=>by rw [← ha];exact hj i hi
theorem put_any {l : H} {h : CH} (hr : HR ρ l h) (i : Id) (o : O) : ∃ h',HR ρ ⟨l.t.put i o,l.n⟩ h':=by
 cases hl : o.live with
 | true =>
  obtain ⟨x,hx⟩:=OX.make (ρ:=ρ) hl
  exact ⟨_,hr.putX hx⟩
 | false =>
  cases o with
  | no=>exact ⟨_,hr.del⟩
  | _=>cases hl
theorem lay_any {s : List Id} {g : Id→O} {t : HT} {m : Id} {h : CH} (hr : HR ρ ⟨t,m⟩ h) {k : HT→Bool} (hk : layL s g t k=true) : ∃ t' h',k t'=true∧HR ρ ⟨t',m⟩ h'∧(∀ i,t'.at i=if i ∈ s then g i else t.at i):=by
 induction s generalizing k with
 | nil=>exact ⟨t,h,hk,hr,fun i=>by simp⟩
 | cons x r ih =>
  obtain ⟨t1,h1,h2,h3,h4⟩:=ih (k:=fun t=>HT.putK t x (g x) k) hk
  rw [HT.putK_eq] at h2
  obtain ⟨h5,h6⟩:=put_any h3 x (g x)
  refine ⟨_,h5,h2,h6,fun i=>?_⟩
  rw [HT.at_put]
  by_cases hi : x=i
  ·subst hi;rw [if_pos rfl,if_pos (List.mem_cons_self ..)]
  ·rw [if_neg hi,h4]
   by_cases hr : i ∈ r
   ·rw [if_pos hr,if_pos (List.mem_cons_of_mem _ hr)]
   ·rw [if_neg hr,if_neg fun e=>?_]
    rcases List.mem_cons.1 e with e | e
    ·exact hi e.symm
    ·exact hr e
theorem less_obj {ρ' : Env} (hv : ρ'.tok=ρ.tok) {l l' : H} {h h' : CH} (hr : HR ρ' l h) (hr' : HR ρ l' h') (hl : ∀ i,(l'.t.at i).live=true→l'.t.at i=l.t.at i) {j : Nat} {o' : CObj} (hj : h'.t.get j=some o') : ∃ o,h.t.get j=some o∧∀ {r : Ren} {c : Nat} {x : Obj},RO r c o x→RO r c o' x:=by
 have hval : ∀ v : V,v.val ρ'=v.val ρ:=fun v=>by unfold V.val;rw [hv]
 by_cases hex : ∃ i : Id,i.nat=j∧(l'.t.at i).live=true
 ·obtain ⟨i,rfl,hlive⟩:=hex
  have he:=hl i hlive
  cases his : (l'.t.at i).is with
  | true =>
   obtain ⟨x1,k1,_,p1,c1,e1,k2⟩:=hr'.here i his
   rw [hj] at k1
   injection k1 with k1
   subst k1
   obtain ⟨x2,k3,_,p2,c2,e2,k4⟩:=hr.here i (by rw [← he];exact his)
   refine ⟨x2,k3,fun {r c x} hro=>?_⟩
   subst e1 e2
   obtain ⟨arr,fz,hz,h1,h2,h3,h4⟩:=hro
   rw [← he] at h2 h3 h4 h1
   refine ⟨arr,fz,hz,h1,h2,h3,fun q hq=>?_⟩
   obtain ⟨a,b,g1,g2,g3⟩:=h4 q hq
   rw [← he] at k4
   rw [k4 q hq] at g1
   injection g1 with g1
   subst g1
   rw [hval] at g3
   exact ⟨_,b,k2 q hq,g2,g3⟩
  | false =>
   have hx : ∃ x,(l'.t.at i).other ρ=some x:=by
    generalize l'.t.at i=o at hlive his
    cases o with
    | no=>cases hlive
    | map es c=>exact ⟨_,rfl⟩
    | iter m a b c=>exact ⟨_,rfl⟩
    | txt a b c=>exact ⟨_,rfl⟩
    | _=>cases his
   obtain ⟨x,hx⟩:=hx
   have k1:=hr'.other i x hx
   rw [hj] at k1
   injection k1 with k1
   subst k1
   have hother : (l.t.at i).other ρ'=some o':=by
    rw [← he,← hx]
    generalize l'.t.at i=o
    cases o <;> first | rfl | (unfold O.other ML.ents;rw [hv])
   exact ⟨o',hr.other i o' hother,fun hro=>hro⟩
 ·have:=hr'.gone j fun i hi=>by
   cases hc : (l'.t.at i).live with
   | false=>rfl
   | true=>exact absurd ⟨i,hi,hc⟩ hex
  rw [hj] at this
  cases this
theorem less_nx {ρ' : Env} (hv : ρ'.tok=ρ.tok) {l l' : H} {h h' : CH} (hr : HR ρ' l h) (hr' : HR ρ l' h') (hn : l'.n=l.n) (hl : ∀ i,(l'.t.at i).live=true→l'.t.at i=l.t.at i) (hcd : ∀ i,(l'.t.at i).code=(l.t.at i).code) {r r1 : Ren} {h0 : CH} {w w' : World} (hN : Nx r h0 w r1 h w') : Nx r h0 w r1 h' w':=by
 have hnn : h'.n=h.n:=by rw [hr.n,hr'.n,hn]
 refine ⟨hN.le,⟨fun j o hj=>?_,fun i j o p b c d hi hj=>?_,fun i x hi=>by rw [hnn];exact hN.rw.top i x hi,hN.rw.low,hN.rw.pin,hN.rw.que.next r1.le_refl (hr.hc_eq hr' hcd) fun _ _ _ _ _ _ _=>.of rfl⟩,hN.size,hN.os,hN.tape,hN.output,hN.frame,fun i o b c hi=>?_,by rw [hnn];exact hN.mono,hN.new⟩
 ·obtain ⟨o1,h1,h2⟩:=less_obj hv hr hr' hl hj
  obtain ⟨b,c,x,k1,k2,k3⟩:=hN.rw.obj j o1 h1
  exact ⟨b,c,x,k1,k2,h2 k3⟩
 ·obtain ⟨o1,h1,_⟩:=less_obj hv hr hr' hl hi
  obtain ⟨p1,h2,_⟩:=less_obj hv hr hr' hl hj
  exact hN.rw.one i j o1 p1 b c d h1 h2
 ·obtain ⟨o1,h1,_⟩:=less_obj hv hr hr' hl hi
  exact hN.live i o1 b c h1
def RunV (P : Program) (fn : Func) (c : Code) (t : Tr Value) (h : CH) (v : Value) (h' : CH) : Prop:=∀ (r : Ren) (a : Act) (w : World),RF Cx.top r fn.ntmps t a→RW r h w →
 c.wpIn (Fe none) 0 P (fun e a' w'=>(e=.normal∨e=.ret)∧a'.defers=[]∧∃ r' v',Nx r h w r' h' w'∧(results fn a'.tmps).run P w'=.ok v' w'∧RV r' v v') a w
def TCOK (P : Program) (ρ : Env) (fn : Func) (c : Code) (x : TC) : Prop:=∀ cK,(∀ b,CallKOK P (ρ.at b) cK)→CallE P cK→∀ m φ l k,x.f cK m φ l k=true→∃ v l',k v l'=true∧∀ h,HR ρ l h→∃ h',HR ρ l' h'∧RunV P fn c (trF ρ φ fn.ntmps) h (v.val ρ) h'
def CCW (P : Program) (ρ : Env) (x : CC) : Prop:=∀ cK,CallKOK P ρ cK→CallE P cK→∀ m φ l kn ke kr,x.f cK m φ l kn ke kr=true→∃ e φ' l',toK kn ke kr e φ' l'=true
theorem ccw_of {c : Code} {x : CC} (hx : CCOK P ρ n c x) : CCW P ρ x:=fun cK hC hE m φ l kn ke kr h=>by
 obtain ⟨e,φ',l',h1,_⟩:=hx cK hC hE m φ l kn ke kr h
 exact ⟨e,φ',l',h1⟩
theorem ways_some {seen : List Nat} {f : V→V→Nat→Bool} {kn : Bool} {es : ML} (h : ML.ways true seen f kn es false=true) : kn=true∨∃ k v b,f k v b=true:=by
 induction es with
 | nil=>exact .inl h
 | cons k v b r ih =>
  rcases brec_ok h with ⟨_,h2⟩ | ⟨_,h2⟩
  ·exact ih h2
  ·exact .inr ⟨k,v,b,h2⟩
theorem nextW_some {n : Nat} {x : Operand} {f : AcF} (hc : nextW true n x=some f) {c : CallK} {φ : FT} {l : H} {k : V→H→Bool} (h : f.f c φ l k=true) : ∃ u l',k u l'=true:=by
 unfold nextW at hc
 split at hc
 case h_2=>cases hc
 rename_i a ha
 injection hc with hc
 subst hc
 dsimp only at h
 obtain ⟨i,m,since,seen,stepped,es,clock,hx,hi,h⟩:=stepK_ok h
 rcases h with ⟨_,_,h0⟩ | ⟨m1,_,_,_,_,h4⟩
 ·exact ⟨_,_,h0⟩
 ·rcases ways_some h4 with h5 | ⟨key,v,b,h5⟩
  ·exact ⟨_,_,h5⟩
  ·rw [HT.putK_eq] at h5
   exact ⟨_,_,h5⟩
theorem regW_some (hT : TabOK P T) {ops : Array Oper} : CCW P ρ (regW true T n ops):=by
 have det : CCW P ρ (rgCC (regC T n ops ops.toList)):=by
  cases hr : regC T n ops ops.toList with
  | none=>exact fun _ _ _ _ _ _ _ _ _ h=>by cases h
  | some r =>
   intro cK hC hE m φ l kn ke kr h
   obtain ⟨φ',l',h1,_⟩:=regC_ok (ρ:=ρ) hT hr cK hC hE φ l _ h
   exact ⟨.normal,φ',l',h1⟩
 unfold regW
 split
 ·rename_i o l hops
  split
  ·rename_i x hop hg
   split
   case h_2=>exact fun _ _ _ _ _ _ _ _ _ h=>by cases h
   rename_i f r hf hr
   split
   case h_2=>exact fun _ _ _ _ _ _ _ _ _ h=>by cases h
   rename_i a ha
   intro cK hC hE m φ hl kn ke kr h
   dsimp only at h
   obtain ⟨u,l',k1⟩:=nextW_some hf h
   obtain ⟨φ1,g1,_,_⟩:=afC_ok (ρ:=ρ) ha k1
   obtain ⟨φ2,l2,q1,_⟩:=regC_ok (ρ:=ρ) hT hr cK hC hE φ1 l' _ g1
   exact ⟨.normal,φ2,l2,q1⟩
  ·exact det
 ·exact det
theorem loop_some {x : CC} (hx : CCW P ρ x) {cK : CallK} (hC : CallKOK P ρ cK) (hE : CallE P cK) {m : Nat} {kn : FT→H→Bool} {ke : Nat→FT→H→Bool} {kr : FT→H→Bool} {k : Nat} {φ : FT} {l : H} (h : loopK x cK m ke kr k φ l=true) :
  ∃ e φ' l',toK kn ke kr e φ' l'=true:=by
 induction k generalizing φ l with
 | zero=>cases h
 | succ k ih =>
  obtain ⟨e,φ1,l1,g1⟩:=hx cK hC hE m φ l _ ke kr h
  cases e with
  | normal=>exact ih g1
  | exit i=>exact ⟨.exit i,φ1,l1,g1⟩
  | ret=>exact ⟨.ret,φ1,l1,g1⟩
theorem codeW_some (hT : TabOK P T) {dr : Nat→Array Oper→Option RgF} (hD : DrOK P ρ dr) (c : Code) : CCW P ρ (codeW true T dr n c):=by
 induction c with
 | skip=>exact ccw_of (codeC_ok (n:=n) hT hD .skip)
 | region id ops draw =>
  cases draw with
  | false=>exact regW_some hT
  | true=>exact ccw_of (codeC_ok hT hD (.region id ops true))
 | seq a b iha ihb =>
  intro cK hC hE m φ l kn ke kr h
  obtain ⟨e,φ1,l1,g1⟩:=iha cK hC hE m φ l _ ke kr h
  cases e with
  | normal=>exact ihb cK hC hE m φ1 l1 kn ke kr g1
  | exit i=>exact ⟨.exit i,φ1,l1,g1⟩
  | ret=>exact ⟨.ret,φ1,l1,g1⟩
 | cond o a b iha ihb =>
  show CCW P ρ (match evC n o with
   | some e=>⟨fun c m φ l kn ke kr=>V.onB (e.f φ) fun t=>Bool.rec (motive:=fun _=>Bool) ((codeW true T dr n b).f c m φ l kn ke kr) ((codeW true T dr n a).f c m φ l kn ke kr) t⟩
   | none=>failCC)
  cases ho : evC n o with
  | none=>exact fun _ _ _ _ _ _ _ _ _ h=>by cases h
  | some e =>
   intro cK hC hE m φ l kn ke kr h
   obtain ⟨t,h0,h⟩:=V.onB_ok h
   rcases brec_ok h with ⟨ht,hk⟩ | ⟨ht,hk⟩
   ·exact iha cK hC hE m φ l kn ke kr hk
   ·exact ihb cK hC hE m φ l kn ke kr hk
 | block id a iha =>
  intro cK hC hE m φ l kn ke kr h
  obtain ⟨e,φ1,l1,g1⟩:=iha cK hC hE m φ l kn _ kr h
  cases e with
  | normal=>exact ⟨.normal,φ1,l1,g1⟩
  | ret=>exact ⟨.ret,φ1,l1,g1⟩
  | exit j =>
   rcases brec_ok g1 with ⟨_,hk⟩ | ⟨_,hk⟩
   ·exact ⟨.normal,φ1,l1,hk⟩
   ·exact ⟨.exit j,φ1,l1,hk⟩
 | loop a iha=>exact fun cK hC hE m φ l kn ke kr h=>loop_some iha hC hE h
 | rangeFunc f ps a b _ _=>exact fun _ _ _ _ _ _ _ _ _ h=>by cases h
 | exit id=>exact ccw_of (codeC_ok (n:=n) hT hD (.exit id))
 | scope a iha=>exact fun _ _ _ _ _ _ _ _ _ h=>by cases h
 | label l=>exact fun _ _ _ _ _ _ _ _ _ h=>by cases h
 | goto l=>exact fun _ _ _ _ _ _ _ _ _ h=>by cases h
 | ret=>exact ccw_of (codeC_ok (n:=n) hT hD .ret)
 | refuse s=>exact fun _ _ _ _ _ _ _ _ _ h=>by cases h
def CloOK (cl : Clo) : Prop:=∀ t k,cl.f t k=true→∃ t',k t'=true∧∀ (ρ : Env) (m : Id) (h : CH),HR ρ ⟨t,m⟩ h→∃ h',HR ρ ⟨t',m⟩ h'∧∀ (r : Ren) (w : World),RW r h w→Nx r h w r h' w
theorem Clo.no_ok : CloOK .no:=fun t _ h=>⟨t,h,fun _ _ hh hr=>⟨hh,hr,fun _ _ hW=>Nx.refl hW⟩⟩
theorem merge_ok2 {cl : Clo} (hcl : CloOK cl) {fg : O→Bool} {fn : Func} (hT : TabOK P T) {c : Code} {x0 x1 : CC} (h0 : ∀ b,CCW P (ρ.at b) x0) (h1 : ∀ b,CCS P (ρ.at b) fn.ntmps c x1) {r : RsF} (hr : resC T fn.ntmps fn.results.toList=some r) : TCOK P ρ fn c (joinK cl fg x0 x1 r):=by
 intro cK hC hE m φ l k h
 have h : x0.f cK m φ ⟨⟨l.t.tr,.nil⟩,l.n⟩ (endK cl fg x1 r cK m φ l k) (fun _ _ _=>false) (endK cl fg x1 r cK m φ l k)=true:=h
 obtain ⟨e,φ0,l0,g1⟩:=h0 l.t.tr cK (hC _) hE m φ _ _ _ _ h
 have g2 : endK cl fg x1 r cK m φ l k φ0 l0=true:=by
  cases e with
  | normal=>exact g1
  | ret=>exact g1
  | exit i=>cases g1
 unfold endK at g2
 obtain ⟨v0,g3,_⟩:=resC_ok (ρ:=ρ) hr g2
 obtain ⟨tc,g3,_⟩:=hcl _ _ g3
 obtain ⟨s,g4,hs⟩:=onceL_ok g3
 obtain ⟨t0,g5,hat,hlg⟩:=layL_ok g4
 obtain ⟨g6,g7⟩:=andB_ok g5
 refine ⟨v0,_,g7,fun hh hrr=>?_⟩
 -- memory for the end
 have hlay : ∃ hR,HR ρ ⟨t0,l0.n⟩ hR:=by
  have hb : ∀ (b : Id→O) (t : HT) (s : List Id) (m : Id) (h : CH),HR ρ ⟨t,m⟩ h→∀ t',(∀ i,t'.at i=if i ∈ s then b i else t.at i)→(∀ i,i ∈ t'.lg ↔ i ∈ s∨i ∈ t.lg)→∃ h',HR ρ ⟨t',m⟩ h':=fun b t s m h hm t' ha hg=>by
   have : ∃ t1 h1,HR ρ ⟨t1,m⟩ h1∧(∀ i,t1.at i=if i ∈ s then b i else t.at i):=by
    have hk : layL s b t (fun _=>true)=true:=by
     clear hg ha
     have : ∀ k : HT→Bool,(∀ t,k t=true)→layL s b t k=true:=by
      induction s with
      | nil=>exact fun k hk=>hk t
      | cons x r ih=>exact fun k hk=>ih _ fun t=>by rw [HT.putK_eq];exact hk _
     exact this _ fun _=>rfl
    obtain ⟨t1,h1,_,q1,q2⟩:=lay_any hm hk
    exact ⟨t1,h1,q1,q2⟩
   obtain ⟨t1,h1,q1,q2⟩:=this
   refine ⟨h1,HR.same rfl q1 rfl (fun i=>by dsimp only;rw [ha,q2]) fun i hi=>?_⟩
   dsimp only at hi ⊢
   rw [hg] at hi
   rw [ha,if_neg fun e=>hi (.inl e)]
   exact hm.old i fun e=>hi (.inr e)
  obtain ⟨h',q⟩:=hb _ l.t s l.n hh hrr t0 hat hlg
  exact ⟨⟨h'.t,l0.n.nat⟩,⟨rfl,q.here,q.other,q.gone,q.old⟩⟩
 obtain ⟨hR,hRr⟩:=hlay
 refine ⟨hR,hRr,?_⟩
 -- the light memory whose log begins here
 have hst : HR (ρ.at l.t.tr) ⟨⟨l.t.tr,.nil⟩,l.n⟩ hh:=HR.same (ρ:=ρ) (ρ':=ρ.at l.t.tr) rfl hrr rfl (fun i=>rfl) fun i _=>rfl
 have hrun:=h1 l.t.tr cK (hC _) hE m φ _ _ _ _ g6 hh hst
 intro rr a w hF hW
 refine hrun Cx.top rr a w hF hW _ fun x t' h' r' a' w' hS hN hF'=>?_
 obtain ⟨φ',l',q1,rfl,q3⟩:=hS
 have q1 : (x=.normal∨x=.ret)∧sameK cl r v0 l0.n s t0 φ' l'=true:=by
  cases x with
  | normal=>exact ⟨.inl rfl,q1⟩
  | ret=>exact ⟨.inr rfl,q1⟩
  | exit i=>cases q1
 obtain ⟨hx,q1⟩:=q1
 unfold sameK at q1
 obtain ⟨v,q4,q5⟩:=resC_ok (ρ:=ρ.at l.t.tr) hr q1
 obtain ⟨t1,q4,hc1⟩:=hcl _ _ q4
 obtain ⟨h1',q3',hc2⟩:=hc1 _ _ _ q3
 obtain ⟨q6,q7⟩:=andB_ok q4
 obtain ⟨q8,q9⟩:=andB_ok q6
 obtain ⟨s2,q10,q11⟩:=onceL_ok q7
 obtain ⟨q12,q13⟩:=andB_ok q10
 have hv:=V.alike_ok q8
 have hn:=Id.alike_ok q9
 subst hv
 obtain ⟨v',k1,k2⟩:=res_ok hT fn _ _ _ _ (q5 h' q3) r' a' w' hF' hN.rw
 refine ⟨by rcases hx with rfl | rfl <;> simp [XE.out],hF'.defers,r',v',?_,k1,k2⟩
 refine less_nx (ρ:=ρ) (ρ':=ρ.at l.t.tr) rfl q3' hRr (by dsimp only;rw [hn]) (fun i hi=>?_) (fun i=>?_) (hN.trans (hc2 r' w' hN.rw))
 rotate_left
 ·dsimp only
  by_cases hin : i ∈ s∨i ∈ s2
  ·exact (hin.elim (fun h=>(eqAt_ok q13 i h).2) fun h=>(eqAt_ok q12 i h).2).symm
  ·rw [hat,if_neg fun e=>hin (.inl e),q3'.old i fun e=>hin (.inr ((q11 i).2 (.inl e)))]
   rfl
 dsimp only at hi ⊢
 have eqs : ∀ j,j ∈ s∨j ∈ s2→(t0.at j).live=true→O.shed (t1.at j)=t0.at j:=fun j hj=>hj.elim (fun h=>(eqAt_ok q13 j h).1) fun h=>(eqAt_ok q12 j h).1
 by_cases hin : i ∈ s∨i ∈ s2
 ·have he:=eqs i hin hi
  rw [← he] at hi ⊢
  generalize t1.at i=o at hi
  cases o <;> first | rfl | cases hi
 ·have h2 : i ∉ t1.lg:=fun e=>hin (.inr ((q11 i).2 (.inl e)))
  rw [hat,if_neg fun e=>hin (.inl e),q3'.old i h2]
  rfl
theorem codeT_ok {cl : Clo} (hcl : CloOK cl) {fg : O→Bool} (hT : TabOK P T) {dr : Nat→Array Oper→Option RgF} (hD : ∀ b,DrOK P (ρ.at b) dr) {fn : Func} {r : RsF} (hr : resC T fn.ntmps fn.results.toList=some r) (c : Code) : TCOK P ρ fn c (codeTc cl fg T dr fn.ntmps r c):=by
 have mg : ∀ c,TCOK P ρ fn c (joinK cl fg (codeW true T dr fn.ntmps c) (codeW false T dr fn.ntmps c) r):=fun c=>merge_ok2 hcl hT (fun b=>codeW_some hT (hD b) c) (fun b=>codeW_ok hT (hD b) c) hr
 have fin : ∀ {φ : FT} {l : H} {k : V→H→Bool},(r.f φ l fun v=>k v l)=true→∃ v,k v l=true∧∀ h,HR ρ l h→∀ (rr : Ren) (a : Act) (w : World),RF Cx.top rr fn.ntmps (trF ρ φ fn.ntmps) a→RW rr h w→∃ v',(results fn a.tmps).run P w=.ok v' w∧RV rr (v.val ρ) v':=fun {φ l k} h=>by
  obtain ⟨v,h1,h2⟩:=resC_ok (ρ:=ρ) hr h
  exact ⟨v,h1,fun h hrr rr a w hF hW=>res_ok hT fn _ _ _ _ (h2 h hrr) rr a w hF hW⟩
 have det : ∀ c,TCOK P ρ fn c (detT (codeC T dr fn.ntmps c) r):=fun c cK hC hE m φ l k h=>by
  have h : (codeC T dr fn.ntmps c).f cK m φ l (fun φ l=>r.f φ l fun v=>k v l) (fun _ _ _=>false) (fun φ l=>r.f φ l fun v=>k v l)=true:=h
  obtain ⟨e,φ',l',h1,h2⟩:=codeC_ok hT (hD ρ.base) c cK (hC ρ.base) hE m φ l _ _ _ h
  have h3 : (e=.normal∨e=.ret)∧(r.f φ' l' fun v=>k v l')=true:=by
   cases e with
   | normal=>exact ⟨.inl rfl,h1⟩
   | ret=>exact ⟨.inr rfl,h1⟩
   | exit i=>cases h1
  obtain ⟨v,h4,h5⟩:=fin h3.2
  refine ⟨v,l',h4,fun hh hrr=>?_⟩
  obtain ⟨h',g1,g2⟩:=h2 hh hrr
  refine ⟨h',g1,fun rr a w hF hW=>g2 Cx.top rr a w hF hW _ fun r' a' w' hN hF'=>?_⟩
  obtain ⟨v',k1,k2⟩:=h5 h' g1 r' a' w' hF' hN.rw
  exact ⟨by rcases h3.1 with rfl | rfl <;> simp [XE.out],hF'.defers,r',v',hN,k1,k2⟩
 have leaf : ∀ c,TCOK P ρ fn c (match hasNext c with | true=>joinK cl fg (codeW true T dr fn.ntmps c) (codeW false T dr fn.ntmps c) r | false=>detT (codeC T dr fn.ntmps c) r):=fun c=>by
  cases hasNext c with
  | true=>exact mg c
  | false=>exact det c
 induction c with
 | seq a b iha ihb =>
  unfold codeTc
  cases hasNext a with
  | true=>exact mg _
  | false =>
   intro cK hC hE m φ l k h
   have h : (codeC T dr fn.ntmps a).f cK m φ l (fun φ l=>(codeTc cl fg T dr fn.ntmps r b).f cK m φ l k) (fun _ _ _=>false) (fun φ l=>r.f φ l fun v=>k v l)=true:=h
   obtain ⟨e,φ',l',h1,h2⟩:=codeC_ok hT (hD ρ.base) a cK (hC ρ.base) hE m φ l _ _ _ h
   cases e with
   | normal =>
    obtain ⟨v,l2,k1,k2⟩:=ihb cK hC hE m φ' l' k h1
    refine ⟨v,l2,k1,fun hh hrr=>?_⟩
    obtain ⟨h',g1,g2⟩:=h2 hh hrr
    obtain ⟨h'',g3,g4⟩:=k2 h' g1
    refine ⟨h'',g3,fun rr a0 w hF hW=>wpIn_seq (g2 Cx.top rr a0 w hF hW _ fun r' a' w' hN hF'=>?_)⟩
    refine wpIn_mono (g4 r' a' w' hF' hN.rw) fun e a2 w2 q=>?_
    obtain ⟨q1,q2,r2,v2,q3,q4,q5⟩:=q
    exact ⟨q1,q2,r2,v2,hN.trans q3,q4,q5⟩
   | exit i=>cases h1
   | ret =>
    obtain ⟨v,h4,h5⟩:=fin h1
    refine ⟨v,l',h4,fun hh hrr=>?_⟩
    obtain ⟨h',g1,g2⟩:=h2 hh hrr
    refine ⟨h',g1,fun rr a0 w hF hW=>wpIn_seq (g2 Cx.top rr a0 w hF hW _ fun r' a' w' hN hF'=>?_)⟩
    obtain ⟨v',k1,k2⟩:=h5 h' g1 r' a' w' hF' hN.rw
    exact ⟨.inr rfl,hF'.defers,r',v',hN,k1,k2⟩
 | _=>exact leaf _
theorem funTc_ok {cl : V→Clo} (hcl : ∀ a,CloOK (cl a)) {fg : O→Bool} (hT : TabOK P T) (hF : FnsOK P F) {dr : Nat→Array Oper→Option RgF} (hD : ∀ b,DrOK P (ρ.at b) dr) {f : FuncId} {fn : Func} (hf : F.get f=some fn) : CfOK P ρ f (funTc cl fg T dr fn):=by
 refine ⟨.inl ⟨fn,hF f fn hf⟩,fun cK hC hE m args l k h=>?_⟩
 unfold funTc at h
 split at h
 case h_2=>cases h
 rename_i c hc
 split at h
 case h_2=>cases h
 rename_i hn
 rw [Nat.ble_eq] at hn
 split at h
 case h_2=>cases h
 rename_i r hr
 dsimp only at h
 obtain ⟨φ,h1,h2,h3⟩:=frameK_ok (ρ:=ρ) hn h
 obtain ⟨v,l',h4,h5⟩:=codeT_ok (hcl args) hT hD hr c cK hC hE m φ l k h1
 refine ⟨v,l',h4,fun hh hrr=>?_⟩
 obtain ⟨h',g1,g2⟩:=h5 hh hrr
 refine ⟨h',g1,fun rr cargs w hv hW=>?_⟩
 have hfr:=frame_ok hv (n:=fn.ntmps) (by simpa using h2) (Nat.lt_of_le_of_lt hn (by decide)) (ro:=none)
 have hfr : RF Cx.top rr fn.ntmps (trF ρ φ fn.ntmps) { tmps:=cargs ++ Array.replicate (fn.ntmps - cargs.size) undef,defers:=[] }:=by
  refine ⟨rfl,hfr.size,fun i hi=>?_⟩
  obtain ⟨u,k1,k2⟩:=hfr.slot i hi
  refine ⟨u,k1,?_⟩
  rw [trF_get hn,if_pos hi]
  have h6:=h3 i (by omega)
  have : ((frameT ⟨args.vals ρ⟩).get i).getD undef=(args.vals ρ).getD i undef:=by
   have hg:=frame_go (args.vals ρ) 0 .lf (by omega) i
   unfold frameT
   rw [hg]
   simp only [Nat.zero_le,true_and,Nat.zero_add,Nat.sub_zero,Tr.get_lf]
   by_cases hlt : i < (args.vals ρ).length
   ·rw [if_pos hlt];rfl
   ·rw [if_neg hlt,List.getD_eq_getElem?_getD,List.getElem?_eq_none (by omega)]
  rw [this] at k2
  show RV rr ((φ.at i).val ρ) u
  rw [h6]
  by_cases hlt : i < (args.vals ρ).length
  ·rw [if_pos ⟨Nat.zero_le _,by omega⟩];exact k2
  ·rw [if_neg fun e=>hlt (by omega),FT.at_new]
   rw [List.getD_eq_getElem?_getD,List.getElem?_eq_none (by omega)] at k2
   exact k2
 refine .inl ⟨⟨fn,hF f fn hf⟩,callsIn_wide.1 (callsIn_of_wp (n:=0) (hF f fn hf).1 hc trivial ?_)⟩
 show c.wpIn (Fe none) 0 P _ _ _
 refine wpIn_mono (g2 rr _ w hfr hW) fun e a' w' q=>?_
 obtain ⟨q1,q2,r2,v2,q3,q4,q5⟩:=q
 rcases q1 with rfl | rfl
 ·exact ⟨q2,v2,q4,r2,v2,rfl,q3,q5⟩
 ·exact ⟨q2,v2,q4,r2,v2,rfl,q3,q5⟩
theorem funT_ok {fg : O→Bool} (hT : TabOK P T) (hF : FnsOK P F) {dr : Nat→Array Oper→Option RgF} (hD : ∀ b,DrOK P (ρ.at b) dr) {f : FuncId} {fn : Func} (hf : F.get f=some fn) : CfOK P ρ f (funT fg T dr fn):=funTc_ok (fun _=>Clo.no_ok) hT hF hD hf
end Go.Ex
namespace Go.Ex
variable {ε : Cx}
variable {P : Program} {T : Tr Ty} {F : Tr Func} {ρ : Env} {n : Nat}
noncomputable section
def insN (k : Nat) : List Nat→List Nat
 | []=>[k]
 | j :: r=>match Nat.ble k j with
  | true=>k :: j :: r
  | false=>j :: insN k r
def sortN : List Nat→List Nat
 | []=>[]
 | k :: r=>insN k (sortN r)
def apartN : List Nat→Bool
 | []=>true
 | k :: r=>Bool.and (Bool.not (memN r k)) (apartN r)
def belowN (c : Nat) : List Nat→Bool
 | []=>true
 | k :: r=>Bool.and (Nat.blt k c) (belowN c r)
def chainN : List Nat→V
 | []=>.nil
 | k :: r=>.cons (.int .i64 k) (chainN r)
def ML.borns : ML→List Nat
 | .nil=>[]
 | .cons _ _ b r=>b :: ML.borns r
def ML.nats : ML→Option (List Nat)
 | .nil=>some []
 | .cons (.int .i64 m) _ _ r=>match ML.nats r with
  | some l=>some (m :: l)
  | none=>none
 | .cons _ _ _ _=>none
def sortedC (g : FuncId→Bool) (e : TypeId) : CF:=⟨fun _ _ args l k=>V.onCo args (fun a r=>V.onCo r (fun _ _=>false) (V.onFn a fun f fi ca=>Bool.rec (motive:=fun _=>Bool) false
  (V.onCo fi (fun _ _=>false) (V.onCo ca (fun b r=>V.onCo r (fun _ _=>false) (V.onP b fun i off=>Bool.rec (motive:=fun _=>Bool) false (O.getK (HT.at l.t i) 0 fun m=>mapOf m false fun j=>O.onMap (HT.at l.t j) fun es clock=>match ML.nats es with
   | none=>false
   | some ks=>Bool.rec (motive:=fun _=>Bool) false (match sortN ks with
    | []=>k .nslc l
    | s=>newK l (rowOf s.length (chainN s) e (some 1)) fun i l=>k (.slc i 0 s.length unk) l)
    (Bool.and (Bool.and (apartN ks) (belowN 4611686018427387904 ks)) (Bool.and (Bool.and (apartN (ML.borns es)) (belowN clock (ML.borns es))) (Nat.blt ks.length 4096)))) (Nat.beq off 0))) false)) (g f))) false⟩
def chunkK (ca : V) (l : H) (k : V→Nat→Bool) : Bool:=V.onCo ca (fun b r=>V.onCo r (fun d r=>V.onCo r (fun _ _=>false) (V.onP b fun i off=>V.onP d fun j off2=>O.getK (HT.at l.t j) off2 fun m=>V.onI m (fun kd m=>Bool.rec (motive:=fun _=>Bool) false
  (O.getK (HT.at l.t i) off fun s=>k s m) (Bool.and (kindE kd .i64) (Bool.and (Nat.blt m 4611686018427387904) (Nat.blt 0 m)))) (fun _ _=>false))) false) false
def chunkD (s : V) (m : Nat) (k0 : Bool) (k1 : V→Bool) : Bool:=match s with
 | .nslc=>k0
 | .slc q o len cap=>Bool.rec (motive:=fun _=>Bool) (Bool.rec (motive:=fun _=>Bool) false (k1 (.slc q o len len)) (Bool.and (Nat.ble len m) (Nat.ble len cap))) k0 (Nat.beq len 0)
 | .raw (.slice none 0 0)=>k0
 | _=>false
structure RC where
 f : CallK→Nat→FT→H→(FT→H→Bool)→(FT→H→Bool)→Bool
def rangeR (g : FuncId→Bool) (n : Nat) (x : Operand) (ps : List Tmp) (asg body : CC) : RC:=match evC n x,ps with
 | some e,[p]=>match Nat.blt p n && Nat.ble n 512 with
  | true=>⟨fun cK m φ l kn _=>V.onFn (e.f φ) fun f fi ca=>Bool.rec (motive:=fun _=>Bool) false (V.onCo fi (fun _ _=>false)
    (chunkK ca l fun s mm=>chunkD s mm (kn φ l) fun v=>(putW p).f φ v fun φ1=>asg.f cK m φ1 l (fun φ2 l2=>body.f cK m φ2 l2 (fun _ l3=>chunkK ca l3 fun s3 m3=>Bool.rec (motive:=fun _=>Bool) false (kn φ l3) (Bool.and (V.alike s s3) (Nat.beq mm m3)))
     (fun _ _ _=>false) (fun _ _=>false)) (fun _ _ _=>false) (fun _ _=>false))) (g f)⟩
  | false=>⟨fun _ _ _ _ _ _=>false⟩
 | _,_=>⟨fun _ _ _ _ _ _=>false⟩
def detR (x : CC) : RC:=⟨fun cK m φ l kn kr=>x.f cK m φ l kn (fun _ _ _=>false) kr⟩
def codeR (T : Tr Ty) (dr : Nat→Array Oper→Option RgF) (g : FuncId→Bool) (n : Nat) : Code→RC
 | .seq a b=>⟨fun cK m φ l kn kr=>(codeR T dr g n a).f cK m φ l (fun φ l=>(codeR T dr g n b).f cK m φ l kn kr) kr⟩
 | .block id c=>match c with
  | .rangeFunc x ps asg body=>rangeR g n x ps.toList (codeC T dr n asg) (codeC T dr n body)
  | c=>detR (codeC T dr n (.block id c))
 | c=>detR (codeC T dr n c)
def isEmp (v : V) : Bool:=match v with
 | .str l _=>Nat.beq l 0
 | _=>false
def Tr.allB (f : V→Bool) (t : Tr V) : Bool:=Tr.rec (motive:=fun _=>Bool) true (fun _ v _ a b=>Bool.and (Option.rec (motive:=fun _=>Bool) true f v) (Bool.and a b)) t
def O.emptyB (o : O) (n : Nat) : Bool:=match o with
 | .big size pl (.cons p .nil) cs _ _=>Bool.and (Bool.and (Nat.beq pl 1) (isEmp p)) (Bool.and (Nat.ble n size) (Tr.allB isEmp cs))
 | _=>false
def nodesB (args : V) (l : H) : Bool:=V.onCo args (fun a r=>V.onCo r (fun _ _=>false) (V.onP a fun i off=>Bool.rec (motive:=fun _=>Bool) false (O.getK (HT.at l.t i) 3 fun s=>match s with
 | .slc q o len _=>Bool.and (Nat.beq o 0) (Bool.and (Nat.blt len 4611686018427387904) (O.emptyB (HT.at l.t q) len))
 | _=>false) (Nat.beq off 0))) false
def nodesC (slow : CF) : CF:=⟨fun cK m args l k=>Bool.rec (motive:=fun _=>Bool) (slow.f cK m args l k) (k .nslc l) (nodesB args l)⟩
def funR (T : Tr Ty) (dr : Nat→Array Oper→Option RgF) (g : FuncId→Bool) (fn : Func) : CF:=match fn.body with
 | some c=>match Nat.ble fn.ntmps 512 with
  | true=>match resC T fn.ntmps fn.results.toList with
   | some r=>⟨fun cK m args l k=>frameK fn.ntmps args 0 FT.new fun φ=>(codeR T dr g fn.ntmps c).f cK m φ l (fun φ l=>r.f φ l fun v=>k v l) (fun φ l=>r.f φ l fun v=>k v l)⟩
   | none=>failCF
  | false=>failCF
 | none=>failCF
end
end Go.Ex
namespace Go.Ex
open RowKit (Below)
variable {P : Program} {T : Tr Ty} {F : Tr Func} {ρ : Env} {n : Nat}
def Un (b : Nat) (r : Ren) (h : CH) : Prop:=∀ i o c,h.t.get i=some o→r i ≠ some (b,c)
theorem Un.nx {b : Nat} {r r' : Ren} {h h' : CH} {w w' : World} (hu : Un b r h) (hN : Nx r h w r' h' w') (hb : b < w.heap.size) : Un b r' h'∧w'.heap[b]?=w.heap[b]? :=
 ⟨fun i o c hi hr=>(hN.live i o b c hi hr).elim (fun h1=>by omega) fun ⟨j,p,d,hj,hd⟩=>hu j p d hj hd,hN.frame b hb hu⟩
theorem Un.new {b : Nat} {r : Ren} {h : CH} {w : World} (hW : RW r h w) (hb : w.heap.size≤b) : Un b r h:=fun i o c hi hr=>by
 have:=hW.low i b c hr
 omega
theorem Nx.setUn {b : Nat} {r r1 : Ren} {h h1 : CH} {w w1 : World} (hN : Nx r h w r1 h1 w1) (hb : w.heap.size≤b) (hu : Un b r1 h1) (o : Obj) (hno : ∀ cs t fz,w1.heap[b]? ≠ some (.cells cs t fz)) : Nx r h w r1 h1 (w1.putObj b o):=by
 refine ⟨hN.le,⟨fun i x hi=>?_,hN.rw.one,hN.rw.top,fun i k c hi=>by rw [World.putObj_size];exact hN.rw.low i k c hi,fun x hx=>(let ⟨⟨cs,t,fz,k1,k2⟩,k3⟩:=hN.rw.pin x hx;⟨⟨cs,t,fz,by rw [World.putObj_heap_other (fun e=>hno cs t fz (by rw [← e];exact k1))];exact k1,k2⟩,k3⟩),hN.rw.que.next r1.le_refl (fun _=>rfl) fun j s z k c hc hj=>.of (World.putObj_heap_other fun e=>(by obtain ⟨o1,g1,_⟩:=CH.hc_some hc;exact hu j o1 c g1 (by rw [hj,e])))⟩,by rw [World.putObj_size];exact hN.size,hN.os,hN.tape,hN.output,fun k hk hn=>?_,hN.live,hN.mono,hN.new⟩
 ·obtain ⟨k,c,y,k1,k2,k3⟩:=hN.rw.obj i x hi
  refine ⟨k,c,y,k1,?_,k3⟩
  rw [World.putObj_heap_other,k2]
  intro e
  subst e
  exact hu i x c hi k1
 ·rw [World.putObj_heap_other (by omega)]
  exact hN.frame k hk hn
theorem Nx.more {r r1 : Ren} {h h1 : CH} {w w1 w2 : World} (hN : Nx r h w r1 h1 w1) (hb : Below w1.heap.size w1 w2) : Nx r h w r1 h1 w2:=hN.trans (nx_below hN.rw hb)
theorem below_drewN (w : World) (q : Nat) : Below w.heap.size w (w.drewN q):=⟨rfl,rfl,rfl,Nat.le_refl _,fun _ _=>rfl⟩
structure Mk (B : Nat) (d : Deferred) (w : World) (r : Ren) (h : CH) (D : Nat) : Prop where
 eq : d={ target:=.collected D,args:=#[] }
 lo : B≤D
 hi : D < w.heap.size
 at' : w.heap[D]?=some (.deferred (some []))
 un : Un D r h
def Marks (B : Nat) (ds : List Deferred) (w : World) (r : Ren) (h : CH) : Prop:=ds.Pairwise (· ≠ ·)∧∀ d ∈ ds,∃ D,Mk B d w r h D
theorem Marks.nx {B : Nat} {ds : List Deferred} {r r' : Ren} {h h' : CH} {w w' : World} (hm : Marks B ds w r h) (hN : Nx r h w r' h' w') : Marks B ds w' r' h':=⟨hm.1,fun d hd=>by
 obtain ⟨D,m⟩:=hm.2 d hd
 obtain ⟨u1,u2⟩:=m.un.nx hN m.hi
 exact ⟨D,m.eq,m.lo,Nat.lt_of_lt_of_le m.hi hN.size,u2.trans m.at',u1⟩⟩
def SpRel (P : Program) (n : Nat) (c : Code) (t : Tr Value) (h : CH) (x : XE) (t' : Tr Value) (h' : CH) : Prop:=∀ (B : Nat) (ds : List Deferred) (r : Ren) (a : Act) (w : World),RF ⟨none,ds⟩ r n t a→RW r h w→Marks B ds w r h→B≤w.heap.size→∀ (Q : Exit→Act→World→Prop),
 (∀ ds' r' a' w',Nx r h w r' h' w'→RF ⟨none,ds'⟩ r' n t' a'→Marks B ds' w' r' h'→Q x.out a' w')→c.wpIn (Fe none) 0 P Q a w
theorem sp_det {c : Code} {t t' : Tr Value} {h h' : CH} {x : XE} (hr : RunRel P n c t h x t' h') : SpRel P n c t h x t' h':=fun _B ds r a w hF hW hM _hB Q hQ =>
 hr ⟨none,ds⟩ r a w hF hW Q fun r' a' w' hN hF'=>hQ ds r' a' w' hN hF' (hM.nx hN)
theorem sp_seq {c d : Code} {t t1 t' : Tr Value} {h h1 h' : CH} {x : XE} (h1' : SpRel P n c t h .normal t1 h1) (h2 : SpRel P n d t1 h1 x t' h') : SpRel P n (.seq c d) t h x t' h':=fun B ds r a w hF hW hM hB Q hQ =>
 wpIn_seq (h1' B ds r a w hF hW hM hB _ fun ds1 r1 a1 w1 hN hF1 hM1=>h2 B ds1 r1 a1 w1 hF1 hN.rw hM1 (Nat.le_trans hB hN.size) Q fun ds2 r2 a2 w2 hN2 hF2 hM2=>hQ ds2 r2 a2 w2 (hN.trans hN2) hF2 hM2)
theorem sp_seq_out {c d : Code} {t t' : Tr Value} {h h' : CH} {x : XE} (hx : x ≠ .normal) (h1' : SpRel P n c t h x t' h') : SpRel P n (.seq c d) t h x t' h':=fun B ds r a w hF hW hM hB _Q hQ =>
 wpIn_seq (h1' B ds r a w hF hW hM hB _ fun ds1 r1 a1 w1 hN hF1 hM1=>then_mono (fun e=>absurd e hx) fun _=>hQ ds1 r1 a1 w1 hN hF1 hM1)
def recOf (fn : FuncId) (tmps : Array Value) (ps : Array Tmp) (asg body : Code) (D : Nat) (st : LoopState) : Loop:={ state:=st,pending:=none,fn,tmps,params:=ps,assign:=asg,body,defers:=D }
def inW (w : World) (L : Loop) : World:=(w.alloc (.deferred (some []))).alloc (.loop L)
theorem below_inW (w : World) (L : Loop) : Below w.heap.size w (inW w L):=((Below.refl w.heap.size w).alloc (Nat.le_refl _) _).alloc (by simp) _
theorem inW_size (w : World) (L : Loop) : (inW w L).heap.size=w.heap.size+2:=by simp [inW]
theorem inW_loop (w : World) (L : Loop) : (inW w L).heap[w.heap.size+1]?=some (.loop L):=by
 have:=World.alloc_heap_new (w.alloc (.deferred (some []))) (.loop L)
 rwa [World.size_alloc] at this
theorem inW_mark (w : World) (L : Loop) : (inW w L).heap[w.heap.size]?=some (.deferred (some [])) :=
 (RowKit.Below.heap_alloc _ _ _ (by simp)).trans (World.alloc_heap_new w _)
structure OutW (r : Ren) (h : CH) (w : World) (h' : CH) (L : Loop) (r' : Ren) (w' : World) : Prop where
 nx : Nx r h w r' h' w'
 un0 : Un w.heap.size r' h'
 un1 : Un (w.heap.size+1) r' h'
 sz : w.heap.size+1 < w'.heap.size
 mark : w'.heap[w.heap.size]?=some (.deferred (some []))
 loop : w'.heap[w.heap.size+1]?=some (.loop L)
theorem OutW.start {r : Ren} {h : CH} {w : World} (hW : RW r h w) (L : Loop) : OutW r h w h L r (inW w L) :=
 ⟨nx_below hW (below_inW w L),.new hW (Nat.le_refl _),.new hW (Nat.le_succ _),by rw [inW_size];omega,inW_mark w L,inW_loop w L⟩
theorem OutW.step {r r1 r2 : Ren} {h h1 h2 : CH} {w w1 w2 : World} {L : Loop} (hO : OutW r h w h1 L r1 w1) (hN : Nx r1 h1 w1 r2 h2 w2) : OutW r h w h2 L r2 w2:=by
 have hs:=hO.sz
 obtain ⟨u1,u2⟩:=hO.un0.nx hN (by omega)
 obtain ⟨u3,u4⟩:=hO.un1.nx hN hO.sz
 exact ⟨hO.nx.trans hN,u1,u3,Nat.lt_of_lt_of_le hO.sz hN.size,u2.trans hO.mark,u4.trans hO.loop⟩
theorem OutW.set {r r1 : Ren} {h h1 : CH} {w w1 : World} {L : Loop} (hO : OutW r h w h1 L r1 w1) (L' : Loop) : OutW r h w h1 L' r1 (w1.putObj (w.heap.size+1) (.loop L')) :=
 ⟨hO.nx.setUn (by omega) hO.un1 _ (fun cs t fz e=>by rw [hO.loop] at e;cases e),hO.un0,hO.un1,by rw [World.putObj_size];exact hO.sz,by rw [World.putObj_heap_other (by omega)];exact hO.mark,World.putObj_heap_same hO.sz⟩
theorem range_enter {f : FuncId} (eg : ∀ args w,(callFunc f args).run P w=.ok (.enter f args) w) {id : Nat} {x : Operand} {ps : Array Tmp} {asg body : Code} {t : Tr Value} {h h' : CH} {cap : List Value} (hx : evT n t x=some (.func (.func f) #[] ⟨cap⟩))
  (H : ∀ (ds : List Deferred) (r : Ren) (a : Act) (w : World) (cap2 : Array Value) (fn : FuncId),RF ⟨none,ds⟩ r n t a→RW r h w→RVs r ⟨cap⟩ cap2→CallsIn Fence.wide 0 P f (#[.func (.yield (w.heap.size+1)) #[] #[]] ++ cap2) (inW w (recOf fn a.tmps ps asg body w.heap.size .ready)) fun e w'=>e=.returned (.tuple #[])∧∃ r',OutW r h w h' (recOf fn a.tmps ps asg body w.heap.size .ready) r' w') :
  SpRel P n (.block id (.rangeFunc x ps asg body)) t h .normal t h':=fun B ds r a w hF hW hM hB Q hQ=>by
 refine wpIn_block ?_
 refine wpIn_rangeFunc (F:=Fence.wide) fun fn _=>?_
 have hv:=ev_ok hF hx
 generalize hg : a.eval x=fv at hv
 cases hv with
 | @func _ _ _ f2 c2 hfl p1 p2 p3 p4 =>
 have hf2 : f2=#[]:=Array.eq_empty_of_size_eq_zero p1.symm
 subst hf2
 refine ⟨w.heap.size+1,[{ target:=.collected w.heap.size,args:=#[] }],inW w (recOf fn a.tmps ps asg body w.heap.size .ready),{ target:=.fn (.func f) c2,args:=#[.func (.yield (w.heap.size+1)) #[] #[]] },inW w (recOf fn a.tmps ps asg body w.heap.size .ready),f,
  #[.func (.yield (w.heap.size+1)) #[] #[]] ++ c2,inW w (recOf fn a.tmps ps asg body w.heap.size .ready),?_,?_,fun _ _=>trivial,?_,fun h=>(by cases h),?_⟩
 ·exact run_enterLoop_outer _ _ _ _ _
 ·simp only [resolve,hg]
  simp [go_sem]
 ·simp [invoke,go_sem,eg]
 ·refine (H ds r a w c2 fn hF hW ⟨p2,p4⟩).mono fun e w' he=>?_
  obtain ⟨rfl,r',hO⟩:=he
  refine ⟨none,_,run_endLoop hO.loop (by simp [recOf]),?_⟩
  have hO2:=hO.set { recOf fn a.tmps ps asg body w.heap.size .ready with state:=.exhausted }
  refine hQ ({ target:=.collected w.heap.size,args:=#[] } :: ds) r' _ _ hO2.nx ⟨?_,hF.size,fun i hi=>?_⟩ ?_
  ·show [_] ++ a.defers=_
   rw [hF.defers];rfl
  ·obtain ⟨v,k1,k2⟩:=hF.slot i hi
   exact ⟨v,k1,k2.mono hO.nx.le⟩
  ·obtain ⟨m1,m2⟩:=hM.nx hO2.nx
   refine ⟨List.pairwise_cons.2 ⟨fun d hd he=>?_,m1⟩,fun d hd=>?_⟩
   ·obtain ⟨D,q⟩:=hM.2 d hd
    have e:=q.eq
    rw [← he] at e
    injection e with e _
    injection e with e
    have:=q.hi
    omega
   ·rcases List.mem_cons.1 hd with rfl | hd
    ·exact ⟨w.heap.size,rfl,hB,Nat.lt_of_succ_lt hO2.sz,hO2.mark,hO2.un0⟩
    ·exact m2 d hd
theorem cell_of {l : H} {h : CH} (hr : HR ρ l h) {r : Ren} {w : World} (hW : RW r h w) {i : Id} {off : Nat} (hi : (l.t.at i).is=true) (ho : off < (l.t.at i).size) {b c : Nat} (hb : r i.nat=some (b,c)) :
  ∃ v',w.cell? ⟨b,off,none⟩=some v'∧w.frozen? ⟨b,off,none⟩=false∧RV r (((l.t.at i).get off).val ρ) v':=by
 obtain ⟨pat,cs,k1,k2⟩:=hr.row hi
 exact hW.load k1 hb ho (k2 off ho)
theorem chunkK_ok {ca : V} {l : H} {k : V→Nat→Bool} (h : chunkK ca l k=true) : ∃ (i j : Id) (off off2 m : Nat),ca.vals ρ=[.pointer (some ⟨i.nat,off,none⟩),.pointer (some ⟨j.nat,off2,none⟩)]∧0 < m∧m < 4611686018427387904 ∧
  (l.t.at i).is=true∧off < (l.t.at i).size∧(l.t.at j).is=true∧off2 < (l.t.at j).size∧((l.t.at j).get off2).val ρ=.int .i64 (.ofNat m)∧k ((l.t.at i).get off) m=true∧ca=.cons (.ptr i off) (.cons (.ptr j off2) .nil):=by
 unfold chunkK at h
 rcases V.onCo_ok h with ⟨a,r1,rfl,g1⟩ | ⟨_,g1⟩
 case inr=>cases g1
 rcases V.onCo_ok g1 with ⟨b,r2,rfl,g2⟩ | ⟨_,g2⟩
 case inr=>cases g2
 rcases V.onCo_ok g2 with ⟨_,_,_,g3⟩ | ⟨rfl,g3⟩
 ·cases g3
 obtain ⟨i,off,rfl,g4⟩:=V.onP_ok g3
 obtain ⟨j,off2,rfl,g5⟩:=V.onP_ok g4
 obtain ⟨q1,q2,g6⟩:=O.getK_ok g5
 rcases V.onI_ok g6 with ⟨kd,m,e1,g7⟩ | ⟨_,_,_,g7⟩
 case inr=>cases g7
 obtain ⟨g8,g9⟩:=brec_if g7
 have g8 : (kindE kd .i64 && (Nat.blt m 4611686018427387904 && Nat.blt 0 m))=true:=g8
 simp only [Bool.and_eq_true,Nat.blt_eq] at g8
 have hkd : kd=.i64:=kindBeq kd .i64 (kindE_eq g8.1)
 subst hkd
 obtain ⟨q3,q4,g10⟩:=O.getK_ok g9
 exact ⟨i,j,off,off2,m,rfl,g8.2.2,g8.2.1,q3,q4,q1,q2,by rw [e1];rfl,g10,rfl⟩
theorem chunkD_ok {s : V} {m : Nat} {k0 : Bool} {k1 : V→Bool} (h : chunkD s m k0 k1=true) : (k0=true∧∃ (pa : Ren→Value→Option Addr) (c : Ren→Value→Nat),∀ r v,RV r (s.val ρ) v→v=.slice (pa r v) 0 (c r v))∨∃ q o len cap,s=.slc q o len cap∧0 < len∧len≤m∧len≤cap∧k1 (.slc q o len len)=true:=by
 have sliceD : ∀ {p : Option Addr} {L cp : Nat} {r : Ren} {v : Value},RV r (.slice p L cp) v→∃ pa c,v=.slice pa L c:=fun {p L cp r v} hv=>by
  cases hv with
  | nilSlice l c=>exact ⟨_,_,rfl⟩
  | slice h l cap hc=>exact ⟨_,_,rfl⟩
  | sliceU h l hc hl=>exact ⟨_,_,rfl⟩
  | sliceE h=>exact ⟨_,_,rfl⟩
 have zero : ∀ {p : Option Addr} {cp : Nat},s.val ρ=.slice p 0 cp→∃ (pa : Ren→Value→Option Addr) (c : Ren→Value→Nat),∀ r v,RV r (s.val ρ) v→v=.slice (pa r v) 0 (c r v):=fun {p cp} hs=>by
  rw [hs]
  cases p with
  | none=>exact ⟨fun _ _=>none,fun _ _=>cp,fun r v hv=>by cases hv;rfl⟩
  | some a =>
   obtain ⟨b,o,ix⟩:=a
   refine ⟨fun _ v=>match v with | .slice a _ _=>a | _=>none,fun r v=>match v with | .slice _ _ c=>c | _=>0,fun r v hv=>?_⟩
   cases hv with
   | slice h l cap hc=>rfl
   | sliceU h l hc hl=>rfl
   | sliceE h=>rfl
 unfold chunkD at h
 split at h
 ·exact .inl ⟨h,zero (p:=none) (cp:=0) rfl⟩
 ·rename_i q o len cap
  rcases brec_ok h with ⟨h1,h2⟩ | ⟨h1,h2⟩
  ·have:=Nat.eq_of_beq_eq_true h1
   subst this
   exact .inl ⟨h2,zero rfl⟩
  ·obtain ⟨h3,h4⟩:=brec_if h2
   have h3 : (Nat.ble len m && Nat.ble len cap)=true:=h3
   simp only [Bool.and_eq_true,Nat.ble_eq] at h3
   refine .inr ⟨q,o,len,cap,rfl,?_,h3.1,h3.2,h4⟩
   rcases Nat.eq_zero_or_pos len with h5 | h5
   ·subst h5
    cases h1
   ·exact h5
 ·exact .inl ⟨h,zero (p:=none) (cp:=0) rfl⟩
 ·cases h
def ChunksOK (P : Program) (g : FuncId→Bool) : Prop:=∀ f,g f=true→ChunkIs P f∧Nonext P f
def RCOK (P : Program) (ρ : Env) (n : Nat) (c : Code) (x : RC) : Prop:=∀ cK,CallKOK P ρ cK→CallE P cK→∀ m φ l kn kr,x.f cK m φ l kn kr=true→∃ e φ' l',((e=.normal∧kn φ' l'=true)∨(e=.ret∧kr φ' l'=true))∧∀ h,HR ρ l h→∃ h',HR ρ l' h'∧SpRel P n c (trF ρ φ n) h e (trF ρ φ' n) h'
theorem enters_of {f : FuncId} (h : Nonext P f) : ∀ args w,(callFunc f args).run P w=.ok (.enter f args) w:=fun args w=>by
 obtain ⟨fn,q1,q2,q3⟩:=h
 simp only [callFunc,Sem.run_bind,Sem.run_pure,Result.andThen,run_program,q1,q2,q3,Bool.false_eq_true,if_false]
theorem rangeFn_ok {g : FuncId→Bool} (hg : ChunksOK P g) {id : Nat} {x : Operand} {ps : Array Tmp} {asg body : Code} {xa xb : CC} (ha : CCOK P ρ n asg xa) (hb : CCOK P ρ n body xb) : RCOK P ρ n (.block id (.rangeFunc x ps asg body)) (rangeR g n x ps.toList xa xb):=by
 intro cK hC hE m φ l kn kr h
 unfold rangeR at h
 split at h
 case h_2=>cases h
 rename_i e p he hps
 split at h
 case h_2=>cases h
 rename_i hbn
 simp only [Bool.and_eq_true,Nat.blt_eq,Nat.ble_eq] at hbn
 have hps : ps=#[p]:=Array.ext' hps
 subst hps
 dsimp only at h
 obtain ⟨f,fi,ca,e1,h⟩:=V.onFn_ok h
 obtain ⟨hgf,h⟩:=brec_if h
 rcases V.onCo_ok h with ⟨_,_,_,h0⟩ | ⟨rfl,h⟩
 ·cases h0
 obtain ⟨hci,hnx⟩:=hg f hgf
 have eg:=enters_of hnx
 have hx : evT n (trF ρ φ n) x=some (.func (.func f) #[] ⟨ca.vals ρ⟩):=by rw [evC_ok (ρ:=ρ) he φ,e1];rfl
 obtain ⟨i,j,off,off2,mm,hca,hm1,hm2,i1,i2,j1,j2,j3,h,_⟩:=chunkK_ok (ρ:=ρ) h
 -- what the closure holds,in a world
 have held : ∀ {l : H} {hh : CH},HR ρ l hh→∀ {r : Ren} {w : World} {cap2 : Array Value},RW r hh w→RVs r ⟨ca.vals ρ⟩ cap2→∃ b c b2 c2,r i.nat=some (b,c)∧r j.nat=some (b2,c2)∧cap2=#[.pointer (some ⟨b,off,none⟩),.pointer (some ⟨b2,off2,none⟩)]:=fun {l hh} hr {r w cap2} hW hv=>by
  rw [hca] at hv
  obtain ⟨u1,u2,rfl,v1,v2⟩:=rvs_two hv
  cases v1 with
  | @ptr _ b c _ k1 =>
  cases v2 with
  | @ptr _ b2 c2 _ k2 =>
  exact ⟨b,c,b2,c2,k1,k2,rfl⟩
 have num : ∀ {r : Ren} {v : Value},RV r (.int .i64 (.ofNat mm)) v→v=.int .i64 (.ofNat mm):=fun {r v} hv=>by cases hv;rfl
 rcases chunkD_ok (ρ:=ρ) h with ⟨h,pa,c,hsl⟩ | ⟨q,o,len,cap,hs,hl0,hlm,hlc,h⟩
 ·-- nothing comes
  refine ⟨.normal,φ,l,.inl ⟨rfl,h⟩,fun hh hr=>⟨hh,hr,range_enter eg hx fun ds r a w cap2 fn hF hW hcap=>?_⟩⟩
  obtain ⟨b,bc,b2,bc2,k1,k2,rfl⟩:=held hr hW hcap
  have hO:=OutW.start (h:=hh) hW (recOf fn a.tmps #[p] asg body w.heap.size .ready)
  obtain ⟨s',s1,s2,s3⟩:=cell_of hr hO.nx.rw i1 i2 k1
  obtain ⟨m',m1,m2,m3⟩:=cell_of hr hO.nx.rw j1 j2 k2
  rw [j3] at m3
  rw [hsl _ _ s3] at s1
  rw [num m3] at m1
  exact hci _ _ _ _ _ 0 _ mm s1 s2 m1 m2 (Nat.zero_le _) hm1 hm2 (Nat.zero_le _) (fun w'=>∃ r',OutW r hh w hh (recOf fn a.tmps #[p] asg body w.heap.size .ready) r' w') (fun _=>⟨r,hO⟩) fun h0=>absurd h0 (Nat.lt_irrefl 0)
 ·-- one round
  rw [putW_eq] at h
  obtain ⟨ea,φ1,l1,h1,h2⟩:=ha cK hC hE m _ l _ _ _ h
  have hea : ea=.normal:=by
   cases ea with
   | normal=>rfl
   | exit i=>cases h1
   | ret=>cases h1
  subst hea
  obtain ⟨eb,φ2,l2,h3,h4⟩:=hb cK hC hE m φ1 l1 _ _ _ h1
  have heb : eb=.normal:=by
   cases eb with
   | normal=>rfl
   | exit i=>cases h3
   | ret=>cases h3
  subst heb
  have h3 : chunkK ca l2 (fun s3 m3=>Bool.rec (motive:=fun _=>Bool) false (kn φ l2) (Bool.and (V.alike ((l.t.at i).get off) s3) (Nat.beq mm m3)))=true:=h3
  obtain ⟨i',j',off',off2',mm3,hca3,_,_,i5,i6,j5,j6,j7,h5,hca4⟩:=chunkK_ok (ρ:=ρ) h3
  obtain ⟨h6,h7⟩:=brec_if h5
  obtain ⟨h8,h9⟩:=andB_ok h6
  have hss:=V.alike_ok h8
  have hmm:=beq_ok h9
  subst hmm
  have hii : i'=i∧off'=off∧j'=j∧off2'=off2:=by
   rw [hca] at hca3
   injection hca3 with z1 z2
   injection z2 with z2 _
   injection z1 with z1
   injection z1 with z1
   injection z1 with z1 z3
   injection z2 with z2
   injection z2 with z2
   injection z2 with z2 z4
   exact ⟨Id.nat_inj z1.symm,z3.symm,Id.nat_inj z2.symm,z4.symm⟩
  obtain ⟨rfl,rfl,rfl,rfl⟩:=hii
  refine ⟨.normal,φ,l2,.inl ⟨rfl,h7⟩,fun hh hr=>?_⟩
  obtain ⟨hh1,g1,g2⟩:=h2 hh hr
  obtain ⟨hh2,g3,g4⟩:=h4 hh1 g1
  refine ⟨hh2,g3,range_enter eg hx fun ds r a w cap2 fn hF hW hcap=>?_⟩
  obtain ⟨b,bc,b2,bc2,k1,k2,rfl⟩:=held hr hW hcap
  have hO:=OutW.start (h:=hh) hW (recOf fn a.tmps #[p] asg body w.heap.size .ready)
  obtain ⟨s',s1,s2,s3⟩:=cell_of hr hO.nx.rw i1 i2 k1
  obtain ⟨m',m1,m2,m3⟩:=cell_of hr hO.nx.rw j1 j2 k2
  rw [j3] at m3
  have e3:=num m3
  subst e3
  rw [hs] at s3
  have hlen : len < unk:=by
   have : unk=4611686018427387904:=rfl
   omega
  have shape : ∃ bq cq c,r q.nat=some (bq,cq)∧s'=.slice (some ⟨bq,o,none⟩) len c∧len≤c∧∀ {r3 : Ren} {v : Value},r.le r3→RV r3 ((V.slc q o len cap).val ρ) v→v=.slice (some ⟨bq,o,none⟩) len c:=by
   have s4 : RV r (.slice (some ⟨q.nat,o,none⟩) len cap) s':=s3
   have again : ∀ {r3 : Ren} {v : Value},RV r3 ((V.slc q o len cap).val ρ) v→RV r3 (.slice (some ⟨q.nat,o,none⟩) len cap) v:=fun h=>h
   generalize hcapg : cap=cp at s4
   cases s4 with
   | @slice _ bq cq _ hq l' cap' hc' =>
    subst hcapg
    refine ⟨bq,cq,cap,hq,rfl,hlc,fun {r3 v} hle hv=>?_⟩
    have hv:=again hv
    have hq3:=hle _ _ hq
    cases hv with
    | slice hq' _ _ _=>rw [hq3] at hq';injection hq' with hq';injection hq' with z1 z2;subst z1;rfl
    | sliceU hq' _ hc9 hl9=>exfalso;omega
    | sliceE hq'=>exfalso;omega
   | sliceE hq=>exact absurd hl0 (Nat.lt_irrefl 0)
   | @sliceU _ bq cq _ k cap' hq l' hc9 hl9 =>
    refine ⟨bq,cq,cap',hq,rfl,hl9,fun {r3 v} hle hv=>?_⟩
    have hv : RV r3 (.slice (some ⟨q.nat,o,none⟩) len (unk+k)) v:=hv
    have hq3:=hle _ _ hq
    generalize hz : unk+k=cz at hv
    cases hv with
    | slice hq' _ _ hc'=>exfalso;omega
    | sliceE hq'=>exact absurd hl0 (Nat.lt_irrefl 0)
    | @sliceU _ bq' cq' _ k' cap2 hq' _ hc8 hl8 =>
     rw [hq3] at hq'
     injection hq' with hq'
     injection hq' with z1 z2
     subst z1 z2
     have : k'=k:=by omega
     subst this
     have : cap2=cap':=by omega
     subst this
     rfl
  obtain ⟨bq,cq,c,hq,rfl,hlc2,again⟩:=shape
  refine hci _ _ _ _ _ len c mm s1 s2 m1 m2 hlm hm1 hm2 hlc2 (fun w'=>∃ r',OutW r hh w hh2 (recOf fn a.tmps #[p] asg body w.heap.size .ready) r' w') (fun h0=>absurd h0 (by omega)) fun _=>?_
  refine ⟨bq,o,fn,a.tmps.setIfInBounds p (.slice (some ⟨bq,o,none⟩) len len),asg,body,rfl,fun nq=>?_⟩
  have hO1:=hO.step (nx_below hO.nx.rw (below_drewN _ nq))
  refine ⟨?_,?_⟩
  ·have:=run_yield (P:=P) (args:=#[.slice (some ⟨bq,o,none⟩) len len]) hO1.loop (by simp [recOf])
   simpa [recOf] using this
  ·refine roundIn_of_wpIn (F:=Fence.wide) trivial ?_
   show asg.wpIn (Fe (some (w.heap.size+1))) (0 - 1) P _ _ _
   have hput : RF ⟨some (w.heap.size+1),[]⟩ r n (trF ρ (φ.put p (.slc q o len len)) n) { tmps:=a.tmps.setIfInBounds p (.slice (some ⟨bq,o,none⟩) len len),defers:=[] }:=by
    have hp:=(RF.put (ε:=⟨none,ds⟩) hF hbn.1 (Nat.lt_of_lt_of_le hbn.1 (Nat.le_trans hbn.2 (by decide))) (v:=(V.slc q o len len).val ρ) (v':=.slice (some ⟨bq,o,none⟩) len len) (.slice hq _ _ hlen))
    have hp:=hp.congr (t':=trF ρ (φ.put p (.slc q o len len)) n) fun s=>trF_put hbn.2 hbn.1
    exact ⟨rfl,hp.size,hp.slot⟩
   refine g2 ⟨some (w.heap.size+1),[]⟩ r _ _ hput hO1.nx.rw _ fun r1 a1 w1 hN1 hF1=>?_
   have hO2:=hO1.step hN1
   refine ⟨_,run_beginRound hO2.loop rfl,?_⟩
   have hO3:=hO2.set { recOf fn a.tmps #[p] asg body w.heap.size .ready with state:=.busy }
   refine g4 ⟨some (w.heap.size+1),[]⟩ r1 a1 _ hF1 hO3.nx.rw _ fun r2 a2 w2 hN2 hF2=>?_
   have hO4:=hO3.step hN2
   have hO5:=hO4.set { recOf fn a.tmps #[p] asg body w.heap.size .ready with state:=.ready }
   refine ⟨_,_,run_endRound none hO4.loop,rfl,?_⟩
   have hle : r.le r2:=hO5.nx.le
   obtain ⟨s9,t1,t2,t3⟩:=cell_of g3 hO5.nx.rw i5 i6 (hle _ _ k1)
   obtain ⟨m9,t4,t5,t6⟩:=cell_of g3 hO5.nx.rw j5 j6 (hle _ _ k2)
   rw [j7] at t6
   have e9:=num t6
   subst e9
   rw [← hss,hs] at t3
   have e10:=again hle t3
   subst e10
   exact ⟨t1,t2,t4,t5,r2,hO5⟩
end Go.Ex
namespace Go.Ex
variable {P : Program} {T : Tr Ty} {F : Tr Func} {ρ : Env} {n : Nat}
theorem detR_ok {c : Code} {x : CC} (hx : CCOK P ρ n c x) : RCOK P ρ n c (detR x):=fun cK hC hE m φ l kn kr h=>by
 have h : x.f cK m φ l kn (fun _ _ _=>false) kr=true:=h
 obtain ⟨e,φ',l',h1,h2⟩:=hx cK hC hE m φ l _ _ _ h
 have fin : ∀ hh,HR ρ l hh→∃ h',HR ρ l' h'∧SpRel P n c (trF ρ φ n) hh e (trF ρ φ' n) h':=fun hh hr=>by
  obtain ⟨h',g1,g2⟩:=h2 hh hr
  exact ⟨h',g1,sp_det g2⟩
 cases e with
 | normal=>exact ⟨.normal,φ',l',.inl ⟨rfl,h1⟩,fin⟩
 | ret=>exact ⟨.ret,φ',l',.inr ⟨rfl,h1⟩,fin⟩
 | exit i=>cases h1
theorem codeR_ok (hT : TabOK P T) {dr : Nat→Array Oper→Option RgF} (hD : DrOK P ρ dr) {g : FuncId→Bool} (hg : ChunksOK P g) (c : Code) : RCOK P ρ n c (codeR T dr g n c):=by
 have det : ∀ c,RCOK P ρ n c (detR (codeC T dr n c)):=fun c=>detR_ok (codeC_ok hT hD c)
 induction c with
 | seq a b iha ihb =>
  intro cK hC hE m φ l kn kr h
  have h : (codeR T dr g n a).f cK m φ l (fun φ l=>(codeR T dr g n b).f cK m φ l kn kr) kr=true:=h
  obtain ⟨e,φ1,l1,h1,h2⟩:=iha cK hC hE m φ l _ _ h
  rcases h1 with ⟨rfl,h1⟩ | ⟨rfl,h1⟩
  ·obtain ⟨e,φ',l',k1,k2⟩:=ihb cK hC hE m φ1 l1 kn kr h1
   refine ⟨e,φ',l',k1,fun hh hr=>?_⟩
   obtain ⟨h',g1,g2⟩:=h2 hh hr
   obtain ⟨h'',g3,g4⟩:=k2 h' g1
   exact ⟨h'',g3,sp_seq g2 g4⟩
  ·refine ⟨.ret,φ1,l1,.inr ⟨rfl,h1⟩,fun hh hr=>?_⟩
   obtain ⟨h',g1,g2⟩:=h2 hh hr
   exact ⟨h',g1,sp_seq_out (by simp) g2⟩
 | block id c _ =>
  cases c with
  | rangeFunc x ps asg body=>exact rangeFn_ok hg (codeC_ok hT hD asg) (codeC_ok hT hD body)
  | _=>exact det _
 | _=>exact det _
theorem leaves_ok {fn : Func} {tmps : Array Value} {R : Ending→World→Prop} {B : Nat} {r0 r : Ren} {h0 h : CH} {w0 : World} (hB : B=w0.heap.size) (hR : ∀ w2,Nx r0 h0 w0 r h w2→∃ v,(results fn tmps).run P w2=.ok v w2∧R (.returned v) w2) :
  ∀ (ds : List Deferred) (w : World),Nx r0 h0 w0 r h w→Marks B ds w r h→LeavesInM Fence.wide 0 P fn tmps R ds .returning w:=by
 intro ds
 induction ds with
 | nil=>exact fun w hN _=>hR w hN
 | cons d ds ih =>
  intro w hN hM
  obtain ⟨hp,hm⟩:=hM
  obtain ⟨hp1,hp2⟩:=List.pairwise_cons.1 hp
  obtain ⟨D,q⟩:=hm d (List.mem_cons_self ..)
  have hN2:=hN.setUn (b:=D) (by rw [← hB];exact q.lo) q.un (.deferred none) (fun cs t fz e=>by rw [q.at'] at e;cases e)
  refine ⟨by simp,.inl ⟨D,_,by rw [q.eq],run_takeDeferred q.at',ih _ hN2 ⟨hp2,fun d2 hd2=>?_⟩⟩⟩
  obtain ⟨D2,q2⟩:=hm d2 (List.mem_cons_of_mem _ hd2)
  refine ⟨D2,q2.eq,q2.lo,by rw [World.putObj_size];exact q2.hi,?_,q2.un⟩
  rw [World.putObj_heap_other]
  ·exact q2.at'
  ·intro e
   subst e
   exact hp1 d2 hd2 (by rw [q.eq,q2.eq])
theorem funR_ok (hT : TabOK P T) (hF : FnsOK P F) {dr : Nat→Array Oper→Option RgF} (hD : DrOK P ρ dr) {g : FuncId→Bool} (hg : ChunksOK P g) {f : FuncId} {fn : Func} (hf : F.get f=some fn) : CfOK P ρ f (funR T dr g fn):=by
 refine ⟨.inl ⟨fn,hF f fn hf⟩,fun cK hC hE m args l k h=>?_⟩
 unfold funR at h
 split at h
 case h_2=>cases h
 rename_i c hc
 split at h
 case h_2=>cases h
 rename_i hn
 rw [Nat.ble_eq] at hn
 split at h
 case h_2=>cases h
 rename_i r hr
 dsimp only at h
 obtain ⟨φ,h1,h2,h3⟩:=frameK_ok (ρ:=ρ) hn h
 obtain ⟨e,φ',l',h4,h5⟩:=codeR_ok hT hD hg c cK (hC ρ.base) hE m φ l _ _ h1
 have h4 : (e=.normal∨e=.ret)∧(r.f φ' l' fun v=>k v l')=true:=by
  rcases h4 with ⟨rfl,h4⟩ | ⟨rfl,h4⟩
  ·exact ⟨.inl rfl,h4⟩
  ·exact ⟨.inr rfl,h4⟩
 obtain ⟨he,h4⟩:=h4
 obtain ⟨v,h6,h7⟩:=resC_ok (ρ:=ρ) hr h4
 refine ⟨v,l',h6,fun hh hrr=>?_⟩
 obtain ⟨h',g1,g2⟩:=h5 hh hrr
 refine ⟨h',g1,fun rr cargs w hv hW=>?_⟩
 have hfr:=frame_ok hv (n:=fn.ntmps) (by simpa using h2) (Nat.lt_of_le_of_lt hn (by decide)) (ro:=none)
 have hfr : RF ⟨none,[]⟩ rr fn.ntmps (trF ρ φ fn.ntmps) { tmps:=cargs ++ Array.replicate (fn.ntmps - cargs.size) undef,defers:=[] }:=by
  refine ⟨rfl,hfr.size,fun i hi=>?_⟩
  obtain ⟨u,k1,k2⟩:=hfr.slot i hi
  refine ⟨u,k1,?_⟩
  rw [trF_get hn,if_pos hi]
  have h6:=h3 i (by omega)
  have : ((frameT ⟨args.vals ρ⟩).get i).getD undef=(args.vals ρ).getD i undef:=by
   have hg:=frame_go (args.vals ρ) 0 .lf (by omega) i
   unfold frameT
   rw [hg]
   simp only [Nat.zero_le,true_and,Nat.zero_add,Nat.sub_zero,Tr.get_lf]
   by_cases hlt : i < (args.vals ρ).length
   ·rw [if_pos hlt];rfl
   ·rw [if_neg hlt,List.getD_eq_getElem?_getD,List.getElem?_eq_none (by omega)]
  rw [this] at k2
  show RV rr ((φ.at i).val ρ) u
  rw [h6]
  by_cases hlt : i < (args.vals ρ).length
  ·rw [if_pos ⟨Nat.zero_le _,by omega⟩];exact k2
  ·rw [if_neg fun e=>hlt (by omega),FT.at_new]
   rw [List.getD_eq_getElem?_getD,List.getElem?_eq_none (by omega)] at k2
   exact k2
 refine .inl ⟨⟨fn,hF f fn hf⟩,callsIn_wide.1 (callsIn_of_wp_marks (n:=0) (hF f fn hf).1 hc trivial ?_)⟩
 show c.wpIn (Fe none) 0 P _ _ _
 refine g2 w.heap.size [] rr _ w hfr hW ⟨.nil,fun d hd=>by cases hd⟩ (Nat.le_refl _) _ fun ds' r' a' w' hN hF' hM=>?_
 have hl : LeavesInM Fence.wide 0 P fn a'.tmps (fun e w'=>∃ r' v',e=.returned v'∧Nx rr hh w r' h' w'∧RV r' (v.val ρ) v') a'.defers .returning w':=by
  rw [hF'.defers]
  refine leaves_ok rfl (fun w2 hN2=>?_) ds' w' hN hM
  obtain ⟨v',k1,k2⟩:=res_ok hT fn _ _ _ _ (h7 h' g1) r' a' w2 hF' hN2.rw
  exact ⟨v',k1,r',v',rfl,hN2,k2⟩
 rcases he with rfl | rfl
 ·exact hl
 ·exact hl
theorem allB_ok {f : V→Bool} {t : Tr V} (h : Tr.allB f t=true) {i : Nat} {v : V} (hi : t.get i=some v) : f v=true:=by
 induction t generalizing i with
 | lf=>cases hi
 | nd l x r ihl ihr =>
  obtain ⟨h1,h2⟩:=andB_ok h
  obtain ⟨h3,h4⟩:=andB_ok h2
  cases i with
  | zero =>
   rw [Tr.get_zero] at hi
   subst hi
   exact h1
  | succ j =>
   rw [Tr.get_succ] at hi
   split at hi
   ·exact ihl h3 hi
   ·exact ihr h4 hi
theorem isEmp_ok {v : V} (h : isEmp v=true) : v.val ρ=.string ⟨#[]⟩:=by
 unfold isEmp at h
 split at h
 ·rename_i l m
  have:=Nat.eq_of_beq_eq_true h
  subst this
  rfl
 ·cases h
theorem emptyB_ok {o : O} {m : Nat} (h : O.emptyB o m=true) : o.is=true∧m≤o.size∧∀ k,k < m→(o.get k).val ρ=.string ⟨#[]⟩:=by
 unfold O.emptyB at h
 split at h
 ·rename_i size pl p cs e t
  obtain ⟨h1,h2⟩:=andB_ok h
  obtain ⟨h3,h4⟩:=andB_ok h1
  obtain ⟨h5,h6⟩:=andB_ok h2
  have h3:=Nat.eq_of_beq_eq_true h3
  subst h3
  refine ⟨rfl,Nat.le_of_ble_eq_true h5,fun k hk=>?_⟩
  show (Option.rec (motive:=fun _=>V) (V.nth (.cons p .nil) (Nat.mod k 1)) (fun v=>v) (cs.get k) : V).val ρ=_
  cases hc : cs.get k with
  | none =>
   have : Nat.mod k 1=0:=Nat.mod_one k
   show (V.nth (.cons p .nil) (Nat.mod k 1)).val ρ=_
   rw [this]
   exact isEmp_ok h4
  | some v=>exact isEmp_ok (allB_ok h6 hc)
 ·cases h
theorem nodes_ok {f : FuncId} (hN : NodesIs P f) (hf : Nonext P f) {slow : CF} (hs : CfOK P ρ f slow) : CfOK P ρ f (nodesC slow):=by
 refine ⟨.inl hf,fun cK hC hE m args l k h=>?_⟩
 have h : Bool.rec (motive:=fun _=>Bool) (slow.f cK m args l k) (k .nslc l) (nodesB args l)=true:=h
 rcases brec_ok h with ⟨hb,h⟩ | ⟨_,h⟩
 case inr=>exact hs.2 cK hC hE m args l k h
 refine ⟨.nslc,l,h,fun hh hr=>⟨hh,hr,fun r cargs w hv hW=>?_⟩⟩
 unfold nodesB at hb
 rcases V.onCo_ok hb with ⟨a,r1,rfl,g1⟩ | ⟨_,g1⟩
 case inr=>cases g1
 rcases V.onCo_ok g1 with ⟨_,_,_,g2⟩ | ⟨rfl,g2⟩
 ·cases g2
 obtain ⟨i,off,rfl,g3⟩:=V.onP_ok g2
 obtain ⟨g4,g5⟩:=brec_if g3
 have g4:=Nat.eq_of_beq_eq_true g4
 subst g4
 obtain ⟨q1,q2,g6⟩:=O.getK_ok g5
 split at g6
 case h_2=>cases g6
 rename_i q o len cap hsv
 obtain ⟨g7,g8⟩:=andB_ok g6
 obtain ⟨g9,g10⟩:=andB_ok g8
 have g7:=Nat.eq_of_beq_eq_true g7
 subst g7
 obtain ⟨e1,e2,e3⟩:=emptyB_ok (ρ:=ρ) g10
 obtain ⟨b,rfl,hb⟩:=rvs_one hv
 have hb : RV r (.pointer (some ⟨i.nat,0,none⟩)) b:=hb
 cases hb with
 | @ptr _ b c _ k1 =>
 obtain ⟨v',t1,t2,t3⟩:=cell_of hr hW q1 q2 k1
 rw [hsv] at t3
 have t3 : RV r (.slice (some ⟨q.nat,0,none⟩) len cap) v':=t3
 have sh : ∃ bq cq cc off',r q.nat=some (bq,cq)∧v'=.slice (some ⟨bq,off',none⟩) len cc∧(off'=0∨len=0):=by
  cases t3 with
  | slice hq _ _ _=>exact ⟨_,_,_,_,hq,rfl,.inl rfl⟩
  | sliceU hq _ _ _=>exact ⟨_,_,_,_,hq,rfl,.inl rfl⟩
  | sliceE hq=>exact ⟨_,_,_,_,hq,rfl,.inr rfl⟩
 obtain ⟨bq,cq,cc,off',hq,rfl,hoff⟩:=sh
 refine .inl ⟨hf,(hN w b bq off' len cc t1 t2 (by rw [← Nat.blt_eq];exact g9) fun k hk=>?_).mono ?_⟩
 ·obtain ⟨u,u1,u2,u3⟩:=cell_of hr hW e1 (Nat.lt_of_lt_of_le hk e2) hq
  rw [e3 k hk] at u3
  cases u3
  have ho : off'=0:=by
   rcases hoff with h1 | h1
   ·exact h1
   ·rw [h1] at hk
    exact absurd hk (Nat.not_lt_zero k)
  rw [ho,Nat.zero_add]
  exact ⟨u1,u2⟩
 ·rintro en w' ⟨rfl,rfl⟩
  exact ⟨r,_,rfl,Nx.refl hW,.nilSlice 0 0⟩
end Go.Ex
namespace Go.Ex
variable {P : Program} {T : Tr Ty} {F : Tr Func} {ρ : Env} {n : Nat}
def q (n : Nat) : Id:=⟨D8.of (n / 4096 % 8),D8.of (n / 512 % 8),D8.of (n / 64 % 8),D8.of (n / 8 % 8),D8.of (n % 8)⟩
noncomputable section
def allN (m : Nat) (f : Nat→Bool) : Bool:=Nat.rec (motive:=fun _=>Bool) true (fun i ih=>Bool.and (f i) ih) m
def O.sameB (o p : O) : Bool:=match o,p with
 | .big s l pp c e t,.big s' l' p' c' e' t'=>O.alike (.big s l pp c e t) (.big s' l' p' c' e' t')
 | .map es c,.map es' c'=>O.alike (.map es c) (.map es' c')
 | .byt s m e t,.byt s' m' e' t'=>O.alike (.byt s m e t) (.byt s' m' e' t')
 | .no,.no=>true
 | o,p=>Bool.and (Bool.and (O.is o) (O.is p)) (Bool.and (Bool.and (Nat.beq (O.size o) (O.size p)) (Nat.beq (O.elem o) (O.elem p))) (Bool.and (optE Nat.beq (O.tail o) (O.tail p)) (allN (O.size o) fun i=>V.alike (O.get o i) (O.get p i))))
def trL (l : List (Nat × V)) : Tr V:=List.rec (motive:=fun _=>Tr V) .lf (fun x _ ih=>Tr.set ih x.1 x.2) l
abbrev LO:=List (Id × O)
def fillK (L : LO) (t : HT) (k : HT→Bool) : Bool:=List.rec (motive:=fun _=>HT→(HT→Bool)→Bool) (fun t k=>k t) (fun x _ ih t k=>HT.putK t x.1 x.2 fun t=>ih t k) L t k
def dropK (L : LO) (t : HT) (k : HT→Bool) : Bool:=List.rec (motive:=fun _=>HT→(HT→Bool)→Bool) (fun t k=>k t) (fun x _ ih t k=>HT.putK t x.1 .no fun t=>ih t k) L t k
def subB (L : LO) (t : HT) : Bool:=List.rec (motive:=fun _=>Bool) true (fun x _ ih=>Bool.and (O.sameB (HT.at t x.1) x.2) ih) L
structure Memo where
 args : V
 ls : LO
 ns : Id
 v : V
 l1 : LO
 n1 : Id
def liveQ (t : HT) (j : Nat) : Bool:=Bool.and (Nat.beq (q j).nat j) (O.live (HT.at t (q j)))
def queB (t : HT) (z : Nat) : Bool:=Bool.and ((qEnt z).all fun d=>liveQ t (d / 2)) (Bool.or (Nat.beq (qRow z) 0) (liveQ t (qRow z - 1)))
def inQ (z j : Nat) : Bool:=Bool.or ((qEnt z).any fun d=>Nat.beq (d / 2) j) (Nat.beq (qRow z) (j+1))
def ownB (L : LO) (t : HT) (j : Nat) : Bool:=L.any fun y=>match O.code (HT.at t y.1) with
 | some (s,z)=>Bool.and (Nat.beq s 5) (Bool.and (Nat.blt hid z) (inQ (z - (hid+1)) j))
 | none=>false
def closedB (L : LO) (t : HT) : Bool:=L.all fun x=>match O.code (HT.at t x.1) with
 | some (_,z)=>match Nat.beq z hid with
  | true=>ownB L t x.1.nat
  | false=>queB t (z - (hid+1))
 | none=>true
def hidIn (L : LO) (t : HT) : Bool:=Bool.and (t.lg.all fun i=>Bool.or (Bool.not (O.hidB (HT.at t i))) (L.any fun y=>Id.alike y.1 i)) (L.all fun y=>O.live y.2)
def memoRun (T : Tr Ty) (F : Tr Func) (dr : Nat→Array Oper→Option RgF) (nt : FuncId→Option CF) (M m : Nat) (f : FuncId) (μ : Memo) : Bool:=Bool.and (μ.ls.all fun y=>O.live y.2) (fillK μ.ls HT.new fun t=>Bool.and (closedB μ.ls t) (callK T F dr nt M m f μ.args ⟨t,μ.ns⟩ fun u l=>Bool.and (Bool.and (V.alike u μ.v) (Id.alike l.n μ.n1)) (Bool.and (subB μ.l1 l.t) (hidIn μ.l1 l.t))))
def memoC (μ : Memo) (slow : CF) : CF:=⟨fun cK m a l k=>Bool.rec (motive:=fun _=>Bool) (slow.f cK m a l k) (dropK μ.ls l.t fun t=>fillK μ.l1 t fun t=>k μ.v ⟨t,μ.n1⟩) (Bool.and (Bool.and (V.alike a μ.args) (Id.alike l.n μ.ns)) (subB μ.ls l.t))⟩
end
end Go.Ex
namespace Go.Ex
variable {P : Program} {T : Tr Ty} {F : Tr Func} {ρ : Env} {n : Nat}
def keys (L : LO) : List Id:=L.map (·.1)
noncomputable def fullT : LO→HT→HT
 | [],t=>t
 | x :: r,t=>fullT r (t.put x.1 x.2)
noncomputable def dropT : LO→HT→HT
 | [],t=>t
 | x :: r,t=>dropT r (t.put x.1 .no)
theorem fillK_eq (L : LO) (t : HT) (k : HT→Bool) : fillK L t k=k (fullT L t):=by
 induction L generalizing t with
 | nil=>rfl
 | cons x r ih =>
  show HT.putK t x.1 x.2 (fun t=>fillK r t k)=_
  rw [HT.putK_eq,ih];rfl
theorem dropK_eq (L : LO) (t : HT) (k : HT→Bool) : dropK L t k=k (dropT L t):=by
 induction L generalizing t with
 | nil=>rfl
 | cons x r ih =>
  show HT.putK t x.1 .no (fun t=>dropK r t k)=_
  rw [HT.putK_eq,ih];rfl
theorem fullT_hr {L : LO} {t : HT} {m : Id} {h : CH} (hr : HR ρ ⟨t,m⟩ h) : ∃ h',HR ρ ⟨fullT L t,m⟩ h':=by
 induction L generalizing t h with
 | nil=>exact ⟨h,hr⟩
 | cons x r ih =>
  obtain ⟨h1,q1⟩:=put_any hr x.1 x.2
  exact ih q1
theorem dropT_hr {L : LO} {t : HT} {m : Id} {h : CH} (hr : HR ρ ⟨t,m⟩ h) : ∃ h',HR ρ ⟨dropT L t,m⟩ h':=by
 induction L generalizing t h with
 | nil=>exact ⟨h,hr⟩
 | cons x r ih =>
  obtain ⟨h1,q1⟩:=put_any hr x.1 .no
  exact ih q1
theorem fullT_at {L : LO} {t : HT} (i : Id) : (∃ x ∈ L,x.1=i∧(fullT L t).at i=x.2)∨(i ∉ keys L∧(fullT L t).at i=t.at i):=by
 induction L generalizing t with
 | nil=>exact .inr ⟨fun h=>(by cases h),rfl⟩
 | cons y r ih =>
  rcases ih (t:=t.put y.1 y.2) with ⟨x,hx,h1,h2⟩ | ⟨h1,h2⟩
  ·exact .inl ⟨x,List.mem_cons_of_mem _ hx,h1,h2⟩
  ·rw [HT.at_put] at h2
   by_cases he : y.1=i
   ·rw [if_pos he] at h2
    exact .inl ⟨y,List.mem_cons_self ..,he,h2⟩
   ·rw [if_neg he] at h2
    refine .inr ⟨fun h=>?_,h2⟩
    rcases List.mem_cons.1 h with h | h
    ·exact he h.symm
    ·exact h1 h
theorem dropT_at {L : LO} {t : HT} (i : Id) : (i ∈ keys L∧(dropT L t).at i=.no)∨(i ∉ keys L∧(dropT L t).at i=t.at i):=by
 induction L generalizing t with
 | nil=>exact .inr ⟨fun h=>(by cases h),rfl⟩
 | cons y r ih =>
  rcases ih (t:=t.put y.1 .no) with ⟨h1,h2⟩ | ⟨h1,h2⟩
  ·exact .inl ⟨List.mem_cons_of_mem _ h1,h2⟩
  ·rw [HT.at_put] at h2
   by_cases he : y.1=i
   ·rw [if_pos he] at h2
    exact .inl ⟨he ▸ List.mem_cons_self ..,h2⟩
   ·rw [if_neg he] at h2
    refine .inr ⟨fun h=>?_,h2⟩
    rcases List.mem_cons.1 h with h | h
    ·exact he h.symm
    ·exact h1 h
def Same (o p : O) : Prop:=(o.is=true∧p.is=true∧o.size=p.size∧o.elem=p.elem∧o.tail=p.tail∧∀ i,i < o.size→o.get i=p.get i)∨o=p
theorem allN_ok {m : Nat} {f : Nat→Bool} (h : allN m f=true) : ∀ i,i < m→f i=true:=by
 induction m with
 | zero=>intro i hi;omega
 | succ m ih =>
  obtain ⟨h1,h2⟩:=andB_ok h
  intro i hi
  by_cases he : i=m
  ·subst he;exact h1
  ·exact ih h2 i (by omega)
theorem sameB_ok {o p : O} (h : O.sameB o p=true) : Same o p:=by
 unfold O.sameB at h
 split at h
 ·exact .inr (O.alike_ok h)
 ·exact .inr (O.alike_ok h)
 ·exact .inr (O.alike_ok h)
 ·exact .inr rfl
 ·obtain ⟨h1,h2⟩:=andB_ok h
  obtain ⟨h3,h4⟩:=andB_ok h1
  obtain ⟨h5,h6⟩:=andB_ok h2
  obtain ⟨h7,h8⟩:=andB_ok h5
  obtain ⟨h9,h10⟩:=andB_ok h6
  exact .inl ⟨h3,h4,beq_ok h7,beq_ok h8,optE_ok (fun a b h=>beq_ok h) h9,fun i hi=>V.alike_ok (allN_ok h10 i hi)⟩
theorem Same.symm {o p : O} (h : Same o p) : Same p o:=by
 rcases h with ⟨a,b,c,d,e,f⟩ | h
 ·exact .inl ⟨b,a,c.symm,d.symm,e.symm,fun i hi=>(f i (by rw [c];exact hi)).symm⟩
 ·exact .inr h.symm
theorem Same.trans {o p s : O} (h : Same o p) (k : Same p s) : Same o s:=by
 rcases h with ⟨a,b,c,d,e,f⟩ | rfl
 ·rcases k with ⟨a',b',c',d',e',f'⟩ | rfl
  ·exact .inl ⟨a,b',c.trans c',d.trans d',e.trans e',fun i hi=>(f i hi).trans (f' i (by rw [← c];exact hi))⟩
  ·exact .inl ⟨a,b,c,d,e,f⟩
 ·exact k
theorem subB_ok {L : LO} {t : HT} (h : subB L t=true) : ∀ x ∈ L,Same (t.at x.1) x.2:=by
 induction L with
 | nil=>intro x hx;cases hx
 | cons y r ih =>
  obtain ⟨h1,h2⟩:=andB_ok h
  intro x hx
  rcases List.mem_cons.1 hx with rfl | hx
  ·exact sameB_ok h1
  ·exact ih h2 x hx
theorem same_obj_row {ρ ρ' : Env} (hv : ρ'.tok=ρ.tok) {l l' : H} {h h' : CH} (hr : HR ρ' l h) (hr' : HR ρ l' h') {i : Id} (his : (l'.t.at i).is=true) (he : l'.t.at i=l.t.at i) {o' : CObj} (hj : h'.t.get i.nat=some o') : ∃ o,h.t.get i.nat=some o∧∀ {r : Ren} {c : Nat} {x : Obj},RO r c o x→RO r c o' x:=by
 obtain ⟨p1,c1,k1,k2⟩:=hr'.row his
 rw [hj] at k1
 injection k1 with k1
 subst k1
 obtain ⟨p2,c2,k3,k4⟩:=hr.row (by rw [← he];exact his)
 refine ⟨_,k3,fun {r c x} hro=>?_⟩
 obtain ⟨arr,fz,hz,h1,h2,h3,h4⟩:=hro
 rw [← he] at h1 h2 h3 h4
 refine ⟨arr,fz,hz,h1,h2,h3,fun j hq=>?_⟩
 obtain ⟨a,b,g1,g2,g3⟩:=h4 j hq
 rw [← he] at k4
 rw [k4 j hq] at g1
 injection g1 with g1
 subst g1
 have hval : ∀ v : V,v.val ρ'=v.val ρ:=fun v=>by unfold V.val;rw [hv]
 rw [hval] at g3
 exact ⟨_,b,k2 j hq,g2,g3⟩
theorem same_obj {ρ ρ' : Env} (hv : ρ'.tok=ρ.tok) {l l' : H} {h h' : CH} (hr : HR ρ' l h) (hr' : HR ρ l' h') {i : Id} (hs : Same (l'.t.at i) (l.t.at i)) {o' : CObj} (hj : h'.t.get i.nat=some o') : ∃ o,h.t.get i.nat=some o∧∀ {r : Ren} {c : Nat} {x : Obj},RO r c o x→RO r c o' x:=by
 rcases hs with ⟨s1,s2,s3,s4,s5,s6⟩ | he
 ·obtain ⟨p1,c1,k1,k2⟩:=hr'.row s1
  rw [hj] at k1
  injection k1 with k1
  subst k1
  obtain ⟨p2,c2,k3,k4⟩:=hr.row s2
  refine ⟨_,k3,fun {r c x} hro=>?_⟩
  obtain ⟨arr,fz,hz,h1,h2,h3,h4⟩:=hro
  rw [← s3] at h2 h3 h4
  rw [← s5] at h3
  rw [← s4] at h1
  refine ⟨arr,fz,hz,h1,h2,h3,fun j hq=>?_⟩
  obtain ⟨a,b,g1,g2,g3⟩:=h4 j hq
  rw [k4 j (by rw [← s3];exact hq)] at g1
  injection g1 with g1
  subst g1
  refine ⟨_,b,k2 j hq,g2,?_⟩
  have hval : ∀ v : V,v.val ρ'=v.val ρ:=fun v=>by unfold V.val;rw [hv]
  rw [hval,← s6 j hq] at g3
  exact g3
 ·by_cases hlive : (l'.t.at i).live=true
  ·have hr2 : HR ρ' ⟨⟨l.t.tr,l.t.lg⟩,l.n⟩ h:=hr
   -- one object alone
   cases his : (l'.t.at i).is with
   | true =>
    exact same_obj_row hv hr hr' his he hj
   | false =>
    have hx : ∃ x,(l'.t.at i).other ρ=some x:=by
     generalize l'.t.at i=o at hlive his
     cases o with
     | no=>cases hlive
     | map es c=>exact ⟨_,rfl⟩
     | iter m a b c=>exact ⟨_,rfl⟩
     | txt a b c=>exact ⟨_,rfl⟩
     | _=>cases his
    obtain ⟨x,hx⟩:=hx
    have k1:=hr'.other i x hx
    rw [hj] at k1
    injection k1 with k1
    subst k1
    have hother : (l.t.at i).other ρ'=some o':=by
     rw [← he,← hx]
     generalize l'.t.at i=o
     cases o <;> first | rfl | (unfold O.other ML.ents;rw [hv])
    exact ⟨o',hr.other i o' hother,fun hro=>hro⟩
  ·have:=hr'.gone i.nat fun j hj2=>by
    rw [Id.nat_inj hj2]
    cases hc : (l'.t.at i).live with
    | false=>rfl
    | true=>exact absurd hc hlive
   rw [hj] at this
   cases this
theorem HR.id {l : H} {h : CH} (hr : HR ρ l h) {j : Nat} {o : CObj} (hj : h.t.get j=some o) : ∃ i : Id,i.nat=j∧(l.t.at i).live=true:=by
 by_cases hex : ∃ i : Id,i.nat=j∧(l.t.at i).live=true
 ·exact hex
 ·have:=hr.gone j fun i hi=>by
   cases hc : (l.t.at i).live with
   | false=>rfl
   | true=>exact absurd ⟨i,hi,hc⟩ hex
  rw [hj] at this
  cases this
theorem HR.get {l : H} {h : CH} (hr : HR ρ l h) {i : Id} (hl : (l.t.at i).live=true) : ∃ o,h.t.get i.nat=some o:=by
 cases his : (l.t.at i).is with
 | true =>
  obtain ⟨x,h1,_⟩:=hr.here i his
  exact ⟨x,h1⟩
 | false =>
  have hx : ∃ x,(l.t.at i).other ρ=some x:=by
   generalize l.t.at i=o at hl his
   cases o with
   | no=>cases hl
   | map es c=>exact ⟨_,rfl⟩
   | iter m a b c=>exact ⟨_,rfl⟩
   | txt a b c=>exact ⟨_,rfl⟩
   | _=>cases his
  obtain ⟨x,hx⟩:=hx
  exact ⟨x,hr.other i x hx⟩
theorem Same.live {o p : O} (h : Same o p) : o.live=p.live:=by
 rcases h with ⟨a,b,_⟩ | rfl
 ·rw [O.live_is a,O.live_is b]
 ·rfl
theorem Same.code {o p : O} (h : Same o p) : o.code=p.code:=by
 rcases h with ⟨a,b,c,_,e,_⟩ | rfl
 ·unfold O.code
  rw [a,b,c,e]
 ·rfl
def Closed (t : HT) : Prop:=(∀ (i : Id) (z : Nat),(t.at i).code=some (5,hid+1+z)→∀ j,qIn z j→∃ k : Id,k.nat=j∧(t.at k).live=true)∧∀ (i : Id) (s : Nat),(t.at i).code=some (s,hid)→∃ (k : Id) (z : Nat),(t.at k).code=some (5,hid+1+z)∧qIn z i.nat
theorem live_code {o : O} {x : Nat × Nat} (h : o.code=some x) : o.live=true:=by
 cases o <;> first | rfl | cases h
theorem closedB_ok {L : LO} {t : HT} (hL : ∀ i,(t.at i).live=true→i ∈ keys L) (h : closedB L t=true) : Closed t:=by
 have at1 : ∀ i,(t.at i).live=true→∃ x ∈ L,x.1=i:=fun i hi=>by
  obtain ⟨x,h1,h2⟩:=List.mem_map.1 (hL i hi)
  exact ⟨x,h1,h2⟩
 have liveQ_ok : ∀ {j},liveQ t j=true→∃ k : Id,k.nat=j∧(t.at k).live=true:=fun {j} hj=>by
  obtain ⟨h1,h2⟩:=andB_ok hj
  exact ⟨q j,beq_ok h1,h2⟩
 refine ⟨fun i z hi j hj=>?_,fun i s hi=>?_⟩
 ·obtain ⟨x,hx,rfl⟩:=at1 i (live_code hi)
  have hx2:=List.all_eq_true.1 h x hx
  have hi' : (HT.at t x.1).code=some (5,hid+1+z):=hi
  rw [hi'] at hx2
  dsimp only at hx2
  have hne : Nat.beq (hid+1+z) hid=false:=by
   cases hb : Nat.beq (hid+1+z) hid with
   | false=>rfl
   | true=>have:=beq_ok hb;omega
  rw [hne] at hx2
  have e : hid+1+z - (hid+1)=z:=by omega
  have hx2 : queB t (hid+1+z - (hid+1))=true:=hx2
  rw [e] at hx2
  obtain ⟨k1,k2⟩:=andB_ok hx2
  rcases hj with ⟨d,hd,rfl⟩ | hj
  ·exact liveQ_ok (List.all_eq_true.1 k1 d hd)
  ·rcases (Bool.or_eq_true _ _).mp k2 with k3 | k3
   ·have:=beq_ok k3;omega
   ·rw [hj] at k3;exact liveQ_ok k3
 ·obtain ⟨x,hx,rfl⟩:=at1 i (live_code hi)
  have hx2:=List.all_eq_true.1 h x hx
  have hi' : (HT.at t x.1).code=some (s,hid):=hi
  rw [hi'] at hx2
  dsimp only at hx2
  rw [show Nat.beq hid hid=true from rfl] at hx2
  obtain ⟨y,hy,k1⟩:=List.any_eq_true.1 hx2
  split at k1
  ·rename_i s' z' hc
   obtain ⟨k2,k3⟩:=andB_ok k1
   obtain ⟨k4,k5⟩:=andB_ok k3
   rw [Nat.blt_eq] at k4
   have k2:=beq_ok k2
   subst k2
   refine ⟨y.1,z' - (hid+1),by rw [show hid+1+(z' - (hid+1))=z' from by omega];exact hc,?_⟩
   rcases (Bool.or_eq_true _ _).mp k5 with k6 | k6
   ·obtain ⟨d,hd,k7⟩:=List.any_eq_true.1 k6
    exact .inl ⟨d,hd,beq_ok k7⟩
   ·exact .inr (beq_ok k6)
  ·cases k1
theorem HR.none {l : H} {h : CH} (hr : HR ρ l h) {j : Nat} (hj : h.t.get j=none) (i : Id) (hi : i.nat=j) : (l.t.at i).live=false:=by
 cases hl : (l.t.at i).live with
 | false=>rfl
 | true =>
  obtain ⟨o,ho⟩:=hr.get hl
  rw [hi,hj] at ho
  cases ho
theorem part_call {ρ0 : Env} (hv : ρ0.tok=ρ.tok) {f : FuncId} {args : List Value} {v : Value} {ls l l1 l' : H} {hs h h1 h' : CH} (hsr : HR ρ0 ls hs) (hr : HR ρ l h) (h1r : HR ρ0 l1 h1) (hr' : HR ρ l' h') (hn : ls.n=l.n) (hn1 : l'.n=l1.n)
  (hsub : ∀ i,(ls.t.at i).live=true→Same (ls.t.at i) (l.t.at i)) (hout : ∀ i,(l'.t.at i).live=true→Same (l'.t.at i) (l1.t.at i)∨(l'.t.at i=l.t.at i∧(ls.t.at i).live=false)) (hcl : Closed ls.t) (hkeep : ∀ i,(l1.t.at i).code ≠ none→(l'.t.at i).code=(l1.t.at i).code) (hrest : ∀ i,(ls.t.at i).live=false→(l1.t.at i).live=false→l'.t.at i=l.t.at i)
  (hc : CallRel P f ⟨args⟩ hs v h1) : CallRel P f ⟨args⟩ h v h':=fun r cargs w hva hW=>by
 have hnn : hs.n=h.n:=by rw [hsr.n,hr.n,hn]
 have hn1' : h'.n=h1.n:=by rw [hr'.n,h1r.n,hn1]
 -- the part lies in the world
 have pin : ∀ {j : Nat} {o : CObj},hs.t.get j=some o→∃ (i : Id) (o2 : CObj),i.nat=j∧(ls.t.at i).live=true∧h.t.get j=some o2∧∀ {r : Ren} {c : Nat} {x : Obj},RO r c o2 x→RO r c o x:=fun {j o} hj=>by
  obtain ⟨i,rfl,hl⟩:=hsr.id hj
  obtain ⟨o2,g1,g2⟩:=same_obj (ρ:=ρ0) (ρ':=ρ) hv.symm hr hsr (hsub i hl) hj
  exact ⟨i,o2,rfl,hl,g1,g2⟩
 have F4 : ∀ j o,hs.t.get j=some o→hs.hc j=h.hc j:=fun j o hj=>by
  obtain ⟨i,rfl,hl⟩:=hsr.id hj
  rw [hsr.hc,hr.hc,(hsub i hl).code]
 have F4' : ∀ j x,hs.hc j=some x→h.hc j=some x:=fun j x hj=>by
  obtain ⟨o,ho,_⟩:=CH.hc_some hj
  rw [← F4 j o ho];exact hj
 have queId : ∀ {j x},hs.hc j=some x→∃ i : Id,i.nat=j∧(ls.t.at i).code=some x:=fun {j x} hj=>by
  obtain ⟨o,ho,_⟩:=CH.hc_some hj
  obtain ⟨i,rfl,hl⟩:=hsr.id ho
  exact ⟨i,rfl,by rw [← hsr.hc];exact hj⟩
 have F5 : ∀ i z,hs.hc i=some (5,hid+1+z)→∀ j s,qIn z j→h.hc j=some (s,hid)→hs.hc j=some (s,hid):=fun i z hi j s hj hh=>by
  obtain ⟨k,rfl,hk⟩:=queId hi
  obtain ⟨k2,rfl,hk2⟩:=hcl.1 k z hk j hj
  obtain ⟨o,ho⟩:=hsr.get hk2
  rw [F4 _ o ho];exact hh
 have F6 : ∀ j s,hs.hc j=some (s,hid)→∃ i z,hs.hc i=some (5,hid+1+z)∧qIn z j:=fun j s hj=>by
  obtain ⟨k,rfl,hk⟩:=queId hj
  obtain ⟨k2,z,g1,g2⟩:=hcl.2 k s hk
  exact ⟨k2.nat,z,by rw [hsr.hc];exact g1,g2⟩
 have hWs : RW r hs w:=⟨fun j o hj=>by
  obtain ⟨i,o2,_,_,g1,g2⟩:=pin hj
  obtain ⟨b,c,x,k1,k2,k3⟩:=hW.obj j o2 g1
  exact ⟨b,c,x,k1,k2,g2 k3⟩,fun i j o p b c d hi hj k1 k2=>by
  obtain ⟨_,o2,_,_,g1,_⟩:=pin hi
  obtain ⟨_,p2,_,_,g2,_⟩:=pin hj
  exact hW.one i j o2 p2 b c d g1 g2 k1 k2,fun i x hi=>by rw [hnn];exact hW.top i x hi,hW.low,hW.pin,hW.que.sub F4' F5⟩
 have key : ∀ {e : Ending} {w' : World},(∃ r' v',e=.returned v'∧Nx r hs w r' h1 w'∧RV r' v v')→∃ r' v',e=.returned v'∧Nx r h w r' h' w'∧RV r' v v':=fun {e w'} ⟨r',v',he,hN,hv'⟩=>by
  refine ⟨r',v',he,?_,hv'⟩
  -- what is not of the part stays
  have stay : ∀ {j : Nat} {o : CObj} {b c : Nat},h.t.get j=some o→r j=some (b,c)→(∀ i : Id,i.nat=j→(ls.t.at i).live=false)→w'.heap[b]?=w.heap[b]?:=fun {j o b c} hj hb hno=>by
   refine hN.frame b (hW.low j b c hb) fun i p d hi hd=>?_
   obtain ⟨i',p2,h1',h2',h3',_⟩:=pin hi
   have:=hW.one i j p2 o b d c h3' hj hd hb
   subst this
   rw [hno i' h1'] at h2'
   cases h2'
  have two : ∀ {j : Nat} {o' : CObj},h'.t.get j=some o'→(∃ o1,h1.t.get j=some o1∧∀ {r : Ren} {c : Nat} {x : Obj},RO r c o1 x→RO r c o' x)∨(∃ o1,h.t.get j=some o1∧(∀ i : Id,i.nat=j→(ls.t.at i).live=false)∧∀ {r : Ren} {c : Nat} {x : Obj},RO r c o1 x→RO r c o' x):=fun {j o'} hj=>by
   obtain ⟨i,rfl,hl⟩:=hr'.id hj
   rcases hout i hl with hsm | ⟨hsm,hno⟩
   ·obtain ⟨o1,g1,g2⟩:=same_obj (ρ:=ρ) (ρ':=ρ0) hv h1r hr' hsm hj
    exact .inl ⟨o1,g1,g2⟩
   ·obtain ⟨o1,g1,g2⟩:=same_obj (ρ:=ρ) (ρ':=ρ) rfl hr hr' (.inr hsm) hj
    exact .inr ⟨o1,g1,fun i' hi'=>by rw [Id.nat_inj hi'];exact hno,g2⟩
  -- old blocks of what stays,and the part's
  have apart : ∀ {i j : Nat} {o1 o2 : CObj} {b c d : Nat},h1.t.get i=some o1→h.t.get j=some o2→(∀ k : Id,k.nat=j→(ls.t.at k).live=false)→r' i=some (b,c)→r' j=some (b,d)→False:=fun {i j o1 o2 b c d} hi hj hno k1 k2=>by
   obtain ⟨bj,cj,x,m1,m2,m3⟩:=hW.obj j o2 hj
   have m4:=hN.le _ _ m1
   rw [k2] at m4
   injection m4 with m4
   injection m4 with m4 m5
   subst m4
   rcases hN.live i o1 b c hi k1 with hlt | ⟨i',p,d',hi',hd'⟩
   ·have:=hW.low j b cj m1
    omega
   ·obtain ⟨i2,p2,g1,g2,g3,_⟩:=pin hi'
    have:=hW.one i' j p2 o2 b d' cj g3 hj hd' m1
    subst this
    rw [hno i2 g1] at g2
    cases g2
  refine ⟨hN.le,⟨fun j o' hj=>?_,fun i j o p b c d hi hj k1 k2=>?_,fun i x hi=>by rw [hn1'];exact hN.rw.top i x hi,hN.rw.low,hN.rw.pin,?_⟩,hN.size,hN.os,hN.tape,hN.output,fun b hb hnt=>?_,fun j o' b c hj hb=>?_,by rw [hn1',← hnn];exact hN.mono,fun i x hx=>by rw [← hnn];exact hN.new i x hx⟩
  ·rcases two hj with ⟨o1,g1,g2⟩ | ⟨o1,g1,hno,g2⟩
   ·obtain ⟨b,c,x,k1,k2,k3⟩:=hN.rw.obj j o1 g1
    exact ⟨b,c,x,k1,k2,g2 k3⟩
   ·obtain ⟨b,c,x,k1,k2,k3⟩:=hW.obj j o1 g1
    exact ⟨b,c,x,hN.le _ _ k1,(stay g1 k1 hno).trans k2,g2 (k3.mono hN.le)⟩
  ·rcases two hi with ⟨o1,g1,_⟩ | ⟨o1,g1,no1,_⟩
   ·rcases two hj with ⟨o2,g2,_⟩ | ⟨o2,g2,no2,_⟩
    ·exact hN.rw.one i j o1 o2 b c d g1 g2 k1 k2
    ·exact (apart g1 g2 no2 k1 k2).elim
   ·rcases two hj with ⟨o2,g2,_⟩ | ⟨o2,g2,no2,_⟩
    ·exact (apart g2 g1 no1 k2 k1).elim
    ·obtain ⟨b1,c1,_,m1,_⟩:=hW.obj i o1 g1
     obtain ⟨b2,c2,_,m2,_⟩:=hW.obj j o2 g2
     have e1:=hN.le _ _ m1
     have e2:=hN.le _ _ m2
     rw [k1] at e1
     rw [k2] at e2
     injection e1 with e1
     injection e1 with e1 _
     injection e2 with e2
     injection e2 with e2 _
     subst e1 e2
     exact hW.one i j o1 o2 _ c1 c2 g1 g2 m1 m2
  ·refine hW.que.join hN.rw.que hN.le (hs:=hs) (fun j x hj=>?_) (fun j x hj=>?_) (fun j x hj hno=>?_) F4 F6 fun j s x b c hc hno hb=>.of ?_
   ·obtain ⟨o,ho,_⟩:=CH.hc_some hj
    obtain ⟨i,rfl,_⟩:=h1r.id ho
    rw [h1r.hc] at hj
    rw [hr'.hc,hkeep i (by rw [hj];simp)]
    exact hj
   ·obtain ⟨o,ho,_⟩:=CH.hc_some hj
    obtain ⟨i,rfl,hl⟩:=hr'.id ho
    rw [hr'.hc] at hj
    rcases hout i hl with hsm | ⟨he,hno⟩
    ·exact .inl (by rw [h1r.hc,← hsm.code];exact hj)
    ·refine .inr ⟨by rw [hr.hc,← he];exact hj,?_⟩
     cases hg : hs.t.get i.nat with
     | none=>rfl
     | some o2 =>
      obtain ⟨i2,e2,hl2⟩:=hsr.id hg
      have:=Id.nat_inj e2
      subst this
      rw [hno] at hl2
      cases hl2
   ·obtain ⟨o2,ho2,_⟩:=CH.hc_some hj
    obtain ⟨i,rfl,hl⟩:=hr.id ho2
    have hn1 : h1.t.get i.nat=none:=by
     cases hg : h1.t.get i.nat with
     | none=>rfl
     | some o1 =>
      obtain ⟨b2,c2,_,m2,_⟩:=hW.obj i.nat o2 ho2
      exact (apart hg ho2 (fun k hk=>hsr.none hno k hk) (hN.le _ _ m2) (hN.le _ _ m2)).elim
    refine ⟨hn1,?_⟩
    rw [hr'.hc,hrest i (hsr.none hno i rfl) (h1r.none hn1 i rfl),← hr.hc]
    exact hj
   ·obtain ⟨o2,ho2,_⟩:=CH.hc_some hc
    exact stay ho2 hb fun k hk=>hsr.none hno k hk
  ·refine hN.frame b hb fun i p c hi=>?_
   obtain ⟨_,p2,_,_,g1,_⟩:=pin hi
   exact hnt i p2 c g1
  ·rcases two hj with ⟨o1,g1,_⟩ | ⟨o1,g1,_,_⟩
   ·rcases hN.live j o1 b c g1 hb with hlt | ⟨i,p,d,hi,hd⟩
    ·exact .inl hlt
    ·obtain ⟨_,p2,_,_,g3,_⟩:=pin hi
     exact .inr ⟨i,p2,d,g3,hd⟩
   ·obtain ⟨b1,c1,_,m1,_⟩:=hW.obj j o1 g1
    have e1:=hN.le _ _ m1
    rw [hb] at e1
    injection e1 with e1
    injection e1 with e1 _
    subst e1
    exact .inr ⟨j,o1,c1,g1,m1⟩
 rcases hc r cargs w hva hWs with ⟨hnx,hcalls⟩ | ⟨e,v',w',hext,hrun,hR⟩
 ·exact .inl ⟨hnx,hcalls.mono fun e w' he=>key he⟩
 ·exact .inr ⟨e,v',w',hext,hrun,key hR⟩
theorem memo_ok (hT : TabOK P T) (hF : FnsOK P F) {dr : Nat→Array Oper→Option RgF} (hD : ∀ b,DrOK P (ρ.at b) dr) {nt : FuncId→Option CF} (hN : ∀ b,NtOK P (ρ.at b) nt) {M m : Nat} {f : FuncId} {μ : Memo} (hμ : memoRun T F dr nt M m f μ=true) {slow : CF} (hs : CfOK P ρ f slow) : CfOK P ρ f (memoC μ slow):=by
 refine ⟨hs.1,fun cK hC hE m' args l k h=>?_⟩
 have h : Bool.rec (motive:=fun _=>Bool) (slow.f cK m' args l k) (dropK μ.ls l.t fun t=>fillK μ.l1 t fun t=>k μ.v ⟨t,μ.n1⟩) (Bool.and (Bool.and (V.alike args μ.args) (Id.alike l.n μ.ns)) (subB μ.ls l.t))=true:=h
 rcases brec_ok h with ⟨hb,h⟩ | ⟨_,h⟩
 case inr=>exact hs.2 cK hC hE m' args l k h
 obtain ⟨hb1,hb2⟩:=andB_ok hb
 obtain ⟨hb3,hb4⟩:=andB_ok hb1
 have ea:=V.alike_ok hb3
 have en:=Id.alike_ok hb4
 have hsub:=subB_ok hb2
 rw [dropK_eq,fillK_eq] at h
 refine ⟨μ.v,_,h,fun hh hr=>?_⟩
 -- memory for the end
 have hout : ∃ h',HR ρ ⟨fullT μ.l1 (dropT μ.ls l.t),μ.n1⟩ h':=by
  obtain ⟨h1,q1⟩:=dropT_hr (L:=μ.ls) (t:=l.t) (m:=l.n) hr
  obtain ⟨h2,q2⟩:=fullT_hr (L:=μ.l1) q1
  exact ⟨⟨h2.t,μ.n1.nat⟩,⟨rfl,q2.here,q2.other,q2.gone,q2.old⟩⟩
 obtain ⟨h',hr'⟩:=hout
 refine ⟨h',hr',?_⟩
 -- the run that was made
 unfold memoRun at hμ
 rw [fillK_eq] at hμ
 have hnil : HR (ρ.at T5.new) ⟨HT.new,μ.ns⟩ ⟨.lf,μ.ns.nat⟩:=by
  have:=HR.nil (ρ:=ρ.at T5.new) rfl
  exact ⟨rfl,this.here,this.other,this.gone,this.old⟩
 obtain ⟨hsS,hsr⟩:=fullT_hr (L:=μ.ls) hnil
 obtain ⟨hlv,hμ⟩:=andB_ok hμ
 obtain ⟨hclo,hμ⟩:=andB_ok hμ
 obtain ⟨u,l1,g1,g2⟩:=(callK_ok (ρ:=ρ) hT hF hD hN M m).1 T5.new _ _ _ _ hμ
 obtain ⟨g3,g49⟩:=andB_ok g1
 obtain ⟨g4,g48⟩:=andB_ok g49
 obtain ⟨g47,g46⟩:=andB_ok g48
 obtain ⟨g5,g6⟩:=andB_ok g3
 have ev:=V.alike_ok g5
 have en1:=Id.alike_ok g6
 have hsub1:=subB_ok g4
 obtain ⟨h1,h1r,hc⟩:=g2 hsS hsr
 subst ev
 have hc : CallRel P f ⟨args.vals ρ⟩ hsS (μ.v.val ρ) h1:=by rw [ea];exact hc
 refine part_call (ρ:=ρ) (ρ0:=ρ.at T5.new) rfl hsr hr h1r hr' en.symm en1.symm (fun i hi=>?_) (fun i hi=>?_) (closedB_ok (fun i hi=>?_) hclo) (fun i hi=>?_) (fun i hi hi1=>?_) hc
 ·dsimp only at hi ⊢
  rcases fullT_at (L:=μ.ls) (t:=HT.new) i with ⟨x,hx,e1,e2⟩ | ⟨_,e2⟩
  ·rw [e2,← e1]
   exact (hsub x hx).symm
  ·rw [e2,HT.at_new] at hi
   cases hi
 ·dsimp only at hi ⊢
  rcases fullT_at (L:=μ.l1) (t:=dropT μ.ls l.t) i with ⟨x,hx,e1,e2⟩ | ⟨_,e2⟩
  ·rw [e2,← e1]
   exact .inl (hsub1 x hx).symm
  ·rcases dropT_at (L:=μ.ls) (t:=l.t) i with ⟨_,e3⟩ | ⟨e3,e4⟩
   ·rw [e2,e3] at hi
    cases hi
   ·refine .inr ⟨by rw [e2,e4],?_⟩
    rcases fullT_at (L:=μ.ls) (t:=HT.new) i with ⟨x,hx,e5,_⟩ | ⟨_,e5⟩
    ·exact absurd (List.mem_map.2 ⟨x,hx,e5⟩) e3
    ·rw [e5,HT.at_new];rfl
 ·rcases fullT_at (L:=μ.ls) (t:=HT.new) i with ⟨x,hx,e1,_⟩ | ⟨_,e2⟩
  ·exact List.mem_map.2 ⟨x,hx,e1⟩
  ·rw [e2,HT.at_new] at hi
   cases hi
 ·dsimp only
  have hin : i ∈ l1.t.lg:=by
   by_cases h : i ∈ l1.t.lg
   ·exact h
   ·exfalso
    apply hi
    rw [h1r.old i h]
    show O.code (HT.at HT.new i)=none
    rw [HT.at_new];rfl
  have hh : (l1.t.at i).hidB=true:=by
   cases hb : (l1.t.at i).hidB with
   | true=>rfl
   | false=>exact absurd (O.code_hid hb) hi
  have hk:=List.all_eq_true.1 g47 i hin
  have hh' : O.hidB (HT.at l1.t i)=true:=hh
  rw [hh'] at hk
  obtain ⟨y,hy,k1⟩:=List.any_eq_true.1 hk
  have:=Id.alike_ok k1
  rcases fullT_at (L:=μ.l1) (t:=dropT μ.ls l.t) i with ⟨x,hx,e1,e2⟩ | ⟨e1,_⟩
  ·rw [e2,← e1]
   exact (hsub1 x hx).symm.code
  ·exact absurd (List.mem_map.2 ⟨y,hy,this⟩) e1
 ·dsimp only at hi hi1 ⊢
  rcases fullT_at (L:=μ.l1) (t:=dropT μ.ls l.t) i with ⟨x,hx,e1,e2⟩ | ⟨_,e2⟩
  ·have k1:=(hsub1 x hx).live
   have k2:=List.all_eq_true.1 g46 x hx
   rw [e1,hi1] at k1
   have k2 : x.2.live=true:=k2
   rw [k2] at k1
   cases k1
  ·rcases dropT_at (L:=μ.ls) (t:=l.t) i with ⟨e3,_⟩ | ⟨_,e4⟩
   ·exfalso
    obtain ⟨y,hy,e4⟩:=List.mem_map.1 e3
    rcases fullT_at (L:=μ.ls) (t:=HT.new) i with ⟨x,hx,e5,e6⟩ | ⟨e5,_⟩
    ·have k2:=List.all_eq_true.1 hlv x hx
     rw [e6] at hi
     have k2 : x.2.live=true:=k2
     rw [k2] at hi
     cases hi
    ·exact e5 e3
   ·rw [e2,e4]
end Go.Ex
namespace Go.Ex
variable {P : Program} {T : Tr Ty} {F : Tr Func} {ρ : Env} {n : Nat}
theorem insN_perm (k : Nat) (l : List Nat) : (insN k l).Perm (k :: l):=by
 induction l with
 | nil=>exact .refl _
 | cons j r ih =>
  unfold insN
  split
  ·exact .refl _
  ·exact (ih.cons j).trans (.swap k j r)
theorem sortN_perm (l : List Nat) : (sortN l).Perm l:=by
 induction l with
 | nil=>exact .refl _
 | cons k r ih=>exact (insN_perm k _).trans (ih.cons k)
theorem insN_sorted {k : Nat} {l : List Nat} (h : l.Pairwise (·≤·)) : (insN k l).Pairwise (·≤·):=by
 induction l with
 | nil=>exact List.pairwise_singleton _ _
 | cons j r ih =>
  unfold insN
  obtain ⟨h1,h2⟩:=List.pairwise_cons.1 h
  split
  ·rename_i hb
   have hkj:=Nat.le_of_ble_eq_true hb
   refine List.pairwise_cons.2 ⟨fun x hx=>?_,h⟩
   rcases List.mem_cons.1 hx with rfl | hx
   ·exact hkj
   ·exact Nat.le_trans hkj (h1 x hx)
  ·rename_i hb
   have hkj : ¬ k≤j:=fun e=>by rw [Nat.ble_eq_true_of_le e] at hb;cases hb
   refine List.pairwise_cons.2 ⟨fun x hx=>?_,ih h2⟩
   rcases List.mem_cons.1 ((insN_perm k r).mem_iff.1 hx) with rfl | hx
   ·omega
   ·exact h1 x hx
theorem sortN_sorted (l : List Nat) : (sortN l).Pairwise (·≤·):=by
 induction l with
 | nil=>exact .nil
 | cons k r ih=>exact insN_sorted ih
theorem apartN_ok {l : List Nat} (h : apartN l=true) : l.Nodup:=by
 induction l with
 | nil=>exact .nil
 | cons k r ih =>
  obtain ⟨h1,h2⟩:=andB_ok h
  refine List.nodup_cons.2 ⟨fun e=>?_,ih h2⟩
  rw [memN_iff.2 e] at h1
  cases h1
theorem belowN_ok {c : Nat} {l : List Nat} (h : belowN c l=true) : ∀ x ∈ l,x < c:=by
 induction l with
 | nil=>intro x hx;cases hx
 | cons k r ih =>
  obtain ⟨h1,h2⟩:=andB_ok h
  intro x hx
  rcases List.mem_cons.1 hx with rfl | hx
  ·rw [← Nat.blt_eq];exact h1
  ·exact ih h2 x hx
theorem borns_ents (es : ML) : (ML.ents ρ es).map (·.born)=ML.borns es:=by
 induction es with
 | nil=>rfl
 | cons k v b r ih=>exact congrArg (b :: ·) ih
theorem nats_ents {es : ML} {ks : List Nat} (h : ML.nats es=some ks) : (ML.ents ρ es).map (·.key)=ks.map fun m=>.int .i64 (.ofNat m):=by
 induction es generalizing ks with
 | nil=>injection h with h;subst h;rfl
 | cons k v b r ih =>
  unfold ML.nats at h
  split at h
  ·rename_i h0;cases h0
  ·rename_i m k' b' r' h0
   injection h0 with h1 h2 h3 h4
   subst h1 h2 h3 h4
   split at h
   ·rename_i l hl
    injection h with h
    subst h
    exact congrArg (_ :: ·) (ih hl)
   ·cases h
  ·cases h
theorem chainN_vals (l : List Nat) : (chainN l).vals ρ=l.map fun m=>.int .i64 (.ofNat m):=by
 induction l with
 | nil=>rfl
 | cons k r ih =>
  show (V.int .i64 k).val ρ :: (chainN r).vals ρ=_
  rw [ih];rfl
theorem new_row {r : Ren} {h : CH} {w w' : World} (hW : RW r h w) (hb : RowKit.Below w.heap.size w w') (hn : h.n < 2 ^ 39) {gb c : Nat} (hge : w.heap.size≤gb) (hlt : gb < w'.heap.size) {o : CObj} {x : Obj} (hx : w'.heap[gb]?=some x) (hpl : o.plain) (ho : RO (r.put h.n (gb,c)) c o x) :
  Nx r h w (r.put h.n (gb,c)) ⟨h.t.set h.n o,h.n+1⟩ w':=by
 have hle : r.le (r.put h.n (gb,c)):=Ren.put_le hW.fresh
 have hold : ∀ j o,h.t.get j=some o→j ≠ h.n:=fun j o hj hjn=>by
  obtain ⟨b,c,x,k1,_⟩:=hW.obj j o hj
  have:=hW.top j _ k1
  omega
 have hget : ∀ {j : Nat} {p : CObj},(h.t.set h.n o).get j=some p→(j=h.n∧p=o)∨(j ≠ h.n∧h.t.get j=some p):=fun {j p} hj=>by
  rw [Tr.get_set hn] at hj
  by_cases he : h.n=j
  ·rw [if_pos he] at hj
   injection hj with hj
   exact .inl ⟨he.symm,hj.symm⟩
  ·rw [if_neg he] at hj
   exact .inr ⟨fun e=>he e.symm,hj⟩
 have hr' : ∀ {j b d},j ≠ h.n→r.put h.n (gb,c) j=some (b,d)→r j=some (b,d):=fun {j b d} hj hk=>by
  unfold Ren.put at hk
  rw [if_neg hj] at hk
  exact hk
 have hrn : ∀ {b d},r.put h.n (gb,c) h.n=some (b,d)→b=gb:=fun {b d} hk=>by
  rw [Ren.put_at] at hk
  injection hk with hk
  injection hk with hk _
  exact hk.symm
 refine ⟨hle,⟨fun j p hj=>?_,fun j i p s b c1 d1 hj hi k1 k2=>?_,fun j y hj=>?_,fun j b c1 hj=>?_,hW.pin.put (fun k hk _=>hb.block k hk) (.inl (by omega)),hW.que.next hle (hc_new hW hn hpl) fun j s z b c _ hj=>.of (hb.block b (hW.low j b c hj))⟩,hb.size,hb.os,hb.tape,hb.output,fun b hlt2 _=>hb.block b hlt2,fun j p b c1 hj hk=>?_,Nat.le_succ _,fun j y hj=>?_⟩
 ·rcases hget hj with ⟨rfl,rfl⟩ | ⟨hne,hj⟩
  ·exact ⟨gb,c,x,Ren.put_at,hx,ho⟩
  ·obtain ⟨b,c1,y,k1,k2,k3⟩:=hW.obj j p hj
   exact ⟨b,c1,y,hle _ _ k1,(hb.block b (hW.low j b c1 k1)).trans k2,k3.mono hle⟩
 ·rcases hget hj with ⟨rfl,rfl⟩ | ⟨hne,hj⟩
  ·rcases hget hi with ⟨rfl,rfl⟩ | ⟨hne2,hi⟩
   ·rfl
   ·have e1:=hrn k1
    have:=hW.low i b d1 (hr' hne2 k2)
    omega
  ·rcases hget hi with ⟨rfl,rfl⟩ | ⟨hne2,hi⟩
   ·have e1:=hrn k2
    have:=hW.low j b c1 (hr' hne k1)
    omega
   ·exact hW.one j i p s b c1 d1 hj hi (hr' hne k1) (hr' hne2 k2)
 ·by_cases he : j=h.n
  ·subst he;exact Nat.lt_succ_self _
  ·unfold Ren.put at hj
   rw [if_neg he] at hj
   exact Nat.lt_succ_of_lt (hW.top j y hj)
 ·by_cases he : j=h.n
  ·subst he
   rw [hrn hj];exact hlt
  ·exact Nat.lt_of_lt_of_le (hW.low j b c1 (hr' he hj)) hb.size
 ·rcases hget hj with ⟨rfl,rfl⟩ | ⟨hne,hj⟩
  ·exact .inl (by rw [hrn hk];exact hge)
  ·exact .inr ⟨j,p,c1,hj,hr' hne hk⟩
 ·by_cases he : j=h.n
  ·exact .inr (by omega)
  ·unfold Ren.put at hj
   rw [if_neg he] at hj
   exact .inl hj
theorem sorted_ok {g : FuncId→Bool} {e : TypeId} {f : FuncId} (hS : SortedIs P f g e) (hf : Nonext P f) : CfOK P ρ f (sortedC g e):=by
 refine ⟨.inl hf,fun cK hC hE m args l k h=>?_⟩
 unfold sortedC at h
 dsimp only at h
 rcases V.onCo_ok h with ⟨a,r1,rfl,g1⟩ | ⟨_,g1⟩
 case inr=>cases g1
 rcases V.onCo_ok g1 with ⟨_,_,_,g2⟩ | ⟨rfl,g2⟩
 ·cases g2
 obtain ⟨fk,fi,ca,rfl,g3⟩:=V.onFn_ok g2
 obtain ⟨hg,g4⟩:=brec_if g3
 rcases V.onCo_ok g4 with ⟨_,_,_,g5⟩ | ⟨rfl,g5⟩
 ·cases g5
 rcases V.onCo_ok g5 with ⟨b,r2,rfl,g6⟩ | ⟨_,g6⟩
 case inr=>cases g6
 rcases V.onCo_ok g6 with ⟨_,_,_,g7⟩ | ⟨rfl,g7⟩
 ·cases g7
 obtain ⟨i,off,rfl,g8⟩:=V.onP_ok g7
 obtain ⟨g9,g10⟩:=brec_if g8
 have g9:=Nat.eq_of_beq_eq_true g9
 subst g9
 obtain ⟨q1,q2,g11⟩:=O.getK_ok g10
 rcases mapOf_ok g11 with ⟨j,hj,g12⟩ | ⟨_,g12⟩
 case inr=>cases g12
 obtain ⟨es,clock,hes,hck,g13⟩:=onMap_ok g12
 split at g13
 case h_1=>cases g13
 rename_i ks hks
 obtain ⟨g14,g15⟩:=brec_if g13
 obtain ⟨c1,c2⟩:=andB_ok g14
 obtain ⟨c3,c4⟩:=andB_ok c1
 obtain ⟨c5,c6⟩:=andB_ok c2
 obtain ⟨c7,c8⟩:=andB_ok c5
 have d1:=apartN_ok c3
 have d2:=belowN_ok c4
 have d3:=apartN_ok c7
 have d4:=belowN_ok c8
 have d5 : ks.length < 4096:=by rw [← Nat.blt_eq];exact c6
 -- the call,in a world
 have call : ∀ {hh : CH},HR ρ l hh→∀ {r : Ren} {cargs : Array Value} {w : World},RVs r ⟨[(V.fn fk .nil (.cons (.ptr i 0) .nil)).val ρ]⟩ cargs→RW r hh w→Calls P f cargs w fun en w'=>∃ (v : Value) (ss : List Int),en=.returned v∧ss.Perm (ks.map Int.ofNat) ∧
   w'.ownsRow w.heap.size e 1 v ss.length ((ss.mergeSort fun x y=>decide (x≤y)).map (Value.int .i64))∧(v=.slice none 0 0 ↔ ss=[])∧RowKit.Below w.heap.size w w':=fun {hh} hr {r cargs w} hv hW=>by
  obtain ⟨b,rfl,hb⟩:=rvs_one hv
  have hb : RV r (.func (.func fk) #[] #[.pointer (some ⟨i.nat,0,none⟩)]) b:=hb
  cases hb with
  | @func _ _ _ f2 c2' hfl p1 p2 p3 p4 =>
  have hf2 : f2=#[]:=Array.eq_empty_of_size_eq_zero p1.symm
  subst hf2
  obtain ⟨u,rfl,hu⟩:=rvs_one (a:=.pointer (some ⟨i.nat,0,none⟩)) (cargs:=c2') ⟨p2,p4⟩
  cases hu with
  | @ptr _ bm cm _ k1 =>
  obtain ⟨v',t1,t2,t3⟩:=cell_of hr hW q1 q2 k1
  rw [hj] at t3
  have t3 : RV r (.map (some j.nat)) v':=t3
  cases t3 with
  | @map _ bb cb kj =>
  obtain ⟨arr,ha,hrel⟩:=hW.map (hr.other j _ (by rw [hes];rfl)) hck kj
  have hlen:=hrel.1
  have hborn : arr.toList.map (·.born)=ML.borns es:=by
   rw [← borns_ents (ρ:=ρ) es]
   apply List.ext_getElem?
   intro q
   rw [List.getElem?_map,List.getElem?_map]
   cases hq : arr.toList[q]? with
   | none =>
    have : (ML.ents ρ es)[q]?=none:=by
     rw [List.getElem?_eq_none_iff] at hq ⊢
     omega
    rw [this];rfl
   | some x =>
    have hlt : q < (ML.ents ρ es).length:=by
     have:=(List.getElem?_eq_some_iff.1 hq).1
     omega
    have h2:=hrel.2 q _ x (List.getElem?_eq_getElem hlt) hq
    rw [List.getElem?_eq_getElem hlt]
    exact congrArg some h2.1
  have hkey : arr.toList.map (·.key)=ks.map fun m=>.int .i64 (.ofNat m):=by
   rw [← nats_ents (ρ:=ρ) hks]
   apply List.ext_getElem?
   intro q
   rw [List.getElem?_map,List.getElem?_map]
   cases hq : arr.toList[q]? with
   | none =>
    have : (ML.ents ρ es)[q]?=none:=by
     rw [List.getElem?_eq_none_iff] at hq ⊢
     omega
    rw [this];rfl
   | some x =>
    have hlt : q < (ML.ents ρ es).length:=by
     have:=(List.getElem?_eq_some_iff.1 hq).1
     omega
    have h2:=(hrel.2 q _ x (List.getElem?_eq_getElem hlt) hq).2.1
    rw [List.getElem?_eq_getElem hlt]
    have h3 : ((ML.ents ρ es).map (·.key))[q]?=some (ML.ents ρ es)[q].key:=by rw [List.getElem?_map,List.getElem?_eq_getElem hlt];rfl
    rw [nats_ents (ρ:=ρ) hks,List.getElem?_map] at h3
    cases hkq : ks[q]? with
    | none=>rw [hkq] at h3;cases h3
    | some m =>
     rw [hkq] at h3
     injection h3 with h3
     rw [← h3] at h2
     have hx : x.key=.int .i64 (.ofNat m):=by
      generalize x.key=xk at h2
      cases h2
      rfl
     exact congrArg some (hx.trans h3)
  have hst : MapKept.Stamped arr clock:=by
   refine ⟨fun x hx=>?_,by rw [hborn];exact d3,?_⟩
   ·exact d4 _ (by rw [← hborn];exact List.mem_map.2 ⟨x,hx,rfl⟩)
   ·rw [hkey]
    refine List.Pairwise.map _ (fun x y hne he=>?_) d1
    injection he with _ he
    exact hne (Int.ofNat.inj he)
  have hks2 : ∀ x ∈ arr.toList,∃ k : Nat,k < 4611686018427387904∧x.key=.int .i64 (.ofNat k):=fun x hx=>by
   have : x.key ∈ ks.map fun m=>(.int .i64 (.ofNat m) : Value):=by rw [← hkey];exact List.mem_map.2 ⟨x,hx,rfl⟩
   obtain ⟨m,hm,he⟩:=List.mem_map.1 this
   exact ⟨m,d2 m hm,he.symm⟩
  have hsz : arr.size < 4096:=by
   have : arr.toList.length=ks.length:=by
    have:=congrArg List.length hkey
    simpa using this
   rw [Array.length_toList] at this
   omega
  refine (hS fk hg w bm bb arr clock t1 ha hst hks2 hsz).mono ?_
  rintro en w' ⟨v,ss,rfl,h1,h2,h3,h4⟩
  refine ⟨v,ss,rfl,h1.trans ?_,h2,h3,h4⟩
  have : arr.toList.map keyInt=ks.map Int.ofNat:=by
   have e1 : arr.toList.map keyInt=(arr.toList.map (·.key)).map fun v=>match v with | .int _ n=>n | _=>0:=by
    rw [List.map_map];rfl
   rw [e1,hkey,List.map_map];rfl
  rw [this]
 -- the sorted numbers
 have srt : ∀ {ss : List Int},ss.Perm (ks.map Int.ofNat)→(ss.mergeSort fun x y=>decide (x≤y))=(sortN ks).map Int.ofNat:=fun {ss} hp=>by
  refine List.Perm.eq_of_pairwise (le:=fun a b=>decide (a≤b)=true) (fun a b _ _ h1 h2=>by simp only [decide_eq_true_eq] at h1 h2;omega) (List.pairwise_mergeSort (fun a b c h1 h2=>by simp only [decide_eq_true_eq] at *;omega) (fun a b=>by simp only [Bool.or_eq_true,decide_eq_true_eq];omega) ss) ?_ ?_
  ·refine (sortN_sorted ks).map _ fun a b hab=>?_
   simp only [decide_eq_true_eq]
   exact Int.ofNat_le.2 hab
  ·exact (List.mergeSort_perm ss _).trans (hp.trans ((sortN_perm ks).map Int.ofNat).symm)
 have len : ∀ {ss : List Int},ss.Perm (ks.map Int.ofNat)→ss.length=(sortN ks).length:=fun {ss} hp=>by
  rw [hp.length_eq,List.length_map,(sortN_perm ks).length_eq]
 split at g15
 ·rename_i hnil
  refine ⟨.nslc,l,g15,fun hh hr=>⟨hh,hr,fun r cargs w hv hW=>.inl ⟨hf,(call hr hv hW).mono ?_⟩⟩⟩
  rintro en w' ⟨v,ss,rfl,h1,h2,h3,h4⟩
  have : ss=[]:=by
   have:=len h1
   rw [hnil] at this
   exact List.eq_nil_of_length_eq_zero this
  have:=h3.2 this
  subst this
  exact ⟨r,_,rfl,nx_below hW h4,.nilSlice 0 0⟩
 ·rename_i s hs0
  obtain ⟨w1,hw1,g16⟩:=newK_ok g15
  have hvl : ((chainN (sortN ks)).vals ρ).length=(sortN ks).length:=by rw [chainN_vals,List.length_map]
  obtain ⟨r1',r2',r3',r4',r5'⟩:=rowOf_ok (ρ:=ρ) (e:=e) (t:=some 1) hvl
  have hor : OR ρ (rowOf (sortN ks).length (chainN (sortN ks)) e (some 1)) (.row (sortN ks).length ((chainN (sortN ks)).vals ρ).toArray .lf e (some 1)):=by
   refine ⟨r1',((chainN (sortN ks)).vals ρ).toArray,.lf,by rw [r2',r3',r4'],fun q hq=>?_⟩
   rw [r2'] at hq
   unfold CObj.at
   rw [Tr.get_lf]
   dsimp only
   have hs' : ((chainN (sortN ks)).vals ρ).toArray.size=(sortN ks).length:=by simp [hvl]
   rw [hs',Nat.mod_eq_of_lt hq,List.getElem?_toArray]
   exact r5' q hq
  refine ⟨_,_,g16,fun hh hr=>⟨_,hr.newX hw1 (.inl hor),fun r cargs w hv hW=>.inl ⟨hf,(call hr hv hW).mono ?_⟩⟩⟩
  rintro en w' ⟨v,ss,rfl,h1,h2,h3,h4⟩
  have hne : ss ≠ []:=fun e0=>by
   have:=len h1
   rw [e0] at this
   exact hs0 (List.eq_nil_of_length_eq_zero this.symm)
  rcases h2.2 with ⟨e1,_⟩ | ⟨gb,cap,cur,rfl,hge,hcur,hcap,hmax,hsz,htake⟩
  ·exact absurd (h3.1 e1) hne
  rw [srt h1,len h1] at htake
  have hN:=nx_below hW h4
  -- the new row under the next id
  have hrow : RO (r.put hh.n (gb,cap)) cap (.row (sortN ks).length ((chainN (sortN ks)).vals ρ).toArray .lf e (some 1)) (.cells cur e (0,0)):=by
   have hle : (sortN ks).length≤cap:=by rw [← len h1];exact hcap
   refine ⟨cur,(0,0),FzOK.none _,rfl,by omega,.inl (by omega),fun q hq=>?_⟩
   have h9 : CObj.at ((chainN (sortN ks)).vals ρ).toArray .lf q=some (.int .i64 (.ofNat ((sortN ks)[q]))):=by
    unfold CObj.at
    rw [Tr.get_lf]
    dsimp only
    have hs' : ((chainN (sortN ks)).vals ρ).toArray.size=(sortN ks).length:=by simp [hvl]
    rw [hs',Nat.mod_eq_of_lt hq,List.getElem?_toArray,chainN_vals,List.getElem?_map,List.getElem?_eq_getElem hq];rfl
   refine ⟨_,.int .i64 (.ofNat ((sortN ks)[q])),h9,?_,.int _ _⟩
   have h10 : (cur.toList.take ((sortN ks).length * 1))[q]?=some (.int .i64 (.ofNat ((sortN ks)[q]))):=by
    rw [htake,List.map_map,List.getElem?_map,List.getElem?_eq_getElem hq];rfl
   rw [List.getElem?_take_of_lt (by omega)] at h10
   rw [← Array.getElem?_toList]
   exact h10
  have hfin:=new_row hW h4 (by have:=hr.lt;omega) hge (Array.getElem?_eq_some_iff.1 hcur).1 hcur (code_some (by unfold hid;decide)) hrow
  refine ⟨_,_,rfl,hfin,?_⟩
  rw [V.val_slc,← hr.n,len h1]
  exact .sliceU (k:=0) Ren.put_at _ (Nat.add_zero _) (by rw [← len h1];exact hcap)
end Go.Ex
namespace Go.Ex
open Go.Proofs Go.Shelf Go.Maps Go.WideShapes
open Go.WideElems (Fit rd rg rd_mk rg_of)
variable {P : Program}
theorem sorted_is {σ : Go.Shelf.Ren} (L6 : SlLaysZI.n6 P σ) (hsort : ∀ m,AnyZI.SortsIn P σ Fence.wide m) (e9 : ∀ args w,(callFunc (σ.f 9) args).run P w=.ok (.enter (σ.f 9) args) w) {g : FuncId→Bool}
  (hg : ∀ fk,g fk=true→∃ τ : Go.Shelf.Ren,SlLaysZI.n10 P τ∧τ.f 10=fk∧∀ args w,(callFunc fk args).run P w=.ok (.enter fk args) w) : SortedIs P (σ.f 6) g (σ.t 26):=by
 intro fk hfk w bm b es clock hm hb hst hkeys hsz
 obtain ⟨τ,L10,hf10,ek⟩:=hg fk hfk
 subst hf10
 have hR : ∃ R : Value→Option (DataW Unit × List MemPlace),∀ v,R v=some (.nil,[]):=⟨fun _=>some (.nil,[]),fun _=>rfl⟩
 obtain ⟨R,hR⟩:=hR
 have hkey : ∀ x ∈ es.toList,∃ k : Nat,x.key=.int .i64 (.ofNat k)∧rd P (τ.t 26) R x=some (.int .i64 (.ofNat k),.nil):=fun x hx=>by
  obtain ⟨k,hk,e⟩:=hkeys x hx
  refine ⟨k,e,?_⟩
  obtain ⟨key,val,born⟩:=x
  dsimp only at e
  subst e
  refine rd_mk (yv:=(.nil,[])) ?_ (hR val)
  have hwf : (Lit.int .i64 (.ofNat k)).wf=true:=by
   have h1 : (Int.ofNat k)=(k : Int):=rfl
   have h4 : IntKind.i64.min=-9223372036854775808:=by decide
   have h5 : IntKind.i64.max=9223372036854775807:=by decide
   show (decide (IntKind.i64.min≤Int.ofNat k) && decide (Int.ofNat k≤IntKind.i64.max))=true
   rw [h1,h4,h5]
   simp only [Bool.and_eq_true,decide_eq_true_eq]
   omega
  unfold keyOf mapKey
  rw [L10.t26]
  dsimp only
  rw [if_pos ⟨rfl,hwf⟩]
 have hown : w.ownsMap P (τ.t 26) R b 4096 (.map ((es.toList.map (rg P (τ.t 26) R)).foldr DataW.insert [])) :=
  ⟨es,clock,hb,⟨by unfold maxLen;omega,hst,fun x hx=>by obtain ⟨k,_,e⟩:=hkey x hx;exact ⟨_,e⟩⟩,by omega,rfl⟩
 have hbm : bm < w.heap.size:=by
  rcases Nat.lt_or_ge bm w.heap.size with h | h
  ·exact h
  ·simp [World.cell?,Array.getElem?_eq_none h] at hm
 have hms : Maps.size (DataW.map ((es.toList.map (rg P (τ.t 26) R)).foldr DataW.insert []))=es.size:=by
  rw [Maps.size_eq,(sorted_perm _).length_eq]
  simp
 have hseq:=AnyZI.keys_gives L10 Fence.wide 2 trivial rfl (by omega) bm b 4096 _ w hbm hm hown
 refine callsIn_wide.1 ((AnyZI.sorted_in L6 Fence.wide 5 trivial trivial trivial trivial rfl (by omega) (hsort _) e9 (τ.f 10) #[.pointer (some ⟨bm,0,none⟩)] trivial ek _ _ (by rw [hms];unfold maxLen;omega) (by rw [hms];omega) w hseq).mono ?_)
 rintro en w' ⟨v,ss,rfl,h1,h2,h3,h4⟩
 refine ⟨v,ss,rfl,h1.trans ?_,h2,h3,h4⟩
 show (((es.toList.map (rg P (τ.t 26) R)).foldr DataW.insert []).map fun p=>intOf p.1).Perm _
 refine ((sorted_perm _).map _).trans ?_
 rw [List.map_map]
 refine List.Perm.of_eq (List.map_congr_left fun x hx=>?_)
 obtain ⟨k,e1,e2⟩:=hkey x hx
 show intOf (rg P (τ.t 26) R x).1=keyInt x
 rw [rg_of e2]
 unfold keyInt
 rw [e1];rfl
end Go.Ex
namespace Go.Ex
variable {P : Program}
noncomputable section
end
end Go.Ex
namespace Go.Ex
variable {P : Program} {T : Tr Ty} {F : Tr Func} {ρ : Env} {n : Nat}
noncomputable section
def ntOf : List (FuncId × CF)→FuncId→Option CF
 | [],_=>none
 | x :: r,f=>match Nat.beq x.1 f with
  | true=>some x.2
  | false=>ntOf r f
def fnC (T : Tr Ty) (F : Tr Func) (f : FuncId) : CF:=match F.get f with
 | some fn=>funC T (brC T) fn
 | none=>failCF
def fnT (T : Tr Ty) (F : Tr Func) (f : FuncId) : CF:=match F.get f with
 | some fn=>funT (fun _=>false) T (brC T) fn
 | none=>failCF
def elemIn (ts : List TypeId) (o : O) : Bool:=List.rec (motive:=fun _=>Bool) false (fun t _ ih=>Bool.or (Nat.beq (O.elem o) t) ih) ts
def fnTg (ts : List TypeId) (T : Tr Ty) (F : Tr Func) (f : FuncId) : CF:=match F.get f with
 | some fn=>funT (elemIn ts) T (brC T) fn
 | none=>failCF
def fnR (T : Tr Ty) (F : Tr Func) (g : FuncId→Bool) (f : FuncId) : CF:=match F.get f with
 | some fn=>funR T (brC T) g fn
 | none=>failCF
def isTrueV (v : V) : Bool:=match v with
 | .bool true=>true
 | _=>false
end
theorem ntOf_ok {l : List (FuncId × CF)} (h : ∀ x ∈ l,CfOK P ρ x.1 x.2) : NtOK P ρ (ntOf l):=fun f x hx=>by
 induction l with
 | nil=>cases hx
 | cons y r ih =>
  unfold ntOf at hx
  split at hx
  ·rename_i hb
   have hb:=Nat.eq_of_beq_eq_true hb
   injection hx with hx
   subst hx
   have:=h y (List.mem_cons_self ..)
   rw [hb] at this
   exact this
  ·exact ih (fun z hz=>h z (List.mem_cons_of_mem _ hz)) hx
theorem cons_ok {l : List (FuncId × CF)} {f : FuncId} {x : CF} (h : CfOK P ρ f x) (hl : ∀ y ∈ l,CfOK P ρ y.1 y.2) : ∀ y ∈ (f,x) :: l,CfOK P ρ y.1 y.2:=fun y hy=>by
 rcases List.mem_cons.1 hy with rfl | hy
 ·exact h
 ·exact hl y hy
section
variable (hm : P.follows .mixedOrders=true) (hT : TabOK P T) (hF : FnsOK P F)
include hm hT hF
theorem fnC_ok {f : FuncId} (hf : (F.get f).isSome=true) : CfOK P ρ f (fnC T F f):=by
 obtain ⟨fn,hfn⟩:=Option.isSome_iff_exists.1 hf
 unfold fnC
 rw [hfn]
 exact ⟨.inl ⟨fn,hF f fn hfn⟩,fun cK hC hE m args l k h=>funC_ok hT hF (brC_ok hm hT) hfn (hC ρ.base) hE h⟩
theorem fnT_ok {f : FuncId} (hf : (F.get f).isSome=true) : CfOK P ρ f (fnT T F f):=by
 obtain ⟨fn,hfn⟩:=Option.isSome_iff_exists.1 hf
 unfold fnT
 rw [hfn]
 exact funT_ok hT hF (fun b=>brC_ok hm hT) hfn
theorem fnTg_ok {ts : List TypeId} {f : FuncId} (hf : (F.get f).isSome=true) : CfOK P ρ f (fnTg ts T F f):=by
 obtain ⟨fn,hfn⟩:=Option.isSome_iff_exists.1 hf
 unfold fnTg
 rw [hfn]
 exact funT_ok hT hF (fun b=>brC_ok hm hT) hfn
theorem fnR_ok {g : FuncId→Bool} (hg : ChunksOK P g) {f : FuncId} (hf : (F.get f).isSome=true) : CfOK P ρ f (fnR T F g f):=by
 obtain ⟨fn,hfn⟩:=Option.isSome_iff_exists.1 hf
 unfold fnR
 rw [hfn]
 exact funR_ok hT hF (brC_ok hm hT) hg hfn
end
end Go.Ex
namespace Go.Ex
variable {P : Program} {T : Tr Ty} {F : Tr Func} {ρ : Env} {n : Nat}
noncomputable section
def lawAt (T : Tr Ty) (F : Tr Func) (nt : FuncId→Option CF) (M m : Nat) (f : FuncId) (args : V) (ns : Id) : Bool:=callK T F (brC T) nt M m f args ⟨HT.new,ns⟩ fun v _=>isTrueV v
end
def Holds (P : Program) (f : FuncId) : Prop:=∀ w : World,PinsIn w→Calls P f #[] w fun e w'=>e=.returned (.bool true)∧RowKit.Below w.heap.size w w'
theorem lawAt_ok (hm : P.follows .mixedOrders=true) (hT : TabOK P T) (hF : FnsOK P F) {nt : FuncId→Option CF} (hN : ∀ b,NtOK P (ρ.at b) nt) {M m : Nat} {f : FuncId} (hf : Nonext P f) {args : V} {ns : Id} (hrun : lawAt T F nt M m f args ns=true) {cargs : Array Value} (ha : RVs (fun _=>none) ⟨args.vals ρ⟩ cargs) (w : World) (hp : PinsIn w) :
  Calls P f cargs w fun e w'=>e=.returned (.bool true)∧RowKit.Below w.heap.size w w':=by
 unfold lawAt at hrun
 obtain ⟨v,l',h1,h2⟩:=(callK_ok (ρ:=ρ) hT hF (fun b=>brC_ok hm hT) hN M m).1 T5.new f args _ _ hrun
 have hnil : HR (ρ.at T5.new) ⟨HT.new,ns⟩ ⟨.lf,ns.nat⟩:=by
  have:=HR.nil (ρ:=ρ.at T5.new) rfl
  exact ⟨rfl,this.here,this.other,this.gone,this.old⟩
 obtain ⟨h',_,hc⟩:=h2 _ hnil
 have hv : v=.bool true:=by
  unfold isTrueV at h1
  split at h1
  ·rfl
  ·cases h1
 subst hv
 have hW : RW (fun _=>none) ⟨.lf,ns.nat⟩ w:=⟨fun i o hi=>(by cases hi),fun i j o p b c d hi=>(by cases hi),fun i x hi=>(by cases hi),fun i b c hi=>(by cases hi),hp,.none fun _=>rfl⟩
 rcases hc (fun _=>none) cargs w ha hW with ⟨_,hcalls⟩ | ⟨e,v',w',⟨fn,q1,_,q3,_⟩,_,_⟩
 ·refine hcalls.mono ?_
  rintro e w' ⟨r',v',rfl,hN,hv'⟩
  have hv' : RV r' (.bool true) v':=hv'
  cases hv'
  exact ⟨rfl,hN.os,hN.tape,hN.output,hN.size,fun b hb=>hN.frame b hb fun i o c hi=>(by cases hi)⟩
 ·obtain ⟨fn',g1,_,g3⟩:=hf
  rw [q1] at g1
  injection g1 with g1
  subst g1
  rw [q3] at g3
  cases g3
end Go.Ex
namespace Go.Ex
variable {P : Program} {ρ : Env}
noncomputable section
def asciiN : Nat→Nat→Bool
 | 0,_=>true
 | k+1,n=>Bool.and (Nat.blt (Nat.mod n 256) 128) (asciiN k (Nat.div n 256))
def containsC : CF:=⟨fun _ _ args l k=>V.onCo args (fun a r=>V.onCo r (fun b r=>V.onCo r (fun _ _=>false) (V.onS a fun la x=>V.onS b fun lb y=>Bool.rec (motive:=fun _=>Bool) false
 (Bool.rec (motive:=fun _=>Bool) (k (.bool false) l) (k (.bool true) l) (Lib.containsAny (bytesL la x) (bytesL lb y))) (Bool.and (Bool.and (Nat.blt la 65536) (Nat.blt lb 65536)) (Bool.and (asciiN la x) (asciiN lb y))))) false) false⟩
end
theorem asciiN_ok {k n : Nat} (h : asciiN k n=true) : ∀ (j : Nat) b,(bytesL k n)[j]?=some b→b.toNat < 128:=by
 induction k generalizing n with
 | zero=>intro j b hj;cases hj
 | succ k ih =>
  obtain ⟨h1,h2⟩:=andB_ok h
  have h1 : n % 256 < 128:=Nat.le_of_ble_eq_true h1
  intro j b hj
  cases j with
  | zero =>
   have hj : some (UInt8.ofNat n)=some b:=hj
   injection hj with hj
   subst hj
   rw [UInt8.toNat_ofNat']
   exact h1
  | succ j=>exact ih h2 j b hj
theorem contains_ok {σ : Go.Shelf.Ren} (L : Go.Proofs.Lays.n150 P σ) (h116 : (P.info? (σ.t 116)).map (fun i=>(i.zero,i.size))=some (some (.agg (Array.replicate 256 (.bool false))),256)) : CfOK P ρ (σ.f 150) containsC:=⟨.inl ⟨_,L.f150,rfl,rfl⟩,fun _ _ _ _ args l k h=>by
 have h : V.onCo args (fun a r=>V.onCo r (fun b r=>V.onCo r (fun _ _=>false) (V.onS a fun la x=>V.onS b fun lb y=>Bool.rec (motive:=fun _=>Bool) false
  (Bool.rec (motive:=fun _=>Bool) (k (.bool false) l) (k (.bool true) l) (Lib.containsAny (bytesL la x) (bytesL lb y))) (Bool.and (Bool.and (Nat.blt la 65536) (Nat.blt lb 65536)) (Bool.and (asciiN la x) (asciiN lb y))))) false) false=true:=h
 rcases V.onCo_ok h with ⟨a,r1,rfl,g1⟩ | ⟨_,g1⟩
 case inr=>cases g1
 rcases V.onCo_ok g1 with ⟨b,r2,rfl,g2⟩ | ⟨_,g2⟩
 case inr=>cases g2
 rcases V.onCo_ok g2 with ⟨_,_,_,g3⟩ | ⟨rfl,g3⟩
 ·cases g3
 obtain ⟨la,x,rfl,g4⟩:=V.onS_ok g3
 obtain ⟨lb,y,rfl,g5⟩:=V.onS_ok g4
 obtain ⟨g6,g7⟩:=brec_if g5
 obtain ⟨q1,q2⟩:=andB_ok g6
 obtain ⟨q3,q4⟩:=andB_ok q1
 obtain ⟨q5,q6⟩:=andB_ok q2
 have q3 : la < 65536:=Nat.le_of_ble_eq_true q3
 have q4 : lb < 65536:=Nat.le_of_ble_eq_true q4
 have hk : k (.bool (Lib.containsAny (bytesL la x) (bytesL lb y))) l=true:=by
  generalize Lib.containsAny (bytesL la x) (bytesL lb y)=c at g7
  cases c <;> exact g7
 refine ⟨_,l,hk,fun hh hr=>⟨hh,hr,fun r cargs w hv hW=>?_⟩⟩
 obtain ⟨u,v,rfl,hx,hy⟩:=rvs_two (a:=.string (strN la x)) (b:=.string (strN lb y)) hv
 cases hx
 cases hy
 refine .inl ⟨⟨_,L.f150,rfl,rfl⟩,(Go.Proofs.Any.strings_ContainsAny_laid L h116 (strN la x) (strN lb y) w (by rw [strN_size];omega) (by rw [strN_size];omega) (fun j b hj=>asciiN_ok q5 j b (by simpa [strN] using hj)) (fun j b hj=>asciiN_ok q6 j b (by simpa [strN] using hj))).mono ?_⟩
 rintro e w' ⟨rfl,hb⟩
 exact ⟨r,_,rfl,nx_below hW hb,.bool _⟩⟩
end Go.Ex
namespace Go.Ex
variable {ε : Cx}
variable {P : Program} {T : Tr Ty} {F : Tr Func} {ρ : Env} {n : Nat}
section
variable {G : Fence} {m : Nat} {ops : Array Oper} {Q : Exit→Act→World→Prop} {M : Tr Nat} {p : Nat}
end
end Go.Ex
namespace Go.Ex
variable {ε : Cx}
variable {P : Program} {T : Tr Ty} {F : Tr Func} {ρ : Env} {n : Nat}
theorem CallsX.mono {f : FuncId} {args : Array Value} {w : World} {R R' : Ending→World→Prop} (h : CallsX P f args w R) (hR : ∀ e w',R e w'→R' e w') : CallsX P f args w R':=by
 rcases h with ⟨h1,h2⟩ | ⟨e,v',w',h1,h2,h3⟩
 ·exact .inl ⟨h1,h2.mono fun e w'=>hR e w'⟩
 ·exact .inr ⟨e,v',w',h1,h2,hR _ _ h3⟩
noncomputable section
end
noncomputable section
end
end Go.Ex
namespace Go.Ex
variable {P : Program} {ρ : Env}
noncomputable section
end
end Go.Ex
namespace Go.Ex
variable {P : Program} {ρ : Env}
noncomputable section
end
end Go.Ex
