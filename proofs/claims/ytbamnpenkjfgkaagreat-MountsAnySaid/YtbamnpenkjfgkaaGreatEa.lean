/- A verified executor: part 2. -/
import Derived.Test.YtbamnpenkjfgkaaGreatEp
import Derived.Calls
import Derived.Below
import Derived.Tactics
import Derived.WalkKit
import Derived.OrdersIn
import Derived.TacticsIn
import Derived.LoopNIn
import Derived.LoopN
import Derived.Scope
import Derived.Orders
namespace Go.Ex
inductive Tr (α : Type) where
 | lf
 | nd (l : Tr α) (v : Option α) (r : Tr α)
noncomputable section
def Tr.get {α : Type} (t : Tr α) : Nat→Option α:=Tr.rec (motive:=fun _=>Nat→Option α) (fun _=>none)
 (fun _ v _ gl gr i=>Nat.rec (motive:=fun _=>Option α) v (fun j _=>Bool.rec (gr (Nat.div j 2)) (gl (Nat.div j 2)) (Nat.beq (Nat.mod j 2) 0)) i) t
def Tr.sing {α : Type} (fuel : Nat) : Nat→α→Tr α:=Nat.rec (motive:=fun _=>Nat→α→Tr α) (fun _ _=>.lf)
 (fun _ f i x=>Nat.rec (motive:=fun _=>Tr α) (.nd .lf (some x) .lf) (fun j _=>Bool.rec (.nd .lf none (f (Nat.div j 2) x)) (.nd (f (Nat.div j 2) x) none .lf) (Nat.beq (Nat.mod j 2) 0)) i) fuel
def Tr.set {α : Type} (t : Tr α) : Nat→α→Tr α:=Tr.rec (motive:=fun _=>Nat→α→Tr α) (fun i x=>Tr.sing 40 i x)
 (fun l v r sl sr i x=>Nat.rec (motive:=fun _=>Tr α) (.nd l (some x) r) (fun j _=>Bool.rec (.nd l v (sr (Nat.div j 2) x)) (.nd (sl (Nat.div j 2) x) v r) (Nat.beq (Nat.mod j 2) 0)) i) t
def Tr.del {α : Type} (t : Tr α) : Nat→Tr α:=Tr.rec (motive:=fun _=>Nat→Tr α) (fun _=>.lf)
 (fun l v r sl sr i=>Nat.rec (motive:=fun _=>Tr α) (.nd l none r) (fun j _=>Bool.rec (.nd l v (sr (Nat.div j 2))) (.nd (sl (Nat.div j 2)) v r) (Nat.beq (Nat.mod j 2) 0)) i) t
end
section
variable {α : Type}
theorem beq_zero (n : Nat) : Nat.beq n 0=decide (n=0):=by cases n <;> rfl
theorem Tr.get_lf (i : Nat) : (Tr.lf : Tr α).get i=none:=rfl
theorem Tr.get_zero (l r : Tr α) (v : Option α) : (Tr.nd l v r).get 0=v:=rfl
theorem Tr.get_succ (l r : Tr α) (v : Option α) (j : Nat) : (Tr.nd l v r).get (j+1)=if j % 2=0 then l.get (j / 2) else r.get (j / 2):=by
 show (Bool.rec (r.get (j / 2)) (l.get (j / 2)) (Nat.beq (j % 2) 0) : Option α)=_
 rw [beq_zero]
 by_cases h : j % 2=0
 ·rw [if_pos h,decide_eq_true h]
 ·rw [if_neg h,decide_eq_false h]
theorem Tr.sing_at (k : Nat) (x : α) : Tr.sing (k+1) 0 x=.nd .lf (some x) .lf:=rfl
theorem Tr.sing_succ (k j : Nat) (x : α) : Tr.sing (k+1) (j+1) x=if j % 2=0 then .nd (Tr.sing k (j / 2) x) none .lf else .nd .lf none (Tr.sing k (j / 2) x):=by
 show (Bool.rec (Tr.nd .lf none (Tr.sing k (j / 2) x)) (.nd (Tr.sing k (j / 2) x) none .lf) (Nat.beq (j % 2) 0) : Tr α)=_
 rw [beq_zero]
 by_cases h : j % 2=0
 ·rw [if_pos h,decide_eq_true h]
 ·rw [if_neg h,decide_eq_false h]
theorem Tr.set_lf (i : Nat) (x : α) : (Tr.lf : Tr α).set i x=Tr.sing 40 i x:=rfl
theorem Tr.set_zero (l r : Tr α) (v : Option α) (x : α) : (Tr.nd l v r).set 0 x=.nd l (some x) r:=rfl
theorem Tr.set_succ (l r : Tr α) (v : Option α) (j : Nat) (x : α) : (Tr.nd l v r).set (j+1) x=if j % 2=0 then .nd (l.set (j / 2) x) v r else .nd l v (r.set (j / 2) x):=by
 show (Bool.rec (Tr.nd l v (r.set (j / 2) x)) (.nd (l.set (j / 2) x) v r) (Nat.beq (j % 2) 0) : Tr α)=_
 rw [beq_zero]
 by_cases h : j % 2=0
 ·rw [if_pos h,decide_eq_true h]
 ·rw [if_neg h,decide_eq_false h]
theorem Tr.del_zero (l r : Tr α) (v : Option α) : (Tr.nd l v r).del 0=.nd l none r:=rfl
theorem Tr.del_succ (l r : Tr α) (v : Option α) (j : Nat) : (Tr.nd l v r).del (j+1)=if j % 2=0 then .nd (l.del (j / 2)) v r else .nd l v (r.del (j / 2)):=by
 show (Bool.rec (Tr.nd l v (r.del (j / 2))) (.nd (l.del (j / 2)) v r) (Nat.beq (j % 2) 0) : Tr α)=_
 rw [beq_zero]
 by_cases h : j % 2=0
 ·rw [if_pos h,decide_eq_true h]
 ·rw [if_neg h,decide_eq_false h]
theorem Tr.get_sing {k i j : Nat} {x : α} (hi : i+1 < 2 ^ k) : (Tr.sing k i x).get j=if i=j then some x else none:=by
 induction k generalizing i j with
 | zero=>simp at hi
 | succ k ih =>
  have hp : 2 ^ (k+1)=2 * 2 ^ k:=by omega
  cases i with
  | zero =>
   rw [sing_at]
   cases j with
   | zero=>rfl
   | succ j=>rw [get_succ,get_lf,if_neg (show ¬ 0=j+1 by omega)];simp
  | succ i =>
   rw [sing_succ]
   by_cases h : i % 2=0
   ·rw [if_pos h]
    cases j with
    | zero=>rw [get_zero,if_neg (by omega)]
    | succ j =>
     rw [get_succ,ih (by omega),get_lf]
     by_cases h2 : j % 2=0
     ·rw [if_pos h2];congr 1;rw [eq_iff_iff];omega
     ·rw [if_neg h2,if_neg (by omega)]
   ·rw [if_neg h]
    cases j with
    | zero=>rw [get_zero,if_neg (by omega)]
    | succ j =>
     rw [get_succ,ih (by omega),get_lf]
     by_cases h2 : j % 2=0
     ·rw [if_pos h2,if_neg (by omega)]
     ·rw [if_neg h2];congr 1;rw [eq_iff_iff];omega
theorem Tr.get_set {t : Tr α} {i j : Nat} {x : α} (hi : i < 2 ^ 39) : (t.set i x).get j=if i=j then some x else t.get j:=by
 induction t generalizing i j with
 | lf=>rw [set_lf,get_sing (by omega),get_lf]
 | nd l v r ihl ihr =>
  cases i with
  | zero =>
   rw [set_zero]
   cases j with
   | zero=>rfl
   | succ j=>rw [get_succ,get_succ,if_neg (show ¬ 0=j+1 by omega)]
  | succ i =>
   rw [set_succ]
   by_cases h : i % 2=0
   ·rw [if_pos h]
    cases j with
    | zero=>rw [get_zero,get_zero,if_neg (by omega)]
    | succ j =>
     rw [get_succ,get_succ,ihl (by omega)]
     by_cases h2 : j % 2=0
     ·rw [if_pos h2,if_pos h2]
      by_cases h3 : i / 2=j / 2
      ·rw [if_pos h3,if_pos (by omega)]
      ·rw [if_neg h3,if_neg (by omega)]
     ·rw [if_neg h2,if_neg h2,if_neg (by omega)]
   ·rw [if_neg h]
    cases j with
    | zero=>rw [get_zero,get_zero,if_neg (by omega)]
    | succ j =>
     rw [get_succ,get_succ,ihr (by omega)]
     by_cases h2 : j % 2=0
     ·rw [if_pos h2,if_pos h2,if_neg (by omega)]
     ·rw [if_neg h2,if_neg h2]
      by_cases h3 : i / 2=j / 2
      ·rw [if_pos h3,if_pos (by omega)]
      ·rw [if_neg h3,if_neg (by omega)]
theorem Tr.get_del {t : Tr α} {i j : Nat} : (t.del i).get j=if i=j then none else t.get j:=by
 induction t generalizing i j with
 | lf=>show (Tr.lf : Tr α).get j=_;rw [get_lf];simp
 | nd l v r ihl ihr =>
  cases i with
  | zero =>
   rw [del_zero]
   cases j with
   | zero=>rfl
   | succ j=>rw [get_succ,get_succ,if_neg (show ¬ 0=j+1 by omega)]
  | succ i =>
   rw [del_succ]
   by_cases h : i % 2=0
   ·rw [if_pos h]
    cases j with
    | zero=>rw [get_zero,get_zero,if_neg (by omega)]
    | succ j =>
     rw [get_succ,get_succ,ihl]
     by_cases h2 : j % 2=0
     ·rw [if_pos h2,if_pos h2]
      by_cases h3 : i / 2=j / 2
      ·rw [if_pos h3,if_pos (by omega)]
      ·rw [if_neg h3,if_neg (by omega)]
     ·rw [if_neg h2,if_neg h2,if_neg (by omega)]
   ·rw [if_neg h]
    cases j with
    | zero=>rw [get_zero,get_zero,if_neg (by omega)]
    | succ j =>
     rw [get_succ,get_succ,ihr]
     by_cases h2 : j % 2=0
     ·rw [if_pos h2,if_pos h2,if_neg (by omega)]
     ·rw [if_neg h2,if_neg h2]
      by_cases h3 : i / 2=j / 2
      ·rw [if_pos h3,if_pos (by omega)]
      ·rw [if_neg h3,if_neg (by omega)]
end
end Go.Ex
namespace Go.Ex
def unk : Nat:=4611686018427387904
abbrev Ren:=Nat→Option (Nat × Nat)
def Ren.le (r s : Ren) : Prop:=∀ i x,r i=some x→s i=some x
theorem Ren.le_refl (r : Ren) : r.le r:=fun _ _ h=>h
theorem Ren.le_trans {r s t : Ren} (h : r.le s) (k : s.le t) : r.le t:=fun i x hx=>k i x (h i x hx)
def Fn.flat : Fn→Bool
 | .yield _=>false
 | _=>true
inductive RV (r : Ren) : Value→Value→Prop
 | bool (b : Bool) : RV r (.bool b) (.bool b)
 | int (k : IntKind) (n : Int) : RV r (.int k n) (.int k n)
 | str (s : ByteArray) : RV r (.string s) (.string s)
 | nilPtr : RV r (.pointer none) (.pointer none)
 | ptr {i b c off : Nat} (h : r i=some (b,c)) : RV r (.pointer (some ⟨i,off,none⟩)) (.pointer (some ⟨b,off,none⟩))
 | nilSlice (l c : Nat) : RV r (.slice none l c) (.slice none l c)
 | slice {i b c off : Nat} (h : r i=some (b,c)) (l cap : Nat) (hc : cap < unk) : RV r (.slice (some ⟨i,off,none⟩) l cap) (.slice (some ⟨b,off,none⟩) l cap)
 | sliceU {i b c off k cap : Nat} (h : r i=some (b,c)) (l : Nat) (hc : cap+k=c) (hl : l≤cap) : RV r (.slice (some ⟨i,off,none⟩) l (unk+k)) (.slice (some ⟨b,off,none⟩) l cap)
 | sliceE {i b c off off' : Nat} (h : r i=some (b,c)) : RV r (.slice (some ⟨i,off,none⟩) 0 (unk+c)) (.slice (some ⟨b,off',none⟩) 0 0)
 | nilMap : RV r (.map none) (.map none)
 | map {i b c : Nat} (h : r i=some (b,c)) : RV r (.map (some i)) (.map (some b))
 | nilFunc : RV r .nilFunc .nilFunc
 | func {fn : Fn} {f1 c1 f2 c2 : Array Value} (hf : Fn.flat fn=true) (h1 : f1.size=f2.size) (h2 : c1.size=c2.size)
   (k1 : ∀ (i : Nat) (a b : Value),f1[i]?=some a→f2[i]?=some b→RV r a b) (k2 : ∀ (i : Nat) (a b : Value),c1[i]?=some a→c2[i]?=some b→RV r a b) : RV r (.func fn f1 c1) (.func fn f2 c2)
 | nilIface : RV r .nilIface .nilIface
 | iface {t : TypeId} {a b : Value} (h : RV r a b) : RV r (.iface t a) (.iface t b)
 | agg {xs ys : Array Value} (h : xs.size=ys.size) (k : ∀ (i : Nat) (a b : Value),xs[i]?=some a→ys[i]?=some b→RV r a b) : RV r (.agg xs) (.agg ys)
 | tuple {xs ys : Array Value} (h : xs.size=ys.size) (k : ∀ (i : Nat) (a b : Value),xs[i]?=some a→ys[i]?=some b→RV r a b) : RV r (.tuple xs) (.tuple ys)
theorem RV.mono {r s : Ren} {a b : Value} (h : RV r a b) (hs : r.le s) : RV s a b:=by
 induction h with
 | bool b=>exact .bool b
 | int k n=>exact .int k n
 | str s=>exact .str s
 | nilPtr=>exact .nilPtr
 | ptr h=>exact .ptr (hs _ _ h)
 | nilSlice l c=>exact .nilSlice l c
 | slice h l cap hc=>exact .slice (hs _ _ h) l cap hc
 | sliceU h l hc hl=>exact .sliceU (hs _ _ h) l hc hl
 | sliceE h=>exact .sliceE (hs _ _ h)
 | nilMap=>exact .nilMap
 | map h=>exact .map (hs _ _ h)
 | nilFunc=>exact .nilFunc
 | func hf h1 h2 _ _ i1 i2=>exact .func hf h1 h2 i1 i2
 | nilIface=>exact .nilIface
 | iface _ ih=>exact .iface ih
 | agg h _ ih=>exact .agg h ih
 | tuple h _ ih=>exact .tuple h ih
def RVs (r : Ren) (xs ys : Array Value) : Prop:=xs.size=ys.size∧∀ (i : Nat) (a b : Value),xs[i]?=some a→ys[i]?=some b→RV r a b
theorem RVs.mono {r s : Ren} {xs ys : Array Value} (h : RVs r xs ys) (hs : r.le s) : RVs s xs ys:=⟨h.1,fun i a b ha hb=>(h.2 i a b ha hb).mono hs⟩
structure CEnt where
 key : Value
 val : Value
 born : Nat
inductive CObj where
 | row (size : Nat) (pat : Array Value) (cs : Tr Value) (elem : TypeId) (tail : Option Nat)
 | map (es : List CEnt) (clock : Nat)
 | iter (m : Option Nat) (since : Nat) (seen : List Nat) (stepped : Nat)
 | txt (e : TypeId) (bs : List UInt8)
def CEnt.pay (e : CEnt) : Value × Value:=(e.key,e.val)
structure Mix (a b : List CEnt) : Prop where
 born : a.map CEnt.born=b.map CEnt.born
 pay : (a.map CEnt.pay).Perm (b.map CEnt.pay)
noncomputable def CObj.at (pat : Array Value) (cs : Tr Value) (i : Nat) : Option Value:=match cs.get i with
 | some v=>some v
 | none=>pat[i % pat.size]?
structure CH where
 t : Tr CObj
 n : Nat
def hid : Nat:=4611686018427387904
def TailOK (tail : Option Nat) (size n c : Nat) : Prop:=match tail with
 | none=>n=size
 | some z=>n=c * z∨hid≤z
def CObj.code (o : CObj) : Option (Nat × Nat):=match o with
 | .row size _ _ _ (some z)=>if hid≤z then some (size,z) else none
 | _=>none
noncomputable def CH.hc (h : CH) (j : Nat) : Option (Nat × Nat):=match h.t.get j with
 | some o=>o.code
 | none=>none
def FzOK (n : Nat) (fz : Nat × Nat) : Prop:=∀ k,k < n→¬ (fz.1≤k∧k < fz.2)
theorem FzOK.none (n : Nat) : FzOK n (0,0):=fun k _ h=>by omega
def RId (r : Ren) : Option Nat→Option Nat→Prop
 | none,none=>True
 | some i,some b=>∃ c,r i=some (b,c)
 | _,_=>False
theorem RId.mono {r s : Ren} {a b : Option Nat} (h : RId r a b) (hs : r.le s) : RId s a b:=by
 cases a <;> cases b <;> first | exact h | (obtain ⟨c,hc⟩:=h;exact ⟨c,hs _ _ hc⟩)
def RO (r : Ren) (c : Nat) (o : CObj) (x : Obj) : Prop:=match o with
 | .row size pat cs elem tail=>∃ arr fz,FzOK arr.size fz∧x=.cells arr elem fz∧size≤arr.size∧TailOK tail size arr.size c∧∀ i,i < size→∃ a b,CObj.at pat cs i=some a∧arr[i]?=some b∧RV r a b
 | .map es clock=>∃ (es' : List CEnt) (arr : Array MapEntry),(if hid≤clock then Mix es' es else es'=es)∧x=.map arr (clock % hid)∧es'.length=arr.size∧∀ (i : Nat) (e : CEnt) (e' : MapEntry),es'[i]?=some e→arr[i]?=some e'→e'.born=e.born∧RV r e.key e'.key∧RV r e.val e'.val
 | .iter m since seen stepped=>match m,since with
  | none,_+1=>x=.stringIter ⟨(seen.map UInt8.ofNat).toArray⟩ stepped
  | m,since=>∃ mb,RId r m mb∧x=.mapIter mb since seen.toArray stepped
 | .txt e bs=>∃ arr fz,x=.cells arr e fz∧bs.length≤arr.size∧∀ (i : Nat) (u : UInt8),bs[i]?=some u→arr[i]?=some (.int .u8 u.toNat)
theorem RO.mono {r s : Ren} {c : Nat} {o : CObj} {x : Obj} (h : RO r c o x) (hs : r.le s) : RO s c o x:=by
 cases o with
 | row size pat cs elem tail =>
  obtain ⟨arr,fz,hz,h1,h2,h3,h4⟩:=h
  exact ⟨arr,fz,hz,h1,h2,h3,fun i hi=>let ⟨a,b,ha,hb,hv⟩:=h4 i hi;⟨a,b,ha,hb,hv.mono hs⟩⟩
 | map es clock =>
  obtain ⟨es',arr,h0,h1,h2,h3⟩:=h
  exact ⟨es',arr,h0,h1,h2,fun i e e' he he'=>let ⟨a,b,c⟩:=h3 i e e' he he';⟨a,b.mono hs,c.mono hs⟩⟩
 | iter m since seen stepped =>
  cases m with
  | some m =>
   obtain ⟨mb,h1,h2⟩:=h
   exact ⟨mb,h1.mono hs,h2⟩
  | none =>
   cases since with
   | zero =>
    obtain ⟨mb,h1,h2⟩:=h
    exact ⟨mb,h1.mono hs,h2⟩
   | succ k=>exact h
 | txt e bs=>exact h
theorem RO.map_of {r : Ren} {c : Nat} {es : List CEnt} {clock : Nat} {arr : Array MapEntry} (hc : clock < hid) (h : es.length=arr.size∧∀ (i : Nat) (e : CEnt) (e' : MapEntry),es[i]?=some e→arr[i]?=some e'→e'.born=e.born∧RV r e.key e'.key∧RV r e.val e'.val) : RO r c (.map es clock) (.map arr clock) :=
 ⟨es,arr,(by rw [if_neg (by omega)]),by rw [Nat.mod_eq_of_lt hc],h⟩
def PinOK (r : Ren) (w : World) : Prop:=∀ x ∈ pins,(∃ cs t fz,w.heap[x.1]?=some (.cells cs t fz)∧x.2 cs)∧∀ i c,r i ≠ some (x.1,c)
theorem PinOK.same {r : Ren} {w w' : World} (hp : PinOK r w) (hh : ∀ b,b < w.heap.size→(∀ i c,r i ≠ some (b,c))→w'.heap[b]?=w.heap[b]?) : PinOK r w':=fun x hx=>by
 obtain ⟨⟨cs,t,fz,h1,h2⟩,h3⟩:=hp x hx
 exact ⟨⟨cs,t,fz,by rw [hh _ (Array.getElem?_eq_some_iff.1 h1).1 h3];exact h1,h2⟩,h3⟩
def PinsIn (w : World) : Prop:=PinOK (fun _=>none) w
theorem PinOK.none {r : Ren} {w : World} (hp : PinOK r w) : PinsIn w:=fun x hx=>⟨(hp x hx).1,fun _ _ h=>by cases h⟩
def qRow (z : Nat) : Nat:=z % 2 ^ 41
def digL (f : Nat) (z : Nat) : List Nat:=match f with
 | 0=>[]
 | f+1=>if z=0 then [] else (z % 2 ^ 42 - 1) :: digL f (z / 2 ^ 42)
def qEnt (z : Nat) : List Nat:=digL 400 (z / 2 ^ 41)
def qIn (z j : Nat) : Prop:=(∃ d ∈ qEnt z,d / 2=j)∨qRow z=j+1
structure QW (r : Ren) (w : World) (i z : Nat) (L : List Nat) : Prop where
 perm : L.Perm (((qEnt z).filter fun d=>d % 2 == 0).map (· / 2))
 cache : ∃ (b c : Nat) (arr : Array Value) (e : TypeId) (fz : Nat × Nat),r i=some (b,c)∧w.heap[b]?=some (.cells arr e fz)∧arr.size=6 ∧
  ((qRow z=0∧L=[]∧arr[5]?=some (.slice none 0 0)) ∨
    ∃ (iq bq cq : Nat) (arrq : Array Value) (eq : TypeId) (cap : Nat),qRow z=iq+1∧r iq=some (bq,cq)∧w.heap[bq]?=some (.cells arrq eq (0,0))∧arr[5]?=some (.slice (some ⟨bq,0,none⟩) L.length cap)∧L.length≤cap∧arrq.size=cap∧cap≤maxLen ∧
     ∀ (k x : Nat),L[k]?=some x→∃ (bx cx : Nat),r x=some (bx,cx)∧arrq[k]?=some (Value.pointer (some ⟨bx,0,none⟩)))
 bufs : ∀ d ∈ qEnt z,∃ (bx cx : Nat) (arr : Array Value) (e : TypeId) (fz : Nat × Nat) (u a : Int),r (d / 2)=some (bx,cx)∧w.heap[bx]?=some (.cells arr e fz)∧arr.size=6∧arr[4]?=some (.int .i64 u)∧arr[5]?=some (.int .i64 a)∧(d % 2=1→a=-1)∧(d % 2=0→∃ k : Nat,L[k]?=some (d / 2)∧a=(k : Int))
structure QIs (r : Ren) (h : CH) (w : World) (i z : Nat) : Prop where
 ents : ∀ d ∈ qEnt z,h.hc (d / 2)=some (4,hid)
 once : ((qEnt z).map (· / 2)).Nodup
 row : ∀ iq,qRow z=iq+1→h.hc iq=some (0,hid)
 world : ∃ L,QW r w i z L
structure QOK (r : Ren) (h : CH) (w : World) : Prop where
 is : ∀ i z,h.hc i=some (5,hid+1+z)→QIs r h w i z
 two : ∀ i z i' z' j,h.hc i=some (5,hid+1+z)→h.hc i'=some (5,hid+1+z')→qIn z j→qIn z' j→i=i'
def TailEq (w w' : World) (b s : Nat) : Prop:=∀ arr e fz,w.heap[b]?=some (.cells arr e fz)→∃ arr',w'.heap[b]?=some (.cells arr' e fz)∧arr'.size=arr.size∧∀ k,s≤k→arr'[k]?=arr[k]?
theorem TailEq.of {w w' : World} {b s : Nat} (h : w'.heap[b]?=w.heap[b]?) : TailEq w w' b s:=fun arr e fz hb=>⟨arr,by rw [h];exact hb,rfl,fun _ _=>rfl⟩
def HidEq (r : Ren) (h : CH) (w w' : World) : Prop:=∀ j s z b c,h.hc j=some (s,z)→r j=some (b,c)→TailEq w w' b s
theorem QW.next {r r' : Ren} {h : CH} {w w' : World} {i z : Nat} {L : List Nat} (q : QW r w i z L) (hle : r.le r') (hi : h.hc i=some (5,hid+1+z)) (he : ∀ d ∈ qEnt z,h.hc (d / 2)=some (4,hid)) (hr : ∀ iq,qRow z=iq+1→h.hc iq=some (0,hid)) (hd : ∀ j s x b c,(j=i∨qIn z j)→h.hc j=some (s,x)→r j=some (b,c)→TailEq w w' b s) : QW r' w' i z L:=by
 refine ⟨q.perm,?_,fun d hdm=>?_⟩
 ·obtain ⟨b,c,arr,e,fz,h1,h2,h3,h4⟩:=q.cache
  obtain ⟨arr',k1,k2,k3⟩:=hd i 5 _ b c (.inl rfl) hi h1 arr e fz h2
  refine ⟨b,c,arr',e,fz,hle _ _ h1,k1,k2.trans h3,?_⟩
  rcases h4 with ⟨g1,g2,g3⟩ | ⟨iq,bq,cq,arrq,eq,cap,g1,g2,g3,g4,g5,g6,g69,g7⟩
  ·exact .inl ⟨g1,g2,by rw [k3 5 (Nat.le_refl _)];exact g3⟩
  ·obtain ⟨arrq',m1,m2,m3⟩:=hd iq 0 _ bq cq (.inr (.inr g1)) (hr iq g1) g2 arrq eq (0,0) g3
   refine .inr ⟨iq,bq,cq,arrq',eq,cap,g1,hle _ _ g2,m1,by rw [k3 5 (Nat.le_refl _)];exact g4,g5,by rw [m2];exact g6,g69,fun k x hx=>?_⟩
   obtain ⟨bx,cx,n1,n2⟩:=g7 k x hx
   exact ⟨bx,cx,hle _ _ n1,by rw [m3 k (Nat.zero_le _)];exact n2⟩
 ·obtain ⟨bx,cx,arr,e,fz,u,a,h1,h2,h3,h4,h5,h6⟩:=q.bufs d hdm
  obtain ⟨arr',k1,k2,k3⟩:=hd (d / 2) 4 _ bx cx (.inr (.inl ⟨d,hdm,rfl⟩)) (he d hdm) h1 arr e fz h2
  exact ⟨bx,cx,arr',e,fz,u,a,hle _ _ h1,k1,k2.trans h3,by rw [k3 4 (Nat.le_refl _)];exact h4,by rw [k3 5 (by omega)];exact h5,h6⟩
theorem QOK.next {r r' : Ren} {h h' : CH} {w w' : World} (q : QOK r h w) (hle : r.le r') (hc : ∀ j,h'.hc j=h.hc j) (hd : HidEq r h w w') : QOK r' h' w':=by
 refine ⟨fun i z hi=>?_,fun i z i' z' j hi hi'=>q.two i z i' z' j (by rw [← hc];exact hi) (by rw [← hc];exact hi')⟩
 rw [hc] at hi
 obtain ⟨h1,h2,h3,L,h4⟩:=q.is i z hi
 exact ⟨fun d hdm=>by rw [hc];exact h1 d hdm,h2,fun iq hq=>by rw [hc];exact h3 iq hq,L,h4.next hle hi h1 h3 fun j s x b c _=>hd j s x b c⟩
theorem QOK.sub {r : Ren} {h hs : CH} {w : World} (q : QOK r h w) (hc : ∀ j x,hs.hc j=some x→h.hc j=some x) (hw : ∀ i z,hs.hc i=some (5,hid+1+z)→∀ j s,qIn z j→h.hc j=some (s,hid)→hs.hc j=some (s,hid)) : QOK r hs w:=by
 refine ⟨fun i z hi=>?_,fun i z i' z' j hi hi'=>q.two i z i' z' j (hc _ _ hi) (hc _ _ hi')⟩
 obtain ⟨h1,h2,h3,h4⟩:=q.is i z (hc _ _ hi)
 exact ⟨fun d hd=>hw i z hi _ _ (.inl ⟨d,hd,rfl⟩) (h1 d hd),h2,fun iq hq=>hw i z hi _ _ (.inr hq) (h3 iq hq),h4⟩
theorem QIs.in {r : Ren} {h : CH} {w : World} {i z j : Nat} (q : QIs r h w i z) (hj : qIn z j) : ∃ s,h.hc j=some (s,hid):=by
 rcases hj with ⟨d,h1,rfl⟩ | h1
 ·exact ⟨4,q.ents d h1⟩
 ·exact ⟨0,q.row j h1⟩
theorem QOK.join {r r' : Ren} {h hs h1 h' : CH} {w w' : World} (q : QOK r h w) (q1 : QOK r' h1 w') (hle : r.le r') (F1 : ∀ j x,h1.hc j=some x→h'.hc j=some x) (F2 : ∀ j x,h'.hc j=some x→h1.hc j=some x∨(h.hc j=some x∧hs.t.get j=Option.none))
  (F3 : ∀ j x,h.hc j=some x→hs.t.get j=Option.none→h1.t.get j=Option.none∧h'.hc j=some x) (F4 : ∀ j o,hs.t.get j=some o→hs.hc j=h.hc j) (F6 : ∀ j s,hs.hc j=some (s,hid)→∃ i z,hs.hc i=some (5,hid+1+z)∧qIn z j)
  (hst : ∀ j s x b c,h.hc j=some (s,x)→hs.t.get j=Option.none→r j=some (b,c)→TailEq w w' b s) : QOK r' h' w':=by
 have out : ∀ {i z j},h.hc i=some (5,hid+1+z)→hs.t.get i=Option.none→qIn z j→hs.t.get j=Option.none:=fun {i z j} hi hn hj=>by
  cases hg : hs.t.get j with
  | none=>rfl
  | some o =>
   obtain ⟨s,hs1⟩:=(q.is i z hi).in hj
   obtain ⟨i2,z2,k1,k2⟩:=F6 j s (by rw [F4 j o hg];exact hs1)
   obtain ⟨o2,g1,g2⟩ : ∃ o,hs.t.get i2=some o∧o.code=some (5,hid+1+z2):=by
    unfold CH.hc at k1
    split at k1
    ·exact ⟨_,‹_›,k1⟩
    ·cases k1
   have:=q.two i z i2 z2 j hi (by rw [← F4 i2 o2 g1];exact k1) hj k2
   subst this
   rw [hn] at g1
   cases g1
 refine ⟨fun i z hi=>?_,fun i z i' z' j hi hi' hj hj'=>?_⟩
 ·rcases F2 _ _ hi with h2 | ⟨h2,h3⟩
  ·obtain ⟨g1,g2,g3,g4⟩:=q1.is i z h2
   exact ⟨fun d hd=>F1 _ _ (g1 d hd),g2,fun iq hq=>F1 _ _ (g3 iq hq),g4⟩
  ·have qq:=q.is i z h2
   obtain ⟨g1,g2,g3,L,g4⟩:=qq
   exact ⟨fun d hd=>(F3 _ _ (g1 d hd) (out h2 h3 (.inl ⟨d,hd,rfl⟩))).2,g2,fun iq hq=>(F3 _ _ (g3 iq hq) (out h2 h3 (.inr hq))).2,L,g4.next hle h2 g1 g3 fun j s x b c hj hc hb=>by
    rcases hj with rfl | hj
    ·exact hst _ _ _ _ _ hc h3 hb
    ·exact hst _ _ _ _ _ hc (out h2 h3 hj) hb⟩
 ·have mix : ∀ {i z i' z' j},h1.hc i=some (5,hid+1+z)→h.hc i'=some (5,hid+1+z')→hs.t.get i'=Option.none→qIn z j→qIn z' j→False:=fun {i z i' z' j} k1 k2 k3 hj hj'=>by
   obtain ⟨s,hs1⟩:=(q1.is i z k1).in hj
   obtain ⟨s',hs2⟩:=(q.is i' z' k2).in hj'
   have:=(F3 _ _ hs2 (out k2 k3 hj')).1
   unfold CH.hc at hs1
   rw [this] at hs1
   cases hs1
  rcases F2 _ _ hi with h2 | ⟨h2,h3⟩
  ·rcases F2 _ _ hi' with k2 | ⟨k2,k3⟩
   ·exact q1.two i z i' z' j h2 k2 hj hj'
   ·exact (mix h2 k2 k3 hj hj').elim
  ·rcases F2 _ _ hi' with k2 | ⟨k2,k3⟩
   ·exact (mix k2 h2 h3 hj' hj).elim
   ·exact q.two i z i' z' j h2 k2 hj hj'
theorem QOK.none {r : Ren} {h : CH} {w : World} (hc : ∀ j,h.hc j=none) : QOK r h w:=⟨fun i z hi=>absurd ((hc i).symm.trans hi) (by simp),fun i z i' z' j hi=>absurd ((hc i).symm.trans hi) (by simp)⟩
def CObj.plain (o : CObj) : Prop:=o.code=none
theorem CH.hc_at {h : CH} {j : Nat} {o : CObj} (hj : h.t.get j=some o) : h.hc j=o.code:=by unfold CH.hc;rw [hj]
theorem CH.hc_no {h : CH} {j : Nat} (hj : h.t.get j=none) : h.hc j=none:=by unfold CH.hc;rw [hj]
theorem CH.hc_eq {h h' : CH} {j : Nat} (hj : h'.t.get j=h.t.get j) : h'.hc j=h.hc j:=by unfold CH.hc;rw [hj]
theorem CH.hc_some {h : CH} {j : Nat} {x : Nat × Nat} (hj : h.hc j=some x) : ∃ o,h.t.get j=some o∧o.code=some x:=by
 unfold CH.hc at hj
 split at hj
 ·exact ⟨_,‹_›,hj⟩
 ·cases hj
theorem code_size {size : Nat} {pat : Array Value} {cs : Tr Value} {e : TypeId} {tail : Option Nat} {s z : Nat} (h : (CObj.row size pat cs e tail).code=some (s,z)) : size=s:=by
 unfold CObj.code at h
 split at h
 ·rename_i he
  injection he with he
  split at h
  ·injection h with h;injection h with h1 h2;omega
  ·cases h
 ·cases h
theorem code_row {size : Nat} {pat pat' : Array Value} {cs cs' : Tr Value} {e e' : TypeId} {tail : Option Nat} : (CObj.row size pat cs e tail).code=(CObj.row size pat' cs' e' tail).code:=by
 cases tail <;> rfl
theorem code_some {size : Nat} {pat : Array Value} {cs : Tr Value} {e : TypeId} {z : Nat} (hz : z < hid) : (CObj.row size pat cs e (some z)).code=none:=by unfold CObj.code;exact if_neg (by omega)
noncomputable def openT (t : Option Nat) : Bool:=Option.rec (motive:=fun _=>Bool) true (fun z=>Nat.blt z hid) t
theorem openT_plain {size : Nat} {pat : Array Value} {cs : Tr Value} {e : TypeId} {tail : Option Nat} (h : openT tail=true) : (CObj.row size pat cs e tail).plain:=by
 cases tail with
 | none=>rfl
 | some z=>exact code_some (by rw [← Nat.blt_eq];exact h)
structure RW (r : Ren) (h : CH) (w : World) : Prop where
 obj : ∀ i o,h.t.get i=some o→∃ b c x,r i=some (b,c)∧w.heap[b]?=some x∧RO r c o x
 one : ∀ i j o p b c d,h.t.get i=some o→h.t.get j=some p→r i=some (b,c)→r j=some (b,d)→i=j
 top : ∀ i x,r i=some x→i < h.n
 low : ∀ i b c,r i=some (b,c)→b < w.heap.size
 pin : PinOK r w
 que : QOK r h w
structure Nx (r : Ren) (h : CH) (w : World) (r' : Ren) (h' : CH) (w' : World) : Prop where
 le : r.le r'
 rw : RW r' h' w'
 size : w.heap.size≤w'.heap.size
 os : w'.os=w.os
 tape : w'.tape=w.tape
 output : w'.output=w.output
 frame : ∀ b,b < w.heap.size→(∀ i o c,h.t.get i=some o→r i ≠ some (b,c))→w'.heap[b]?=w.heap[b]?
 live : ∀ i o b c,h'.t.get i=some o→r' i=some (b,c)→w.heap.size≤b∨∃ j p d,h.t.get j=some p∧r j=some (b,d)
 mono : h.n≤h'.n
 new : ∀ i x,r' i=some x→r i=some x∨h.n≤i
theorem Nx.refl {r : Ren} {h : CH} {w : World} (hw : RW r h w) : Nx r h w r h w :=
 ⟨r.le_refl,hw,Nat.le_refl _,rfl,rfl,rfl,fun _ _ _=>rfl,fun i o _b c hi hr=>.inr ⟨i,o,c,hi,hr⟩,Nat.le_refl _,fun _ _ hx=>.inl hx⟩
theorem Nx.trans {r r1 r2 : Ren} {h h1 h2 : CH} {w w1 w2 : World} (a : Nx r h w r1 h1 w1) (b : Nx r1 h1 w1 r2 h2 w2) : Nx r h w r2 h2 w2:=by
 refine ⟨Ren.le_trans a.le b.le,b.rw,Nat.le_trans a.size b.size,b.os.trans a.os,b.tape.trans a.tape,b.output.trans a.output,fun k hk hn=>?_,fun i o k c hi hr=>?_,Nat.le_trans a.mono b.mono,fun i x hx=>(b.new i x hx).elim (fun h1=>a.new i x h1) fun h1=>.inr (Nat.le_trans a.mono h1)⟩
 ·rw [b.frame k (Nat.lt_of_lt_of_le hk a.size),a.frame k hk hn]
  intro i o c hi hr
  rcases a.live i o k c hi hr with hl | ⟨j,p,d,hj,hd⟩
  ·omega
  ·exact hn j p d hj hd
 ·rcases b.live i o k c hi hr with hl | ⟨j,p,d,hj,hd⟩
  ·exact .inl (Nat.le_trans a.size hl)
  ·exact a.live j p k d hj hd
theorem RW.load {r : Ren} {h : CH} {w : World} (hw : RW r h w) {i b c off size : Nat} {pat : Array Value} {cs : Tr Value} {e : TypeId} {tail : Option Nat} {v : Value} (hi : h.t.get i=some (.row size pat cs e tail))
  (hr : r i=some (b,c)) (ho : off < size) (hv : CObj.at pat cs off=some v) : ∃ v',w.cell? ⟨b,off,none⟩=some v'∧w.frozen? ⟨b,off,none⟩=false∧RV r v v':=by
 obtain ⟨b',c',x,h1,h2,arr,fz,hz,rfl,h3,h4,h5⟩:=hw.obj i _ hi
 rw [hr] at h1
 injection h1 with h1
 injection h1 with e1 e2
 subst e1 e2
 obtain ⟨a,v',ha,hb,hrv⟩:=h5 off ho
 rw [hv] at ha
 injection ha with ha
 subst ha
 refine ⟨v',?_,?_,hrv⟩
 ·unfold World.cell?;rw [h2];simpa using hb
 ·unfold World.frozen?;rw [h2];have:=hz off (by omega);simpa using this
theorem CObj.at_set {pat : Array Value} {cs : Tr Value} {i j : Nat} {v : Value} (hi : i < 2 ^ 39) : CObj.at pat (cs.set i v) j=if i=j then some v else CObj.at pat cs j:=by
 unfold CObj.at
 rw [Tr.get_set hi]
 by_cases h : i=j
 ·rw [if_pos h,if_pos h]
 ·rw [if_neg h,if_neg h]
theorem RW.store {r : Ren} {h : CH} {w : World} (hw : RW r h w) {i b c off size : Nat} {pat : Array Value} {cs : Tr Value} {e : TypeId} {tail : Option Nat} {v v' : Value} (hi : h.t.get i=some (.row size pat cs e tail))
  (hr : r i=some (b,c)) (ho : off < size) (hv : RV r v v') (hi9 : i < 2 ^ 39) (ho9 : off < 2 ^ 39) :
  Nx r h w r ⟨h.t.set i (.row size pat (cs.set off v) e tail),h.n⟩ (w.setCell ⟨b,off,none⟩ v'):=by
 obtain ⟨b',c',x,h1,h2,arr,fz,hz,rfl,h3,h4,h5⟩:=hw.obj i _ hi
 rw [hr] at h1
 injection h1 with h1
 injection h1 with e1 e2
 subst e1 e2
 have hb : b < w.heap.size:=hw.low i b c hr
 have hset : ∀ k,(w.setCell ⟨b,off,none⟩ v').heap[k]?=if b=k then some (.cells (arr.setIfInBounds off v') e fz) else w.heap[k]?:=fun k=>by
  simp only [World.setCell,Array.getElem?_modify]
  by_cases hk : b=k
  ·subst hk;rw [if_pos rfl,if_pos rfl,h2];rfl
  ·rw [if_neg hk,if_neg hk]
 have hsz : (w.setCell ⟨b,off,none⟩ v').heap.size=w.heap.size:=by simp [World.setCell]
 refine ⟨r.le_refl,⟨fun j o hj=>?_,fun j k o p b1 c1 d1 hj hk=>?_,hw.top,fun j b1 c1 hj=>by rw [hsz];exact hw.low j b1 c1 hj,hw.pin.same fun k _ hn=>by rw [hset,if_neg];rintro rfl;exact hn i c hr,hw.que.next r.le_refl (fun j=>?_) fun j s z b1 c1 hc hj=>?_⟩,by rw [hsz];exact Nat.le_refl _,rfl,rfl,rfl,fun k hk hn=>?_,fun j o b1 c1 hj hr1=>?_,Nat.le_refl _,fun _ _ hx=>.inl hx⟩
 ·dsimp only at hj
  rw [Tr.get_set hi9] at hj
  by_cases hij : i=j
  ·rw [if_pos hij] at hj
   injection hj with hj
   subst hj
   refine ⟨b,c,_,by rw [← hij];exact hr,by rw [hset,if_pos rfl],_,fz,by simpa using hz,rfl,by simpa using h3,by simpa using h4,fun k hk=>?_⟩
   rw [CObj.at_set ho9,Array.getElem?_setIfInBounds]
   by_cases hok : off=k
   ·subst hok
    refine ⟨v,v',by rw [if_pos rfl],?_,hv⟩
    rw [if_pos rfl,if_pos (by omega)]
   ·rw [if_neg hok,if_neg hok];exact h5 k hk
  ·rw [if_neg hij] at hj
   obtain ⟨b1,c1,x,k1,k2,k3⟩:=hw.obj j o hj
   refine ⟨b1,c1,x,k1,?_,k3⟩
   rw [hset,if_neg,k2]
   intro hbb
   subst hbb
   exact hij (hw.one i j _ _ b c c1 hi hj hr k1)
 ·dsimp only at hj hk
  rw [Tr.get_set hi9] at hj hk
  have hj' : ∃ o,h.t.get j=some o:=by
   by_cases hij : i=j
   ·subst hij;exact ⟨_,hi⟩
   ·rw [if_neg hij] at hj;exact ⟨_,hj⟩
  have hk' : ∃ o,h.t.get k=some o:=by
   by_cases hij : i=k
   ·subst hij;exact ⟨_,hi⟩
   ·rw [if_neg hij] at hk;exact ⟨_,hk⟩
  obtain ⟨o1,hj'⟩:=hj'
  obtain ⟨p1,hk'⟩:=hk'
  exact hw.one j k o1 p1 b1 c1 d1 hj' hk'
 ·by_cases hij : i=j
  ·subst hij
   rw [CH.hc_at hi,CH.hc_at (o:=.row size pat (cs.set off v) e tail) (by dsimp only;rw [Tr.get_set hi9,if_pos rfl])]
   exact code_row
  ·exact CH.hc_eq (by dsimp only;rw [Tr.get_set hi9,if_neg hij])
 ·intro arr1 e1 fz1 hb1
  rw [hset]
  by_cases hbb : b=b1
  ·subst hbb
   rw [if_pos rfl]
   rw [h2] at hb1
   injection hb1 with hb1
   injection hb1 with q1 q2 q3
   subst q1 q2 q3
   have hij : i=j:=by
    obtain ⟨o,ho⟩:=CH.hc_some hc
    exact hw.one i j _ _ b c c1 hi ho.1 hr hj
   subst hij
   have hs : s=size:=by
    rw [CH.hc_at hi] at hc
    exact (code_size hc).symm
   subst hs
   exact ⟨_,rfl,by simp,fun k hk=>by rw [Array.getElem?_setIfInBounds,if_neg (by omega)]⟩
  ·rw [if_neg hbb];exact ⟨_,hb1,rfl,fun _ _=>rfl⟩
 ·rw [hset,if_neg]
  intro hbk
  exact hn i _ c hi (by rw [hr,hbk])
 ·dsimp only at hj
  rw [Tr.get_set hi9] at hj
  by_cases hij : i=j
  ·subst hij;exact .inr ⟨i,_,c1,hi,hr1⟩
  ·rw [if_neg hij] at hj;exact .inr ⟨j,o,c1,hj,hr1⟩
def Ren.put (r : Ren) (i : Nat) (x : Nat × Nat) : Ren:=fun j=>if j=i then some x else r j
theorem Ren.put_le {r : Ren} {i : Nat} {x : Nat × Nat} (h : r i=none) : r.le (r.put i x):=fun j y hj=>by
 unfold Ren.put
 by_cases hji : j=i
 ·subst hji;rw [h] at hj;cases hj
 ·rw [if_neg hji];exact hj
theorem Ren.put_at {r : Ren} {i : Nat} {x : Nat × Nat} : r.put i x i=some x:=by unfold Ren.put;rw [if_pos rfl]
theorem PinOK.put {r : Ren} {w w' : World} {i b c : Nat} (hp : PinOK r w) (hh : ∀ b,b < w.heap.size→(∀ i c,r i ≠ some (b,c))→w'.heap[b]?=w.heap[b]?) (hb : w.heap.size≤b∨∃ j d,r j=some (b,d)) : PinOK (r.put i (b,c)) w':=fun x hx=>by
 obtain ⟨h1,h3⟩:=hp.same hh x hx
 obtain ⟨⟨_,_,_,h4,_⟩,_⟩:=hp x hx
 have hlt:=(Array.getElem?_eq_some_iff.1 h4).1
 refine ⟨h1,fun j d hj=>?_⟩
 unfold Ren.put at hj
 by_cases hji : j=i
 ·rw [if_pos hji] at hj
  injection hj with hj
  injection hj with hj
  rcases hb with hb | ⟨k,d',hk⟩
  ·omega
  ·exact h3 k d' (by rw [hk,hj])
 ·rw [if_neg hji] at hj
  exact h3 j d hj
theorem RW.fresh {r : Ren} {h : CH} {w : World} (hw : RW r h w) : r h.n=none:=by
 cases hr : r h.n with
 | none=>rfl
 | some x=>have:=hw.top _ _ hr;omega
theorem hc_new {r : Ren} {h : CH} {w : World} (hw : RW r h w) (hn : h.n < 2 ^ 39) {o : CObj} (hpl : o.plain) (j : Nat) : (⟨h.t.set h.n o,h.n+1⟩ : CH).hc j=h.hc j:=by
 by_cases hj : h.n=j
 ·subst hj
  rw [CH.hc_at (o:=o) (by dsimp only;rw [Tr.get_set hn,if_pos rfl]),CH.hc_no]
  ·exact hpl
  ·cases hg : h.t.get h.n with
   | none=>rfl
   | some o =>
    obtain ⟨b,c,x,k1,_⟩:=hw.obj _ o hg
    have:=hw.top _ _ k1
    omega
 ·exact CH.hc_eq (by dsimp only;rw [Tr.get_set hn,if_neg hj])
theorem RW.alloc {r : Ren} {h : CH} {w : World} (hw : RW r h w) {size c : Nat} {pat : Array Value} {cs : Tr Value} {e : TypeId} {arr : Array Value} {tail : Option Nat} (hn : h.n < 2 ^ 39) (hs : size≤arr.size) (ht : TailOK tail size arr.size c) (hpl : (CObj.row size pat cs e tail).plain)
  (hv : ∀ i,i < size→∃ a b,CObj.at pat cs i=some a∧arr[i]?=some b∧RV r a b) :
  Nx r h w (r.put h.n (w.heap.size,c)) ⟨h.t.set h.n (.row size pat cs e tail),h.n+1⟩ { w with heap:=w.heap.push (.cells arr e) }:=by
 have hle : r.le (r.put h.n (w.heap.size,c)):=Ren.put_le hw.fresh
 have hget : ∀ k,k < w.heap.size→(w.heap.push (.cells arr e))[k]?=w.heap[k]?:=fun k hk=>by rw [Array.getElem?_push_lt hk,Array.getElem?_eq_getElem hk]
 have hold : ∀ j o,h.t.get j=some o→j ≠ h.n:=fun j o hj hjn=>by
  obtain ⟨b,c,x,k1,_⟩:=hw.obj j o hj
  have:=hw.top j _ k1
  omega
 refine ⟨hle,⟨fun j o hj=>?_,fun j k o p b1 c1 d1 hj hk r1 r2=>?_,fun j x hj=>?_,fun j b1 c1 hj=>?_,hw.pin.put (fun k hk _=>hget k hk) (.inl (Nat.le_refl _)),hw.que.next hle (hc_new hw hn hpl) fun j s z b c _ hj=>.of (hget b (hw.low j b c hj))⟩,by simp,rfl,rfl,rfl,fun k hk _=>hget k hk,fun j o b1 c1 hj hr1=>?_,Nat.le_succ _,fun i x hx=>(by
  unfold Ren.put at hx
  by_cases hi : i=h.n
  ·exact .inr (by omega)
  ·rw [if_neg hi] at hx;exact .inl hx)⟩
 ·dsimp only at hj
  rw [Tr.get_set hn] at hj
  by_cases hij : h.n=j
  ·rw [if_pos hij] at hj
   injection hj with hj
   subst hj hij
   refine ⟨w.heap.size,c,.cells arr e,Ren.put_at,by simp,_,(0,0),FzOK.none _,rfl,hs,ht,fun i hi=>?_⟩
   obtain ⟨a,b,k1,k2,k3⟩:=hv i hi
   exact ⟨a,b,k1,k2,k3.mono hle⟩
  ·rw [if_neg hij] at hj
   obtain ⟨b1,c1,x,k1,k2,k3⟩:=hw.obj j o hj
   refine ⟨b1,c1,x,hle _ _ k1,?_,k3.mono hle⟩
   show (w.heap.push _)[b1]?=_
   rw [hget b1 (hw.low j b1 c1 k1)];exact k2
 ·dsimp only at hj hk
  rw [Tr.get_set hn] at hj hk
  unfold Ren.put at r1 r2
  by_cases hij : h.n=j
  ·by_cases hik : h.n=k
   ·omega
   ·rw [if_neg hik] at hk
    rw [if_pos hij.symm] at r1
    rw [if_neg (fun e=>hik e.symm)] at r2
    injection r1 with r1
    injection r1 with r1
    have:=hw.low k b1 d1 r2
    omega
  ·rw [if_neg hij] at hj
   rw [if_neg (fun e=>hij e.symm)] at r1
   by_cases hik : h.n=k
   ·rw [if_pos hik.symm] at r2
    injection r2 with r2
    injection r2 with r2
    have:=hw.low j b1 c1 r1
    omega
   ·rw [if_neg hik] at hk
    rw [if_neg (fun e=>hik e.symm)] at r2
    exact hw.one j k o p b1 c1 d1 hj hk r1 r2
 ·unfold Ren.put at hj
  by_cases hij : j=h.n
  ·dsimp only;omega
  ·rw [if_neg hij] at hj
   have:=hw.top j x hj
   dsimp only;omega
 ·unfold Ren.put at hj
  show b1 < (w.heap.push _).size
  rw [Array.size_push]
  by_cases hij : j=h.n
  ·rw [if_pos hij] at hj
   injection hj with hj
   injection hj with hj
   omega
  ·rw [if_neg hij] at hj
   have:=hw.low j b1 c1 hj
   omega
 ·dsimp only at hj
  rw [Tr.get_set hn] at hj
  unfold Ren.put at hr1
  by_cases hij : h.n=j
  ·rw [if_pos hij.symm] at hr1
   injection hr1 with hr1
   injection hr1 with hr1
   exact .inl (by omega)
  ·rw [if_neg hij] at hj
   rw [if_neg (fun e=>hij e.symm)] at hr1
   exact .inr ⟨j,o,c1,hj,hr1⟩
theorem RW.moved {r : Ren} {h : CH} {w w' : World} (hw : RW r h w) {i b c : Nat} {o : CObj} {size : Nat} {pat : Array Value} {cs : Tr Value} {e : TypeId} {tail : Option Nat} (hi : h.t.get i=some o) (hr : r i=some (b,c))
  {arr : Array Value} {fz : Nat × Nat} (hz9 : FzOK arr.size fz) (hn : h.n < 2 ^ 39) (_hi9 : i < 2 ^ 39) (hs : size≤arr.size) (ht : TailOK tail size arr.size c) (hp1 : o.plain) (hp2 : (CObj.row size pat cs e tail).plain) (hv : ∀ k,k < size→∃ a b,CObj.at pat cs k=some a∧arr[k]?=some b∧RV r a b)
  (hb : w'.heap[b]?=some (.cells arr e fz)) (ho : ∀ k,k ≠ b→w'.heap[k]?=w.heap[k]?) (hz : w'.heap.size=w.heap.size) (os : w'.os=w.os) (tape : w'.tape=w.tape) (output : w'.output=w.output) :
  Nx r h w (r.put h.n (b,c)) ⟨(h.t.del i).set h.n (.row size pat cs e tail),h.n+1⟩ w':=by
 have hle : r.le (r.put h.n (b,c)):=Ren.put_le hw.fresh
 have hin : i < h.n:=hw.top i _ hr
 have hg : ∀ j,((h.t.del i).set h.n (.row size pat cs e tail)).get j=if h.n=j then some (.row size pat cs e tail) else if i=j then none else h.t.get j:=fun j=>by
  rw [Tr.get_set hn,Tr.get_del]
 refine ⟨hle,⟨fun j p hj=>?_,fun j k p q b1 c1 d1 hj hk r1 r2=>?_,fun j x hj=>?_,fun j b1 c1 hj=>?_,hw.pin.put (fun k _ hn=>ho k (by rintro rfl;exact hn i c hr)) (.inr ⟨i,c,hr⟩),hw.que.next hle (fun j=>?_) fun j s z b1 c1 hc hj=>.of (ho b1 ?_)⟩,by omega,os,tape,output,fun k hk hnl=>?_,fun j p b1 c1 hj hr1=>?_,Nat.le_succ _,fun i x hx=>(by
  unfold Ren.put at hx
  by_cases hi : i=h.n
  ·exact .inr (by omega)
  ·rw [if_neg hi] at hx;exact .inl hx)⟩
 ·dsimp only at hj
  rw [hg] at hj
  by_cases hij : h.n=j
  ·rw [if_pos hij] at hj
   injection hj with hj
   subst hj hij
   refine ⟨b,c,_,Ren.put_at,hb,arr,fz,hz9,rfl,hs,ht,fun k hk=>?_⟩
   obtain ⟨x,y,k1,k2,k3⟩:=hv k hk
   exact ⟨x,y,k1,k2,k3.mono hle⟩
  ·rw [if_neg hij] at hj
   by_cases hij2 : i=j
   ·rw [if_pos hij2] at hj;cases hj
   ·rw [if_neg hij2] at hj
    obtain ⟨b1,c1,x,k1,k2,k3⟩:=hw.obj j p hj
    refine ⟨b1,c1,x,hle _ _ k1,?_,k3.mono hle⟩
    rw [ho b1,k2]
    intro hbb
    subst hbb
    exact hij2 (hw.one i j _ _ _ c c1 hi hj hr k1)
 ·dsimp only at hj hk
  rw [hg] at hj hk
  unfold Ren.put at r1 r2
  by_cases hij : h.n=j
  ·by_cases hik : h.n=k
   ·omega
   ·rw [if_neg hik] at hk
    rw [if_pos hij.symm] at r1
    rw [if_neg (fun e=>hik e.symm)] at r2
    injection r1 with r1
    injection r1 with r1 r3
    subst r1
    by_cases hk2 : i=k
    ·rw [if_pos hk2] at hk;cases hk
    ·rw [if_neg hk2] at hk
     exact absurd (hw.one i k _ _ _ c d1 hi hk hr r2) hk2
  ·rw [if_neg hij] at hj
   rw [if_neg (fun e=>hij e.symm)] at r1
   by_cases hj2 : i=j
   ·rw [if_pos hj2] at hj;cases hj
   ·rw [if_neg hj2] at hj
    by_cases hik : h.n=k
    ·rw [if_pos hik.symm] at r2
     injection r2 with r2
     injection r2 with r2 r3
     subst r2
     exact absurd (hw.one i j _ _ _ c c1 hi hj hr r1) hj2
    ·rw [if_neg hik] at hk
     rw [if_neg (fun e=>hik e.symm)] at r2
     by_cases hk2 : i=k
     ·rw [if_pos hk2] at hk;cases hk
     ·rw [if_neg hk2] at hk
      exact hw.one j k p q b1 c1 d1 hj hk r1 r2
 ·unfold Ren.put at hj
  by_cases hij : j=h.n
  ·dsimp only;omega
  ·rw [if_neg hij] at hj
   have:=hw.top j x hj
   dsimp only;omega
 ·unfold Ren.put at hj
  rw [hz]
  by_cases hij : j=h.n
  ·rw [if_pos hij] at hj
   injection hj with hj
   injection hj with hj hj2
   subst hj
   exact hw.low i b c hr
  ·rw [if_neg hij] at hj
   exact hw.low j b1 c1 hj
 ·by_cases h1 : h.n=j
  ·subst h1
   rw [CH.hc_at (o:=.row size pat cs e tail) (by dsimp only;rw [hg,if_pos rfl]),CH.hc_no]
   ·exact hp2
   ·cases hgn : h.t.get h.n with
    | none=>rfl
    | some o =>
     obtain ⟨b,c,x,k1,_⟩:=hw.obj _ o hgn
     have:=hw.top _ _ k1
     omega
  ·by_cases h2 : i=j
   ·subst h2
    rw [CH.hc_at hi,CH.hc_no (by dsimp only;rw [hg,if_neg h1,if_pos rfl])]
    exact hp1.symm
   ·exact CH.hc_eq (by dsimp only;rw [hg,if_neg h1,if_neg h2])
 ·rintro rfl
  obtain ⟨o1,g1,g2⟩:=CH.hc_some hc
  have:=hw.one i j _ _ b1 c c1 hi g1 hr hj
  subst this
  rw [hi] at g1
  injection g1 with g1
  subst g1
  rw [hp1] at g2
  cases g2
 ·refine ho k fun hkb=>?_
  subst hkb
  exact hnl i o c hi hr
 ·dsimp only at hj
  rw [hg] at hj
  unfold Ren.put at hr1
  by_cases hij : h.n=j
  ·rw [if_pos hij.symm] at hr1
   injection hr1 with hr1
   injection hr1 with hr1 hr2
   subst hr1
   exact .inr ⟨i,o,c,hi,hr⟩
  ·rw [if_neg hij] at hj
   rw [if_neg (fun e=>hij e.symm)] at hr1
   by_cases hj2 : i=j
   ·rw [if_pos hj2] at hj;cases hj
   ·rw [if_neg hj2] at hj
    exact .inr ⟨j,p,c1,hj,hr1⟩
theorem Nx.world {r r' : Ren} {h h' : CH} {w w' w2 : World} (a : Nx r h w r' h' w') (hh : w2.heap=w'.heap) (os : w2.os=w'.os) (tape : w2.tape=w'.tape) (output : w2.output=w'.output) : Nx r h w r' h' w2 :=
 ⟨a.le,⟨fun i o hi=>let ⟨b,c,x,k1,k2,k3⟩:=a.rw.obj i o hi;⟨b,c,x,k1,by rw [hh];exact k2,k3⟩,a.rw.one,a.rw.top,fun i b c hi=>by rw [hh];exact a.rw.low i b c hi,a.rw.pin.same fun k _ _=>by rw [hh],a.rw.que.next r'.le_refl (fun _=>rfl) fun _ _ _ _ _ _ _=>.of (by rw [hh])⟩,
  by rw [hh];exact a.size,os.trans a.os,tape.trans a.tape,output.trans a.output,fun b hb hl=>by rw [hh];exact a.frame b hb hl,a.live,a.mono,a.new⟩
end Go.Ex
namespace Go.Ex
def flatB : Nat→Value→Bool
 | 0,_=>false
 | n+1,v=>match v with
  | .bool _ | .int _ _ | .string _ | .pointer none | .slice none _ _ | .map none | .nilFunc | .nilIface=>true
  | .func fn f c=>Fn.flat fn && f.size == 0 && c.size == 0
  | .agg xs | .tuple xs=>xs.toList.all (flatB n)
  | .iface _ x=>flatB n x
  | _=>false
theorem flatB_ok {r : Ren} {n : Nat} {v : Value} (h : flatB n v=true) : RV r v v:=by
 induction n generalizing v with
 | zero=>cases h
 | succ n ih =>
  cases v with
  | bool b=>exact .bool b
  | int k x=>exact .int k x
  | string s=>exact .str s
  | pointer a=>cases a with
   | none=>exact .nilPtr
   | some a=>cases h
  | slice a l c=>cases a with
   | none=>exact .nilSlice l c
   | some a=>cases h
  | map a=>cases a with
   | none=>exact .nilMap
   | some a=>cases h
  | nilFunc=>exact .nilFunc
  | nilIface=>exact .nilIface
  | func fn f c =>
   simp only [flatB,Bool.and_eq_true,beq_iff_eq] at h
   obtain ⟨⟨h1,h2⟩,h3⟩:=h
   refine .func h1 rfl rfl (fun i a b ha hb=>?_) (fun i a b ha hb=>?_)
   ·have:=(Array.getElem?_eq_some_iff.1 ha).1;omega
   ·have:=(Array.getElem?_eq_some_iff.1 ha).1;omega
  | agg xs =>
   simp only [flatB] at h
   refine .agg rfl fun i a b ha hb=>?_
   rw [ha] at hb
   injection hb with hb
   subst hb
   obtain ⟨hi,he⟩:=Array.getElem?_eq_some_iff.1 ha
   exact ih (List.all_eq_true.1 h a (by rw [← he];simp))
  | tuple xs =>
   simp only [flatB] at h
   refine .tuple rfl fun i a b ha hb=>?_
   rw [ha] at hb
   injection hb with hb
   subst hb
   obtain ⟨hi,he⟩:=Array.getElem?_eq_some_iff.1 ha
   exact ih (List.all_eq_true.1 h a (by rw [← he];simp))
  | iface t x=>exact .iface (ih h)
  | float k b=>cases h
  | complex k a b=>cases h
  | chan c=>cases h
theorem undef_ok {r : Ren} : RV r undef undef:=flatB_ok (n:=1) rfl
structure Cx where
 ro : Option Nat
 ds : List Deferred
def Cx.top : Cx:=⟨none,[]⟩
def Fe (ro : Option Nat) : Fence:={ Fence.wide with round:=ro }
theorem Fe.fn {ro : Option Nat} {f : FuncId} : (Fe ro).fn f:=trivial
variable {ε : Cx}
structure RF (ε : Cx) (r : Ren) (n : Nat) (t : Tr Value) (a : Act) : Prop where
 defers : a.defers=ε.ds
 size : a.tmps.size=n
 slot : ∀ i,i < n→∃ v,a.tmps[i]?=some v∧RV r ((t.get i).getD undef) v
theorem RF.mono {r s : Ren} {n : Nat} {t : Tr Value} {a : Act} (h : RF ε r n t a) (hs : r.le s) : RF ε s n t a :=
 ⟨h.defers,h.size,fun i hi=>let ⟨v,h1,h2⟩:=h.slot i hi;⟨v,h1,h2.mono hs⟩⟩
noncomputable def evT (n : Nat) (t : Tr Value) : Operand→Option Value
 | .tmp i=>match Nat.blt i n with
  | true=>some ((t.get i).getD undef)
  | false=>none
 | .const v=>match flatB 4 v with
  | true=>some v
  | false=>none
 | .global _=>none
 | .func f=>some (.func (.func f) #[] #[])
theorem RF.tmp {r : Ren} {n : Nat} {t : Tr Value} {a : Act} (h : RF ε r n t a) {i : Nat} (hi : i < n) : RV r ((t.get i).getD undef) (a.tmps.getD i undef):=by
 obtain ⟨v,h1,h2⟩:=h.slot i hi
 rw [Array.getD_eq_getD_getElem?,h1]
 exact h2
theorem ev_ok {r : Ren} {n : Nat} {t : Tr Value} {a : Act} (h : RF ε r n t a) {x : Operand} {v : Value} (he : evT n t x=some v) : RV r v (a.eval x):=by
 cases x with
 | tmp i =>
  simp only [evT] at he
  split at he
  ·rename_i hb
   injection he with he
   subst he
   exact h.tmp (by simpa [Nat.blt_eq] using hb)
  ·cases he
 | const c =>
  simp only [evT] at he
  split at he
  ·rename_i hf
   injection he with he
   subst he
   exact flatB_ok hf
  ·cases he
 | global g=>cases he
 | func f =>
  simp only [evT,Option.some.injEq] at he
  subst he
  exact flatB_ok (n:=1) rfl
theorem RF.put {r : Ren} {n : Nat} {t : Tr Value} {a : Act} (h : RF ε r n t a) {d : Nat} (hd : d < n) (hd9 : d < 2 ^ 39) {v v' : Value} (hv : RV r v v') : RF ε r n (t.set d v) (a.put (some d) v'):=by
 refine ⟨h.defers,by simpa [Act.put] using h.size,fun i hi=>?_⟩
 have hs:=h.size
 obtain ⟨u,h1,h2⟩:=h.slot i hi
 rw [Tr.get_set hd9]
 by_cases hdi : d=i
 ·subst hdi
  refine ⟨v',?_,by rw [if_pos rfl];exact hv⟩
  simp only [Act.put,Array.getElem?_setIfInBounds]
  simp only [if_true]
  rw [if_pos (by omega)]
 ·refine ⟨u,?_,by rw [if_neg hdi];exact h2⟩
  simp only [Act.put,Array.getElem?_setIfInBounds]
  rw [if_neg hdi,h1]
inductive XE where
 | normal
 | exit (id : Nat)
 | ret
def XE.out : XE→Exit
 | .normal=>.normal
 | .exit i=>.exit i
 | .ret=>.ret
noncomputable section
def wantT (n : Nat) (t : Tr Value) (ops : Array Oper) (o : Oper) : Bool:=match o.guard with
 | none=>true
 | some (j,b)=>match (ops[j]?).bind (·.dst) with
  | none=>false
  | some d=>match Nat.blt d n with
   | true=>match t.get d with
    | some (.bool c)=>c == b
    | _=>false
   | false=>false
end
theorem want_ok {r : Ren} {n : Nat} {t : Tr Value} {a : Act} (h : RF ε r n t a) {ops : Array Oper} {o : Oper} : Region.wanted o (yielded ops a.tmps)=wantT n t ops o:=by
 unfold Region.wanted wantT
 cases hgd : o.guard with
 | none=>rfl
 | some x =>
  obtain ⟨j,b⟩:=x
  dsimp only
  unfold yielded
  cases hd : (ops[j]?).bind (·.dst) with
  | none=>rfl
  | some d =>
   dsimp only
   simp only [Option.bind_some]
   cases hb : Nat.blt d n with
   | false =>
    have hn : ¬ d < n:=by rw [← Nat.blt_eq,hb];simp
    rw [Array.getElem?_eq_none (by rw [h.size];exact Nat.le_of_not_lt hn)]
    rfl
   | true =>
    have hn : d < n:=by rw [← Nat.blt_eq];exact hb
    obtain ⟨v,h1,h2⟩:=h.slot d hn
    rw [h1]
    cases ht : t.get d with
    | none =>
     rw [ht] at h2
     cases h2
     rfl
    | some u =>
     rw [ht] at h2
     cases h2 <;> rfl
end Go.Ex
namespace Go.Ex
variable {ε : Cx}
abbrev CallF:=FuncId→Array Value→CH→Option (Value × CH)
def CallOK (P : Program) (c : CallF) : Prop:=∀ (f : FuncId) (args : Array Value) (h : CH) (v : Value) (h' : CH),c f args h=some (v,h') →
 ∀ (r : Ren) (cargs : Array Value) (w : World),RVs r args cargs→RW r h w→Calls P f cargs w fun e w'=>∃ r' v',e=.returned v'∧Nx r h w r' h' w'∧RV r' v v'
def FnsOK (P : Program) (F : Tr Func) : Prop := ∀ f x, F.get f = some x → P.funcs[f]? = some x ∧ (x.name == "runtime.NumGoroutine") = false ∧ x.body.isNone = false
noncomputable section
def frameT (args : Array Value) : Tr Value:=(List.rec (motive:=fun _=>Nat→Tr Value→Tr Value) (fun _ t=>t) (fun v _ ih i t=>ih (Nat.succ i) (t.set i v)) args.toList) 0 .lf
end
theorem frame_go (l : List Value) (i : Nat) (t : Tr Value) (hi : i+l.length < 2 ^ 39) (j : Nat) :
  ((List.rec (motive:=fun _=>Nat→Tr Value→Tr Value) (fun _ t=>t) (fun v _ ih i t=>ih (Nat.succ i) (t.set i v)) l : Nat→Tr Value→Tr Value) i t).get j=if i≤j∧j < i+l.length then l[j - i]? else t.get j:=by
 induction l generalizing i t with
 | nil=>rw [if_neg (by simp)]
 | cons v l ih =>
  show ((List.rec (motive:=fun _=>Nat→Tr Value→Tr Value) (fun _ t=>t) (fun v _ ih i t=>ih (Nat.succ i) (t.set i v)) l : Nat→Tr Value→Tr Value) (i+1) (t.set i v)).get j=_
  simp only [List.length_cons] at hi
  rw [ih (i+1) (t.set i v) (by omega),Tr.get_set (by omega)]
  simp only [List.length_cons]
  by_cases h1 : i+1≤j∧j < i+1+l.length
  ·rw [if_pos h1,if_pos (by omega),show j - i=(j - (i+1))+1 from by omega];simp
  ·rw [if_neg h1]
   by_cases h2 : i=j
   ·subst h2;rw [if_pos rfl,if_pos (by omega)];simp
   ·rw [if_neg h2,if_neg (by omega)]
theorem frame_ok {r : Ren} {args cargs : Array Value} {n : Nat} (h : RVs r args cargs) (hn : args.size≤n) (h9 : n < 100000) {ro : Option Nat} : RF ⟨ro,[]⟩ r n (frameT args) { tmps:=cargs ++ Array.replicate (n - cargs.size) undef,defers:=[] }:=by
 have hsz:=h.1
 refine ⟨rfl,by simp;omega,fun i hi=>?_⟩
 have hg:=frame_go args.toList 0 .lf (by simp;omega) i
 unfold frameT
 rw [hg]
 simp only [Nat.zero_le,true_and,Nat.zero_add,Array.length_toList,Nat.sub_zero,Array.getElem?_toList,Tr.get_lf]
 by_cases hlt : i < args.size
 ·have hlt' : i < cargs.size:=by omega
  refine ⟨cargs[i],by simp [Array.getElem?_append,hlt'],?_⟩
  rw [if_pos hlt,Array.getElem?_eq_getElem hlt]
  exact h.2 i _ _ (Array.getElem?_eq_getElem hlt) (Array.getElem?_eq_getElem hlt')
 ·refine ⟨undef,?_,?_⟩
  ·rw [Array.getElem?_append_right (by omega),Array.getElem?_replicate,if_pos (by omega)]
  ·rw [if_neg hlt];exact undef_ok
theorem then_mono {Q : Exit→Act→World→Prop} {K : Act→World→Prop} {x : XE} {a : Act} {w : World} (h1 : x=.normal→K a w) (h2 : x ≠ .normal→Q x.out a w) : Exit.then K Q x.out a w:=by
 cases x with
 | normal=>exact h1 rfl
 | exit i=>exact h2 (by simp)
 | ret=>exact h2 (by simp)
end Go.Ex
namespace Go.Ex
variable {ε : Cx}
structure Ty where
 desc : TypeDesc
 size : Nat
 bytes : Nat
 agg : Bool
 zero : Option Value
 flds : List (Nat × Nat)
 plain : Bool
 meths : Array Method
def descAgg : TypeDesc→Bool
 | .struct _ | .array _ _=>true
 | _=>false
def fldsL (P : Program) : List Field→Option (List (Nat × Nat))
 | []=>some []
 | f :: l=>match P.info? f.type,fldsL P l with
  | some i,some r=>some ((f.offset,i.size) :: r)
  | _,_=>none
def fldsOf (P : Program) : TypeDesc→Option (List (Nat × Nat))
 | .struct fs=>fldsL P fs.toList
 | _=>some []
def tyOf (P : Program) (t : TypeId) : Option Ty:=match P.info? t,P.underlying t with
 | some i,some d=>match fldsOf P d with
  | some l=>some ⟨d,i.size,i.bytes,descAgg d,i.zero,l,!P.stoodInHeld t && !P.eqGuardType P.depth t,i.methods⟩
  | none=>none
 | _,_=>none
def TabOK (P : Program) (T : Tr Ty) : Prop:=∀ t y,T.get t=some y→tyOf P t=some y
structure TyOK (P : Program) (t : TypeId) (y : Ty) : Prop where
 info : ∃ i,P.info? t=some i∧i.size=y.size∧i.bytes=y.bytes∧i.zero=y.zero
 meths : ∃ i,P.info? t=some i∧i.methods=y.meths
 desc : P.underlying t=some y.desc
 agg : y.agg=descAgg y.desc
 flds : fldsOf P y.desc=some y.flds
 plain : y.plain=true→P.stoodInHeld t=false∧P.eqGuardType P.depth t=false
theorem TabOK.at {P : Program} {T : Tr Ty} (hT : TabOK P T) {t : TypeId} {y : Ty} (h : T.get t=some y) : TyOK P t y:=by
 have h:=hT t y h
 unfold tyOf at h
 split at h
 ·rename_i i d hi hd
  split at h
  ·rename_i l hl
   injection h with h
   subst h
   exact ⟨⟨i,hi,rfl,rfl,rfl⟩,⟨i,hi,rfl⟩,hd,rfl,hl,fun hp=>by simpa using hp⟩
  ·cases h
 ·cases h
section
variable {P : Program} {w : World}
theorem run_val {s : Sem Value} {v : Value} {w' : World} (h : s.run P w=.ok v w') : (do pure (.value (← s)) : Sem Next).run P w=.ok (.value v) w':=by
 rw [Sem.run_bind,h];rfl
theorem run_skip {s : Sem Unit} {w' : World} (h : s.run P w=.ok () w') : (do s;pure .skip : Sem Next).run P w=.ok .skip w':=by
 rw [Sem.run_bind,h];rfl
theorem run_info {t : TypeId} {i : TypeInfo} (h : P.info? t=some i) : (typeInfo t).run P w=.ok i w:=by simp [typeInfo,h]
theorem run_under {t : TypeId} {i : TypeDesc} (h : P.underlying t=some i) : (underlying t).run P w=.ok i w:=by simp [underlying,h]
theorem TyOK.run_size {t : TypeId} {y : Ty} (h : TyOK P t y) : (sizeOf t).run P w=.ok y.size w:=by
 obtain ⟨i,h1,h2,_⟩:=h.info
 simp [sizeOf,run_info h1,h2]
theorem TyOK.run_agg {t : TypeId} {y : Ty} (h : TyOK P t y) : (isAgg t).run P w=.ok y.agg w:=by
 rw [h.agg]
 unfold isAgg
 rw [Sem.run_bind,run_under h.desc]
 cases y.desc <;> rfl
theorem TyOK.run_under {t : TypeId} {y : Ty} (h : TyOK P t y) : (underlying t).run P w=.ok y.desc w:=Ex.run_under h.desc
theorem TyOK.run_zero {t : TypeId} {y : Ty} {z : Value} (h : TyOK P t y) (hz : y.zero=some z) : (zeroValue t).run P w=.ok z w:=by
 obtain ⟨i,h1,_,_,h4⟩:=h.info
 simp [zeroValue,run_info h1,h4,hz]
end
theorem no_defer {P : Program} {o : Oper} {ρ : Operand→Value} {w w' : World} {x : Next} (h : (execOp ρ o).run P w=.ok x w') (hx : ∀ d,x ≠ .defer d) : ∀ c,o.op ≠ .defer c:=fun c hc=>by
 unfold execOp at h
 rw [hc] at h
 dsimp only at h
 rw [Sem.run_bind] at h
 generalize (resolve ρ c o.type).run P w=y at h
 cases y with
 | ok d w1 =>
  have h : Result.ok (Next.defer d) w1=.ok x w':=h
  injection h with h1 h2
  exact hx d h1.symm
 | halt z w1=>cases h
theorem wp_val {ro : Option Nat} {P : Program} {o : Oper} {a : Act} {w w' : World} {v : Value} {K : Act→World→Prop} {Q : Exit→Act→World→Prop} (h : (execOp a.eval o).run P w=.ok (.value v) w') (hk : K (a.put o.dst v) w') : o.wpIn (Fe ro) 0 P a w K Q:=by
 refine ⟨fun _ _=>trivial,?_⟩
 rw [Oper.semAt_eq _ _ _ (no_defer h fun d=>by simp),h];exact hk
theorem wp_skipped {ro : Option Nat} {P : Program} {o : Oper} {a : Act} {w w' : World} {K : Act→World→Prop} {Q : Exit→Act→World→Prop} (h : (execOp a.eval o).run P w=.ok .skip w') (hk : K (a.put o.dst undef) w') : o.wpIn (Fe ro) 0 P a w K Q:=by
 refine ⟨fun _ _=>trivial,?_⟩
 rw [Oper.semAt_eq _ _ _ (no_defer h fun d=>by simp),h];exact hk
theorem wp_enters {ro : Option Nat} {P : Program} {o : Oper} {a : Act} {w w' : World} {f : FuncId} {args : Array Value} {K : Act→World→Prop} {Q : Exit→Act→World→Prop} (h : (execOp a.eval o).run P w=.ok (.enter f args) w')
  (hk : Calls P f args w' fun e w''=>∃ v,e=.returned v∧K (a.put o.dst v) w'') : o.wpIn (Fe ro) 0 P a w K Q:=by
 refine ⟨fun _ _=>trivial,?_⟩
 rw [Oper.semAt_eq _ _ _ (no_defer h fun d=>by simp),h,Oper.uponIn_enter]
 refine ⟨fun h=>(by cases h),?_⟩
 have h1 : CallsIn Fence.wide (0 - 1) P f args w' fun e w''=>∃ v,e=.returned v∧K (a.put o.dst v) w'':=callsIn_wide.2 hk
 have h2 : CallsIn (Fe ro) (0 - 1) P f args w' fun e w''=>∃ v,e=.returned v∧K (a.put o.dst v) w'':=h1
 refine h2.mono fun e w'' he=>?_
 obtain ⟨v,rfl,hK⟩:=he
 exact hK
noncomputable section
def wrapT (k : IntKind) (n : Int) : Int:=match n with
 | .ofNat m=>match Nat.blt m (match k with | .i8=>0 | .u8=>256 | .i16=>0 | .u16=>65536 | .i32=>2147483648 | .u32=>4294967296 | .i64=>9223372036854775808 | .u64=>18446744073709551616) with
  | true=>.ofNat m
  | false=>k.wrap n
 | .negSucc m=>match Nat.blt m (match k with | .i32=>2147483648 | .i64=>9223372036854775808 | _=>0) with
  | true=>.negSucc m
  | false=>k.wrap n
end
theorem wrapT_eq (k : IntKind) (n : Int) : wrapT k n=k.wrap n:=by
 cases n with
 | ofNat m =>
  simp only [wrapT]
  split
  ·rename_i h
   rw [Nat.blt_eq] at h
   cases k <;> dsimp only at h <;> (try exact absurd h (Nat.not_lt_zero _)) <;> simp only [Int.ofNat_eq_natCast,IntKind.wrap_i32,IntKind.wrap_i64,IntKind.wrap_u8,IntKind.wrap_u16,IntKind.wrap_u32,IntKind.wrap_u64] <;> omega
  ·rfl
 | negSucc m =>
  simp only [wrapT]
  split
  ·rename_i h
   rw [Nat.blt_eq] at h
   cases k <;> dsimp only at h <;> (try exact absurd h (Nat.not_lt_zero _)) <;> simp only [IntKind.wrap_i32,IntKind.wrap_i64] <;> omega
  ·rfl
noncomputable section
def ltT : Int→Int→Bool
 | .ofNat a,.ofNat b=>Nat.blt a b
 | .ofNat _,.negSucc _=>false
 | .negSucc _,.ofNat _=>true
 | .negSucc a,.negSucc b=>Nat.blt b a
def leT : Int→Int→Bool
 | .ofNat a,.ofNat b=>Nat.ble a b
 | .ofNat _,.negSucc _=>false
 | .negSucc _,.ofNat _=>true
 | .negSucc a,.negSucc b=>Nat.ble b a
def eqT : Int→Int→Bool
 | .ofNat a,.ofNat b=>Nat.beq a b
 | .ofNat _,.negSucc _=>false
 | .negSucc _,.ofNat _=>false
 | .negSucc a,.negSucc b=>Nat.beq a b
end
theorem ltT_eq (a b : Int) : ltT a b=decide (a < b):=by
 cases a <;> cases b <;> simp only [ltT] <;> rw [Bool.eq_iff_iff] <;> simp [Nat.blt_eq] <;> omega
theorem leT_eq (a b : Int) : leT a b=decide (a≤b):=by
 cases a <;> cases b <;> simp only [leT] <;> rw [Bool.eq_iff_iff] <;> simp [Nat.ble_eq] <;> omega
theorem eqT_eq (a b : Int) : eqT a b=(a == b):=by
 cases a <;> cases b <;> simp only [eqT] <;> rw [Bool.eq_iff_iff] <;> simp [Nat.beq_eq] <;> omega
theorem kindBeq (a b : IntKind) (h : (match a,b with | .i8,.i8 | .i16,.i16 | .i32,.i32 | .i64,.i64 | .u8,.u8 | .u16,.u16 | .u32,.u32 | .u64,.u64=>true | _,_=>false)=true) : a=b:=by
 cases a <;> cases b <;> simp_all
noncomputable section
def kindT (a b : IntKind) : Bool:=match a,b with | .i8,.i8 | .i16,.i16 | .i32,.i32 | .i64,.i64 | .u8,.u8 | .u16,.u16 | .u32,.u32 | .u64,.u64=>true | _,_=>false
def intT (op : BinOp) (k : IntKind) (a b : Int) : Option Value:=match op with
 | .add=>some (.int k (wrapT k (Int.add a b)))
 | .sub=>some (.int k (wrapT k (Int.sub a b)))
 | .mul=>some (.int k (wrapT k (Int.mul a b)))
 | .quo=>match eqT b 0 with
  | true=>none
  | false=>match a,b with
   | .ofNat x,.ofNat y=>some (.int k (wrapT k (.ofNat (Nat.div x y))))
   | _,_=>some (.int k (wrapT k (Int.tdiv a b)))
 | .rem=>match eqT b 0 with
  | true=>none
  | false=>match a,b with
   | .ofNat x,.ofNat y=>some (.int k (.ofNat (Nat.mod x y)))
   | _,_=>some (.int k (Int.tmod a b))
 | .eql=>some (.bool (eqT a b))
 | .neq=>some (.bool (eqT a b).not)
 | .lss=>some (.bool (ltT a b))
 | .leq=>some (.bool (leT a b))
 | .gtr=>some (.bool (ltT b a))
 | .geq=>some (.bool (leT b a))
 | .and=>some (.int k (wrapT k (.ofNat (BitVec.ofInt k.bits a &&& BitVec.ofInt k.bits b).toNat)))
 | .or=>some (.int k (wrapT k (.ofNat (BitVec.ofInt k.bits a ||| BitVec.ofInt k.bits b).toNat)))
 | .xor=>some (.int k (wrapT k (.ofNat (BitVec.ofInt k.bits a ^^^ BitVec.ofInt k.bits b).toNat)))
 | .andNot=>some (.int k (wrapT k (.ofNat (BitVec.ofInt k.bits a &&& ~~~BitVec.ofInt k.bits b).toNat)))
 | _=>none
end
theorem intT_ok {op : BinOp} {k : IntKind} {a b : Int} {v : Value} (h : intT op k a b=some v) : (∃ n,v=.int k n)∨(∃ x,v=.bool x):=by
 cases op <;> simp only [intT] at h <;> (try split at h) <;> (try split at h) <;> simp only [Option.some.injEq,reduceCtorEq] at h <;> subst h <;> first | exact .inl ⟨_,rfl⟩ | exact .inr ⟨_,rfl⟩
theorem intT_run {P : Program} {w : World} {op : BinOp} {k : IntKind} {a b : Int} {v : Value} {t : TypeId} (h : intT op k a b=some v) : (binOp op t (.int k a) (.int k b)).run P w=.ok v w:=by
 cases op <;> simp only [intT,reduceCtorEq] at h <;> simp only [binOp,ne_eq,not_true_eq_false,if_false,Op.intArith,Op.intDiv,Op.intBits,Op.intCmp]
 case add=>injection h with h;subst h;rw [wrapT_eq];rfl
 case sub=>injection h with h;subst h;rw [wrapT_eq];rfl
 case mul=>injection h with h;subst h;rw [wrapT_eq];rfl
 case quo =>
  split at h
  ·cases h
  rename_i hb
  rw [eqT_eq] at hb
  rw [if_neg (by simpa using hb)]
  split at h <;> injection h with h <;> subst h <;> rw [wrapT_eq] <;> rfl
 case rem =>
  split at h
  ·cases h
  rename_i hb
  rw [eqT_eq] at hb
  rw [if_neg (by simpa using hb)]
  split at h <;> injection h with h <;> subst h <;> rfl
 case eql=>injection h with h;subst h;rw [eqT_eq];rfl
 case neq=>injection h with h;subst h;rw [eqT_eq];rfl
 case lss=>injection h with h;subst h;rw [ltT_eq];rfl
 case leq=>injection h with h;subst h;rw [leT_eq];rfl
 case gtr=>injection h with h;subst h;rw [ltT_eq];rfl
 case geq=>injection h with h;subst h;rw [leT_eq];rfl
 case and=>injection h with h;subst h;rw [wrapT_eq];rfl
 case or=>injection h with h;subst h;rw [wrapT_eq];rfl
 case xor=>injection h with h;subst h;rw [wrapT_eq];rfl
 case andNot=>injection h with h;subst h;rw [wrapT_eq];rfl
theorem flds_run {P : Program} {w : World} {fs : List Field} {l : List (Nat × Nat)} (h : fldsL P fs=some l) : (fs.mapM fun f=>(do pure (f.offset,← sizeOf f.type) : Sem (Nat × Nat))).run P w=.ok l w:=by
 induction fs generalizing l with
 | nil=>injection h with h;subst h;rfl
 | cons f fs ih =>
  unfold fldsL at h
  split at h
  ·rename_i i r hi hr
   injection h with h
   subst h
   have hs : (sizeOf f.type).run P w=.ok i.size w:=by simp [sizeOf,run_info hi]
   simp only [List.mapM_cons,Sem.run_bind,hs,Result.andThen,Sem.run_pure,ih hr]
  ·cases h
theorem flds_at {P : Program} {fs : List Field} {l : List (Nat × Nat)} (h : fldsL P fs=some l) {k off n : Nat} (hk : l[k]?=some (off,n)) : ∃ f i,fs[k]?=some f∧f.offset=off∧P.info? f.type=some i∧i.size=n:=by
 induction fs generalizing l k with
 | nil=>injection h with h;subst h;simp at hk
 | cons f fs ih =>
  unfold fldsL at h
  split at h
  ·rename_i i r hi hr
   injection h with h
   subst h
   cases k with
   | zero =>
    simp at hk
    exact ⟨f,i,rfl,hk.1,hi,hk.2⟩
   | succ k=>simpa using ih hr (by simpa using hk)
  ·cases h
end Go.Ex
namespace Go.Ex
theorem RVs.list {r : Ren} {xs ys : Array Value} (h : RVs r xs ys) : xs.toList.length=ys.toList.length∧∀ (i : Nat) (a b : Value),xs.toList[i]?=some a→ys.toList[i]?=some b→RV r a b :=
 ⟨by simpa using h.1,fun i a b ha hb=>h.2 i a b (by simpa using ha) (by simpa using hb)⟩
theorem RV.cells {r : Ren} {a b : Value} (h : RV r a b) : RVs r a.cells b.cells:=by
 have one : ∀ {x y : Value},RV r x y→RVs r #[x] #[y]:=fun hxy=>⟨rfl,fun i p q hp hq=>by
  cases i with
  | zero=>simp at hp hq;subst hp hq;exact hxy
  | succ i=>simp at hp⟩
 cases h with
 | agg h k=>exact ⟨h,k⟩
 | bool b=>exact one (.bool b)
 | int k n=>exact one (.int k n)
 | str s=>exact one (.str s)
 | nilPtr=>exact one .nilPtr
 | ptr h=>exact one (.ptr h)
 | nilSlice l c=>exact one (.nilSlice l c)
 | slice h l cap hc=>exact one (.slice h l cap hc)
 | sliceU h l hc hl=>exact one (.sliceU h l hc hl)
 | sliceE h=>exact one (.sliceE h)
 | nilMap=>exact one .nilMap
 | map h=>exact one (.map h)
 | nilFunc=>exact one .nilFunc
 | func hf h1 h2 k1 k2=>exact one (.func hf h1 h2 k1 k2)
 | nilIface=>exact one .nilIface
 | iface h=>exact one (.iface h)
 | tuple h k=>exact one (.tuple h k)
theorem Nx.congr {r r' : Ren} {h h1 h2 : CH} {w w' : World} (a : Nx r h w r' h1 w') (hn : h2.n=h1.n) (hg : ∀ i,h2.t.get i=h1.t.get i) : Nx r h w r' h2 w' :=
 ⟨a.le,⟨fun i o hi=>a.rw.obj i o (by rw [← hg];exact hi),fun i j o p b c d hi hj=>a.rw.one i j o p b c d (by rw [← hg];exact hi) (by rw [← hg];exact hj),fun i x hx=>by rw [hn];exact a.rw.top i x hx,a.rw.low,a.rw.pin,a.rw.que.next r'.le_refl (fun j=>CH.hc_eq (hg j)) fun _ _ _ _ _ _ _=>.of rfl⟩,
  a.size,a.os,a.tape,a.output,a.frame,fun i o b c hi hr=>a.live i o b c (by rw [← hg];exact hi) hr,by rw [hn];exact a.mono,a.new⟩
noncomputable section
def cellsT (pat : Array Value) (cs : Tr Value) (n : Nat) : Nat→Option (List Value):=Nat.rec (motive:=fun _=>Nat→Option (List Value)) (fun _=>some [])
 (fun _ ih off=>match CObj.at pat cs off with
  | some v=>match ih (Nat.succ off) with
   | some l=>some (v :: l)
   | none=>none
  | none=>none) n
def loadT (T : Tr Ty) (t : TypeId) (a : Value) (h : CH) : Option Value:=match a with
 | .pointer (some ⟨i,off,none⟩)=>match h.t.get i with
  | some (.row size pat cs _ _)=>match T.get t with
   | some y=>match y.agg with
    | false=>match Nat.blt off size with
     | true=>CObj.at pat cs off
     | false=>none
    | true=>match Nat.ble (Nat.add off y.size) size with
     | true=>match cellsT pat cs y.size off with
      | some l=>some (.agg ⟨l⟩)
      | none=>none
     | false=>none
   | none=>none
  | _=>none
 | _=>none
end
theorem cellsT_succ {pat : Array Value} {cs : Tr Value} {n off : Nat} : cellsT pat cs (n+1) off=(match CObj.at pat cs off with
  | some v=>match cellsT pat cs n (off+1) with
   | some l=>some (v :: l)
   | none=>none
  | none=>none):=rfl
theorem cellsT_len {pat : Array Value} {cs : Tr Value} {n off : Nat} {l : List Value} (h : cellsT pat cs n off=some l) : l.length=n∧∀ k,k < n→l[k]?=CObj.at pat cs (off+k):=by
 induction n generalizing off l with
 | zero=>injection h with h;subst h;exact ⟨rfl,fun k hk=>by omega⟩
 | succ n ih =>
  rw [cellsT_succ] at h
  split at h
  ·rename_i v hv
   split at h
   ·rename_i l' hl
    injection h with h
    subst h
    obtain ⟨k1,k2⟩:=ih hl
    refine ⟨by simp [k1],fun k hk=>?_⟩
    cases k with
    | zero=>simpa using hv.symm
    | succ k=>simp only [List.getElem?_cons_succ];rw [k2 k (by omega)];congr 1;omega
   ·cases h
  ·cases h
theorem Addr.add_flat (b off k : Nat) : (⟨b,off,none⟩ : Addr).add k=⟨b,off+k,none⟩:=by
 unfold Addr.add;split <;> simp_all
theorem load_ok {P : Program} {T : Tr Ty} (hT : TabOK P T) {t : TypeId} {a a' v : Value} {r : Ren} {h : CH} {w : World} (hW : RW r h w) (ha : RV r a a') (hl : loadT T t a h=some v) :
  ∃ v',(Instr.loadAt t a').run P w=.ok v' w∧RV r v v':=by
 unfold loadT at hl
 split at hl
 case h_2=>cases hl
 rename_i i off
 cases ha with
 | @ptr _ b c _ hr =>
 split at hl
 case h_2=>cases hl
 rename_i size pat cs e tail hi
 split at hl
 case h_2=>cases hl
 rename_i y hy
 have hY:=hT.at hy
 unfold Instr.loadAt Instr.sureAddr loadVar
 split at hl
 ·rename_i hagg
  split at hl
  case h_2=>cases hl
  rename_i hb
  rw [Nat.blt_eq] at hb
  obtain ⟨v',h1,_,h3⟩:=hW.load hi hr hb hl
  refine ⟨v',?_,h3⟩
  simp [hY.run_agg,hagg,h1]
 ·rename_i hagg
  split at hl
  case h_2=>cases hl
  rename_i hb
  replace hb : off+y.size≤size:=by rw [Nat.ble_eq] at hb;exact hb
  split at hl
  case h_2=>cases hl
  rename_i l hcl
  injection hl with hl
  subst hl
  obtain ⟨k1,k2⟩:=cellsT_len hcl
  have hcell : ∀ k,k < y.size→∃ u,w.cell? ⟨b,off+k,none⟩=some u∧RV r (l[k]?.getD undef) u:=fun k hk=>by
   have hc:=k2 k hk
   have hlt : k < l.length:=by omega
   rw [List.getElem?_eq_getElem hlt] at hc
   obtain ⟨u,u1,_,u3⟩:=hW.load hi hr (by omega : off+k < size) hc.symm
   exact ⟨u,u1,by rw [List.getElem?_eq_getElem hlt];exact u3⟩
  refine ⟨.agg ((List.range y.size).map fun k=>(w.cell? ⟨b,off+k,none⟩).getD undef).toArray,?_,.agg (by simp [k1]) fun k p q hp hq=>?_⟩
  ·simp [hY.run_agg,hagg,hY.run_size]
   rw [run_loadCells w _ y.size (fun k=>(w.cell? ⟨b,off+k,none⟩).getD undef) fun k hk=>by
    obtain ⟨u,u1,_⟩:=hcell k hk
    rw [Addr.add_flat,u1];rfl]
   simp
  ·have hk : k < y.size:=by
    have:=(Array.getElem?_eq_some_iff.1 hp).1
    simpa [k1] using this
   obtain ⟨u,u1,u2⟩:=hcell k hk
   have hp' : l[k]?=some p:=by simpa using hp
   simp [List.getElem?_map,List.getElem?_range hk,u1] at hq
   subst hq
   rw [hp'] at u2
   exact u2
noncomputable section
def oneT : Value→Bool
 | .agg _ | .tuple _=>false
 | _=>true
def setsT (l : List Value) : Tr Value→Nat→Option (Tr Value):=List.rec (motive:=fun _=>Tr Value→Nat→Option (Tr Value)) (fun cs _=>some cs)
 (fun v _ ih cs off=>match oneT v with
  | true=>ih (cs.set off v) (Nat.succ off)
  | false=>none) l
def storeT (T : Tr Ty) (t : TypeId) (a v : Value) (h : CH) : Option CH:=match a with
 | .pointer (some ⟨i,off,none⟩)=>match h.t.get i with
  | some (.row size pat cs e tail)=>match T.get t with
   | some y=>match Nat.beq v.cells.toList.length y.size && Nat.ble (Nat.add off y.size) size && Nat.blt i 100000000 && Nat.blt size 100000000 with
    | true=>match setsT v.cells.toList cs off with
     | some cs'=>some ⟨h.t.set i (.row size pat cs' e tail),h.n⟩
     | none=>none
    | false=>none
   | none=>none
  | _=>none
 | _=>none
end
theorem one_ok {r : Ren} {a b : Value} (h : RV r a b) (ho : oneT a=true) : b.oneCell'=true:=by
 cases h <;> first | rfl | cases ho
theorem sets_ok {P : Program} {r : Ren} {h : CH} {w : World} (hW : RW r h w) {i b c size off k : Nat} {pat : Array Value} {cs cs' : Tr Value} {e : TypeId} {tail : Option Nat} (hi : h.t.get i=some (.row size pat cs e tail)) (hr : r i=some (b,c))
  {l l' : List Value} (hl : l.length=l'.length) (hv : ∀ (i : Nat) (a b : Value),l[i]?=some a→l'[i]?=some b→RV r a b) (hs : setsT l cs (off+k)=some cs') (hz : off+k+l.length≤size) (hi9 : i < 100000000) (hs9 : size < 100000000) :
  ∃ w',(storeCells ⟨b,off,none⟩ l' k).run P w=.ok () w'∧Nx r h w r ⟨h.t.set i (.row size pat cs' e tail),h.n⟩ w':=by
 induction l generalizing l' k cs h w with
 | nil =>
  injection hs with hs
  subst hs
  cases l' with
  | cons _ _=>simp at hl
  | nil =>
   refine ⟨w,rfl,(Nx.refl hW).congr rfl fun j=>?_⟩
   dsimp only
   rw [Tr.get_set (by omega)]
   by_cases hij : i=j
   ·subst hij;rw [if_pos rfl,hi]
   ·rw [if_neg hij]
 | cons v l ih =>
  have hs' : (match oneT v with
   | true=>setsT l (cs.set (off+k) v) (off+k+1)
   | false=>none)=some cs':=hs
  split at hs'
  case h_2=>cases hs'
  rename_i ho
  cases l' with
  | nil=>simp at hl
  | cons v' l' =>
   simp only [List.length_cons] at hl hz
   have hvv : RV r v v':=hv 0 v v' rfl rfl
   have hlt : off+k < size:=by omega
   obtain ⟨a,ha⟩ : ∃ a,CObj.at pat cs (off+k)=some a:=by
    obtain ⟨_,_,_,_,_,arr,_,_,_,_,_,h5⟩:=hW.obj i _ hi
    obtain ⟨a,_,ha,_⟩:=h5 _ hlt
    exact ⟨a,ha⟩
   obtain ⟨u,u1,u2,_⟩:=hW.load hi hr hlt ha
   have hN:=hW.store hi hr hlt hvv (by omega) (by omega)
   have hst : (store ((⟨b,off,none⟩ : Addr).add k) v').run P w=.ok () (w.setCell ⟨b,off+k,none⟩ v'):=by
    rw [Addr.add_flat,run_store P w _ v' _ (one_ok hvv ho),u1,u2];rfl
   obtain ⟨w',k1,k2⟩:=ih hN.rw (k:=k+1) (by dsimp only;rw [Tr.get_set (by omega),if_pos rfl]) (l':=l') (by omega) (fun j p q hp hq=>hv (j+1) p q hp hq) hs' (by omega)
   refine ⟨w',?_,(hN.trans k2).congr rfl fun j=>?_⟩
   ·unfold storeCells
    rw [Sem.run_bind,hst]
    exact k1
   ·dsimp only
    rw [Tr.get_set (by omega),Tr.get_set (by omega),Tr.get_set (by omega)]
    by_cases hij : i=j
    ·rw [if_pos hij,if_pos hij]
    ·rw [if_neg hij,if_neg hij,if_neg hij]
theorem store_ok {P : Program} {T : Tr Ty} (hT : TabOK P T) {t : TypeId} {a a' v v' : Value} {r : Ren} {h h' : CH} {w : World} (hW : RW r h w) (ha : RV r a a') (hv : RV r v v') (hl : storeT T t a v h=some h') :
  ∃ w',(Instr.storeAt t a' v').run P w=.ok () w'∧Nx r h w r h' w':=by
 unfold storeT at hl
 split at hl
 case h_2=>cases hl
 rename_i i off
 cases ha with
 | @ptr _ b c _ hr =>
 split at hl
 case h_2=>cases hl
 rename_i size pat cs e tail hi
 split at hl
 case h_2=>cases hl
 rename_i y hy
 have hY:=hT.at hy
 split at hl
 case h_2=>cases hl
 rename_i hb
 simp only [Bool.and_eq_true,Nat.beq_eq,Nat.ble_eq,Nat.blt_eq] at hb
 obtain ⟨⟨⟨b1,b2⟩,b3⟩,b4⟩:=hb
 replace b2 : off+y.size≤size:=b2
 split at hl
 case h_2=>cases hl
 rename_i cs' hcs
 injection hl with hl
 subst hl
 obtain ⟨c1,c2⟩:=hv.cells.list
 obtain ⟨w',k1,k2⟩:=sets_ok (P:=P) hW hi hr (k:=0) c1 c2 hcs (by omega) b3 b4
 refine ⟨w',?_,k2⟩
 unfold Instr.storeAt Instr.sureAddr storeVar
 have hsz : v'.cells.size=y.size:=by rw [← Array.length_toList,← c1];exact b1
 simp [hY.run_size,hsz]
 exact k1
noncomputable section
def newT (e : TypeId) (cells : Array Value) (h : CH) : Option (Nat × CH):=match Nat.blt h.n 100000000 with
 | true=>some (h.n,⟨h.t.set h.n (.row cells.toList.length cells .lf e none),Nat.succ h.n⟩)
 | false=>none
end
theorem new_ok {P : Program} {e : TypeId} {cs cs' : Array Value} {r : Ren} {h h' : CH} {w : World} {i : Nat} (hW : RW r h w) (hv : RVs r cs cs') (hl : newT e cs h=some (i,h')) (c : Nat) :
  ∃ b w',(newRow e cs').run P w=.ok ⟨b,0,none⟩ w'∧Nx r h w (r.put i (b,c)) h' w':=by
 unfold newT at hl
 split at hl
 case h_2=>cases hl
 rename_i hb
 rw [Nat.blt_eq] at hb
 injection hl with hl
 injection hl with e1 e2
 subst e1 e2
 refine ⟨w.heap.size,{ w with heap:=w.heap.push (.cells cs' e) },rfl,hW.alloc (by omega) (by simp [hv.1]) (by simp [TailOK,hv.1]) rfl fun k hk=>?_⟩
 have hk1 : k < cs.size:=by simpa using hk
 have hk2 : k < cs'.size:=by rw [← hv.1];exact hk1
 refine ⟨cs[k],cs'[k],?_,Array.getElem?_eq_getElem hk2,hv.2 k _ _ (Array.getElem?_eq_getElem hk1) (Array.getElem?_eq_getElem hk2)⟩
 unfold CObj.at
 rw [Tr.get_lf]
 dsimp only
 rw [Nat.mod_eq_of_lt hk1]
 exact Array.getElem?_eq_getElem hk1
end Go.Ex
namespace Go.Ex
noncomputable section
def overT (l : List Value) : Nat→List Value→List Value:=List.rec (motive:=fun _=>Nat→List Value→List Value) (fun _ _=>[])
 (fun x l ih off vs=>Nat.rec (motive:=fun _=>List Value) (List.rec (motive:=fun _=>List Value) (x :: l) (fun v vs _=>v :: ih 0 vs) vs) (fun off _=>x :: ih off vs) off) l
end
theorem overT_get (l : List Value) (off : Nat) (vs : List Value) (k : Nat) : (overT l off vs)[k]?=if off≤k∧k < off+vs.length∧k < l.length then vs[k - off]? else l[k]?:=by
 induction l generalizing off vs k with
 | nil=>rw [if_neg (by simp)];rfl
 | cons x l ih =>
  cases off with
  | zero =>
   cases vs with
   | nil=>rw [if_neg (by simp)];rfl
   | cons v vs =>
    show (v :: overT l 0 vs)[k]?=_
    cases k with
    | zero=>simp
    | succ k =>
     simp only [List.getElem?_cons_succ,ih]
     simp only [List.length_cons]
     by_cases h : 0≤k∧k < 0+vs.length∧k < l.length
     ·rw [if_pos h,if_pos (by omega)];simp
     ·rw [if_neg h,if_neg (by omega)]
  | succ off =>
   show (x :: overT l off vs)[k]?=_
   cases k with
   | zero=>rw [if_neg (by omega)];rfl
   | succ k =>
    simp only [List.getElem?_cons_succ,ih]
    simp only [List.length_cons]
    by_cases h : off≤k∧k < off+vs.length∧k < l.length
    ·rw [if_pos h,if_pos (by omega)];congr 1;omega
    ·rw [if_neg h,if_neg (by omega)]
theorem overT_len (l : List Value) (off : Nat) (vs : List Value) : (overT l off vs).length=l.length:=by
 induction l generalizing off vs with
 | nil=>rfl
 | cons x l ih =>
  cases off with
  | zero=>cases vs with
   | nil=>rfl
   | cons v vs=>show (overT l 0 vs).length+1=_;rw [ih];rfl
  | succ off=>show (overT l off vs).length+1=_;rw [ih];rfl
theorem fold_at (vs : List Value) (off j : Nat) (cells : Array Value) : ((vs.zipIdx j).foldl (fun (cs : Array Value) (x : Value × Nat)=>cs.setIfInBounds (off+x.2) x.1) cells).size=cells.size ∧
  ∀ k,((vs.zipIdx j).foldl (fun (cs : Array Value) (x : Value × Nat)=>cs.setIfInBounds (off+x.2) x.1) cells)[k]?=if off+j≤k∧k < off+j+vs.length∧k < cells.size then vs[k - (off+j)]? else cells[k]?:=by
 induction vs generalizing j cells with
 | nil=>exact ⟨rfl,fun k=>by rw [if_neg (by simp;omega)];rfl⟩
 | cons v vs ih =>
  simp only [List.zipIdx_cons,List.foldl_cons,List.length_cons]
  obtain ⟨h1,h2⟩:=ih (j+1) (cells.setIfInBounds (off+j) v)
  refine ⟨by rw [h1];simp,fun k=>?_⟩
  rw [h2]
  simp only [Array.size_setIfInBounds,Array.getElem?_setIfInBounds]
  by_cases h : off+(j+1)≤k∧k < off+(j+1)+vs.length∧k < cells.size
  ·rw [if_pos h,if_pos (by omega),show k - (off+j)=(k - (off+(j+1)))+1 from by omega];simp
  ·rw [if_neg h]
   by_cases hk : off+j=k
   ·subst hk
    rw [if_pos rfl]
    by_cases hlt : off+j < cells.size
    ·rw [if_pos hlt,if_pos (by omega)];simp
    ·rw [if_neg hlt,if_neg (by omega),Array.getElem?_eq_none (by omega)]
   ·rw [if_neg hk,if_neg (by omega)]
noncomputable section
def fillT (place : Nat→Option (Nat × Nat)) (parts : List (Nat × Value)) : List Value→Option (List Value):=List.rec (motive:=fun _=>List Value→Option (List Value)) (fun l=>some l)
 (fun p _ ih l=>match place p.1 with
  | some (off,size)=>match Nat.beq p.2.cells.toList.length size && Nat.ble (Nat.add off size) l.length with
   | true=>ih (overT l off p.2.cells.toList)
   | false=>none
  | none=>none) parts
end
def RPs (r : Ren) (ps qs : List (Nat × Value)) : Prop:=ps.length=qs.length∧∀ (i : Nat) (a b : Nat × Value),ps[i]?=some a→qs[i]?=some b→a.1=b.1∧RV r a.2 b.2
theorem fill_ok {r : Ren} {place : Nat→Option (Nat × Nat)} {ps qs : List (Nat × Value)} (h : RPs r ps qs) {l l' : List Value} {cells : Array Value} (hc : RVs r ⟨l⟩ cells) (hf : fillT place ps l=some l') :
  ∃ cells',Instr.fill place cells qs=some cells'∧RVs r ⟨l'⟩ cells':=by
 induction ps generalizing qs l cells with
 | nil =>
  injection hf with hf
  subst hf
  cases qs with
  | nil=>exact ⟨cells,rfl,hc⟩
  | cons q qs=>have:=h.1;simp at this
 | cons p ps ih =>
  cases qs with
  | nil=>have:=h.1;simp at this
  | cons q qs =>
   obtain ⟨e1,e2⟩:=h.2 0 p q rfl rfl
   have hf' : (match place p.1 with
    | some (off,size)=>match Nat.beq p.2.cells.toList.length size && Nat.ble (Nat.add off size) l.length with
     | true=>fillT place ps (overT l off p.2.cells.toList)
     | false=>none
    | none=>none)=some l':=hf
   split at hf'
   case h_2=>cases hf'
   rename_i off size hpl
   split at hf'
   case h_2=>cases hf'
   rename_i hb
   simp only [Bool.and_eq_true,Nat.beq_eq,Nat.ble_eq] at hb
   obtain ⟨b1,b2⟩:=hb
   replace b2 : off+size≤l.length:=b2
   obtain ⟨c1,c2⟩:=e2.cells
   have hls : l.length=cells.size:=hc.1
   have hsz : q.2.cells.size=size:=by rw [← c1];simpa using b1
   have hps : p.2.cells.toList.length=size:=b1
   unfold Instr.fill
   rw [← e1,hpl]
   dsimp only
   have hcond : (q.2.cells.size ≠ size || off+q.2.cells.size > cells.size)=false:=by simp [hsz];omega
   rw [if_neg (by rw [hcond];simp)]
   have hfold : (q.2.cells.zipIdx.foldl (fun cs x=>cs.setIfInBounds (off+x.2) x.1) cells)=((q.2.cells.toList.zipIdx 0).foldl (fun (cs : Array Value) (x : Value × Nat)=>cs.setIfInBounds (off+x.2) x.1) cells):=by
    rw [← Array.foldl_toList,Array.toList_zipIdx]
   obtain ⟨f1,f2⟩:=fold_at q.2.cells.toList off 0 cells
   refine ih (qs:=qs) ⟨by have:=h.1;simpa using this,fun i a b ha hb=>h.2 (i+1) a b ha hb⟩ ?_ hf'
   rw [hfold]
   refine ⟨by rw [f1,← hls];simp [overT_len],fun k a b ha hb=>?_⟩
   rw [f2] at hb
   have ha' : (overT l off p.2.cells.toList)[k]?=some a:=by simpa using ha
   rw [overT_get] at ha'
   by_cases hk : off≤k∧k < off+size∧k < l.length
   ·rw [if_pos (by rw [hps];exact hk)] at ha'
    rw [if_pos (by simp only [Array.length_toList,hsz];omega)] at hb
    exact c2 (k - off) a b (by simpa using ha') (by simpa using hb)
   ·rw [if_neg (by rw [hps];exact hk)] at ha'
    rw [if_neg (by simp only [Array.length_toList,hsz];omega)] at hb
    exact hc.2 k a b (by simpa using ha') hb
noncomputable section
def repT (l : List Value) (n : Nat) : List Value:=Nat.rec (motive:=fun _=>List Value) [] (fun _ ih=>l ++ ih) n
def buildT (T : Tr Ty) (t : TypeId) (parts : List (Nat × Value)) : Option Value:=match T.get t with
 | some y=>match y.zero with
  | some z=>match flatB 4 z with
   | true=>match y.desc with
    | .struct _=>match fillT (fun i=>y.flds[i]?) parts z.cells.toList with
     | some l=>some (.agg ⟨l⟩)
     | none=>none
    | .array _ e=>match T.get e with
     | some ye=>match fillT (fun i=>some (Nat.mul i ye.size,ye.size)) parts z.cells.toList with
      | some l=>some (.agg ⟨l⟩)
      | none=>none
     | none=>none
    | _=>none
   | false=>none
  | none=>none
 | none=>none
def buildSliceT (T : Tr Ty) (t : TypeId) (len : Nat) (parts : List (Nat × Value)) (h : CH) : Option (Value × CH):=match T.get t with
 | some y=>match y.desc with
  | .slice e=>match T.get e with
   | some ye=>match ye.zero with
    | some z=>match flatB 4 z && Nat.beq z.cells.toList.length ye.size && Nat.ble (Nat.mul len ye.size) 16777216 && Nat.blt 0 ye.size with
     | true=>match fillT (fun i=>some (Nat.mul i ye.size,ye.size)) parts (repT z.cells.toList len) with
      | some l=>match newT e ⟨l⟩ h with
       | some (i,h')=>some (.slice (some ⟨i,0,none⟩) len len,h')
       | none=>none
      | none=>none
     | false=>none
    | none=>none
   | none=>none
  | _=>none
 | none=>none
end
theorem flat_cells {r : Ren} {z : Value} (h : flatB 4 z=true) : RVs r ⟨z.cells.toList⟩ z.cells:=(flatB_ok (r:=r) h).cells
theorem build_ok {P : Program} {T : Tr Ty} (hT : TabOK P T) {t : TypeId} {ps qs : List (Nat × Value)} {r : Ren} {w : World} {v : Value} (h : RPs r ps qs) (hl : buildT T t ps=some v) :
  ∃ v',(Instr.build t qs.toArray).run P w=.ok v' w∧RV r v v':=by
 unfold buildT at hl
 split at hl
 case h_2=>cases hl
 rename_i y hy
 have hY:=hT.at hy
 split at hl
 case h_2=>cases hl
 rename_i z hz
 split at hl
 case h_2=>cases hl
 rename_i hfl
 split at hl
 ·rename_i fs hd
  split at hl
  case h_2=>cases hl
  rename_i l hfill
  injection hl with hl
  subst hl
  obtain ⟨cs,k1,k2⟩:=fill_ok h (flat_cells hfl) hfill
  refine ⟨.agg cs,?_,.agg k2.1 k2.2⟩
  have hfd:=hY.flds
  rw [hd] at hfd
  have hm : ((fs.mapM fun f=>do pure (f.offset,← sizeOf f.type) : Sem (Array (Nat × Nat)))).run P w=.ok y.flds.toArray w:=by
   rw [Array.mapM_eq_mapM_toList,Sem.run_map,flds_run hfd];rfl
  unfold Instr.build
  simp only [Sem.run_bind,hY.run_zero hz,Result.andThen,hY.run_under,hd]
  rw [hm]
  dsimp only
  have e : (fun (i : Nat)=>y.flds.toArray[i]?)=fun (i : Nat)=>y.flds[i]?:=by funext i;simp
  simp only [e,k1]
  rfl
 ·rename_i n e hd
  split at hl
  case h_2=>cases hl
  rename_i ye hye
  split at hl
  case h_2=>cases hl
  rename_i l hfill
  injection hl with hl
  subst hl
  obtain ⟨cs,k1,k2⟩:=fill_ok h (flat_cells hfl) hfill
  refine ⟨.agg cs,?_,.agg k2.1 k2.2⟩
  replace k1 : Instr.fill (fun i=>some (i * ye.size,ye.size)) z.cells qs=some cs:=k1
  unfold Instr.build
  simp only [Sem.run_bind,hY.run_zero hz,Result.andThen,hY.run_under,hd,(hT.at hye).run_size,k1]
  rfl
 ·cases hl
theorem repT_len (l : List Value) (n : Nat) : (repT l n).length=n * l.length:=by
 induction n with
 | zero=>show (0 : Nat)=_;simp
 | succ n ih=>show (l ++ repT l n).length=_;rw [List.length_append,ih,Nat.succ_mul,Nat.add_comm]
theorem repT_get (l : List Value) (n k : Nat) (h : k < n * l.length) : (repT l n)[k]?=l[k % l.length]?:=by
 induction n generalizing k with
 | zero=>simp at h
 | succ n ih =>
  show (l ++ repT l n)[k]?=_
  rw [Nat.succ_mul] at h
  by_cases hk : k < l.length
  ·rw [List.getElem?_append_left hk,Nat.mod_eq_of_lt hk]
  ·rw [List.getElem?_append_right (by omega),ih _ (by omega)]
   congr 1
   exact (Nat.mod_eq_sub_mod (by omega)).symm
theorem buildSlice_ok {P : Program} {T : Tr Ty} (hT : TabOK P T) {t : TypeId} {len : Nat} {ps qs : List (Nat × Value)} {r : Ren} {h h' : CH} {w : World} {v : Value} (hW : RW r h w) (hp : RPs r ps qs) (hl : buildSliceT T t len ps h=some (v,h')) :
  ∃ r' v' w',(Instr.buildSlice t len qs.toArray).run P w=.ok v' w'∧Nx r h w r' h' w'∧RV r' v v':=by
 unfold buildSliceT at hl
 split at hl
 case h_2=>cases hl
 rename_i y hy
 have hY:=hT.at hy
 split at hl
 case h_2=>cases hl
 rename_i e hd
 split at hl
 case h_2=>cases hl
 rename_i ye hye
 have hE:=hT.at hye
 split at hl
 case h_2=>cases hl
 rename_i z hz
 split at hl
 case h_2=>cases hl
 rename_i hb
 simp only [Bool.and_eq_true,Nat.beq_eq,Nat.ble_eq,Nat.blt_eq] at hb
 obtain ⟨⟨⟨b1,b2⟩,b3⟩,b4⟩:=hb
 replace b3 : len * ye.size≤16777216:=b3
 split at hl
 case h_2=>cases hl
 rename_i l hfill
 split at hl
 case h_2=>cases hl
 rename_i i h1 hnew
 injection hl with hl
 injection hl with e1 e2
 subst e1 e2
 have hzs : z.cells.size=ye.size:=b2
 have hbase : RVs r ⟨repT z.cells.toList len⟩ ((Array.range (len * ye.size)).map (z.cells[· % z.cells.size]!)):=by
  refine ⟨by simp [repT_len,hzs],fun k a b ha hb=>?_⟩
  have ha' : (repT z.cells.toList len)[k]?=some a:=by simpa using ha
  have hk : k < len * ye.size:=by
   have:=(List.getElem?_eq_some_iff.1 ha').1
   rw [repT_len,b2] at this
   exact this
  rw [repT_get _ _ _ (by rw [b2];exact hk),b2] at ha'
  have hm : k % ye.size < z.cells.size:=by rw [hzs];exact Nat.mod_lt _ b4
  simp only [Array.getElem?_map,Array.getElem?_range,hk,if_true,Option.map_some,Option.some.injEq] at hb
  rw [hzs,getElem!_pos z.cells (k % ye.size) hm] at hb
  refine (flat_cells (r:=r) b1).2 (k % ye.size) a b (by simpa using ha') ?_
  rw [Array.getElem?_eq_getElem hm,hb]
 obtain ⟨cs,k1,k2⟩:=fill_ok hp hbase hfill
 obtain ⟨b,w',n1,n2⟩:=new_ok (P:=P) hW k2 hnew len
 refine ⟨_,.slice (some ⟨b,0,none⟩) len len,w',?_,n2,.slice Ren.put_at len len (by simp only [unk];have : len≤len * ye.size:=Nat.le_mul_of_pos_right _ b4;omega)⟩
 replace k1 : Instr.fill (fun i=>some (i * ye.size,ye.size)) ((Array.range (len * ye.size)).map (z.cells[· % z.cells.size]!)) qs=some cs:=k1
 unfold Instr.buildSlice
 simp only [Sem.run_bind,hY.run_under,Result.andThen,hd,hE.run_size]
 rw [if_neg (by omega)]
 have hend : ((do pure (.slice (some (← newRow e cs)) len len) : Sem Value)).run P w=.ok (.slice (some ⟨b,0,none⟩) len len) w':=by rw [Sem.run_bind,n1];rfl
 by_cases h0 : len * ye.size=0
 ·have hsame : ((Array.range (len * ye.size)).map ((#[] : Array Value)[· % (#[] : Array Value).size]!))=((Array.range (len * ye.size)).map (z.cells[· % z.cells.size]!)):=by rw [h0];simp
  rw [if_pos h0]
  simp only [Sem.run_bind,Sem.run_pure,Result.andThen]
  rw [hsame,k1]
  exact hend
 ·rw [if_neg h0]
  simp only [Sem.run_bind,Sem.run_pure,Result.andThen,hE.run_zero hz]
  rw [k1]
  exact hend
end Go.Ex
namespace Go.Ex
noncomputable section
def fieldAddrT (T : Tr Ty) (s : TypeId) (a : Value) (f : Nat) : Option Value:=match a with
 | .pointer (some ⟨i,off,none⟩)=>match T.get s with
  | some y=>match y.desc with
   | .struct _=>match y.flds[f]? with
    | some (o,n)=>match Nat.blt 0 n with
     | true=>some (.pointer (some ⟨i,Nat.add off o,none⟩))
     | false=>none
    | none=>none
   | _=>none
  | none=>none
 | _=>none
end
theorem fieldAddr_ok {P : Program} {T : Tr Ty} (hT : TabOK P T) {s : TypeId} {a a' v : Value} {f : Nat} {r : Ren} {w : World} (ha : RV r a a') (hl : fieldAddrT T s a f=some v) :
  ∃ v',(Instr.fieldAt s a' f).run P w=.ok v' w∧RV r v v':=by
 unfold fieldAddrT at hl
 split at hl
 case h_2=>cases hl
 rename_i i off
 cases ha with
 | @ptr _ b c _ hr =>
 split at hl
 case h_2=>cases hl
 rename_i y hy
 have hY:=hT.at hy
 split at hl
 case h_2=>cases hl
 rename_i fs hd
 split at hl
 case h_2=>cases hl
 rename_i o n hf
 split at hl
 case h_2=>cases hl
 rename_i hn
 rw [Nat.blt_eq] at hn
 injection hl with hl
 subst hl
 have hfd:=hY.flds
 rw [hd] at hfd
 obtain ⟨fl,inf,f1,f2,f3,f4⟩:=flds_at hfd hf
 refine ⟨.pointer (some ⟨b,off+o,none⟩),?_,.ptr hr⟩
 have f1' : fs[f]?=some fl:=by simpa using f1
 have hs : (sizeOf fl.type).run P w=.ok n w:=by simp [sizeOf,run_info f3,f4]
 unfold Instr.fieldAt
 simp only [Sem.run_bind,hY.run_under,hd,Result.andThen,f1',Instr.sureAddr,Sem.run_pure]
 unfold fieldPlace
 simp only [Sem.run_bind,hs,Result.andThen]
 rw [if_neg (by omega)]
 simp only [Sem.run_pure,Addr.add_flat,f2]
noncomputable section
def fieldT (T : Tr Ty) (s : TypeId) (a : Value) (f : Nat) : Option Value:=match a with
 | .agg cs=>match T.get s with
  | some y=>match y.desc with
   | .struct fs=>match fs[f]? with
    | some fl=>match T.get fl.type with
     | some yf=>match yf.agg with
      | true=>some (.agg (cs.extract fl.offset (fl.offset+yf.size)))
      | false=>cs[fl.offset]?
     | none=>none
    | none=>none
   | _=>none
  | none=>none
 | _=>none
end
theorem RVs.extract {r : Ren} {xs ys : Array Value} (h : RVs r xs ys) (i j : Nat) : RVs r (xs.extract i j) (ys.extract i j):=by
 refine ⟨by simp [h.1],fun k a b ha hb=>?_⟩
 simp only [Array.getElem?_extract] at ha hb
 split at ha
 ·split at hb
  ·exact h.2 _ a b ha hb
  ·cases hb
 ·cases ha
theorem part_ok {P : Program} {T : Tr Ty} (hT : TabOK P T) {t : TypeId} {y : Ty} (hy : T.get t=some y) {xs ys : Array Value} {r : Ren} {w : World} (h : RVs r xs ys) {off : Nat} {v : Value}
  (hl : (match y.agg with | true=>some (.agg (xs.extract off (off+y.size))) | false=>xs[off]?)=some v) : ∃ v',(part t ys off).run P w=.ok v' w∧RV r v v':=by
 have hY:=hT.at hy
 unfold part
 simp only [Sem.run_bind,hY.run_agg,Result.andThen]
 split at hl
 ·rename_i ha
  injection hl with hl
  subst hl
  obtain ⟨k1,k2⟩:=h.extract off (off+y.size)
  refine ⟨.agg (ys.extract off (off+y.size)),?_,.agg k1 k2⟩
  rw [ha,if_pos rfl]
  simp only [Sem.run_bind,hY.run_size,Result.andThen]
  rfl
 ·rename_i ha
  have hlt:=(Array.getElem?_eq_some_iff.1 hl).1
  have hlt' : off < ys.size:=by rw [← h.1];exact hlt
  refine ⟨ys[off],?_,h.2 off v _ hl (Array.getElem?_eq_getElem hlt')⟩
  rw [ha,if_neg (by simp),Array.getElem?_eq_getElem hlt']
  rfl
theorem field_ok {P : Program} {T : Tr Ty} (hT : TabOK P T) {s : TypeId} {a a' v : Value} {f : Nat} {r : Ren} {w : World} (ha : RV r a a') (hl : fieldT T s a f=some v) :
  ∃ v',(Instr.field s a' f).run P w=.ok v' w∧RV r v v':=by
 unfold fieldT at hl
 split at hl
 case h_2=>cases hl
 rename_i cs
 cases ha with
 | @agg _ cs' h1 h2 =>
 split at hl
 case h_2=>cases hl
 rename_i y hy
 have hY:=hT.at hy
 split at hl
 case h_2=>cases hl
 rename_i fs hd
 split at hl
 case h_2=>cases hl
 rename_i fl hf
 split at hl
 case h_2=>cases hl
 rename_i yf hyf
 obtain ⟨v',k1,k2⟩:=part_ok (P:=P) (w:=w) hT hyf ⟨h1,h2⟩ hl
 refine ⟨v',?_,k2⟩
 unfold Instr.field
 simp only [Sem.run_bind,hY.run_under,hd,Result.andThen,hf,asAgg,Sem.run_pure]
 exact k1
noncomputable section
def belowT (n : Int) (len : Nat) : Option Nat:=match n with
 | .ofNat k=>match Nat.blt k len with
  | true=>some k
  | false=>none
 | .negSucc _=>none
def indexAddrT (T : Tr Ty) (t : TypeId) (x ix : Value) : Option Value:=match ix with
 | .int _ n=>match T.get t with
  | some y=>match y.desc with
   | .slice e=>match x with
    | .slice (some ⟨i,off,none⟩) len _=>match belowT n len with
     | some k=>match T.get e with
      | some ye=>some (.pointer (some ⟨i,Nat.add off (Nat.mul k ye.size),none⟩))
      | none=>none
     | none=>none
    | _=>none
   | .array len e=>match x with
    | .pointer (some ⟨i,off,none⟩)=>match belowT n len with
     | some k=>match T.get e with
      | some ye=>some (.pointer (some ⟨i,Nat.add off (Nat.mul k ye.size),none⟩))
      | none=>none
     | none=>none
    | _=>none
   | _=>none
  | none=>none
 | _=>none
end
theorem below_ok {n : Int} {len k : Nat} (h : belowT n len=some k) : n=(k : Int)∧k < len:=by
 unfold belowT at h
 split at h
 ·split at h
  ·rename_i hb
   injection h with h
   subst h
   exact ⟨rfl,by rw [Nat.blt_eq] at hb;exact hb⟩
  ·cases h
 ·cases h
theorem indexAddr_ok {P : Program} {T : Tr Ty} (hT : TabOK P T) {t : TypeId} {x x' ix ix' v : Value} {r : Ren} {w : World} (hx : RV r x x') (hix : RV r ix ix') (hl : indexAddrT T t x ix=some v) :
  ∃ v',(Instr.indexAt t x' ix').run P w=.ok v' w∧RV r v v':=by
 unfold indexAddrT at hl
 split at hl
 case h_2=>cases hl
 rename_i kd n
 cases hix
 split at hl
 case h_2=>cases hl
 rename_i y hy
 have hY:=hT.at hy
 have fin : ∀ {i b c off k len : Nat} {e : TypeId} {ye : Ty},r i=some (b,c)→T.get e=some ye→n=(k : Int)→k < len →
   (if 0≤n∧n < (len : Int) then (do pure (.pointer (some ((⟨b,off,none⟩ : Addr).add (n.toNat * (← sizeOf e))))) : Sem Value) else boundsPanic kd n len .index).run P w=.ok (.pointer (some ⟨b,off+k * ye.size,none⟩)) w:=by
  intro i b c off k len e ye _ he hn hk
  subst hn
  rw [if_pos (by omega)]
  simp only [Sem.run_bind,(hT.at he).run_size,Result.andThen,Int.toNat_natCast,Addr.add_flat,Sem.run_pure]
 split at hl
 ·rename_i e hd
  split at hl
  case h_2=>cases hl
  rename_i i off len cap
  split at hl
  case h_2=>cases hl
  rename_i k hk
  obtain ⟨hk1,hk2⟩:=below_ok hk
  split at hl
  case h_2=>cases hl
  rename_i ye hye
  injection hl with hl
  subst hl
  generalize hcap : (Value.slice (some ⟨i,off,none⟩) len cap)=sv at hx
  obtain ⟨b,c,cap',rfl,hr⟩ : ∃ b c cap',x'=.slice (some ⟨b,off,none⟩) len cap'∧r i=some (b,c):=by
   cases hx <;> first | (injection hcap with q1 q2 q3;injection q1 with q1;injection q1 with q4 q5;subst q4 q5 q2;first | exact ⟨_,_,_,rfl,by assumption⟩ | exact absurd hk2 (by omega)) | cases hcap
  refine ⟨.pointer (some ⟨b,off+k * ye.size,none⟩),?_,.ptr hr⟩
  unfold Instr.indexAt
  simp only [Sem.run_bind,asIntOf,Sem.run_pure,Result.andThen,hY.run_under,hd]
  have:=fin (off:=off) hr hye hk1 hk2
  rw [if_pos (by omega)] at this ⊢
  exact this
 ·rename_i len e hd
  split at hl
  case h_2=>cases hl
  rename_i i off
  split at hl
  case h_2=>cases hl
  rename_i k hk
  obtain ⟨hk1,hk2⟩:=below_ok hk
  split at hl
  case h_2=>cases hl
  rename_i ye hye
  injection hl with hl
  subst hl
  cases hx with
  | @ptr _ b c _ hr =>
  refine ⟨.pointer (some ⟨b,off+k * ye.size,none⟩),?_,.ptr hr⟩
  unfold Instr.indexAt
  simp only [Sem.run_bind,asIntOf,Sem.run_pure,Result.andThen,hY.run_under,hd,Instr.sureAddr]
  have:=fin (off:=off) hr hye hk1 hk2
  rw [if_pos (by omega)] at this ⊢
  exact this
 ·cases hl
end Go.Ex
namespace Go.Ex
noncomputable section
def boundT (v : Option Value) (dft max : Nat) : Option Nat:=match v with
 | none=>some dft
 | some (.int _ (.ofNat k))=>match Nat.ble k max with
  | true=>some k
  | false=>none
 | _=>none
def boundsT (len cap : Nat) (lo hi mx : Option Value) : Option (Nat × Nat × Nat):=match mx with
 | none=>match boundT hi len cap with
  | some h=>match boundT lo 0 h with
   | some l=>some (l,h,cap)
   | none=>none
  | none=>none
 | some m=>match boundT (some m) 0 cap with
  | some m=>match hi with
   | some hi=>match boundT (some hi) 0 m with
    | some h=>match boundT lo 0 h with
     | some l=>some (l,h,m)
     | none=>none
    | none=>none
   | none=>none
  | none=>none
end
def ROpt (r : Ren) : Option Value→Option Value→Prop
 | none,none=>True
 | some a,some b=>RV r a b
 | _,_=>False
theorem bound_ok {P : Program} {w : World} {r : Ren} {v v' : Value} {dft max k : Nat} (h : RV r v v') (hl : boundT (some v) dft max=some k) {M : Nat} (hM : max≤M) (code : BoundsCode) : (Instr.sliceBound v' M code).run P w=.ok k w:=by
 unfold boundT at hl
 split at hl
 ·rename_i hv;cases hv
 ·rename_i kd n hv
  injection hv with hv
  subst hv
  cases h
  split at hl
  ·rename_i hb
   injection hl with hl
   subst hl
   rw [Nat.ble_eq] at hb
   unfold Instr.sliceBound
   simp only [Sem.run_bind,asIntOf,Sem.run_pure,Result.andThen]
   rw [if_pos (by simp only [Int.ofNat_eq_natCast];omega)]
   rfl
  ·cases hl
 ·cases hl
def mxM (mx : Option Value) (M m : Nat) : Nat:=match mx with
 | none=>M
 | some _=>m
theorem bounds_ok {P : Program} {w : World} {r : Ren} {lo lo' hi hi' mx mx' : Option Value} (h1 : ROpt r lo lo') (h2 : ROpt r hi hi') (h3 : ROpt r mx mx') {len cap l h m : Nat} (hl : boundsT len cap lo hi mx=some (l,h,m)) {M : Nat} (hM : cap≤M) (isSlice : Bool) :
  (Instr.sliceBounds isSlice len M lo' hi' mx').run P w=.ok (l,h,mxM mx M m) w∧l≤h∧(hi=none→h=len):=by
 have low : ∀ {lo lo' : Option Value} {h l : Nat} {code : BoundsCode},ROpt r lo lo'→boundT lo 0 h=some l→l≤h∧(match lo' with | some v=>Instr.sliceBound v h code | none=>pure 0 : Sem Nat).run P w=.ok l w:=by
  intro lo lo' h l code hr hb
  cases lo with
  | none =>
   cases lo' with
   | none=>injection hb with hb;subst hb;exact ⟨Nat.zero_le _,rfl⟩
   | some _=>cases hr
  | some v =>
   cases lo' with
   | none=>cases hr
   | some v' =>
    refine ⟨?_,bound_ok hr hb (Nat.le_refl _) code⟩
    unfold boundT at hb
    split at hb
    ·rename_i hh;cases hh
    ·split at hb
     ·rename_i hb2;injection hb with hb;subst hb;rw [Nat.ble_eq] at hb2;exact hb2
     ·cases hb
    ·cases hb
 unfold boundsT at hl
 cases mx with
 | none =>
  cases mx' with
  | some _=>cases h3
  | none =>
   dsimp only at hl
   split at hl
   case h_2=>cases hl
   rename_i h0 hh
   split at hl
   case h_2=>cases hl
   rename_i l0 hlo
   injection hl with hl
   injection hl with e1 e2
   injection e2 with e2 e3
   subst e1 e2 e3
   obtain ⟨q1,q2⟩:=low (code:=.sliceB) h1 hlo
   unfold Instr.sliceBounds
   cases hi with
   | none =>
    cases hi' with
    | some _=>cases h2
    | none =>
     injection hh with hh
     subst hh
     refine ⟨?_,q1,fun _=>rfl⟩
     simp only [Sem.run_bind,Sem.run_pure,Result.andThen,Option.isSome_none,Bool.false_eq_true,if_false]
     cases lo' with
     | none=>simp only [Sem.run_bind,Sem.run_pure,Result.andThen] at q2 ⊢;injection q2 with q2;rw [q2];rfl
     | some v=>simp only [Sem.run_bind,Result.andThen] at q2 ⊢;rw [q2];rfl
   | some hv =>
    cases hi' with
    | none=>cases h2
    | some hv' =>
     refine ⟨?_,q1,fun e=>by cases e⟩
     have hb:=bound_ok (P:=P) (w:=w) h2 hh hM (if isSlice then .sliceAcap else .sliceAlen)
     simp only [Sem.run_bind,Sem.run_pure,Result.andThen,Option.isSome_none,Bool.false_eq_true,if_false,hb]
     cases lo' with
     | none=>simp only [Sem.run_bind,Sem.run_pure,Result.andThen] at q2 ⊢;injection q2 with q2;rw [q2];rfl
     | some v=>simp only [Sem.run_bind,Result.andThen] at q2 ⊢;rw [q2];rfl
 | some mv =>
  cases mx' with
  | none=>cases h3
  | some mv' =>
   dsimp only at hl
   split at hl
   case h_2=>cases hl
   rename_i m0 hm
   cases hi with
   | none=>cases hl
   | some hv =>
    cases hi' with
    | none=>cases h2
    | some hv' =>
     dsimp only at hl
     split at hl
     case h_2=>cases hl
     rename_i h0 hh
     split at hl
     case h_2=>cases hl
     rename_i l0 hlo
     injection hl with hl
     injection hl with e1 e2
     injection e2 with e2 e3
     subst e1 e2 e3
     obtain ⟨q1,q2⟩:=low (code:=.slice3C) h1 hlo
     have hb1:=bound_ok (P:=P) (w:=w) h3 hm hM (if isSlice then .slice3Acap else .slice3Alen)
     have hb2:=bound_ok (P:=P) (w:=w) h2 hh (Nat.le_refl _) .slice3B
     refine ⟨?_,q1,fun e=>by cases e⟩
     unfold Instr.sliceBounds
     simp only [Sem.run_bind,Result.andThen,Option.isSome_some,if_true,hb1,hb2]
     cases lo' with
     | none=>simp only [Sem.run_bind,Sem.run_pure,Result.andThen] at q2 ⊢;injection q2 with q2;rw [q2];rfl
     | some v=>simp only [Sem.run_bind,Result.andThen] at q2 ⊢;rw [q2];rfl
end Go.Ex
namespace Go.Ex
noncomputable section
def begT (i off l m size : Nat) : Addr:=match Nat.beq m l with
 | true=>⟨i,off,none⟩
 | false=>⟨i,Nat.add off (Nat.mul l size),none⟩
def sliceT (T : Tr Ty) (t : TypeId) (x : Value) (lo hi mx : Option Value) : Option Value:=match T.get t with
 | some y=>match y.desc with
  | .slice e=>match T.get e with
   | some ye=>match x with
    | .slice none len cap=>match boundsT len cap lo hi mx with
     | some (l,h,m)=>some (.slice none (Nat.sub h l) (Nat.sub m l))
     | none=>none
    | .slice (some ⟨i,off,none⟩) len cap=>match Nat.blt cap unk with
     | true=>match boundsT len cap lo hi mx with
      | some (l,h,m)=>match Nat.blt m unk with
       | true=>some (.slice (some (begT i off l m ye.size)) (Nat.sub h l) (Nat.sub m l))
       | false=>none
      | none=>none
     | false=>match mx with
      | none=>match boundsT len len lo hi none with
       | some (l,h,_)=>match Nat.ble l len with
        | true=>some (.slice (some ⟨i,Nat.add off (Nat.mul l ye.size),none⟩) (Nat.sub h l) (Nat.add cap l))
        | false=>none
       | none=>none
      | some mv=>match Nat.blt 0 len && Nat.blt len unk with
       | true=>match boundsT len len lo hi (some mv) with
        | some (l,h,m)=>match Nat.blt m unk with
         | true=>some (.slice (some (begT i off l m ye.size)) (Nat.sub h l) (Nat.sub m l))
         | false=>none
        | none=>none
       | false=>none
    | _=>none
   | none=>none
  | .string=>match x,mx with
   | .string s,none=>match boundsT s.size s.size lo hi none with
    | some (l,h,_)=>some (.string (s.extract l h))
    | none=>none
   | _,_=>none
  | .array n e=>match T.get e with
   | some ye=>match x with
    | .pointer (some ⟨i,off,none⟩)=>match boundsT n n lo hi mx with
     | some (l,h,m)=>match Nat.blt m unk with
      | true=>some (.slice (some (begT i off l m ye.size)) (Nat.sub h l) (Nat.sub m l))
      | false=>none
     | none=>none
    | _=>none
   | none=>none
  | _=>none
 | none=>none
end
theorem beg_eq (b off l m size : Nat) : begT b off l m size=if m=l then ⟨b,off,none⟩ else (⟨b,off,none⟩ : Addr).add (l * size):=by
 unfold begT
 by_cases h : m=l
 ·subst h;rw [show Nat.beq m m=true from Nat.beq_refl m,if_pos rfl]
 ·rw [show Nat.beq m l=false from by rw [← Bool.not_eq_true];intro hh;exact h (Nat.eq_of_beq_eq_true hh),if_neg h,Addr.add_flat];rfl
theorem RV.beg {r : Ren} {i b c : Nat} (hr : r i=some (b,c)) (off l m size len cap : Nat) (hc : cap < unk) : RV r (.slice (some (begT i off l m size)) len cap) (.slice (some (begT b off l m size)) len cap):=by
 unfold begT
 split
 ·exact .slice hr _ _ hc
 ·exact .slice hr _ _ hc
theorem boundsT_le {len cap l h m : Nat} {lo hi mx : Option Value} (hb : boundsT len cap lo hi mx=some (l,h,m)) (hc : len≤cap) : h≤cap∧(mx=none→m=cap):=by
 have bb : ∀ {v : Value} {d M k : Nat},boundT (some v) d M=some k→k≤M:=by
  intro v d M k hh
  unfold boundT at hh
  split at hh
  ·rename_i q;cases q
  ·split at hh
   ·rename_i q;injection hh with hh;subst hh;rw [Nat.ble_eq] at q;exact q
   ·cases hh
  ·cases hh
 unfold boundsT at hb
 cases mx with
 | none =>
  dsimp only at hb
  split at hb
  case h_2=>cases hb
  rename_i h0 hh
  split at hb
  case h_2=>cases hb
  injection hb with hb
  injection hb with e1 e2
  injection e2 with e2 e3
  subst e1 e2 e3
  refine ⟨?_,fun _=>rfl⟩
  cases hi with
  | none=>injection hh with hh;omega
  | some v=>exact bb hh
 | some mv =>
  dsimp only at hb
  split at hb
  case h_2=>cases hb
  rename_i m0 hm
  cases hi with
  | none=>cases hb
  | some hv =>
   dsimp only at hb
   split at hb
   case h_2=>cases hb
   rename_i h0 hh
   split at hb
   case h_2=>cases hb
   injection hb with hb
   injection hb with e1 e2
   injection e2 with e2 e3
   subst e1 e2 e3
   have:=bb hm
   have:=bb hh
   exact ⟨by omega,fun e=>by cases e⟩
theorem boundsT_m {len cap l h m : Nat} {lo hi mx : Option Value} (hb : boundsT len cap lo hi mx=some (l,h,m)) (hx : mx=none) : m=cap:=by
 subst hx
 unfold boundsT at hb
 dsimp only at hb
 split at hb
 case h_2=>cases hb
 split at hb
 case h_2=>cases hb
 injection hb with hb
 injection hb with e1 e2
 injection e2 with e2 e3
 exact e3.symm
theorem bounds_in' {len cap l h m : Nat} {lo hi mx : Option Value} (hb : boundsT len cap lo hi mx=some (l,h,m)) (hc : len≤cap) : l≤h∧h≤cap:=by
 have bd : ∀ {v : Option Value} {d mx j : Nat},boundT v d mx=some j→d≤mx→j≤mx:=fun {v d mx j} hj hd=>by
  unfold boundT at hj
  split at hj
  ·injection hj with hj;omega
  ·split at hj
   ·rename_i hb;injection hj with hj;have:=Nat.le_of_ble_eq_true hb;omega
   ·cases hj
  ·cases hj
 unfold boundsT at hb
 split at hb
 ·split at hb
  case h_2=>cases hb
  rename_i h0 hh
  split at hb
  case h_2=>cases hb
  rename_i l0 hl
  injection hb with hb
  injection hb with e1 e2
  injection e2 with e2 e3
  subst e1 e2
  exact ⟨bd hl (Nat.zero_le _),bd hh hc⟩
 ·split at hb
  case h_2=>cases hb
  rename_i m0 hm
  split at hb
  case h_2=>cases hb
  split at hb
  case h_2=>cases hb
  rename_i h0 hh
  split at hb
  case h_2=>cases hb
  rename_i l0 hl
  injection hb with hb
  injection hb with e1 e2
  injection e2 with e2 e3
  subst e1 e2
  exact ⟨bd hl (Nat.zero_le _),Nat.le_trans (bd hh (Nat.zero_le _)) (bd hm (Nat.zero_le _))⟩
theorem slice_ok {P : Program} {T : Tr Ty} (hT : TabOK P T) {t : TypeId} {x x' v : Value} {lo lo' hi hi' mx mx' : Option Value} {r : Ren} {w : World} (hx : RV r x x') (h1 : ROpt r lo lo') (h2 : ROpt r hi hi') (h3 : ROpt r mx mx')
  (hl : sliceT T t x lo hi mx=some v) : ∃ v',(Instr.sliceAt t x' lo' hi' mx').run P w=.ok v' w∧RV r v v':=by
 unfold sliceT at hl
 split at hl
 case h_2=>cases hl
 rename_i y hy
 have hY:=hT.at hy
 have notArr : ∀ {d : TypeDesc},y.desc=d→(∀ n e,d ≠ .array n e)→(Instr.sliceAt t x' lo' hi' mx').run P w=(Instr.slice t x' lo' hi' mx').run P w:=by
  intro d hd hn
  unfold Instr.sliceAt
  rw [Sem.run_bind,hY.run_under,hd]
  simp only [Result.andThen]
  all_goals (cases d <;> first | rfl | exact absurd rfl (hn _ _))
 split at hl
 ·rename_i e hd
  rw [notArr hd (by intro n e;simp)]
  split at hl
  case h_2=>cases hl
  rename_i ye hye
  have hE:=hT.at hye
  unfold Instr.slice
  simp only [Sem.run_bind,hY.run_under,Result.andThen,hd]
  split at hl
  ·rename_i len cap
   cases hx
   split at hl
   case h_2=>cases hl
   rename_i l h m hb
   injection hl with hl
   subst hl
   refine ⟨.slice none (h - l) (m - l),?_,.nilSlice _ _⟩
   obtain ⟨q1,q2,q3⟩:=bounds_ok (P:=P) (w:=w) h1 h2 h3 hb (Nat.le_refl _) true
   have hm : mxM mx cap m=m:=by
    cases mx with
    | none=>exact (boundsT_m hb rfl).symm
    | some _=>rfl
   rw [hm] at q1
   simp only [Sem.run_bind,q1,Result.andThen,hE.run_size,Sem.run_pure]
   simp
  ·rename_i i off len cap
   split at hl
   ·rename_i hcap
    rw [Nat.blt_eq] at hcap
    split at hl
    case h_2=>cases hl
    rename_i l h m hb
    split at hl
    case h_2=>cases hl
    rename_i hmu
    rw [Nat.blt_eq] at hmu
    injection hl with hl
    subst hl
    obtain ⟨b,c,rfl,hr⟩ : ∃ b c,x'=.slice (some ⟨b,off,none⟩) len cap∧r i=some (b,c):=by
     cases hx with
     | slice h=>exact ⟨_,_,rfl,h⟩
     | sliceU h=>exact absurd hcap (by omega)
     | sliceE h=>exact absurd hcap (by omega)
    obtain ⟨q1,q2,q3⟩:=bounds_ok (P:=P) (w:=w) h1 h2 h3 hb (Nat.le_refl _) true
    have hm : mxM mx cap m=m:=by
     cases mx with
     | none=>exact (boundsT_m hb rfl).symm
     | some _=>rfl
    rw [hm] at q1
    refine ⟨.slice (some (begT b off l m ye.size)) (h - l) (m - l),?_,RV.beg hr off l m ye.size _ _ (Nat.lt_of_le_of_lt (Nat.sub_le _ _) hmu)⟩
    simp only [Sem.run_bind,q1,Result.andThen,hE.run_size,Sem.run_pure,beg_eq]
    by_cases hml : m=l
    ·rw [if_pos hml,if_pos hml]
    ·rw [if_neg hml,if_neg hml];rfl
   ·rename_i hcap
    have hcap' : ¬ cap < unk:=by rw [← Nat.blt_eq,hcap];simp
    obtain ⟨b,c,k,cap',off',hk,rfl,hr,hcc,hlc,hoff⟩ : ∃ b c k cap' off',cap=unk+k∧x'=.slice (some ⟨b,off',none⟩) len cap'∧r i=some (b,c)∧cap'+k=c∧len≤cap'∧(off'=off∨cap'=0):=by
     generalize hsv : (Value.slice (some ⟨i,off,none⟩) len cap)=sv at hx
     cases hx <;> first | cases hsv | skip
     ·exact absurd (by assumption) hcap'
     ·exact ⟨_,_,_,_,_,rfl,rfl,by assumption,by assumption,by assumption,.inl rfl⟩
     ·exact ⟨_,_,_,_,_,rfl,rfl,by assumption,by omega,by omega,.inr rfl⟩
    split at hl
    ·split at hl
     case h_2=>cases hl
     rename_i l h m hb
     split at hl
     case h_2=>cases hl
     rename_i hll
     injection hl with hl
     subst hl
     obtain ⟨q1,q2,q3⟩:=bounds_ok (P:=P) (w:=w) h1 h2 h3 hb hlc true
     simp only [mxM] at q1
     have hle:=(boundsT_le hb (Nat.le_refl _)).1
     have hlh:=(bounds_in' hb (Nat.le_refl _))
     by_cases hml : cap'=l
     ·refine ⟨.slice (some ⟨b,off',none⟩) (h - l) (cap' - l),?_,?_⟩
      ·simp only [Sem.run_bind,q1,Result.andThen,hE.run_size,Sem.run_pure]
       rw [if_pos hml]
      ·have:=RV.sliceE (off:=off+l * ye.size) (off':=off') hr
       have e1 : h - l=0:=by omega
       have e2 : cap' - l=0:=by omega
       have e3 : unk+c=cap+l:=by omega
       show RV r (.slice (some ⟨i,off+l * ye.size,none⟩) (h - l) (cap+l)) _
       rw [e1,e2,← e3]
       exact this
     ·have ho : off'=off:=by
       rcases hoff with h1 | h1
       ·exact h1
       ·omega
      subst ho
      refine ⟨.slice (some ⟨b,off'+l * ye.size,none⟩) (h - l) (cap' - l),?_,?_⟩
      ·simp only [Sem.run_bind,q1,Result.andThen,hE.run_size,Sem.run_pure]
       rw [if_neg hml];simp [Addr.add_flat]
      ·have:=RV.sliceU (off:=off'+l * ye.size) (k:=k+l) (cap:=cap' - l) hr (h - l) (by omega) (by omega)
       rw [← Nat.add_assoc,← hk] at this
       exact this
    ·rename_i mv
     split at hl
     case h_2=>cases hl
     rename_i hlu
     rw [Bool.and_eq_true,Nat.blt_eq,Nat.blt_eq] at hlu
     have ho : off'=off:=by
      rcases hoff with h1 | h1
      ·exact h1
      ·omega
     subst ho
     split at hl
     case h_2=>cases hl
     rename_i l h m hb
     split at hl
     case h_2=>cases hl
     rename_i hmu
     rw [Nat.blt_eq] at hmu
     injection hl with hl
     subst hl
     obtain ⟨q1,q2,q3⟩:=bounds_ok (P:=P) (w:=w) h1 h2 h3 hb hlc true
     simp only [mxM] at q1
     refine ⟨.slice (some (begT b off' l m ye.size)) (h - l) (m - l),?_,RV.beg hr off' l m ye.size _ _ (Nat.lt_of_le_of_lt (Nat.sub_le _ _) hmu)⟩
     simp only [Sem.run_bind,q1,Result.andThen,hE.run_size,Sem.run_pure,beg_eq]
     by_cases hml : m=l
     ·rw [if_pos hml,if_pos hml]
     ·rw [if_neg hml,if_neg hml];rfl
  ·cases hl
 ·rename_i hd
  rw [notArr hd (by intro n e;simp)]
  split at hl
  case h_2=>cases hl
  rename_i s
  cases hx
  cases mx' with
  | some _=>cases h3
  | none =>
   split at hl
   case h_2=>cases hl
   rename_i l h m hb
   injection hl with hl
   subst hl
   obtain ⟨q1,q2,q3⟩:=bounds_ok (P:=P) (w:=w) h1 h2 h3 hb (Nat.le_refl _) false
   refine ⟨.string (s.extract l h),?_,.str _⟩
   unfold Instr.slice
   simp only [Sem.run_bind,hY.run_under,Result.andThen,hd,Option.isSome_none,Bool.false_eq_true,if_false,q1,Sem.run_pure]
 ·rename_i n e hd
  split at hl
  case h_2=>cases hl
  rename_i ye hye
  have hE:=hT.at hye
  split at hl
  case h_2=>cases hl
  rename_i i off
  cases hx with
  | @ptr _ b c _ hr =>
  split at hl
  case h_2=>cases hl
  rename_i l h m hb
  split at hl
  case h_2=>cases hl
  rename_i hmu
  rw [Nat.blt_eq] at hmu
  injection hl with hl
  subst hl
  obtain ⟨q1,q2,q3⟩:=bounds_ok (P:=P) (w:=w) h1 h2 h3 hb (Nat.le_refl _) false
  have hm : mxM mx n m=m:=by
   cases mx with
   | none=>exact (boundsT_m hb rfl).symm
   | some _=>rfl
  rw [hm] at q1
  refine ⟨.slice (some (begT b off l m ye.size)) (h - l) (m - l),?_,RV.beg hr off l m ye.size _ _ (Nat.lt_of_le_of_lt (Nat.sub_le _ _) hmu)⟩
  unfold Instr.sliceAt
  simp only [Sem.run_bind,hY.run_under,Result.andThen,hd,Instr.sureAddr,Sem.run_pure,q1,hE.run_size,beg_eq]
 ·cases hl
end Go.Ex
namespace Go.Ex
noncomputable section
def makeSliceT (T : Tr Ty) (t : TypeId) (l c : Value) (h : CH) : Option (Value × CH):=match l,c with
 | .int _ (.ofNat l),.int _ (.ofNat c)=>match T.get t with
  | some y=>match y.desc with
   | .slice e=>match T.get e with
    | some ye=>match ye.zero with
     | some z=>match flatB 4 z && Nat.blt 0 z.cells.toList.length && Nat.ble l c && Nat.blt c 1073741824 && Nat.blt ye.bytes 131072 && Nat.blt h.n 100000000 with
      | true=>some (.slice (some ⟨h.n,0,none⟩) l c,⟨h.t.set h.n (.row (Nat.mul c ye.size) z.cells .lf e none),Nat.succ h.n⟩)
      | false=>none
     | none=>none
    | none=>none
   | _=>none
  | none=>none
 | _,_=>none
end
theorem run_askRoom {P : Program} {w : World} (n : Nat) : (askRoom n).run P w=.ok () w:=by
 unfold askRoom;split <;> rfl
theorem makeSlice_ok {P : Program} {T : Tr Ty} (hT : TabOK P T) {t : TypeId} {l l' c c' v : Value} {r : Ren} {h h' : CH} {w : World} (hW : RW r h w) (hl0 : RV r l l') (hc0 : RV r c c') (hl : makeSliceT T t l c h=some (v,h')) :
  ∃ r' v' w',(Instr.makeSlice t l' c').run P w=.ok v' w'∧Nx r h w r' h' w'∧RV r' v v':=by
 unfold makeSliceT at hl
 split at hl
 case h_2=>cases hl
 rename_i k1 l k2 c
 cases hl0
 cases hc0
 split at hl
 case h_2=>cases hl
 rename_i y hy
 have hY:=hT.at hy
 split at hl
 case h_2=>cases hl
 rename_i e hd
 split at hl
 case h_2=>cases hl
 rename_i ye hye
 have hE:=hT.at hye
 split at hl
 case h_2=>cases hl
 rename_i z hz
 split at hl
 case h_2=>cases hl
 rename_i hb
 simp only [Bool.and_eq_true,Nat.blt_eq,Nat.ble_eq] at hb
 obtain ⟨⟨⟨⟨⟨b1,b2⟩,b3⟩,b4⟩,b5⟩,b6⟩:=hb
 injection hl with hl
 injection hl with e1 e2
 subst e1 e2
 obtain ⟨inf,i1,i2,i3,i4⟩:=hE.info
 have hzs : 0 < z.cells.size:=b2
 have wl : IntKind.i64.wrap (Int.ofNat l)=(l : Int):=by rw [IntKind.wrap_i64];simp only [Int.ofNat_eq_natCast];omega
 have wc : IntKind.i64.wrap (Int.ofNat c)=(c : Int):=by rw [IntKind.wrap_i64];simp only [Int.ofNat_eq_natCast];omega
 have hroom : ye.bytes * c≤131072 * 1073741824:=Nat.mul_le_mul (by omega) (by omega)
 have hN:=hW.alloc (size:=c * ye.size) (c:=c) (pat:=z.cells) (cs:=.lf) (e:=e) (arr:=(Array.range (c * ye.size)).map (z.cells[· % z.cells.size]!)) (tail:=none) (by omega) (by simp) (by simp [TailOK]) rfl fun i hi=>by
  have hm : i % z.cells.size < z.cells.size:=Nat.mod_lt _ hzs
  refine ⟨z.cells[i % z.cells.size],z.cells[i % z.cells.size],?_,?_,?_⟩
  ·unfold CObj.at;rw [Tr.get_lf];exact Array.getElem?_eq_getElem hm
  ·simp only [Array.getElem?_map,Array.getElem?_range,hi,if_true,Option.map_some];rw [getElem!_pos z.cells (i % z.cells.size) hm]
  ·exact (flat_cells (r:=r) b1).2 _ _ _ (by simp [Array.getElem?_eq_getElem hm]) (Array.getElem?_eq_getElem hm)
 refine ⟨_,.slice (some ⟨w.heap.size,0,none⟩) l c,_,?_,hN,.slice Ren.put_at l c (by unfold unk;omega)⟩
 unfold Instr.makeSlice
 simp only [Sem.run_bind,hY.run_under,Result.andThen,hd,asInt,asIntOf,Sem.run_pure,run_info i1,i3,wl,wc]
 have ht1 : (decide ((c : Int) < 0) || decide ((ye.bytes : Int) * (c : Int) > 2 ^ 48))=false:=by
  have : ((ye.bytes : Int) * (c : Int))=((ye.bytes * c : Nat) : Int):=by push_cast;rfl
  rw [this]
  simp
  omega
 rw [ht1]
 rw [if_neg (by simp;omega)]
 simp only [Sem.run_bind,run_askRoom,Result.andThen,hE.run_size,Int.toNat_natCast]
 have hend : ∀ (a : Array Value),((Array.range (c * ye.size)).map (a[· % a.size]!))=((Array.range (c * ye.size)).map (z.cells[· % z.cells.size]!)) →
   ((do pure (.slice (some (← newRow e ((Array.range (c * ye.size)).map (a[· % a.size]!)))) l c) : Sem Value)).run P w=.ok (.slice (some ⟨w.heap.size,0,none⟩) l c) { w with heap:=w.heap.push (.cells ((Array.range (c * ye.size)).map (z.cells[· % z.cells.size]!)) e) }:=fun a ha=>by rw [ha];rfl
 by_cases h0 : c * ye.size=0
 ·rw [if_pos h0]
  exact hend #[] (by rw [h0];simp)
 ·rw [if_neg h0]
  simp only [Sem.run_bind,hE.run_zero hz,Result.andThen,Sem.run_pure]
  exact hend z.cells rfl
noncomputable section
def lenT (x : Value) : Option Nat:=match x with
 | .slice _ n _=>some n
 | .string s=>some s.size
 | _=>none
def firstT (size n : Nat) (x : Value) (h : CH) : Option (List Value):=match x with
 | .slice none _ _=>some []
 | .slice (some ⟨i,off,none⟩) _ _=>match h.t.get i with
  | some (.row rs pat cs _ _)=>match Nat.ble (Nat.add off (Nat.mul n size)) rs with
   | true=>cellsT pat cs (Nat.mul n size) off
   | false=>none
  | _=>none
 | .string s=>some ((s.extract 0 n).data.toList.map fun b=>.int .u8 b.toNat)
 | _=>none
end
theorem len_ok {P : Program} {w : World} {r : Ren} {x x' : Value} {n : Nat} (hx : RV r x x') (hl : lenT x=some n) : (Builtin.lenOf x').run P w=.ok n w:=by
 cases hx <;> simp only [lenT,Option.some.injEq,reduceCtorEq] at hl <;> subst hl <;> rfl
theorem first_ok {P : Program} {w : World} {r : Ren} {h : CH} {x x' : Value} {size n : Nat} {l : List Value} (hW : RW r h w) (hx : RV r x x') (hn : ∀ a m c,x=.slice (some a) m c→n≤m) (hl : firstT size n x h=some l) :
  ∃ arr,(∀ w2 : World,w2.heap=w.heap→(Builtin.firstCells size n x').run P w2=.ok arr w2)∧RVs r ⟨l⟩ arr:=by
 unfold firstT at hl
 split at hl
 ·injection hl with hl
  subst hl
  cases hx
  exact ⟨#[],fun _ _=>rfl,rfl,fun i a b ha=>by simp at ha⟩
 ·rename_i i off len cap
  split at hl
  case h_2=>cases hl
  rename_i rs pat cs e tail hi
  split at hl
  case h_2=>cases hl
  rename_i hb
  replace hb : off+n * size≤rs:=by rw [Nat.ble_eq] at hb;exact hb
  replace hl : cellsT pat cs (n * size) off=some l:=hl
  have hn':=hn _ _ _ rfl
  obtain ⟨b,c,cap',off',rfl,hr,hoff⟩ : ∃ b c cap' off',x'=.slice (some ⟨b,off',none⟩) len cap'∧r i=some (b,c)∧(off'=off∨len=0):=by
   cases hx with
   | slice h=>exact ⟨_,_,_,_,rfl,h,.inl rfl⟩
   | sliceU h=>exact ⟨_,_,_,_,rfl,h,.inl rfl⟩
   | sliceE hq=>exact ⟨_,_,_,_,rfl,hq,.inr rfl⟩
  obtain ⟨k1,k2⟩:=cellsT_len hl
  rcases hoff with rfl | h0
  rotate_left
  ·have e0 : n=0:=by omega
   subst e0
   rw [Nat.zero_mul] at k1
   have e1 : l=[]:=List.eq_nil_of_length_eq_zero k1
   subst e1
   refine ⟨#[],fun w2 _=>?_,rfl,fun i a b ha=>by simp at ha⟩
   unfold Builtin.firstCells
   rw [Nat.zero_mul]
   exact run_loadCells w2 _ 0 (fun _=>undef) fun k hk=>absurd hk (by omega)
  have hcell : ∀ k,k < n * size→∃ u,w.cell? ⟨b,off'+k,none⟩=some u∧RV r (l[k]?.getD undef) u:=fun k hk=>by
   have hc:=k2 k hk
   have hlt : k < l.length:=by omega
   rw [List.getElem?_eq_getElem hlt] at hc
   obtain ⟨u,u1,_,u3⟩:=hW.load hi hr (by omega : off'+k < rs) hc.symm
   exact ⟨u,u1,by rw [List.getElem?_eq_getElem hlt];exact u3⟩
  refine ⟨((List.range (n * size)).map fun k=>(w.cell? ⟨b,off'+k,none⟩).getD undef).toArray,?_,by simp [k1],fun k p q hp hq=>?_⟩
  ·intro w2 hw2
   unfold Builtin.firstCells
   exact run_loadCells w2 _ (n * size) (fun k=>(w.cell? ⟨b,off'+k,none⟩).getD undef) fun k hk=>by
    obtain ⟨u,u1,_⟩:=hcell k hk
    rw [Addr.add_flat,show w2.cell? ⟨b,off'+k,none⟩=w.cell? ⟨b,off'+k,none⟩ from by unfold World.cell?;rw [hw2],u1];rfl
  ·have hk : k < n * size:=by
    have:=(Array.getElem?_eq_some_iff.1 hp).1
    simpa [k1] using this
   obtain ⟨u,u1,u2⟩:=hcell k hk
   have hp' : l[k]?=some p:=by simpa using hp
   simp [List.getElem?_map,List.getElem?_range hk,u1] at hq
   subst hq
   rw [hp'] at u2
   exact u2
 ·rename_i s
  injection hl with hl
  subst hl
  cases hx
  refine ⟨(s.extract 0 n).data.map fun b=>.int .u8 b.toNat,fun _ _=>rfl,?_⟩
  generalize (s.extract 0 n).data=A
  refine ⟨by simp,fun k p q hp hq=>?_⟩
  have hq' : (A.toList.map fun b=>Value.int .u8 b.toNat)[k]?=some q:=by simpa using hq
  have hp' : (A.toList.map fun b=>Value.int .u8 b.toNat)[k]?=some p:=by simpa using hp
  rw [hp'] at hq'
  injection hq' with hq'
  subst hq'
  rw [List.getElem?_map] at hp'
  obtain ⟨x,_,hx⟩:=Option.map_eq_some_iff.1 hp'
  subst hx
  exact .int _ _
 ·cases hl
theorem growBy_le (n : Nat) (k c : Nat) : Builtin.growBy n k c≤max c (2 * n+192):=by
 induction k generalizing c with
 | zero=>exact Nat.le_max_left _ _
 | succ k ih =>
  unfold Builtin.growBy
  split
  ·exact Nat.le_max_left _ _
  ·rename_i hc
   refine Nat.le_trans (ih _) ?_
   omega
theorem nextcap_le {need cap : Nat} (h : cap < need) : Builtin.nextslicecap need cap≤2 * need+192:=by
 unfold Builtin.nextslicecap
 split
 ·omega
 ·split
  ·omega
  ·have:=growBy_le need 4 cap
   omega
end Go.Ex
namespace Go.Ex
theorem store_row {P : Program} {b off : Nat} {e : TypeId} {fz : Nat × Nat} (l : List Value) : ∀ (k : Nat) (arr : Array Value) (w : World),FzOK arr.size fz→w.heap[b]?=some (.cells arr e fz)→off+k+l.length≤arr.size→(∀ v ∈ l,v.oneCell'=true) →
  ∃ w' arr',(storeCells ⟨b,off,none⟩ l k).run P w=.ok () w'∧w'.heap[b]?=some (.cells arr' e fz)∧(∀ c,c ≠ b→w'.heap[c]?=w.heap[c]?)∧w'.heap.size=w.heap.size∧w'.os=w.os∧w'.tape=w.tape∧w'.output=w.output ∧
   arr'.size=arr.size∧∀ j,arr'[j]?=if off+k≤j∧j < off+k+l.length then l[j - (off+k)]? else arr[j]?:=by
 induction l with
 | nil =>
  intro k arr w _ hb hz h1
  exact ⟨w,arr,rfl,hb,fun _ _=>rfl,rfl,rfl,rfl,rfl,rfl,fun j=>by rw [if_neg (by simp)]⟩
 | cons v l ih =>
  intro k arr w hfz hb hz h1
  simp only [List.length_cons] at hz
  have hlt : off+k < arr.size:=by omega
  have hc : w.cell? ⟨b,off+k,none⟩=some arr[off+k]:=by
   unfold World.cell?;rw [hb];simp [Array.getElem?_eq_getElem hlt]
  have hf : w.frozen? ⟨b,off+k,none⟩=false:=by unfold World.frozen?;rw [hb];have:=hfz (off+k) hlt;simpa using this
  have hst : (store ((⟨b,off,none⟩ : Addr).add k) v).run P w=.ok () (w.setCell ⟨b,off+k,none⟩ v):=by
   rw [Addr.add_flat,run_store P w _ v _ (h1 v (by simp)),hc,hf];rfl
  have hset : ∀ j,(w.setCell ⟨b,off+k,none⟩ v).heap[j]?=if b=j then some (.cells (arr.setIfInBounds (off+k) v) e fz) else w.heap[j]?:=fun j=>by
   simp only [World.setCell,Array.getElem?_modify]
   by_cases hk : b=j
   ·subst hk;rw [if_pos rfl,if_pos rfl,hb];rfl
   ·rw [if_neg hk,if_neg hk]
  have hsz : (w.setCell ⟨b,off+k,none⟩ v).heap.size=w.heap.size:=by simp [World.setCell]
  obtain ⟨w',arr',k1,k2,k3,k4,k5,k6,k7,k8,k9⟩:=ih (k+1) (arr.setIfInBounds (off+k) v) (w.setCell ⟨b,off+k,none⟩ v) (by simpa using hfz) (by rw [hset,if_pos rfl]) (by simp;omega) (fun x hx=>h1 x (by simp [hx]))
  refine ⟨w',arr',?_,k2,fun c hcb=>?_,by omega,k5,k6,k7,by simpa using k8,fun j=>?_⟩
  ·unfold storeCells
   rw [Sem.run_bind,hst]
   exact k1
  ·rw [k3 c hcb,hset,if_neg (fun h=>hcb h.symm)]
  ·rw [k9]
   simp only [List.length_cons,Array.getElem?_setIfInBounds]
   by_cases h : off+(k+1)≤j∧j < off+(k+1)+l.length
   ·rw [if_pos h,if_pos (by omega),show j - (off+k)=(j - (off+(k+1)))+1 from by omega];simp
   ·rw [if_neg h]
    by_cases hj : off+k=j
    ·subst hj;rw [if_pos rfl,if_pos hlt,if_pos (by omega)];simp
    ·rw [if_neg hj,if_neg (by omega)]
theorem setsT_get {pat : Array Value} {l : List Value} {cs cs' : Tr Value} {off : Nat} (h : setsT l cs off=some cs') (h9 : off+l.length < 2 ^ 39) (j : Nat) : CObj.at pat cs' j=if off≤j∧j < off+l.length then l[j - off]? else CObj.at pat cs j:=by
 induction l generalizing cs off with
 | nil=>injection h with h;subst h;rw [if_neg (by simp)]
 | cons v l ih =>
  have h' : (match oneT v with
   | true=>setsT l (cs.set off v) (off+1)
   | false=>none)=some cs':=h
  split at h'
  case h_2=>cases h'
  simp only [List.length_cons] at h9 ⊢
  rw [ih h' (by omega),CObj.at_set (by omega)]
  by_cases hj : off+1≤j∧j < off+1+l.length
  ·rw [if_pos hj,if_pos (by omega),show j - off=(j - (off+1))+1 from by omega];simp
  ·rw [if_neg hj]
   by_cases hoj : off=j
   ·subst hoj;rw [if_pos rfl,if_pos (by omega)];simp
   ·rw [if_neg hoj,if_neg (by omega)]
theorem setsT_one {l : List Value} {cs cs' : Tr Value} {off : Nat} (h : setsT l cs off=some cs') : ∀ v ∈ l,oneT v=true:=by
 induction l generalizing cs off with
 | nil=>intro v hv;cases hv
 | cons v l ih =>
  have h' : (match oneT v with
   | true=>setsT l (cs.set off v) (off+1)
   | false=>none)=some cs':=h
  split at h'
  case h_2=>cases h'
  rename_i ho
  intro u hu
  rcases List.mem_cons.1 hu with rfl | hu
  ·exact ho
  ·exact ih h' u hu
theorem ones_ok {r : Ren} {l : List Value} {arr : Array Value} (h : RVs r ⟨l⟩ arr) (h1 : ∀ v ∈ l,oneT v=true) : ∀ v ∈ arr.toList,v.oneCell'=true:=by
 intro v hv
 obtain ⟨k,hk,hv⟩:=List.getElem_of_mem hv
 have hka : k < arr.size:=by simpa using hk
 have hk' : k < l.length:=by have:=h.1;simp at this;omega
 have hv' : arr[k]?=some v:=by rw [Array.getElem?_eq_getElem hka,← hv];simp
 exact one_ok (h.2 k l[k] v (by simp [List.getElem?_eq_getElem hk']) hv') (h1 _ (List.getElem_mem hk'))
theorem Nx.drop {r r' : Ren} {h h1 h2 : CH} {w w' : World} (a : Nx r h w r' h1 w') (hn : h2.n=h1.n) (hg : ∀ i o,h2.t.get i=some o→h1.t.get i=some o) (hc : ∀ j,h2.hc j=h1.hc j) : Nx r h w r' h2 w' :=
 ⟨a.le,⟨fun i o hi=>a.rw.obj i o (hg i o hi),fun i j o p b c d hi hj=>a.rw.one i j o p b c d (hg i o hi) (hg j p hj),fun i x hx=>by rw [hn];exact a.rw.top i x hx,a.rw.low,a.rw.pin,a.rw.que.next r'.le_refl hc fun _ _ _ _ _ _ _=>.of rfl⟩,
  a.size,a.os,a.tape,a.output,a.frame,fun i o b c hi hr=>a.live i o b c (hg i o hi) hr,by rw [hn];exact a.mono,a.new⟩
section
variable {P : Program} {w : World} {t1 t2 ty e : TypeId} {y1 y2 ye : Ty} {z : Value}
def notInt : TypeDesc→Bool
 | .int _=>false
 | _=>true
theorem append_fits (h1 : TyOK P t1 y1) (hd : y1.desc=.slice e) (h2 : TyOK P t2 y2) (hni : notInt y2.desc=true) (hE : TyOK P e ye) {base : Option Addr} {sLen cap n : Nat} {x : Value} {news : Array Value}
  (hlen : (Builtin.lenOf x).run P w=.ok n w) (hnew : (Builtin.firstCells ye.size n x).run P w=.ok news w) (hfit : sLen+n≤cap) :
  (Builtin.append_ #[t1,t2] ty #[.slice base sLen cap,x]).run P w=(do
   if let some a:=base then storeCells (a.add (sLen * ye.size)) news.toList
   pure (.slice base (sLen+n) cap) : Sem Value).run P w:=by
 have hd2:=h2.desc
 generalize y2.desc=d2 at hd2 hni
 unfold Builtin.append_
 simp only [List.getElem?_toArray,List.getElem?_cons_zero,List.getElem?_cons_succ,Sem.run_bind,h1.run_under,run_under hd2,hd,Result.andThen,hE.run_size,Sem.run_pure]
 cases d2 <;> first
  | (cases hni;done)
  | (simp only [Bool.false_eq_true,if_false,Bool.not_false,if_true,Sem.run_bind,hlen,Result.andThen]
     rw [if_pos hfit]
     simp only [Sem.run_bind,hnew,Result.andThen]
     cases base <;> rfl)
theorem append_grows (h1 : TyOK P t1 y1) (hd : y1.desc=.slice e) (h2 : TyOK P t2 y2) (hni : notInt y2.desc=true) (hE : TyOK P e ye) (hz : ye.zero=some z) (hby : ye.bytes < 1024) {base : Option Addr} {sLen cap n : Nat} {x : Value} {old news : Array Value}
  (hlen : (Builtin.lenOf x).run P w=.ok n w) (hold : ∀ k,(Builtin.firstCells ye.size sLen (.slice base sLen cap)).run P { w with drawn:=k }=.ok old { w with drawn:=k }) (hnew : ∀ k,(Builtin.firstCells ye.size n x).run P { w with drawn:=k }=.ok news { w with drawn:=k }) (hfit : ¬ sLen+n≤cap) (h30 : sLen+n < 1073741824) :
  ∃ newCap w',sLen+n≤newCap∧(Builtin.append_ #[t1,t2] ty #[.slice base sLen cap,x]).run P w=.ok (.slice (some ⟨w.heap.size,0,none⟩) (sLen+n) newCap) w' ∧
   w'.heap=w.heap.push (.cells (old ++ news ++ Builtin.zeroCells z.cells (newCap - (sLen+n))) e)∧w'.os=w.os∧w'.tape=w.tape∧w'.output=w.output:=by
 obtain ⟨inf,i1,i2,i3,i4⟩:=hE.info
 have hcap : Builtin.nextslicecap (sLen+n) cap * ye.bytes≤2147483840 * 1024:=Nat.mul_le_mul (Nat.le_trans (nextcap_le (by omega)) (by omega)) (by omega)
 refine ⟨(Question.appendCap (sLen+n) cap e).cut (w.tape w.drawn (.appendCap (sLen+n) cap e)),{ w with drawn:=w.drawn+1,heap:=w.heap.push (.cells (old ++ news ++ Builtin.zeroCells z.cells ((Question.appendCap (sLen+n) cap e).cut (w.tape w.drawn (.appendCap (sLen+n) cap e)) - (sLen+n))) e) },Nat.le_add_right _ _,?_,rfl,rfl,rfl,rfl⟩
 have hd2:=h2.desc
 generalize y2.desc=d2 at hd2 hni
 unfold Builtin.append_
 simp only [List.getElem?_toArray,List.getElem?_cons_zero,List.getElem?_cons_succ,Sem.run_bind,h1.run_under,run_under hd2,hd,Result.andThen,hE.run_size,Sem.run_pure]
 cases d2 <;> first
  | (cases hni;done)
  | (simp only [Bool.false_eq_true,if_false,Bool.not_false,if_true,Sem.run_bind,hlen,Result.andThen]
     rw [if_neg hfit]
     simp only [run_info i1,Sem.run_bind,Result.andThen,i3]
     rw [if_neg (by simp only [IntKind.max,IntKind.bits,IntKind.signed];simp;omega)]
     simp only [run_info i1,Sem.run_bind,Result.andThen,i3]
     rw [if_neg (by omega)]
     simp only [Sem.run_bind,Result.andThen,run_choose,Question.forced,Bool.false_eq_true,if_false,run_askRoom,hold,hnew,run_info i1,hE.run_zero hz]
     rfl)
end
noncomputable section
def appendT (T : Tr Ty) (t1 t2 : TypeId) (s x : Value) (h : CH) : Option (Value × CH):=match T.get t1,T.get t2 with
 | some y1,some y2=>match y1.desc with
  | .slice e=>match T.get e with
   | some ye=>match ye.zero with
    | some z=>match notInt y2.desc && flatB 4 z && Nat.beq z.cells.toList.length ye.size && Nat.blt 0 ye.size && Nat.blt (Nat.add ye.bytes ye.size) 1024 && Nat.blt h.n 100000000 with
     | true=>match s with
      | .slice base sLen sCap=>match lenT x with
       | some n=>match firstT ye.size n x h with
        | some news=>match Nat.beq news.length (Nat.mul n ye.size) && Nat.blt (Nat.add sLen n) 1073741824 with
         | true=>match Nat.blt sCap unk with
          | true=>match Nat.ble (Nat.add sLen n) sCap with
           | true=>match base with
            | none=>some (.slice none (Nat.add sLen n) sCap,h)
            | some ⟨i,off,none⟩=>match h.t.get i with
             | some (.row size pat cs e' tail)=>match Nat.ble (Nat.add (Nat.add off (Nat.mul sLen ye.size)) news.length) size && Nat.blt i 100000000 && Nat.blt size 100000000 with
              | true=>match setsT news cs (Nat.add off (Nat.mul sLen ye.size)) with
               | some cs'=>some (.slice base (Nat.add sLen n) sCap,⟨h.t.set i (.row size pat cs' e' tail),h.n⟩)
               | none=>none
              | false=>none
             | _=>none
            | _=>none
           | false=>match firstT ye.size sLen s h with
            | some olds=>match Nat.beq olds.length (Nat.mul sLen ye.size) with
             | true=>some (.slice (some ⟨h.n,0,none⟩) (Nat.add sLen n) unk,⟨h.t.set h.n (.row (Nat.mul (Nat.add sLen n) ye.size) ⟨olds ++ news⟩ .lf e (some ye.size)),Nat.succ h.n⟩)
             | false=>none
            | none=>none
          | false=>match Nat.beq sCap unk with
           | true=>match n with
            | 0=>some (s,h)
            | _+1=>match base with
             | some ⟨i,0,none⟩=>match h.t.get i with
              | some (.row size pat cs e' (some z'))=>match Nat.beq e' e && Nat.beq z' ye.size && Nat.ble (Nat.mul sLen ye.size) size && Nat.blt i 100000000 && Nat.blt (Nat.mul (Nat.add sLen n) ye.size) 100000000 with
               | true=>match setsT news cs (Nat.mul sLen ye.size) with
                | some cs'=>some (.slice (some ⟨h.n,0,none⟩) (Nat.add sLen n) unk,⟨(h.t.del i).set h.n (.row (Nat.mul (Nat.add sLen n) ye.size) pat cs' e' (some ye.size)),Nat.succ h.n⟩)
                | none=>none
               | false=>none
              | _=>none
             | _=>none
           | false=>none
         | false=>none
        | none=>none
       | none=>none
      | _=>none
     | false=>none
    | none=>none
   | none=>none
  | _=>none
 | _,_=>none
end
theorem RW.world {r : Ren} {h : CH} {w w2 : World} (hw : RW r h w) (hh : w2.heap=w.heap) : RW r h w2 :=
 ⟨fun i o hi=>let ⟨b,c,x,k1,k2,k3⟩:=hw.obj i o hi;⟨b,c,x,k1,by rw [hh];exact k2,k3⟩,hw.one,hw.top,fun i b c hi=>by rw [hh];exact hw.low i b c hi,hw.pin.same fun k _ _=>by rw [hh],hw.que.next r.le_refl (fun _=>rfl) fun _ _ _ _ _ _ _=>.of (by rw [hh])⟩
theorem append_ok {P : Program} {T : Tr Ty} (hT : TabOK P T) {t1 t2 ty : TypeId} {s s' x x' v : Value} {r : Ren} {h h' : CH} {w : World} (hW : RW r h w) (hs : RV r s s') (hx : RV r x x') (hl : appendT T t1 t2 s x h=some (v,h')) :
  ∃ r' v' w',(Builtin.append_ #[t1,t2] ty #[s',x']).run P w=.ok v' w'∧Nx r h w r' h' w'∧RV r' v v':=by
 unfold appendT at hl
 split at hl
 case h_2=>cases hl
 rename_i y1 y2 hy1 hy2
 have hY1:=hT.at hy1
 have hY2:=hT.at hy2
 split at hl
 case h_2=>cases hl
 rename_i e hd
 split at hl
 case h_2=>cases hl
 rename_i ye hye
 have hE:=hT.at hye
 split at hl
 case h_2=>cases hl
 rename_i z hz
 split at hl
 case h_2=>cases hl
 rename_i hb
 simp only [Bool.and_eq_true,Nat.blt_eq,Nat.beq_eq] at hb
 obtain ⟨⟨⟨⟨⟨b1,b2⟩,b3⟩,b4⟩,b59⟩,b6⟩:=hb
 replace b59 : ye.bytes+ye.size < 1024:=b59
 have b5 : ye.bytes < 1024:=by omega
 have b9 : ye.size < hid:=by unfold hid;omega
 split at hl
 case h_2=>cases hl
 rename_i base sLen sCap
 split at hl
 case h_2=>cases hl
 rename_i n hn
 split at hl
 case h_2=>cases hl
 rename_i news hnews
 split at hl
 case h_2=>cases hl
 rename_i hb2
 simp only [Bool.and_eq_true,Nat.blt_eq,Nat.beq_eq] at hb2
 obtain ⟨c1,c2⟩:=hb2
 replace c1 : news.length=n * ye.size:=c1
 replace c2 : sLen+n < 1073741824:=c2
 obtain ⟨nar,f1,f2⟩:=first_ok (P:=P) hW hx (fun a m c e=>by rw [e] at hn;exact Nat.le_of_eq (Option.some.inj hn).symm) hnews
 have hlen:=len_ok (P:=P) (w:=w) hx hn
 have hnsz : nar.size=n * ye.size:=by rw [← f2.1];exact c1
 split at hl
 ·rename_i hcap
  rw [Nat.blt_eq] at hcap
  split at hl
  ·rename_i hfit
   replace hfit : sLen+n≤sCap:=by rw [Nat.ble_eq] at hfit;exact hfit
   split at hl
   ·injection hl with hl
    injection hl with e1 e2
    subst e1 e2
    cases hs
    refine ⟨r,.slice none (sLen+n) sCap,w,?_,Nx.refl hW,.nilSlice _ _⟩
    rw [append_fits hY1 hd hY2 b1 hE hlen (f1 w rfl) hfit]
    rfl
   ·rename_i i off
    split at hl
    case h_2=>cases hl
    rename_i size pat cs e' tail hi
    split at hl
    case h_2=>cases hl
    rename_i hb3
    simp only [Bool.and_eq_true,Nat.blt_eq,Nat.ble_eq] at hb3
    obtain ⟨⟨d1,d2⟩,d3⟩:=hb3
    replace d1 : off+sLen * ye.size+news.length≤size:=d1
    split at hl
    case h_2=>cases hl
    rename_i cs' hcs
    injection hl with hl
    injection hl with e1 e2
    subst e1 e2
    obtain ⟨b,c,rfl,hr⟩ : ∃ b c,s'=.slice (some ⟨b,off,none⟩) sLen sCap∧r i=some (b,c):=by
     cases hs with
     | slice h=>exact ⟨_,_,rfl,h⟩
     | sliceU h=>exact absurd hcap (by omega)
     | sliceE h=>exact absurd hcap (by omega)
    obtain ⟨g1,g2⟩:=f2.list
    obtain ⟨w',k1,k2⟩:=sets_ok (P:=P) hW hi hr (off:=off+sLen * ye.size) (k:=0) g1 g2 hcs (by omega) d2 d3
    refine ⟨r,.slice (some ⟨b,off,none⟩) (sLen+n) sCap,w',?_,k2,.slice hr _ _ hcap⟩
    rw [append_fits hY1 hd hY2 b1 hE hlen (f1 w rfl) hfit]
    simp only [Sem.run_bind,Addr.add_flat,k1,Result.andThen]
    rfl
   ·cases hl
  ·rename_i hfit
   replace hfit : ¬ sLen+n≤sCap:=by intro hh;rw [← Nat.ble_eq] at hh;exact absurd (hh.symm.trans hfit) (by simp)
   split at hl
   case h_2=>cases hl
   rename_i olds holds
   split at hl
   case h_2=>cases hl
   rename_i hol
   replace hol : olds.length=sLen * ye.size:=by rw [Nat.beq_eq] at hol;exact hol
   injection hl with hl
   injection hl with e1 e2
   subst e1 e2
   obtain ⟨oar,o1,o2⟩:=first_ok (P:=P) hW hs (fun a m c e=>by injection e with _ e _;exact Nat.le_of_eq e) holds
   obtain ⟨base',rfl⟩ : ∃ base',s'=.slice base' sLen sCap:=by
    cases hs with
    | nilSlice=>exact ⟨_,rfl⟩
    | slice h=>exact ⟨_,rfl⟩
    | sliceU h=>exact absurd hcap (by omega)
    | sliceE h=>exact absurd hcap (by omega)
   obtain ⟨nc,w',n1,n2,n3,n4,n5,n6⟩:=append_grows (ty:=ty) hY1 hd hY2 b1 hE hz b5 hlen (fun k=>o1 _ rfl) (fun k=>f1 _ rfl) hfit c2
   have hosz : oar.size=sLen * ye.size:=by rw [← o2.1];exact hol
   have hzs : z.cells.size=ye.size:=b3
   have hmul : (sLen+n) * ye.size=sLen * ye.size+n * ye.size:=Nat.add_mul _ _ _
   have hrest : (nc - (sLen+n)) * ye.size+(sLen+n) * ye.size=nc * ye.size:=by rw [← Nat.add_mul];congr 1;omega
   have hN:=hW.alloc (size:=(sLen+n) * ye.size) (c:=nc) (pat:=⟨olds ++ news⟩) (cs:=.lf) (e:=e) (arr:=oar ++ nar ++ Builtin.zeroCells z.cells (nc - (sLen+n))) (tail:=some ye.size) (by omega)
    (by simp [hosz,hnsz];omega) (by simp only [TailOK,Array.size_append,size_zeroCells,hosz,hnsz,hzs];omega) (code_some b9) fun k hk=>by
     have hk1 : k < (olds ++ news).length:=by rw [List.length_append,hol,c1];omega
     have hk2 : k < (oar ++ nar).size:=by rw [Array.size_append,hosz,hnsz];omega
     have hk3 : k < (oar ++ nar ++ Builtin.zeroCells z.cells (nc - (sLen+n))).size:=by rw [Array.size_append];omega
     refine ⟨(olds ++ news)[k],(oar ++ nar)[k],?_,?_,?_⟩
     ·unfold CObj.at
      rw [Tr.get_lf]
      simp only [List.size_toArray,List.getElem?_toArray,Nat.mod_eq_of_lt hk1]
      exact List.getElem?_eq_getElem hk1
     ·rw [Array.getElem?_eq_getElem hk3,Array.getElem_append_left hk2]
     ·by_cases hko : k < sLen * ye.size
      ·exact o2.2 k _ _ (by rw [List.getElem_append_left (by omega)];simp [List.getElem?_eq_getElem (show k < olds.length by omega)]) (by rw [Array.getElem_append_left (by omega)];exact Array.getElem?_eq_getElem (by omega))
      ·refine f2.2 (k - sLen * ye.size) _ _ (by rw [List.getElem_append_right (by omega)];simp [hol,List.getElem?_eq_getElem (show k - sLen * ye.size < news.length by omega)]) (by rw [Array.getElem_append_right (by omega)];simp [hosz,Array.getElem?_eq_getElem (show k - sLen * ye.size < nar.size by omega)])
   exact ⟨_,_,w',n2,hN.world n3 n4 n5 n6,.sliceU (k:=0) Ren.put_at _ rfl (by omega)⟩
 ·split at hl
  case h_2=>cases hl
  rename_i hu
  rw [Nat.beq_eq] at hu
  subst hu
  split at hl
  ·injection hl with hl
   injection hl with e1 e2
   subst e1 e2
   have hn0 : nar.toList=[]:=by
    have : nar.toList.length=0:=by simpa using hnsz
    exact List.eq_nil_of_length_eq_zero this
   generalize hsv : (Value.slice base sLen unk)=sv at hs
   cases hs with
   | nilSlice l c =>
    injection hsv with q1 q2 q3
    subst q1 q2 q3
    refine ⟨r,.slice none (sLen+0) unk,w,?_,Nx.refl hW,.nilSlice _ _⟩
    rw [append_fits hY1 hd hY2 b1 hE hlen (f1 w rfl) (by unfold unk;omega)]
    rfl
   | slice h l cap hc=>injection hsv with q1 q2 q3;exact absurd hc (by omega)
   | @sliceU i b c off k cap hr l hc hl2 =>
    injection hsv with q1 q2 q3
    subst q1 q2
    have hrv:=RV.sliceU (off:=off) hr sLen hc hl2
    refine ⟨r,.slice (some ⟨b,off,none⟩) (sLen+0) cap,w,?_,Nx.refl hW,hrv⟩
    rw [append_fits hY1 hd hY2 b1 hE hlen (f1 w rfl) hl2,hn0]
    rfl
   | @sliceE i b c off off' hr =>
    injection hsv with q1 q2 q3
    subst q1 q2
    have hrv:=RV.sliceE (off:=off) (off':=off') hr
    refine ⟨r,.slice (some ⟨b,off',none⟩) (0+0) 0,w,?_,Nx.refl hW,hrv⟩
    rw [append_fits hY1 hd hY2 b1 hE hlen (f1 w rfl) (Nat.le_refl _),hn0]
    rfl
   | _=>cases hsv
  ·rename_i n'
   split at hl
   case h_2=>cases hl
   rename_i i
   split at hl
   case h_2=>cases hl
   rename_i size pat cs e' z' hi
   split at hl
   case h_2=>cases hl
   rename_i hb3
   simp only [Bool.and_eq_true,Nat.blt_eq,Nat.ble_eq,Nat.beq_eq] at hb3
   obtain ⟨⟨⟨⟨d1,d2⟩,d3⟩,d4⟩,d5⟩:=hb3
   subst d1 d2
   replace d3 : sLen * ye.size≤size:=d3
   replace d5 : (sLen+(n'+1)) * ye.size < 100000000:=d5
   split at hl
   case h_2=>cases hl
   rename_i cs' hcs
   replace hcs : setsT news cs (sLen * ye.size)=some cs':=hcs
   injection hl with hl
   injection hl with e1 e2
   subst e1 e2
   obtain ⟨b,cap,off',hr,rfl,hle,hoff⟩ : ∃ b cap off',r i=some (b,cap)∧s'=.slice (some ⟨b,off',none⟩) sLen cap∧sLen≤cap∧(off'=0∨cap=0):=by
    generalize hsv : (Value.slice (some ⟨i,0,none⟩) sLen unk)=sv at hs
    cases hs with
    | slice h l cap hc=>injection hsv with q1 q2 q3;exact absurd hc (by omega)
    | @sliceU i2 b c off2 k cap h l hc hl2 =>
     injection hsv with q1 q2 q3
     injection q1 with q1
     injection q1 with q4 q5
     subst q4 q5 q2
     have hk0 : c=cap:=by omega
     subst hk0
     exact ⟨_,_,_,h,rfl,hl2,.inl rfl⟩
    | @sliceE i2 b c off2 off3 h =>
     injection hsv with q1 q2 q3
     injection q1 with q1
     injection q1 with q4 q5
     subst q4 q5 q2
     have hk0 : c=0:=by omega
     subst hk0
     exact ⟨_,_,_,h,rfl,Nat.le_refl _,.inr rfl⟩
    | _=>cases hsv
   obtain ⟨b',c',xo,g1,g2,arr,fz,gz,rfl,g4,g5,g6⟩:=hW.obj i _ hi
   rw [hr] at g1
   injection g1 with g1
   injection g1 with q1 q2
   subst q1 q2
   replace g5 : arr.size=cap * ye.size:=g5.resolve_right (by omega)
   have hmul : (sLen+(n'+1)) * ye.size=sLen * ye.size+(n'+1) * ye.size:=Nat.add_mul _ _ _
   have hnl : news.length=(n'+1) * ye.size:=c1
   have hget : ∀ k,CObj.at pat cs' k=if sLen * ye.size≤k∧k < sLen * ye.size+news.length then news[k - sLen * ye.size]? else CObj.at pat cs k:=setsT_get hcs (by omega)
   by_cases hfit : sLen+(n'+1)≤cap
   ·have ho : off'=0:=by
     rcases hoff with h1 | h1
     ·exact h1
     ·omega
    subst ho
    have hcm : (sLen+(n'+1)) * ye.size≤cap * ye.size:=Nat.mul_le_mul_right _ hfit
    obtain ⟨w',arr',k1,k2,k3,k4,k5,k6,k7,k8,k9⟩:=store_row (P:=P) (off:=sLen * ye.size) nar.toList 0 arr w gz g2 (by simp [hnsz];omega) (ones_ok f2 (setsT_one hcs))
    have hN:=hW.moved (i:=i) (b:=b) (c:=cap) (size:=(sLen+(n'+1)) * ye.size) (pat:=pat) (cs:=cs') (e:=e') (tail:=some ye.size) (arr:=arr') (fz:=fz) hi hr (by rw [k8];exact gz) (by omega) (by omega) (by omega) (by simp only [TailOK];omega) (code_some b9) (code_some b9) (fun k hk=>by
     have hka : k < arr'.size:=by omega
     refine (?_ : ∃ a b,CObj.at pat cs' k=some a∧arr'[k]?=some b∧RV r a b)
     rw [hget,k9]
     simp only [Array.length_toList,hnsz,Nat.add_zero,hnl]
     by_cases hkk : sLen * ye.size≤k∧k < sLen * ye.size+(n'+1) * ye.size
     ·rw [if_pos hkk,if_pos hkk]
      have hk1 : k - sLen * ye.size < news.length:=by omega
      have hk2 : k - sLen * ye.size < nar.size:=by omega
      exact ⟨news[k - sLen * ye.size],nar[k - sLen * ye.size],List.getElem?_eq_getElem hk1,by simp [Array.getElem?_eq_getElem hk2],f2.2 _ _ _ (by simp [List.getElem?_eq_getElem hk1]) (Array.getElem?_eq_getElem hk2)⟩
     ·rw [if_neg hkk,if_neg hkk]
      exact g6 k (by omega)) k2 k3 k4 k5 k6 k7
    refine ⟨_,.slice (some ⟨b,0,none⟩) (sLen+(n'+1)) cap,w',?_,hN,.sliceU (k:=0) Ren.put_at _ rfl hfit⟩
    rw [append_fits hY1 hd hY2 b1 hE hlen (f1 w rfl) hfit]
    simp only [Sem.run_bind,Addr.add_flat,Nat.zero_add,k1,Result.andThen]
    rfl
   ·have hcell : ∀ k,k < sLen * ye.size→∃ u,arr[k]?=some u:=fun k hk=>by
     obtain ⟨_,u,_,u1,_⟩:=g6 k (by omega)
     exact ⟨u,u1⟩
    have hold : ∀ k,(Builtin.firstCells ye.size sLen (.slice (some ⟨b,off',none⟩) sLen cap)).run P { w with drawn:=k }=.ok ((List.range (sLen * ye.size)).map fun k=>arr[k]?.getD undef).toArray { w with drawn:=k }:=fun k=>by
     unfold Builtin.firstCells
     exact run_loadCells _ _ (sLen * ye.size) (fun k=>arr[k]?.getD undef) fun j hj=>by
      obtain ⟨u,u1⟩:=hcell j hj
      have ho : off'=0:=by
       rcases hoff with h1 | h1
       ·exact h1
       ·subst h1
        have : sLen=0:=by omega
        subst this
        rw [Nat.zero_mul] at hj
        exact absurd hj (by omega)
      subst ho
      rw [Addr.add_flat]
      unfold World.cell?
      simp only [g2,Nat.zero_add,u1]
      rfl
    obtain ⟨nc,w',n1,n2,n3,n4,n5,n6⟩:=append_grows (ty:=ty) hY1 hd hY2 b1 hE hz b5 hlen hold (fun k=>f1 _ rfl) hfit c2
    have hzs : z.cells.size=ye.size:=b3
    have hrest : (nc - (sLen+(n'+1))) * ye.size+(sLen+(n'+1)) * ye.size=nc * ye.size:=by rw [← Nat.add_mul,Nat.sub_add_cancel n1]
    have hN:=hW.alloc (size:=(sLen+(n'+1)) * ye.size) (c:=nc) (pat:=pat) (cs:=cs') (e:=e') (arr:=((List.range (sLen * ye.size)).map fun k=>arr[k]?.getD undef).toArray ++ nar ++ Builtin.zeroCells z.cells (nc - (sLen+(n'+1)))) (tail:=some ye.size) (by omega)
     (by simp [hnsz];omega) (by simp only [TailOK,Array.size_append,size_zeroCells,hnsz,hzs];simp;omega) (code_some b9) fun k hk=>by
      refine (?_ : ∃ a b,CObj.at pat cs' k=some a∧_=some b∧RV r a b)
      rw [hget]
      simp only [hnl]
      by_cases hkk : sLen * ye.size≤k∧k < sLen * ye.size+(n'+1) * ye.size
      ·rw [if_pos hkk]
       have hk1 : k - sLen * ye.size < news.length:=by omega
       have hk2 : k - sLen * ye.size < nar.size:=by omega
       refine ⟨news[k - sLen * ye.size],nar[k - sLen * ye.size],List.getElem?_eq_getElem hk1,?_,f2.2 _ _ _ (by simp [List.getElem?_eq_getElem hk1]) (Array.getElem?_eq_getElem hk2)⟩
       rw [Array.getElem?_append_left (by simp [hnsz];omega),Array.getElem?_append_right (by simp;omega)]
       simp [Array.getElem?_eq_getElem hk2]
      ·rw [if_neg hkk]
       have hks : k < sLen * ye.size:=by omega
       obtain ⟨p,u,u1,u2,u3⟩:=g6 k (by omega)
       refine ⟨p,u,u1,?_,u3⟩
       rw [Array.getElem?_append_left (by simp [hnsz];omega),Array.getElem?_append_left (by simp;omega)]
       simp [List.getElem?_map,List.getElem?_range hks,u2]
    refine ⟨_,_,w',n2,(hN.world n3 n4 n5 n6).drop rfl (fun j o hj=>?_) (fun j=>?_),.sliceU (k:=0) Ren.put_at _ rfl (by omega)⟩
    rotate_left
    ·by_cases h1 : h.n=j
     ·exact CH.hc_eq (by dsimp only;rw [Tr.get_set (by omega),Tr.get_set (by omega),if_pos h1,if_pos h1];rfl)
     ·by_cases h2 : i=j
      ·subst h2
       rw [CH.hc_no (by dsimp only;rw [Tr.get_set (by omega),if_neg h1,Tr.get_del,if_pos rfl]),CH.hc_at (by dsimp only;rw [Tr.get_set (by omega),if_neg h1];exact hi)]
       exact (code_some b9).symm
      ·exact CH.hc_eq (by dsimp only;rw [Tr.get_set (by omega),Tr.get_set (by omega),if_neg h1,if_neg h1,Tr.get_del,if_neg h2])
    dsimp only at hj ⊢
    rw [Tr.get_set (by omega)] at hj ⊢
    rw [Tr.get_del] at hj
    by_cases h1 : h.n=j
    ·rw [if_pos h1] at hj ⊢;exact hj
    ·rw [if_neg h1] at hj ⊢
     by_cases h2 : i=j
     ·rw [if_pos h2] at hj;cases hj
     ·rw [if_neg h2] at hj;exact hj
end Go.Ex
namespace Go.Ex
noncomputable section
def sameT (T : Tr Ty) (t : TypeId) (x y : Value) : Option Bool:=match T.get t with
 | some ty=>match ty.desc with
  | .bool=>match x,y with
   | .bool a,.bool b=>some (a == b)
   | _,_=>none
  | .pointer _=>match x,y with
   | .pointer none,.pointer b=>some b.isNone
   | .pointer (some _),.pointer none=>some false
   | _,_=>none
  | .slice _=>match x,y with
   | .slice none _ _,.slice b _ _=>some b.isNone
   | .slice (some _) _ _,.slice none _ _=>some false
   | _,_=>none
  | .map _ _=>match x,y with
   | .map none,.map b=>some b.isNone
   | .map (some _),.map none=>some false
   | _,_=>none
  | .func _ _ _=>match x,y with
   | .nilFunc,.nilFunc=>some true
   | .nilFunc,.func _ _ _=>some false
   | .func _ _ _,.nilFunc=>some false
   | _,_=>none
  | .interface _=>match x,y with
   | .nilIface,.iface _ _=>some false
   | .iface _ _,.nilIface=>some false
   | _,_=>none
  | _=>none
 | none=>none
end
theorem same_ok {P : Program} {T : Tr Ty} (hT : TabOK P T) {t : TypeId} {x x' y y' : Value} {b : Bool} {r : Ren} {w : World} (hx : RV r x x') (hy : RV r y y') (hl : sameT T t x y=some b) : (Op.equal t x' y').run P w=.ok b w:=by
 unfold sameT at hl
 split at hl
 case h_2=>cases hl
 rename_i ty hty
 have hY:=hT.at hty
 have hu : (Op.equal t x' y')=Op.equalIn (9999+1) t x' y':=rfl
 rw [hu]
 unfold Op.equalIn
 rw [Sem.run_bind,hY.run_under]
 simp only [Result.andThen]
 split at hl
 ·rename_i hd
  split at hl
  ·injection hl with hl;subst hl;cases hx;cases hy;rw [hd];rfl
  ·cases hl
 ·rename_i e hd
  split at hl
  ·injection hl with hl;subst hl;cases hx;rw [hd];cases hy <;> rfl
  ·injection hl with hl;subst hl;cases hy;rw [hd];cases hx <;> rfl
  ·cases hl
 ·rename_i e hd
  split at hl
  ·injection hl with hl;subst hl;cases hx;rw [hd];cases hy <;> rfl
  ·injection hl with hl;subst hl;cases hy;rw [hd];cases hx <;> rfl
  ·cases hl
 ·rename_i e hd
  split at hl
  ·injection hl with hl;subst hl;cases hx;rw [hd];cases hy <;> rfl
  ·injection hl with hl;subst hl;cases hy;rw [hd];cases hx <;> rfl
  ·cases hl
 ·rename_i e hd
  split at hl
  ·injection hl with hl;subst hl;cases hx;cases hy;rw [hd];rfl
  ·injection hl with hl;subst hl;cases hx;cases hy;rw [hd];rfl
  ·injection hl with hl;subst hl;cases hx;cases hy;rw [hd];rfl
  ·cases hl
 ·rename_i e hd
  split at hl
  ·injection hl with hl;subst hl;cases hx;cases hy;rw [hd];rfl
  ·injection hl with hl;subst hl;cases hx;cases hy;rw [hd];rfl
  ·cases hl
 ·cases hl
noncomputable section
def shiftT (op : BinOp) (k : IntKind) (a b : Int) : Option Value:=match b with
 | .ofNat n=>match op with
  | .shl=>some (.int k (wrapT k (Int.mul a (.ofNat (Nat.pow 2 (Nat.min n k.bits))))))
  | .shr=>match a with
   | .ofNat m=>some (.int k (.ofNat (Nat.div m (Nat.pow 2 (Nat.min n k.bits)))))
   | _=>none
  | _=>none
 | .negSucc _=>none
def isConst : Operand→Bool
 | .const _=>true
 | _=>false
def binT (T : Tr Ty) (op : BinOp) (t : TypeId) (ox oy : Operand) (x y : Value) : Option Value:=match x,y with
 | .int k a,.int k' b=>match op with
  | .shl=>shiftT .shl k a b
  | .shr=>shiftT .shr k a b
  | op=>match kindT k k' with
   | true=>intT op k a b
   | false=>none
 | .string a,.string b=>match op with
  | .eql=>some (.bool (a.toList == b.toList))
  | .neq=>some (.bool (a.toList == b.toList).not)
  | .lss=>some (.bool (Op.bytesLess a.toList b.toList))
  | .gtr=>some (.bool (!(Op.bytesLess a.toList b.toList || a.toList == b.toList)))
  | _=>none
 | .nilIface,.nilIface=>match isConst ox || isConst oy with
  | true=>match op with
   | .eql=>match T.get t with
    | some ty=>match ty.desc with
     | .interface _=>some (.bool true)
     | _=>none
    | none=>none
   | .neq=>match T.get t with
    | some ty=>match ty.desc with
     | .interface _=>some (.bool false)
     | _=>none
    | none=>none
   | _=>none
  | false=>none
 | .agg _,.agg _=>none
 | x,y=>match op with
  | .eql=>match sameT T t x y with
   | some b=>some (.bool b)
   | none=>none
  | .neq=>match sameT T t x y with
   | some b=>some (.bool b.not)
   | none=>none
  | _=>none
end
theorem shift_ok {P : Program} {w : World} {op : BinOp} {k yk : IntKind} {a b : Int} {v : Value} (hl : shiftT op k a b=some v) : (Op.shift op k a yk b).run P w=.ok v w∧∃ n,v=.int k n:=by
 unfold shiftT at hl
 split at hl
 case h_2=>cases hl
 rename_i n
 unfold Op.shift
 rw [if_neg (by simp only [Int.ofNat_eq_natCast];omega)]
 split at hl
 ·injection hl with hl
  subst hl
  rw [wrapT_eq]
  exact ⟨rfl,_,rfl⟩
 ·split at hl
  ·rename_i m
   injection hl with hl
   subst hl
   refine ⟨?_,_,rfl⟩
   have h2 : (2 : Int) ^ (min (Int.ofNat n).toNat k.bits)=((2 ^ min n k.bits : Nat) : Int):=by simp
   simp only [h2,Sem.run_pure]
   congr 2
   cases m <;> simp <;> first | rfl | (show (0 : Int)=((0 / (2 ^ min n k.bits) : Nat) : Int);simp)
  ·cases hl
 ·cases hl
theorem guard_quiet {P : Program} {w : World} {op : BinOp} {t : TypeId} {ox oy : Operand} {x y : Value} (h : (match x,y with | .nilIface,.nilIface=>isConst ox || isConst oy | .agg _,.agg _=>false | _,_=>true)=true) : (eqGuard op t ox oy x y).run P w=.ok () w:=by
 cases op <;> first
  | rfl
  | (cases x <;> first
    | rfl
    | (cases y <;> first
      | rfl
      | (cases h;done)
      | (cases ox <;> cases oy <;> first | rfl | (cases h;done))))
theorem bin_ok {P : Program} {T : Tr Ty} (hT : TabOK P T) {op : BinOp} {t : TypeId} {ox oy : Operand} {x x' y y' v : Value} {r : Ren} {w : World} (hx : RV r x x') (hy : RV r y y') (hl : binT T op t ox oy x y=some v) :
  ∃ v',(do eqGuard op t ox oy x' y';binOp op t x' y' : Sem Value).run P w=.ok v' w∧RV r v v':=by
 have fin : ∀ {v'},(match x',y' with | .nilIface,.nilIface=>isConst ox || isConst oy | .agg _,.agg _=>false | _,_=>true)=true→(binOp op t x' y').run P w=.ok v' w→RV r v v'→∃ v',(do eqGuard op t ox oy x' y';binOp op t x' y' : Sem Value).run P w=.ok v' w∧RV r v v' :=
  fun {v'} h1 h2 h3=>⟨v',by rw [Sem.run_bind,guard_quiet h1];exact h2,h3⟩
 unfold binT at hl
 split at hl
 ·rename_i k a k' b
  cases hx
  cases hy
  split at hl
  ·obtain ⟨q1,n,rfl⟩:=shift_ok (P:=P) (w:=w) (yk:=k') hl
   exact fin rfl q1 (.int _ _)
  ·obtain ⟨q1,n,rfl⟩:=shift_ok (P:=P) (w:=w) (yk:=k') hl
   exact fin rfl q1 (.int _ _)
  ·split at hl
   ·rename_i hk
    have hk':=kindBeq k k' hk
    subst hk'
    refine fin rfl (intT_run hl) ?_
    rcases intT_ok hl with ⟨n,rfl⟩ | ⟨b,rfl⟩
    ·exact .int _ _
    ·exact .bool _
   ·cases hl
 ·cases hx
  cases hy
  split at hl
  ·injection hl with hl;subst hl;exact fin rfl rfl (.bool _)
  ·injection hl with hl;subst hl;exact fin rfl rfl (.bool _)
  ·injection hl with hl;subst hl;exact fin rfl rfl (.bool _)
  ·injection hl with hl;subst hl;exact fin rfl rfl (.bool _)
  ·cases hl
 ·cases hx
  cases hy
  split at hl
  ·rename_i hc
   have eqn : ∀ {ty : Ty} {ms},T.get t=some ty→ty.desc=.interface ms→(Op.equal t .nilIface .nilIface).run P w=.ok true w:=fun {ty ms} h1 h2=>by
    have hu : (Op.equal t .nilIface .nilIface)=Op.equalIn (9999+1) t .nilIface .nilIface:=rfl
    rw [hu]
    unfold Op.equalIn
    rw [Sem.run_bind,(hT.at h1).run_under,h2]
    rfl
   split at hl
   ·split at hl
    ·rename_i ty hty
     split at hl
     ·rename_i ms hd
      injection hl with hl;subst hl
      refine fin hc ?_ (.bool true)
      show (do pure (.bool (← Op.equal t .nilIface .nilIface)) : Sem Value).run P w=_
      rw [Sem.run_bind,eqn hty hd];rfl
     ·cases hl
    ·cases hl
   ·split at hl
    ·rename_i ty hty
     split at hl
     ·rename_i ms hd
      injection hl with hl;subst hl
      refine fin hc ?_ (.bool false)
      show (do pure (.bool (!(← Op.equal t .nilIface .nilIface))) : Sem Value).run P w=_
      rw [Sem.run_bind,eqn hty hd];rfl
     ·cases hl
    ·cases hl
   ·cases hl
  ·cases hl
 ·cases hl
 ·rename_i n1 n2 n3 n4
  split at hl
  ·split at hl
   ·rename_i b hb
    injection hl with hl
    subst hl
    have hs:=same_ok (P:=P) (w:=w) hT hx hy hb
    cases hx <;> cases hy <;> first
     | exact (n1 _ _ _ _ rfl rfl).elim
     | exact (n2 _ _ rfl rfl).elim
     | exact (n3 rfl rfl).elim
     | exact (n4 _ _ rfl rfl).elim
     | (refine fin rfl ?_ (.bool _)
        show (do pure (.bool (← Op.equal t _ _)) : Sem Value).run P w=_
        rw [Sem.run_bind,hs];rfl)
   ·cases hl
  ·split at hl
   ·rename_i b hb
    injection hl with hl
    subst hl
    have hs:=same_ok (P:=P) (w:=w) hT hx hy hb
    cases hx <;> cases hy <;> first
     | exact (n1 _ _ _ _ rfl rfl).elim
     | exact (n2 _ _ rfl rfl).elim
     | exact (n3 rfl rfl).elim
     | exact (n4 _ _ rfl rfl).elim
     | (refine fin rfl ?_ (.bool _)
        show (do pure (.bool (!(← Op.equal t _ _))) : Sem Value).run P w=_
        rw [Sem.run_bind,hs];rfl)
   ·cases hl
  ·cases hl
end Go.Ex
namespace Go.Ex
variable {ε : Cx}
noncomputable section
def evsT (n : Nat) (t : Tr Value) (l : List Operand) : Option (List Value):=List.rec (motive:=fun _=>Option (List Value)) (some [])
 (fun x _ ih=>match evT n t x with
  | some v=>match ih with
   | some l=>some (v :: l)
   | none=>none
  | none=>none) l
def evpT (n : Nat) (t : Tr Value) (l : List (Nat × Operand)) : Option (List (Nat × Value)):=List.rec (motive:=fun _=>Option (List (Nat × Value))) (some [])
 (fun x _ ih=>match evT n t x.2 with
  | some v=>match ih with
   | some l=>some ((x.1,v) :: l)
   | none=>none
  | none=>none) l
def evoT (n : Nat) (t : Tr Value) (x : Option Operand) : Option (Option Value):=match x with
 | none=>some none
 | some x=>match evT n t x with
  | some v=>some (some v)
  | none=>none
end
theorem evs_ok {r : Ren} {n : Nat} {t : Tr Value} {a : Act} (h : RF ε r n t a) {l : List Operand} {vs : List Value} (he : evsT n t l=some vs) : RVs r ⟨vs⟩ (l.toArray.map a.eval):=by
 induction l generalizing vs with
 | nil=>injection he with he;subst he;exact ⟨by simp,fun i x y hx=>by simp at hx⟩
 | cons x l ih =>
  have he' : (match evT n t x with
   | some v=>match evsT n t l with
    | some l=>some (v :: l)
    | none=>none
   | none=>none)=some vs:=he
  split at he'
  case h_2=>cases he'
  rename_i v hv
  split at he'
  case h_2=>cases he'
  rename_i vs' hvs
  injection he' with he'
  subst he'
  obtain ⟨k1,k2⟩:=ih hvs
  refine ⟨by simp at k1 ⊢;exact k1,fun i p q hp hq=>?_⟩
  cases i with
  | zero=>simp at hp hq;subst hp hq;exact ev_ok h hv
  | succ i=>exact k2 i p q (by simpa using hp) (by simpa using hq)
theorem evp_ok {r : Ren} {n : Nat} {t : Tr Value} {a : Act} (h : RF ε r n t a) {l : List (Nat × Operand)} {vs : List (Nat × Value)} (he : evpT n t l=some vs) : RPs r vs (l.map fun x=>(x.1,a.eval x.2)):=by
 induction l generalizing vs with
 | nil=>injection he with he;subst he;exact ⟨by simp,fun i x y hx=>by simp at hx⟩
 | cons x l ih =>
  have he' : (match evT n t x.2 with
   | some v=>match evpT n t l with
    | some l=>some ((x.1,v) :: l)
    | none=>none
   | none=>none)=some vs:=he
  split at he'
  case h_2=>cases he'
  rename_i v hv
  split at he'
  case h_2=>cases he'
  rename_i vs' hvs
  injection he' with he'
  subst he'
  obtain ⟨k1,k2⟩:=ih hvs
  refine ⟨by simpa using k1,fun i p q hp hq=>?_⟩
  cases i with
  | zero=>simp at hp hq;subst hp hq;exact ⟨rfl,ev_ok h hv⟩
  | succ i=>exact k2 i p q (by simpa using hp) (by simpa using hq)
theorem evo_ok {r : Ren} {n : Nat} {t : Tr Value} {a : Act} (h : RF ε r n t a) {x : Option Operand} {v : Option Value} (he : evoT n t x=some v) : ROpt r v (x.map a.eval):=by
 cases x with
 | none=>injection he with he;subst he;trivial
 | some x =>
  simp only [evoT] at he
  split at he
  ·rename_i u hu
   injection he with he
   subst he
   exact ev_ok h hu
  ·cases he
noncomputable section
def unT (op : UnOp) (x : Value) : Option Value:=match op,x with
 | .not,.bool b=>some (.bool b.not)
 | .neg,.int k n=>some (.int k (wrapT k (Int.sub 0 n)))
 | _,_=>none
def convT (T : Tr Ty) (src dst : TypeId) (x : Value) : Option Value:=match T.get src,T.get dst,x with
 | some _,some y,.int _ n=>match y.desc with
  | .int k=>some (.int k (wrapT k n))
  | _=>none
 | _,_,_=>none
def lenOfT (T : Tr Ty) (t : TypeId) (x : Value) : Option Value:=match T.get t with
 | some y=>match y.desc,x with
  | .string,.string s=>some (.int .i64 (.ofNat s.size))
  | .array n _,_=>some (.int .i64 (.ofNat n))
  | .slice _,.slice _ n _=>some (.int .i64 (.ofNat n))
  | _,_=>none
 | none=>none
def capOfT (T : Tr Ty) (t : TypeId) (x : Value) : Option Value:=match T.get t with
 | some y=>match y.desc,x with
  | .slice _,.slice _ _ c=>match Nat.blt c unk with
   | true=>some (.int .i64 (.ofNat c))
   | false=>none
  | _,_=>none
 | none=>none
def lessT (max : Bool) (x y : Value) : Option Value:=match x,y with
 | .int k a,.int _ b=>match (match max with | true=>ltT a b | false=>ltT b a) with
  | true=>some (.int k b)
  | false=>some (.int k a)
 | _,_=>none
def builtT (T : Tr Ty) (b : Builtin) (ts : List TypeId) (xs : List Value) : Option Value:=match b,ts,xs with
 | .len,[t],[x]=>lenOfT T t x
 | .cap,[t],[x]=>capOfT T t x
 | .min,_,[x,y]=>lessT false x y
 | .max,_,[x,y]=>lessT true x y
 | _,_,_=>none
end
theorem un_ok {P : Program} {op : UnOp} {x x' v : Value} {r : Ren} {w : World} (hx : RV r x x') (hl : unT op x=some v) : ∃ v',(Op.unary op x').run P w=.ok v' w∧RV r v v':=by
 unfold unT at hl
 split at hl
 ·injection hl with hl;subst hl;cases hx;exact ⟨_,rfl,.bool _⟩
 ·injection hl with hl;subst hl;cases hx;refine ⟨_,rfl,?_⟩;rw [wrapT_eq];exact .int _ _
 ·cases hl
theorem conv_ok {P : Program} {T : Tr Ty} (hT : TabOK P T) {src dst : TypeId} {x x' v : Value} {r : Ren} {w : World} (hx : RV r x x') (hl : convT T src dst x=some v) : ∃ v',(convert src dst x').run P w=.ok v' w∧RV r v v':=by
 unfold convT at hl
 split at hl
 case h_2=>cases hl
 rename_i y0 y k0 n h1 h2
 split at hl
 case h_2=>cases hl
 rename_i k hd
 injection hl with hl
 subst hl
 cases hx
 refine ⟨.int k (k.wrap n),?_,by rw [wrapT_eq];exact .int _ _⟩
 unfold convert
 simp only [Sem.run_bind,(hT.at h1).run_under,(hT.at h2).run_under,hd,Result.andThen]
 generalize y0.desc=d
 cases d <;> rfl
theorem built_ok {P : Program} {T : Tr Ty} (hT : TabOK P T) {b : Builtin} {ts : Array TypeId} {ty : TypeId} {cs : Array Bool} {xs : List Value} {ys : Array Value} {v : Value} {r : Ren} {w : World} (hx : RVs r ⟨xs⟩ ys) (hl : builtT T b ts.toList xs=some v) :
  ∃ v',(builtin b ts ty cs ys).run P w=.ok (.value v') w∧RV r v v':=by
 obtain ⟨ts⟩:=ts
 obtain ⟨ys⟩:=ys
 unfold builtT at hl
 have one : ∀ {x},xs=[x]→∃ x',ys=[x']∧RV r x x':=by
  intro x e
  subst e
  have h1:=hx.1
  match ys,h1 with
  | [x'],_=>exact ⟨x',rfl,hx.2 0 x x' rfl rfl⟩
 have two : ∀ {x y},xs=[x,y]→∃ x' y',ys=[x',y']∧RV r x x'∧RV r y y':=by
  intro x y e
  subst e
  have h1:=hx.1
  match ys,h1 with
  | [x',y'],_=>exact ⟨x',y',rfl,hx.2 0 x x' rfl rfl,hx.2 1 y y' rfl rfl⟩
 split at hl
 ·rename_i t x h1
  obtain ⟨x',rfl,hxx⟩:=one rfl
  dsimp only at h1
  subst h1
  unfold lenOfT at hl
  split at hl
  case h_2=>cases hl
  rename_i y hy
  have hY:=(hT.at hy).run_under (w:=w)
  unfold builtin
  have fin : ∀ {v'},(Builtin.len_ #[t] ty #[x']).run P w=.ok v' w→(do pure (.value (← Builtin.len_ #[t] ty #[x'])) : Sem Next).run P w=.ok (.value v') w:=fun h=>run_val h
  split at hl
  ·rename_i hd;injection hl with hl;subst hl;cases hxx
   exact ⟨_,fin (by unfold Builtin.len_;simp only [List.getElem?_toArray,List.getElem?_cons_zero,Sem.run_bind,hY,hd,Result.andThen];rfl),.int _ _⟩
  ·rename_i hd;injection hl with hl;subst hl
   exact ⟨_,fin (by unfold Builtin.len_;simp only [List.getElem?_toArray,List.getElem?_cons_zero,Sem.run_bind,hY,hd,Result.andThen];rfl),.int _ _⟩
  ·rename_i hd;injection hl with hl;subst hl
   cases hxx <;> exact ⟨_,fin (by unfold Builtin.len_;simp only [List.getElem?_toArray,List.getElem?_cons_zero,Sem.run_bind,hY,hd,Result.andThen];rfl),.int _ _⟩
  ·cases hl
 ·rename_i t x h1
  obtain ⟨x',rfl,hxx⟩:=one rfl
  dsimp only at h1
  subst h1
  unfold capOfT at hl
  split at hl
  case h_2=>cases hl
  rename_i y hy
  have hY:=(hT.at hy).run_under (w:=w)
  unfold builtin
  have fin : ∀ {v'},(Builtin.cap_ #[t] ty #[x']).run P w=.ok v' w→(do pure (.value (← Builtin.cap_ #[t] ty #[x'])) : Sem Next).run P w=.ok (.value v') w:=fun h=>run_val h
  split at hl
  ·rename_i base n c hd
   split at hl
   case h_2=>cases hl
   rename_i hc
   rw [Nat.blt_eq] at hc
   injection hl with hl;subst hl
   cases hxx with
   | sliceU h l hc2 hl2=>exact absurd hc (by omega)
   | sliceE h=>exact absurd hc (by omega)
   | nilSlice l c=>exact ⟨_,fin (by unfold Builtin.cap_;simp only [List.getElem?_toArray,List.getElem?_cons_zero,Sem.run_bind,hY,hd,Result.andThen];rfl),.int _ _⟩
   | slice h l c hc=>exact ⟨_,fin (by unfold Builtin.cap_;simp only [List.getElem?_toArray,List.getElem?_cons_zero,Sem.run_bind,hY,hd,Result.andThen];rfl),.int _ _⟩
  ·cases hl
 ·obtain ⟨x',y',rfl,hxx,hyy⟩:=two rfl
  unfold lessT at hl
  split at hl
  case h_2=>cases hl
  rename_i k a k2 b
  cases hxx
  cases hyy
  dsimp only at hl
  rw [ltT_eq] at hl
  refine ⟨.int k (if b < a then b else a),rfl,?_⟩
  split at hl
  ·rename_i hc;injection hl with hl;subst hl;rw [if_pos (by simpa using hc)];exact .int _ _
  ·rename_i hc;injection hl with hl;subst hl;rw [if_neg (by simpa using hc)];exact .int _ _
 ·obtain ⟨x',y',rfl,hxx,hyy⟩:=two rfl
  unfold lessT at hl
  split at hl
  case h_2=>cases hl
  rename_i k a k2 b
  cases hxx
  cases hyy
  dsimp only at hl
  rw [ltT_eq] at hl
  refine ⟨.int k (if b > a then b else a),rfl,?_⟩
  split at hl
  ·rename_i hc;injection hl with hl;subst hl;rw [if_pos (by simpa using hc)];exact .int _ _
  ·rename_i hc;injection hl with hl;subst hl;rw [if_neg (by simpa using hc)];exact .int _ _
 ·cases hl
end Go.Ex
namespace Go.Ex
variable {ε : Cx}
noncomputable section
variable (T : Tr Ty) (F : Tr Func) (c : CallF) (n : Nat)
def pureT (o : Op) (_ty : TypeId) (t : Tr Value) (h : CH) : Option Value:=match o with
 | .move x | .assign x=>evT n t x
 | .pick b x y=>match evT n t b with
  | some (.bool true)=>evT n t x
  | some (.bool false)=>evT n t y
  | _=>none
 | .load ty x=>match evT n t x with
  | some a=>loadT T ty a h
  | none=>none
 | .nilCheck x=>match evT n t x with
  | some (.pointer (some a))=>some (.pointer (some a))
  | _=>none
 | .binOp op xt x y _=>match evT n t x,evT n t y with
  | some a,some b=>binT T op xt x y a b
  | _,_=>none
 | .unOp op _ x=>match evT n t x with
  | some a=>unT op a
  | none=>none
 | .convert s d x=>match evT n t x with
  | some a=>convT T s d a
  | none=>none
 | .makeFunc fn f cs=>match Fn.flat fn with
  | true=>match evsT n t f.toList,evsT n t cs.toList with
   | some f,some cs=>some (.func fn ⟨f⟩ ⟨cs⟩)
   | _,_=>none
  | false=>none
 | .slice xt x lo hi mx=>match evT n t x,evoT n t lo,evoT n t hi,evoT n t mx with
  | some a,some lo,some hi,some mx=>sliceT T xt a lo hi mx
  | _,_,_,_=>none
 | .fieldAddr s x f=>match evT n t x with
  | some a=>fieldAddrT T s a f
  | none=>none
 | .field s x f=>match evT n t x with
  | some a=>fieldT T s a f
  | none=>none
 | .indexAddr s x i=>match evT n t x,evT n t i with
  | some a,some i=>indexAddrT T s a i
  | _,_=>none
 | .extract x i=>match evT n t x with
  | some (.tuple vs)=>vs[i]?
  | _=>none
 | .build t' ps=>match evpT n t ps.toList with
  | some ps=>buildT T t' ps
  | none=>none
 | .call cl=>match cl.callee with
  | .builtin b=>match evsT n t cl.args.toList with
   | some xs=>builtT T b cl.argTypes.toList xs
   | none=>none
  | _=>none
 | _=>none
def actT (o : Op) (t : Tr Value) (h : CH) : Option (Value × CH):=match o with
 | .alloc e=>match T.get e with
  | some y=>match y.zero with
   | some z=>match flatB 4 z with
    | true=>match newT e z.cells h with
     | some (i,h')=>some (.pointer (some ⟨i,0,none⟩),h')
     | none=>none
    | false=>none
   | none=>none
  | none=>none
 | .box e x=>match evT n t x with
  | some v=>match newT e v.cells h with
   | some (i,h')=>some (.pointer (some ⟨i,0,none⟩),h')
   | none=>none
  | none=>none
 | .buildSlice t' len ps=>match evpT n t ps.toList with
  | some ps=>buildSliceT T t' len ps h
  | none=>none
 | .store t' a x=>match evT n t a,evT n t x with
  | some a,some v=>match storeT T t' a v h with
   | some h'=>some (undef,h')
   | none=>none
  | _,_=>none
 | .makeSlice t' l k=>match evT n t l,evT n t k with
  | some l,some k=>makeSliceT T t' l k h
  | _,_=>none
 | .call cl=>match cl.callee with
  | .builtin .append=>match evsT n t cl.args.toList with
   | some [s,x]=>match cl.argTypes.toList with
    | [t1,t2]=>appendT T t1 t2 s x h
    | _=>none
   | _=>none
  | .value f=>match evT n t f with
   | some (.func (.func f) first captured)=>match F.get f with
    | some _=>match evsT n t cl.args.toList with
     | some args=>c f ⟨first.toList ++ args ++ captured.toList⟩ h
     | none=>none
    | none=>none
   | _=>none
  | _=>none
 | _=>none
end
theorem op_pure {P : Program} {T : Tr Ty} (hT : TabOK P T) {n : Nat} {o : Oper} {t : Tr Value} {h : CH} {v : Value} (hl : pureT T n o.op o.type t h=some v) {r : Ren} {a : Act} {w : World} (hF : RF ε r n t a) (hW : RW r h w) :
  ∃ v',(execOp a.eval o).run P w=.ok (.value v') w∧RV r v v':=by
 have val : ∀ {s : Sem Value},(∃ v',s.run P w=.ok v' w∧RV r v v')→∃ v',(do pure (.value (← s)) : Sem Next).run P w=.ok (.value v') w∧RV r v v':=fun {s} ⟨v',h1,h2⟩=>⟨v',run_val h1,h2⟩
 obtain ⟨dst,op,type,pos,after,guard⟩:=o
 dsimp only at hl
 unfold execOp
 cases op <;> simp only [pureT,reduceCtorEq] at hl <;> dsimp only
 case move x=>exact ⟨_,rfl,ev_ok hF hl⟩
 case assign x=>exact ⟨_,rfl,ev_ok hF hl⟩
 case pick b x y =>
  split at hl
  ·rename_i hb
   have hbv:=ev_ok hF hb
   generalize hg : a.eval b=bv at hbv
   cases hbv
   exact ⟨a.eval x,rfl,ev_ok hF hl⟩
  ·rename_i hb
   have hbv:=ev_ok hF hb
   generalize hg : a.eval b=bv at hbv
   cases hbv
   exact ⟨a.eval y,rfl,ev_ok hF hl⟩
  ·cases hl
 case load ty x =>
  split at hl
  ·rename_i hx;exact val (load_ok hT hW (ev_ok hF hx) hl)
  ·cases hl
 case nilCheck x =>
  split at hl
  ·rename_i p hx
   injection hl with hl
   subst hl
   have hv:=ev_ok hF hx
   generalize hg : a.eval x=bv at hv
   cases hv
   exact ⟨_,rfl,.ptr (by assumption)⟩
  ·cases hl
 case binOp op xt x y _ =>
  split at hl
  ·rename_i hx hy;exact val (bin_ok hT (ev_ok hF hx) (ev_ok hF hy) hl)
  ·cases hl
 case unOp op _ x =>
  split at hl
  ·rename_i hx;exact val (un_ok (ev_ok hF hx) hl)
  ·cases hl
 case convert s d x =>
  split at hl
  ·rename_i hx;exact val (conv_ok hT (ev_ok hF hx) hl)
  ·cases hl
 case makeFunc fn f cs =>
  split at hl
  ·rename_i hfl
   split at hl
   ·rename_i hf hc
    injection hl with hl
    subst hl
    obtain ⟨k1,k2⟩:=evs_ok hF hf
    obtain ⟨k3,k4⟩:=evs_ok hF hc
    exact ⟨_,rfl,.func hfl k1 k3 k2 k4⟩
   ·cases hl
  ·cases hl
 case slice xt x lo hi mx =>
  split at hl
  ·rename_i h1 h2 h3 h4;exact val (slice_ok hT (ev_ok hF h1) (evo_ok hF h2) (evo_ok hF h3) (evo_ok hF h4) hl)
  ·cases hl
 case fieldAddr s x f =>
  split at hl
  ·rename_i hx;exact val (fieldAddr_ok hT (ev_ok hF hx) hl)
  ·cases hl
 case field s x f =>
  split at hl
  ·rename_i hx;exact val (field_ok hT (ev_ok hF hx) hl)
  ·cases hl
 case indexAddr s x i =>
  split at hl
  ·rename_i hx hi;exact val (indexAddr_ok hT (ev_ok hF hx) (ev_ok hF hi) hl)
  ·cases hl
 case extract x i =>
  split at hl
  ·rename_i vs hx
   have hv:=ev_ok hF hx
   generalize hg : a.eval x=bv at hv
   cases hv with
   | @tuple _ ys k1 k2 =>
   have hlt:=(Array.getElem?_eq_some_iff.1 hl).1
   have hlt' : i < ys.size:=by rw [← k1];exact hlt
   refine ⟨ys[i],?_,k2 i v _ hl (Array.getElem?_eq_getElem hlt')⟩
   simp only [Sem.run_bind,Instr.extract,Array.getElem?_eq_getElem hlt',Sem.run_pure,Result.andThen]
  ·cases hl
 case build t' ps =>
  obtain ⟨ps⟩:=ps
  split at hl
  ·rename_i hp
   have:=build_ok (P:=P) (w:=w) hT (evp_ok hF hp) hl
   exact val (by simpa using this)
  ·cases hl
 case call cl =>
  split at hl
  ·rename_i b hb
   split at hl
   ·rename_i xs hx
    have:=built_ok (P:=P) (w:=w) (ty:=type) (cs:=cl.args.map fun | .const _=>true | _=>false) hT (evs_ok hF hx) hl
    unfold resolve
    rw [hb]
    exact this
   ·cases hl
  ·cases hl
theorem RVs.append {r : Ren} {xs ys us vs : Array Value} (h : RVs r xs ys) (k : RVs r us vs) : RVs r (xs ++ us) (ys ++ vs):=by
 obtain ⟨h1,h2⟩:=h
 obtain ⟨k1,k2⟩:=k
 refine ⟨by simp [h1,k1],fun i a b ha hb=>?_⟩
 rw [Array.getElem?_append] at ha hb
 by_cases hi : i < xs.size
 ·rw [if_pos hi] at ha
  rw [if_pos (by omega)] at hb
  exact h2 i a b ha hb
 ·rw [if_neg hi] at ha
  rw [if_neg (by omega),← h1] at hb
  exact k2 _ a b ha hb
theorem op_act {P : Program} {T : Tr Ty} (hT : TabOK P T) {F : Tr Func} (hFn : FnsOK P F) {c : CallF} (hC : CallOK P c) {n : Nat} {o : Oper} {t : Tr Value} {h h' : CH} {v : Value} (hl : actT T F c n o.op t h=some (v,h')) {r : Ren} {a : Act} {w : World} (hF : RF ε r n t a) (hW : RW r h w)
  (K : Act→World→Prop) (Q : Exit→Act→World→Prop) (hK : ∀ r' v' w',Nx r h w r' h' w'→RV r' v v'→K (a.put o.dst v') w') : o.wpIn (Fe ε.ro) 0 P a w K Q:=by
 obtain ⟨dst,op,type,pos,after,guard⟩:=o
 dsimp only at hl hK
 have val : ∀ {s : Sem Value},execOp a.eval ⟨dst,op,type,pos,after,guard⟩=(do pure (.value (← s)))→(∃ r' v' w',s.run P w=.ok v' w'∧Nx r h w r' h' w'∧RV r' v v')→Oper.wpIn (Fe ε.ro) 0 P ⟨dst,op,type,pos,after,guard⟩ a w K Q:=fun {s} e ⟨r',v',w',h1,h2,h3⟩ =>
  wp_val (by rw [e];exact run_val h1) (hK r' v' w' h2 h3)
 cases op <;> simp only [actT,reduceCtorEq] at hl
 case alloc e =>
  split at hl
  ·rename_i y hy
   have hY:=hT.at hy
   split at hl
   ·rename_i z hz
    split at hl
    ·rename_i hfl
     split at hl
     ·rename_i i h1 hnew
      injection hl with hl
      injection hl with e1 e2
      subst e1 e2
      obtain ⟨b,w',n1,n2⟩:=new_ok (P:=P) hW (flat_cells (r:=r) hfl) hnew 0
      refine val rfl ⟨_,.pointer (some ⟨b,0,none⟩),w',?_,n2,.ptr Ren.put_at⟩
      unfold Instr.alloc
      simp only [Sem.run_bind,hY.run_zero hz,Result.andThen,newVar,n1]
      rfl
     ·cases hl
    ·cases hl
   ·cases hl
  ·cases hl
 case box e x =>
  split at hl
  ·rename_i u hu
   split at hl
   ·rename_i i h1 hnew
    injection hl with hl
    injection hl with e1 e2
    subst e1 e2
    obtain ⟨b,w',n1,n2⟩:=new_ok (P:=P) hW (ev_ok hF hu).cells hnew 0
    refine val rfl ⟨_,.pointer (some ⟨b,0,none⟩),w',?_,n2,.ptr Ren.put_at⟩
    unfold Instr.box
    simp only [Sem.run_bind,Result.andThen,newVar,n1]
    rfl
   ·cases hl
  ·cases hl
 case buildSlice t' len ps =>
  obtain ⟨ps⟩:=ps
  split at hl
  ·rename_i vs hp
   have:=buildSlice_ok (P:=P) hT hW (evp_ok hF hp) hl
   exact val rfl (by simpa using this)
  ·cases hl
 case store t' x y =>
  split at hl
  ·rename_i h1 h2
   split at hl
   ·rename_i h3 hs
    injection hl with hl
    injection hl with e1 e2
    subst e1 e2
    obtain ⟨w',k1,k2⟩:=store_ok (P:=P) hT hW (ev_ok hF h1) (ev_ok hF h2) hs
    exact wp_skipped (run_skip k1) (hK r _ w' k2 undef_ok)
   ·cases hl
  ·cases hl
 case makeSlice t' l k =>
  split at hl
  ·rename_i h1 h2
   exact val rfl (makeSlice_ok (P:=P) hT hW (ev_ok hF h1) (ev_ok hF h2) hl)
  ·cases hl
 case call cl =>
  split at hl
  ·rename_i hb
   split at hl
   ·rename_i s x hx
    split at hl
    ·rename_i t1 t2 ht
     obtain ⟨k1,k2⟩:=evs_ok hF hx
     have hsz : (cl.args.map a.eval).size=2:=by rw [← Array.toArray_toList (xs:=cl.args),← k1];rfl
     have harr : cl.args.map a.eval=#[(cl.args.map a.eval)[0],(cl.args.map a.eval)[1]]:=by
      apply Array.ext
      ·simpa using hsz
      ·intro i h1 h2
       match i,h2 with
       | 0,_=>rfl
       | 1,_=>rfl
     have hts : cl.argTypes=#[t1,t2]:=by rw [← Array.toArray_toList (xs:=cl.argTypes),ht]
     have r0:=k2 0 s _ rfl (Array.getElem?_eq_getElem (by simp at hsz ⊢;omega))
     have r1:=k2 1 x _ rfl (Array.getElem?_eq_getElem (by simp at hsz ⊢;omega))
     have:=append_ok (P:=P) (ty:=type) hT hW r0 r1 hl
     refine val (s:=Builtin.append_ #[t1,t2] type #[(cl.args.map a.eval)[0],(cl.args.map a.eval)[1]]) ?_ (by simpa using this)
     rw [← harr,← hts]
     unfold execOp
     dsimp only
     unfold resolve
     rw [hb]
     rfl
    ·cases hl
   ·cases hl
  ·rename_i f hf
   split at hl
   ·rename_i fid first captured hfe
    split at hl
    ·rename_i fn hfn
     obtain ⟨q1,q2,q3⟩:=hFn fid fn hfn
     split at hl
     ·rename_i args hx
      have hv:=ev_ok hF hfe
      obtain ⟨k1,k2⟩:=evs_ok hF hx
      generalize hg : a.eval f=fv at hv
      cases hv with
      | @func _ _ _ f2 c2 hfl p1 p2 p3 p4 =>
      have hent : (execOp a.eval ⟨dst,.call cl,type,pos,after,guard⟩).run P w=.ok (.enter fid (f2 ++ cl.args.map a.eval ++ c2)) w:=by
       unfold execOp
       dsimp only
       unfold resolve
       rw [hf]
       dsimp only
       rw [hg]
       unfold Deferred.ofValue
       simp only [Sem.run_bind,Sem.run_pure,Result.andThen,invoke,callFunc,run_program,q1,q2,q3,Bool.false_eq_true,if_false]
      refine wp_enters hent ((hC fid _ h v h' hl r _ w ?_ hW).mono ?_)
      ·have:=(RVs.append (RVs.append ⟨p1,p3⟩ ⟨k1,k2⟩) ⟨p2,p4⟩ : RVs r (first ++ ⟨args⟩ ++ captured) _)
       have e : (⟨first.toList ++ args ++ captured.toList⟩ : Array Value)=first ++ ⟨args⟩ ++ captured:=by
        apply Array.ext'
        simp
       rw [e]
       exact this
      ·rintro e w' ⟨r',v',rfl,hN,hv'⟩
       exact ⟨v',rfl,hK r' v' w' hN hv'⟩
     ·cases hl
    ·cases hl
   ·cases hl
  ·cases hl
end Go.Ex
namespace Go.Ex
variable {ε : Cx}
noncomputable section
variable (T : Tr Ty)
def resOne (n : Nat) (t : Tr Value) (h : CH) (x : ResultVar) : Option Value:=match x with
 | .tmp i=>match Nat.blt i n with
  | true=>some ((t.get i).getD undef)
  | false=>none
 | .cell i ty=>match Nat.blt i n with
  | true=>loadT T ty ((t.get i).getD undef) h
  | false=>none
def resL (l : List ResultVar) (n : Nat) (t : Tr Value) (h : CH) : Option (List Value):=List.rec (motive:=fun _=>Option (List Value)) (some [])
 (fun x _ ih=>match ih with
  | some l=>match resOne T n t h x with
   | some v=>some (v :: l)
   | none=>none
  | none=>none) l
def resT (fn : Func) (n : Nat) (t : Tr Value) (h : CH) : Option Value:=match resL T fn.results.toList n t h with
 | some l=>match l with
  | [v]=>some v
  | l=>some (.tuple ⟨l⟩)
 | none=>none
end
def resSem (a : Act) : ResultVar→Sem Value
 | .tmp t=>pure (a.tmps.getD t undef)
 | .cell b t=>do loadVar t (← asAddr (a.tmps.getD b undef))
theorem loadA_ok {P : Program} {T : Tr Ty} (hT : TabOK P T) {ty : TypeId} {p q v : Value} {r : Ren} {h : CH} {w : World} (hW : RW r h w) (hrv : RV r p q) (hv : loadT T ty p h=some v) :
  ∃ u,(do loadVar ty (← asAddr q) : Sem Value).run P w=.ok u w∧RV r v u:=by
 obtain ⟨u,u1,u2⟩:=load_ok (P:=P) hT hW hrv hv
 refine ⟨u,?_,u2⟩
 unfold loadT at hv
 split at hv
 ·cases hrv;exact u1
 ·cases hv
theorem resOne_ok {P : Program} {T : Tr Ty} (hT : TabOK P T) {x : ResultVar} {n : Nat} {t : Tr Value} {h : CH} {v : Value} (hl : resOne T n t h x=some v) {r : Ren} {a : Act} {w : World} (hF : RF ε r n t a) (hW : RW r h w) :
  ∃ u,(resSem a x).run P w=.ok u w∧RV r v u:=by
 unfold resOne at hl
 split at hl
 ·rename_i i
  split at hl
  ·rename_i hb
   rw [Nat.blt_eq] at hb
   injection hl with hl
   subst hl
   exact ⟨a.tmps.getD i undef,rfl,hF.tmp hb⟩
  ·cases hl
 ·rename_i i ty
  split at hl
  ·rename_i hb
   rw [Nat.blt_eq] at hb
   exact loadA_ok hT hW (hF.tmp hb) hl
  ·cases hl
theorem resL_ok {P : Program} {T : Tr Ty} (hT : TabOK P T) {l : List ResultVar} {n : Nat} {t : Tr Value} {h : CH} {vs : List Value} (hl : resL T l n t h=some vs) {r : Ren} {a : Act} {w : World} (hF : RF ε r n t a) (hW : RW r h w) :
  ∃ us : List Value,(l.mapM (resSem a)).run P w=.ok us w∧RVs r ⟨vs⟩ ⟨us⟩:=by
 induction l generalizing vs with
 | nil=>injection hl with hl;subst hl;exact ⟨[],rfl,rfl,fun i x y hx=>by simp at hx⟩
 | cons x l ih =>
  have hl' : (match resL T l n t h with
   | some l=>match resOne T n t h x with
    | some v=>some (v :: l)
    | none=>none
   | none=>none)=some vs:=hl
  split at hl'
  case h_2=>cases hl'
  rename_i vs' hvs
  obtain ⟨us,k1,k2⟩:=ih hvs
  split at hl'
  case h_2=>cases hl'
  rename_i v hv
  obtain ⟨u,u1,u2⟩:=resOne_ok (P:=P) hT hv hF hW
  injection hl' with hl'
  subst hl'
  refine ⟨u :: us,?_,by have:=k2.1;simp at this ⊢;exact this,fun i p q hp hq=>?_⟩
  ·simp only [List.mapM_cons,Sem.run_bind,Sem.run_pure,Result.andThen,u1,k1]
  ·cases i with
   | zero=>simp at hp hq;subst hp hq;exact u2
   | succ i=>exact k2.2 i p q (by simpa using hp) (by simpa using hq)
theorem res_ok {P : Program} {T : Tr Ty} (hT : TabOK P T) (fn : Func) (n : Nat) (t : Tr Value) (h : CH) (v : Value) (hl : resT T fn n t h=some v) (r : Ren) (a : Act) (w : World) (hF : RF ε r n t a) (hW : RW r h w) :
  ∃ v',(results fn a.tmps).run P w=.ok v' w∧RV r v v':=by
 unfold resT at hl
 split at hl
 case h_2=>cases hl
 rename_i l hlr
 obtain ⟨us,k1,k2,k3⟩:=resL_ok (P:=P) hT hlr hF hW
 have hm : (fn.results.mapM (resSem a)).run P w=.ok us.toArray w:=by
  rw [Array.mapM_eq_mapM_toList,Sem.run_map,k1];rfl
 have hrs : results fn a.tmps=(do
  let vs ← fn.results.mapM (resSem a)
  pure (if h : vs.size=1 then vs[0] else .tuple vs)):=by
  unfold results
  congr 2
 have hrun : (results fn a.tmps).run P w=.ok (if h : us.toArray.size=1 then us.toArray[0] else .tuple us.toArray) w:=by
  rw [hrs,Sem.run_bind,hm];rfl
 split at hl
 ·rename_i u
  injection hl with hl
  subst hl
  rcases us with _ | ⟨u',_ | ⟨u2,us⟩⟩
  ·simp at k2
  ·exact ⟨u',hrun,k3 0 u u' rfl rfl⟩
  ·simp at k2
 ·rename_i hn
  injection hl with hl
  subst hl
  refine ⟨.tuple us.toArray,?_,.tuple k2 k3⟩
  rw [hrun,dif_neg]
  intro h1
  exact (List.length_eq_one_iff.1 (by simp at k2 h1;omega)).elim fun x hx=>hn x hx
end Go.Ex
namespace Go.Ex
def Agree (l : List Operand) (t t' : Tr Value) : Prop:=∀ s,Operand.tmp s ∈ l→t.get s=t'.get s
theorem Agree.mono {l m : List Operand} {t t' : Tr Value} (h : Agree m t t') (hs : ∀ x,x ∈ l→x ∈ m) : Agree l t t':=fun s hx=>h s (hs _ hx)
theorem ev_congr {n : Nat} {t t' : Tr Value} {x : Operand} {l : List Operand} (h : Agree l t t') (hx : x ∈ l) : evT n t x=evT n t' x:=by
 cases x with
 | tmp i=>simp only [evT];rw [h i hx]
 | const v=>rfl
 | global g=>rfl
 | func f=>rfl
theorem evs_congr {n : Nat} {t t' : Tr Value} {m l : List Operand} (h : Agree l t t') (hx : ∀ x,x ∈ m→x ∈ l) : evsT n t m=evsT n t' m:=by
 induction m with
 | nil=>rfl
 | cons x m ih =>
  show (match evT n t x with
   | some v=>match evsT n t m with
    | some l=>some (v :: l)
    | none=>none
   | none=>none)=(match evT n t' x with
   | some v=>match evsT n t' m with
    | some l=>some (v :: l)
    | none=>none
   | none=>none)
  rw [ev_congr h (hx x (by simp)),ih fun y hy=>hx y (by simp [hy])]
theorem evp_congr {n : Nat} {t t' : Tr Value} {m : List (Nat × Operand)} {l : List Operand} (h : Agree l t t') (hx : ∀ x,x ∈ m→x.2 ∈ l) : evpT n t m=evpT n t' m:=by
 induction m with
 | nil=>rfl
 | cons x m ih =>
  show (match evT n t x.2 with
   | some v=>match evpT n t m with
    | some l=>some ((x.1,v) :: l)
    | none=>none
   | none=>none)=(match evT n t' x.2 with
   | some v=>match evpT n t' m with
    | some l=>some ((x.1,v) :: l)
    | none=>none
   | none=>none)
  rw [ev_congr h (hx x (by simp)),ih fun y hy=>hx y (by simp [hy])]
theorem evo_congr {n : Nat} {t t' : Tr Value} {x : Option Operand} {l : List Operand} (h : Agree l t t') (hx : ∀ y,x=some y→y ∈ l) : evoT n t x=evoT n t' x:=by
 cases x with
 | none=>rfl
 | some x=>simp only [evoT];rw [ev_congr h (hx x rfl)]
theorem pure_congr {T : Tr Ty} {n : Nat} {o : Op} {ty : TypeId} {t t' : Tr Value} {h : CH} (ha : Agree o.operands.toList t t') : pureT T n o ty t h=pureT T n o ty t' h:=by
 cases o <;> simp only [pureT,Op.operands] at ha ⊢
 case move x=>rw [ev_congr ha (x:=x) (by simp)]
 case assign x=>rw [ev_congr ha (x:=x) (by simp)]
 case pick b x y=>rw [ev_congr ha (x:=b) (by simp),ev_congr ha (x:=x) (by simp),ev_congr ha (x:=y) (by simp)]
 case load ty x=>rw [ev_congr ha (x:=x) (by simp)]
 case nilCheck x=>rw [ev_congr ha (x:=x) (by simp)]
 case binOp op xt x y _=>rw [ev_congr ha (x:=x) (by simp),ev_congr ha (x:=y) (by simp)]
 case unOp op _ x=>rw [ev_congr ha (x:=x) (by simp)]
 case convert s d x=>rw [ev_congr ha (x:=x) (by simp)]
 case makeFunc fn f cs=>rw [evs_congr ha (m:=f.toList) (by intro x hx;simp at hx ⊢;exact .inl hx),evs_congr ha (m:=cs.toList) (by intro x hx;simp at hx ⊢;exact .inr hx)]
 case slice xt x lo hi mx =>
  rw [ev_congr ha (x:=x) (by simp),evo_congr ha (x:=lo) (by intro y hy;subst hy;simp),evo_congr ha (x:=hi) (by intro y hy;subst hy;simp),evo_congr ha (x:=mx) (by intro y hy;subst hy;simp)]
 case fieldAddr s x f=>rw [ev_congr ha (x:=x) (by simp)]
 case field s x f=>rw [ev_congr ha (x:=x) (by simp)]
 case indexAddr s x i=>rw [ev_congr ha (x:=x) (by simp),ev_congr ha (x:=i) (by simp)]
 case extract x i=>rw [ev_congr ha (x:=x) (by simp)]
 case build t' ps=>rw [evp_congr ha (m:=ps.toList) (by intro x hx;simp;exact ⟨x.1,by simpa using hx⟩)]
 case call cl=>rw [evs_congr ha (m:=cl.args.toList) (by intro x hx;simp [Call.operands] at hx ⊢;exact .inr hx)]
theorem act_congr {T : Tr Ty} {F : Tr Func} {c : CallF} {n : Nat} {o : Op} {t t' : Tr Value} {h : CH} (ha : Agree o.operands.toList t t') : actT T F c n o t h=actT T F c n o t' h:=by
 cases o <;> simp only [actT,Op.operands] at ha ⊢
 case box e x=>rw [ev_congr ha (x:=x) (by simp)]
 case buildSlice t' len ps=>rw [evp_congr ha (m:=ps.toList) (by intro x hx;simp;exact ⟨x.1,by simpa using hx⟩)]
 case store t' x y=>rw [ev_congr ha (x:=x) (by simp),ev_congr ha (x:=y) (by simp)]
 case makeSlice t' x y=>rw [ev_congr ha (x:=x) (by simp),ev_congr ha (x:=y) (by simp)]
 case call cl =>
  rw [evs_congr ha (m:=cl.args.toList) (by intro x hx;simp [Call.operands] at hx ⊢;exact .inr hx)]
  have hf : ∀ f,cl.callee=.value f→evT n t f=evT n t' f:=fun f hf=>ev_congr ha (x:=f) (by simp [Call.operands,hf])
  split
  ·rfl
  ·rename_i f hc
   rw [hf f hc]
  ·rfl
def looks : Op→Bool
 | .load _ _=>true
 | _=>false
end Go.Ex
namespace Go.Ex
variable {ε : Cx}
structure FrOK (ops : Array Oper) (t0 : Tr Value) (v : Nat→Value) (L : Array Bool) (t : Tr Value) : Prop where
 done : ∀ i o s,ops[i]?=some o→L.getD i true=true→o.dst=some s→t.get s=some (v i)
 rest : ∀ s,(∀ i o,ops[i]?=some o→L.getD i true=true→o.dst ≠ some s)→t.get s=t0.get s
def ClosedL (ops : Array Oper) (L : Array Bool) : Prop:=∀ i o,ops[i]?=some o→L.getD i true=true→∀ e ∈ o.after,Region.binds .any e=true→L.getD e.on false=true
theorem count_lt {p q : Nat→Bool} {l : List Nat} {i : Nat} (h : ∀ j,q j=true→p j=true) (hi : i ∈ l) (h1 : p i=true) (h2 : q i=false) : (l.filter q).length < (l.filter p).length:=by
 induction l with
 | nil=>cases hi
 | cons x l ih =>
  have hle : ∀ m : List Nat,(m.filter q).length≤(m.filter p).length:=fun m=>by
   induction m with
   | nil=>exact Nat.le_refl _
   | cons y m ihm =>
    simp only [List.filter_cons]
    by_cases hq : q y=true
    ·rw [if_pos hq,if_pos (h y hq)];simpa using ihm
    ·rw [if_neg hq]
     split
     ·simp only [List.length_cons];omega
     ·exact ihm
  simp only [List.filter_cons]
  rcases List.mem_cons.1 hi with rfl | hi
  ·rw [if_pos h1,if_neg (by simp [h2])]
   have:=hle l
   simp only [List.length_cons];omega
  ·have:=ih hi
   by_cases hq : q x=true
   ·rw [if_pos hq,if_pos (h x hq)];simpa using this
   ·rw [if_neg hq]
    split
    ·simp only [List.length_cons];omega
    ·exact this
def unlisted (L : Array Bool) (N : Nat) : Nat:=((List.range N).filter fun i=>!L.getD i true).length
theorem getD_set {L : Array Bool} {i j : Nat} {d : Bool} (hi : i < L.size) : (L.setIfInBounds i true).getD j d=if i=j then true else L.getD j d:=by
 simp only [Array.getD_eq_getD_getElem?,Array.getElem?_setIfInBounds]
 by_cases h : i=j
 ·subst h;rw [if_pos rfl,if_pos rfl,if_pos hi];rfl
 ·rw [if_neg h,if_neg h]
theorem RF.congr {r : Ren} {n : Nat} {t t' : Tr Value} {a : Act} (h : RF ε r n t a) (hg : ∀ s,t'.get s=t.get s) : RF ε r n t' a :=
 ⟨h.defers,h.size,fun i hi=>by rw [hg];exact h.slot i hi⟩
end Go.Ex
namespace Go.Ex
noncomputable section
def maskE (M : Tr Nat) (l : List Edge) : Nat:=List.rec (motive:=fun _=>Nat) 0 (fun e _ ih=>match Region.binds .any e with
 | true=>Nat.lor (Nat.lor (Nat.shiftLeft 1 e.on) ((M.get e.on).getD 0)) ih
 | false=>ih) l
end
theorem maskE_cons {M : Tr Nat} {e : Edge} {l : List Edge} : maskE M (e :: l)=(match Region.binds .any e with
 | true=>(1 <<< e.on ||| (M.get e.on).getD 0) ||| maskE M l
 | false=>maskE M l):=rfl
theorem maskE_mem {M : Tr Nat} {l : List Edge} {j : Nat} (h : (maskE M l).testBit j=true) : ∃ e ∈ l,Region.binds .any e=true∧(e.on=j∨((M.get e.on).getD 0).testBit j=true):=by
 induction l with
 | nil=>simp [maskE] at h
 | cons e l ih =>
  rw [maskE_cons] at h
  split at h
  ·rename_i hb
   rw [Nat.testBit_or,Nat.testBit_or,Bool.or_eq_true,Bool.or_eq_true] at h
   rcases h with (h | h) | h
   ·refine ⟨e,by simp,hb,.inl ?_⟩
    rw [Nat.one_shiftLeft,Nat.testBit_two_pow] at h
    simpa using h
   ·exact ⟨e,by simp,hb,.inr h⟩
   ·obtain ⟨e',h1,h2⟩:=ih h
    exact ⟨e',by simp [h1],h2⟩
  ·obtain ⟨e',h1,h2⟩:=ih h
   exact ⟨e',by simp [h1],h2⟩
def MaskOK (ops : Array Oper) (M : Tr Nat) : Prop:=∀ (i : Nat) (o : Oper),ops[i]?=some o→M.get i=some (maskE M o.after.toList)∧∀ e ∈ o.after,Region.binds .any e=true→e.on < i
theorem mask_before {ops : Array Oper} {M : Tr Nat} (hM : MaskOK ops M) {L : Array Bool} (hL : L.size=ops.size) (hC : ClosedL ops L) : ∀ (i : Nat) (o : Oper),ops[i]?=some o→(∀ e ∈ o.after,Region.binds .any e=true→L.getD e.on false=true) →
  ∀ j,((M.get i).getD 0).testBit j=true→L.getD j false=true:=by
 intro i
 induction i using Nat.strongRecOn with
 | _ i ih =>
  intro o ho haft j hj
  obtain ⟨h1,h2⟩:=hM i o ho
  rw [h1] at hj
  obtain ⟨e,he,hb,hor⟩:=maskE_mem hj
  have hea : e ∈ o.after:=by simpa using he
  have hon:=haft e hea hb
  rcases hor with rfl | hor
  ·exact hon
  ·have hlt:=h2 e hea hb
   have hio : i < ops.size:=(Array.getElem?_eq_some_iff.1 ho).1
   have hoe : ops[e.on]?=some ops[e.on]:=Array.getElem?_eq_getElem (by omega)
   refine ih e.on hlt _ hoe (fun e' he' hb'=>hC e.on _ hoe ?_ e' he' hb') j hor
   rw [Array.getD_eq_getD_getElem?,Array.getElem?_eq_getElem (by omega)] at hon ⊢
   exact hon
noncomputable section
def eqLs (f : Value→Value→Bool) : List Value→List Value→Bool
 | [],[]=>true
 | x :: xs,y :: ys=>f x y && eqLs f xs ys
 | _,_=>false
def eqV : Nat→Value→Value→Bool
 | 0,_,_=>false
 | k+1,a,b=>match a,b with
  | .bool x,.bool y=>x == y
  | .int j x,.int i y=>kindT j i && eqT x y
  | .pointer none,.pointer none=>true
  | .pointer (some ⟨i,o,none⟩),.pointer (some ⟨j,p,none⟩)=>Nat.beq i j && Nat.beq o p
  | .slice none l c,.slice none m d=>Nat.beq l m && Nat.beq c d
  | .slice (some ⟨i,o,none⟩) l c,.slice (some ⟨j,p,none⟩) m d=>Nat.beq i j && Nat.beq o p && Nat.beq l m && Nat.beq c d
  | .map none,.map none=>true
  | .map (some i),.map (some j)=>Nat.beq i j
  | .nilFunc,.nilFunc=>true
  | .nilIface,.nilIface=>true
  | .agg xs,.agg ys=>eqLs (eqV k) xs.toList ys.toList
  | _,_=>false
end
theorem eqLs_ok {f : Value→Value→Bool} (hf : ∀ a b,f a b=true→a=b) {xs ys : List Value} (h : eqLs f xs ys=true) : xs=ys:=by
 induction xs generalizing ys with
 | nil=>cases ys with
  | nil=>rfl
  | cons y ys=>simp [eqLs] at h
 | cons x xs ih=>cases ys with
  | nil=>simp [eqLs] at h
  | cons y ys =>
   simp only [eqLs,Bool.and_eq_true] at h
   rw [hf x y h.1,ih h.2]
theorem eqV_ok {k : Nat} {a b : Value} (h : eqV k a b=true) : a=b:=by
 induction k generalizing a b with
 | zero=>cases h
 | succ k ih =>
  unfold eqV at h
  split at h
  ·rw [eq_of_beq h]
  ·simp only [Bool.and_eq_true] at h
   obtain ⟨h1,h2⟩:=h
   rw [eqT_eq] at h2
   rw [kindBeq _ _ h1,eq_of_beq h2]
  ·rfl
  ·simp only [Bool.and_eq_true,Nat.beq_eq] at h
   obtain ⟨h1,h2⟩:=h
   subst h1 h2;rfl
  ·simp only [Bool.and_eq_true,Nat.beq_eq] at h
   obtain ⟨h1,h2⟩:=h
   subst h1 h2;rfl
  ·simp only [Bool.and_eq_true,Nat.beq_eq] at h
   obtain ⟨⟨⟨h1,h2⟩,h3⟩,h4⟩:=h
   subst h1 h2 h3 h4;rfl
  ·rfl
  ·rw [Nat.beq_eq] at h;subst h;rfl
  ·rfl
  ·rfl
  ·have:=eqLs_ok (fun a b=>ih) h
   rw [Array.toList_inj.1 this]
  ·cases h
end Go.Ex
namespace Go.Ex
def Reads (ops : Array Oper) (o : Oper) (s : Tmp) : Prop:=Operand.tmp s ∈ o.op.operands.toList∨∃ g b,o.guard=some (g,b)∧(ops[g]?).bind (·.dst)=some s
structure StatOK (ops : Array Oper) (n : Nat) (M : Tr Nat) (C : List Nat) : Prop where
 mask : MaskOK ops M
 uniq : ∀ (i j : Nat) (oi oj : Oper) (s : Tmp),ops[i]?=some oi→ops[j]?=some oj→oi.dst=some s→oj.dst=some s→i=j
 bound : ∀ (i : Nat) (o : Oper) (s : Tmp),ops[i]?=some o→o.dst=some s→s < n∧s < 100000
 reads : ∀ (i j : Nat) (oi oj : Oper) (s : Tmp),ops[i]?=some oi→ops[j]?=some oj→i ≠ j→oj.dst=some s→Reads ops oi s→((M.get i).getD 0).testBit j=true∨((M.get j).getD 0).testBit i=true
 chain : ∀ (p q i j : Nat),p < q→C[p]?=some i→C[q]?=some j→((M.get j).getD 0).testBit i=true
 range : ∀ (p i : Nat),C[p]?=some i→i < ops.size
def Allowed (M : Tr Nat) (C : List Nat) (i m : Nat) : Prop:=m≤C.length∧(∀ q j,C[q]?=some j→((M.get i).getD 0).testBit j=true→q < m)∧∀ q j,q < m→C[q]?=some j→((M.get j).getD 0).testBit i=false
def ChainAt (C : List Nat) (L : Array Bool) (m : Nat) : Prop:=m≤C.length∧∀ p i,C[p]?=some i→(L.getD i false=true ↔ p < m)
theorem mask_lt {ops : Array Oper} {M : Tr Nat} (hM : MaskOK ops M) : ∀ (i : Nat) (o : Oper),ops[i]?=some o→∀ j,((M.get i).getD 0).testBit j=true→j < i:=by
 intro i
 induction i using Nat.strongRecOn with
 | _ i ih =>
  intro o ho j hj
  obtain ⟨h1,h2⟩:=hM i o ho
  rw [h1] at hj
  obtain ⟨e,he,hb,hor⟩:=maskE_mem hj
  have hlt:=h2 e (by simpa using he) hb
  rcases hor with rfl | hor
  ·exact hlt
  ·have hio : i < ops.size:=(Array.getElem?_eq_some_iff.1 ho).1
   exact Nat.lt_trans (ih e.on hlt _ (Array.getElem?_eq_getElem (by omega)) j hor) hlt
theorem want_congr {n : Nat} {ops : Array Oper} {o : Oper} {t t' : Tr Value} (h : ∀ s,Reads ops o s→t.get s=t'.get s) : wantT n t ops o=wantT n t' ops o:=by
 unfold wantT
 cases hg : o.guard with
 | none=>rfl
 | some x =>
  obtain ⟨j,b⟩:=x
  dsimp only
  cases hd : (ops[j]?).bind (·.dst) with
  | none=>rfl
  | some d =>
   dsimp only
   rw [h d (.inr ⟨j,b,hg,hd⟩)]
end Go.Ex
namespace Go.Ex
noncomputable section
def slotsOf (ops : Array Oper) (o : Oper) : List Tmp :=
 (o.op.operands.toList.filterMap fun | .tmp t=>some t | _=>none) ++ (match o.guard with
  | some (g,_)=>match (ops[g]?).bind (·.dst) with
   | some s=>[s]
   | none=>[]
  | none=>[])
def bitT (M : Tr Nat) (i j : Nat) : Bool:=((M.get i).getD 0).testBit j
def statT (ops : Array Oper) (n : Nat) (M : Tr Nat) (C : List Nat) : Bool :=
 (ops.toList.zipIdx.all fun (o,i) =>
  (match M.get i with | some x=>Nat.beq x (maskE M o.after.toList) | none=>false) &&
  (o.after.toList.all fun e=>!Region.binds .any e || Nat.blt e.on i) &&
  (match o.dst with | some s=>Nat.blt s n && Nat.blt s 100000 | none=>true) &&
  (ops.toList.zipIdx.all fun (p,j)=>Nat.beq i j || (match p.dst with
   | some s=>(match o.dst with | some u=>!Nat.beq s u | none=>true) && ((slotsOf ops o).all fun u=>!Nat.beq u s || bitT M i j || bitT M j i)
   | none=>true))) &&
 (C.zipIdx.all fun (i,p)=>Nat.blt i ops.toList.length && (C.zipIdx.all fun (j,q)=>!Nat.blt p q || bitT M j i))
end
theorem slots_ok {ops : Array Oper} {o : Oper} {s : Tmp} (h : Reads ops o s) : s ∈ slotsOf ops o:=by
 unfold slotsOf
 rw [List.mem_append]
 rcases h with h | ⟨g,b,h1,h2⟩
 ·left
  rw [List.mem_filterMap]
  exact ⟨.tmp s,h,rfl⟩
 ·right
  rw [h1]
  dsimp only
  rw [h2]
  simp
theorem stat_ok {ops : Array Oper} {n : Nat} {M : Tr Nat} {C : List Nat} (h : statT ops n M C=true) : StatOK ops n M C:=by
 unfold statT at h
 rw [Bool.and_eq_true,List.all_eq_true,List.all_eq_true] at h
 obtain ⟨hA,hB⟩:=h
 have mem : ∀ {i : Nat} {o : Oper},ops[i]?=some o→(o,i) ∈ ops.toList.zipIdx:=fun {i o} ho=>by
  rw [List.mk_mem_zipIdx_iff_getElem?];simpa using ho
 have memC : ∀ {p i : Nat},C[p]?=some i→(i,p) ∈ C.zipIdx:=fun {p i} ho=>by
  rw [List.mk_mem_zipIdx_iff_getElem?];exact ho
 have one : ∀ {i : Nat} {o : Oper},ops[i]?=some o→(match M.get i with | some x=>Nat.beq x (maskE M o.after.toList) | none=>false)=true∧(o.after.toList.all fun e=>!Region.binds .any e || Nat.blt e.on i)=true∧(match o.dst with | some s=>Nat.blt s n && Nat.blt s 100000 | none=>true)=true ∧
   ∀ {j : Nat} {p : Oper},ops[j]?=some p→(Nat.beq i j || (match p.dst with
   | some s=>(match o.dst with | some u=>!Nat.beq s u | none=>true) && ((slotsOf ops o).all fun u=>!Nat.beq u s || bitT M i j || bitT M j i)
   | none=>true))=true:=fun {i o} ho=>by
  have:=hA _ (mem ho)
  simp only [Bool.and_eq_true] at this
  obtain ⟨⟨⟨h1,h2⟩,h3⟩,h4⟩:=this
  refine ⟨h1,h2,h3,fun {j p} hp=>?_⟩
  rw [List.all_eq_true] at h4
  exact h4 _ (mem hp)
 refine ⟨fun i o ho=>?_,fun i j oi oj s hi hj hdi hdj=>?_,fun i o s ho hd=>?_,fun i j oi oj s hi hj hij hd hr=>?_,fun p q i j hpq hp hq=>?_,fun p i hp=>?_⟩
 ·obtain ⟨h1,h2,_⟩:=one ho
  refine ⟨?_,fun e he hbd=>?_⟩
  ·split at h1
   ·rename_i x hx
    rw [hx]
    congr 1
    exact Nat.eq_of_beq_eq_true h1
   ·cases h1
  ·rw [List.all_eq_true] at h2
   have:=h2 e (by simpa using he)
   rw [hbd,Bool.not_true,Bool.false_or,Nat.blt_eq] at this
   exact this
 ·obtain ⟨_,_,_,h4⟩:=one hi
  have:=h4 hj
  rw [hdj] at this
  simp only [hdi,Bool.or_eq_true,Bool.and_eq_true] at this
  rcases this with h | ⟨h,_⟩
  ·exact Nat.eq_of_beq_eq_true h
  ·rw [show Nat.beq s s=true from Nat.beq_refl s] at h;cases h
 ·obtain ⟨_,_,h3,_⟩:=one ho
  rw [hd] at h3
  simp only [Bool.and_eq_true,Nat.blt_eq] at h3
  exact h3
 ·obtain ⟨_,_,_,h4⟩:=one hi
  have:=h4 hj
  rw [hd] at this
  simp only [Bool.or_eq_true,Bool.and_eq_true] at this
  rcases this with h | ⟨_,h⟩
  ·exact absurd (Nat.eq_of_beq_eq_true h) hij
  ·rw [List.all_eq_true] at h
   have:=h s (slots_ok hr)
   rw [show Nat.beq s s=true from Nat.beq_refl s] at this
   simpa [bitT] using this
 ·have:=hB _ (memC hp)
  simp only [Bool.and_eq_true] at this
  have h2:=List.all_eq_true.1 this.2 _ (memC hq)
  simp only [Bool.or_eq_true,Bool.not_eq_true'] at h2
  rcases h2 with h2 | h2
  ·rw [← Bool.not_eq_true,Nat.blt_eq] at h2;exact absurd hpq h2
  ·exact h2
 ·have:=hB _ (memC hp)
  simp only [Bool.and_eq_true,Nat.blt_eq] at this
  simpa using this.1
end Go.Ex
namespace Go.Ex
end Go.Ex
