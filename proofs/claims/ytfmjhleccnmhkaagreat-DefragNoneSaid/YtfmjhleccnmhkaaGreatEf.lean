/- A verified executor: part 7. -/
import Derived.Test.YtfmjhleccnmhkaaGreatEe
namespace Go.Ex
def encL (ds : List Nat) : Nat := match ds with
 | [] => 0
 | d :: r => (d + 1) + 2 ^ 42 * encL r
def enc (q : Nat) (ds : List Nat) : Nat := q + 2 ^ 41 * encL ds
theorem dig_enc (ds : List Nat) (hd : ∀ d ∈ ds, d + 1 < 2 ^ 42) (f : Nat) (hf : ds.length ≤ f) : digL f (encL ds) = ds := by
 induction ds generalizing f with
 | nil => cases f <;> rfl
 | cons d r ih =>
  cases f with
  | zero => simp at hf
  | succ f =>
   have h1 := hd d (List.mem_cons_self ..)
   have e1 : ((d + 1) + 2 ^ 42 * encL r) % 2 ^ 42 = d + 1 := by omega
   have e2 : ((d + 1) + 2 ^ 42 * encL r) / 2 ^ 42 = encL r := by omega
   unfold digL encL
   rw [if_neg (by omega), e1, e2, ih (fun d hd' => hd d (List.mem_cons_of_mem _ hd')) f (by simpa using hf)]
   rfl
theorem enc_ent {q : Nat} {ds : List Nat} (hq : q < 2 ^ 41) (hd : ∀ d ∈ ds, d + 1 < 2 ^ 42) (hf : ds.length ≤ 400) : qEnt (enc q ds) = ds := by
 unfold qEnt enc
 rw [show (q + 2 ^ 41 * encL ds) / 2 ^ 41 = encL ds from by omega]
 exact dig_enc ds hd 400 hf
theorem enc_row {q : Nat} {ds : List Nat} (hq : q < 2 ^ 41) : qRow (enc q ds) = q := by
 unfold qRow enc
 omega
theorem dig_lt (f z : Nat) : ∀ d ∈ digL f z, d + 1 < 2 ^ 42 := by
 induction f generalizing z with
 | zero => intro d hd; cases hd
 | succ f ih =>
  intro d hd
  unfold digL at hd
  split at hd
  ·cases hd
  ·rcases List.mem_cons.1 hd with h | h
   ·have := Nat.mod_lt z (show 0 < 2 ^ 42 by decide)
    omega
   ·exact ih _ d h
theorem dig_len (f z : Nat) : (digL f z).length ≤ f := by
 induction f generalizing z with
 | zero => exact Nat.le_refl _
 | succ f ih =>
  unfold digL
  split
  ·simp
  ·simp only [List.length_cons]
   have := ih (z / 2 ^ 42)
   omega
theorem ent_lt (z : Nat) : ∀ d ∈ qEnt z, d + 1 < 2 ^ 42 := dig_lt _ _
theorem ent_len (z : Nat) : (qEnt z).length ≤ 400 := dig_len _ _
theorem row_lt (z : Nat) : qRow z < 2 ^ 41 := Nat.mod_lt _ (by decide)
theorem QOK.change {r r' : Ren} {h h' : CH} {w w' : World} (q : QOK r h w) (ic : Nat) (hle : r.le r')
  (hoth : ∀ i z, i ≠ ic → h'.hc i = some (5, hid + 1 + z) → h.hc i = some (5, hid + 1 + z)) (hstay : ∀ i z, i ≠ ic → h.hc i = some (5, hid + 1 + z) → ∀ j s, qIn z j → h.hc j = some (s, hid) → h'.hc j = some (s, hid))
  (hnew : ∀ z, h'.hc ic = some (5, hid + 1 + z) → QIs r' h' w' ic z) (hd : ∀ i z, i ≠ ic → h.hc i = some (5, hid + 1 + z) → ∀ j s x b c, (j = i ∨ qIn z j) → h.hc j = some (s, x) → r j = some (b, c) → TailEq w w' b s)
  (hap : ∀ z' j, h'.hc ic = some (5, hid + 1 + z') → qIn z' j → (∃ z, h.hc ic = some (5, hid + 1 + z) ∧ qIn z j) ∨ h.hc j = Option.none) : QOK r' h' w' := by
 have mix : ∀ {i z z' j}, i ≠ ic → h'.hc i = some (5, hid + 1 + z) → h'.hc ic = some (5, hid + 1 + z') → qIn z j → qIn z' j → False := fun {i z z' j} hne hi hic hj hj' => by
  have h1 := hoth i z hne hi
  rcases hap z' j hic hj' with ⟨z0, h2, h3⟩ | h2
  ·exact hne (q.two i z ic z0 j h1 h2 hj h3)
  ·obtain ⟨s, h3⟩ := (q.is i z h1).in hj
   rw [h2] at h3
   cases h3
 refine ⟨fun i z hi => ?_, fun i z i' z' j hi hi' hj hj' => ?_⟩
 ·by_cases hic : i = ic
  ·subst hic; exact hnew z hi
  ·have h1 := hoth i z hic hi
   have qq := q.is i z h1
   obtain ⟨g1, g2, g3, L, g4⟩ := qq
   exact ⟨fun d hdm => hstay i z hic h1 _ _ (.inl ⟨d, hdm, rfl⟩) (g1 d hdm), g2, fun iq hq => hstay i z hic h1 _ _ (.inr hq) (g3 iq hq), L, g4.next hle h1 g1 g3 (hd i z hic h1)⟩
 ·by_cases h1 : i = ic
  ·by_cases h2 : i' = ic
   ·rw [h1, h2]
   ·subst h1; exact (mix h2 hi' hi hj' hj).elim
  ·by_cases h2 : i' = ic
   ·subst h2; exact (mix h1 hi hi' hj hj').elim
   ·exact q.two i z i' z' j (hoth i z h1 hi) (hoth i' z' h2 hi') hj hj'
theorem code_hid {size : Nat} {pat : Array Value} {cs : Tr Value} {e : TypeId} {z : Nat} (hz : hid ≤ z) : (CObj.row size pat cs e (some z)).code = some (size, z) := if_pos hz
theorem qEnt_zero : qEnt 0 = [] := rfl
theorem RW.hideC {r : Ren} {h : CH} {w : World} (hw : RW r h w) {i : Nat} {pat : Array Value} {cs : Tr Value} {e : TypeId} (hi : h.t.get i = some (.row 6 pat cs e none)) (hi9 : i < 2 ^ 39) (h5 : CObj.at pat cs 5 = some (.slice none 0 0)) :
  Nx r h w r ⟨h.t.set i (.row 5 pat cs e (some (hid + 1 + 0))), h.n⟩ w := by
 have hg : ∀ j, (h.t.set i (.row 5 pat cs e (some (hid + 1 + 0)))).get j = if i = j then some (.row 5 pat cs e (some (hid + 1 + 0))) else h.t.get j := fun j => Tr.get_set hi9
 have hci : h.hc i = none := CH.hc_at hi
 have hcn : (⟨h.t.set i (.row 5 pat cs e (some (hid + 1 + 0))), h.n⟩ : CH).hc i = some (5, hid + 1 + 0) := by
  rw [CH.hc_at (o := .row 5 pat cs e (some (hid + 1 + 0))) (by dsimp only; rw [hg, if_pos rfl])]
  exact code_hid (by omega)
 have hco : ∀ j, i ≠ j → (⟨h.t.set i (.row 5 pat cs e (some (hid + 1 + 0))), h.n⟩ : CH).hc j = h.hc j := fun j hj => CH.hc_eq (by dsimp only; rw [hg, if_neg hj])
 have old : ∀ {j : Nat} {o : CObj}, (h.t.set i (.row 5 pat cs e (some (hid + 1 + 0)))).get j = some o → ∃ o', h.t.get j = some o' := fun {j o} hj => by
  rw [hg] at hj
  by_cases hij : i = j
  ·subst hij; exact ⟨_, hi⟩
  ·rw [if_neg hij] at hj; exact ⟨_, hj⟩
 obtain ⟨b, c, x, k1, k2, arr, fz, hz, rfl, k3, k4, k5⟩ := hw.obj i _ hi
 refine ⟨r.le_refl, ⟨fun j o hj => ?_, fun j k o p b1 c1 d1 hj hk => ?_, hw.top, hw.low, hw.pin, hw.que.change i r.le_refl (fun j z hne hj => by rw [hco j (Ne.symm hne)] at hj; exact hj) (fun j z hne hj k s hk hs => ?_) (fun z hz => ?_) (fun _ _ _ _ _ _ _ _ _ _ _ _ => .of rfl) (fun z' j hz' hj => ?_)⟩, Nat.le_refl _, rfl, rfl, rfl, fun _ _ _ => rfl, fun j o b1 c1 hj hr1 => ?_, Nat.le_refl _, fun _ _ hx => .inl hx⟩
 ·dsimp only at hj
  rw [hg] at hj
  by_cases hij : i = j
  ·rw [if_pos hij] at hj
   injection hj with hj
   subst hj hij
   exact ⟨b, c, _, k1, k2, arr, fz, hz, rfl, by omega, .inr (by omega), fun k hk => k5 k (by omega)⟩
  ·rw [if_neg hij] at hj; exact hw.obj j o hj
 ·obtain ⟨o1, h1⟩ := old hj
  obtain ⟨p1, h2⟩ := old hk
  exact hw.one j k o1 p1 b1 c1 d1 h1 h2
 ·rw [hco k (by rintro rfl; rw [hci] at hs; cases hs)]; exact hs
 ·rw [hcn] at hz
  injection hz with hz
  injection hz with _ hz
  have : z = 0 := by omega
  subst this
  obtain ⟨a, v, m1, m2, m3⟩ := k5 5 (by omega)
  rw [h5] at m1
  injection m1 with m1
  subst m1
  cases m3
  have k4 : arr.size = 6 := k4
  exact ⟨fun d hd => (by rw [qEnt_zero] at hd; cases hd), (by rw [qEnt_zero]; exact List.nodup_nil), fun iq hq => (by cases hq), [], ⟨(by rw [qEnt_zero]; exact .refl _), ⟨b, c, arr, e, fz, k1, k2, k4, .inl ⟨rfl, rfl, m2⟩⟩, fun d hd => (by rw [qEnt_zero] at hd; cases hd)⟩⟩
 ·rw [hcn] at hz'
  injection hz' with hz'
  injection hz' with _ hz'
  have : z' = 0 := by omega
  subst this
  rcases hj with ⟨d, hd, _⟩ | hj
  ·rw [qEnt_zero] at hd; cases hd
  ·cases hj
 ·obtain ⟨o1, h1⟩ := old hj
  exact .inr ⟨j, o1, c1, h1, hr1⟩
end Go.Ex
namespace Go.Ex
variable {P : Program} {T : Tr Ty} {F : Tr Func} {ρ : Env} {n : Nat}
def insA {α : Type} (x : α) : List α → List (List α)
 | [] => [[x]]
 | y :: r => (x :: y :: r) :: (insA x r).map (y :: ·)
def prm {α : Type} : List α → List (List α)
 | [] => [[]]
 | x :: r => (prm r).flatMap (insA x)
theorem mem_insA {α : Type} {x : α} (a b : List α) : a ++ x :: b ∈ insA x (a ++ b) := by
 induction a with
 | nil => cases b <;> simp [insA]
 | cons y r ih => simp [insA]; exact .inr ih
theorem mem_prm {α : Type} {l l' : List α} (h : l'.Perm l) : l' ∈ prm l := by
 induction l generalizing l' with
 | nil => rw [h.eq_nil]; exact List.mem_cons_self ..
 | cons x r ih =>
  have hx : x ∈ l' := h.mem_iff.2 (List.mem_cons_self ..)
  obtain ⟨a, b, rfl⟩ := List.append_of_mem hx
  have h2 : (a ++ b).Perm r := (List.perm_middle.symm.trans h).cons_inv
  exact List.mem_flatMap.2 ⟨a ++ b, ih h2, mem_insA a b⟩
theorem insA_map {α β : Type} (f : α → β) (x : α) (l : List α) : insA (f x) (l.map f) = (insA x l).map (List.map f) := by
 induction l with
 | nil => rfl
 | cons y r ih =>
  show (f x :: f y :: r.map f) :: (insA (f x) (r.map f)).map (f y :: ·) = _
  rw [ih]
  simp [insA, Function.comp_def]
theorem prm_map {α β : Type} (f : α → β) (l : List α) : prm (l.map f) = (prm l).map (List.map f) := by
 induction l with
 | nil => rfl
 | cons x r ih =>
  show (prm (r.map f)).flatMap (insA (f x)) = _
  rw [ih]
  show _ = ((prm r).flatMap (insA x)).map (List.map f)
  rw [List.map_flatMap, List.flatMap_map]
  congr 1
  funext a
  exact insA_map f x a
theorem insA_perm {α : Type} {x : α} {l p : List α} (h : p ∈ insA x l) : p.Perm (x :: l) := by
 induction l generalizing p with
 | nil => simp [insA] at h; subst h; exact .refl _
 | cons y r ih =>
  simp [insA] at h
  rcases h with rfl | ⟨q, hq, rfl⟩
  ·exact .refl _
  ·exact ((ih hq).cons y).trans (List.Perm.swap ..)
theorem prm_perm {α : Type} {l p : List α} (h : p ∈ prm l) : p.Perm l := by
 induction l generalizing p with
 | nil => simp [prm] at h; subst h; exact .refl _
 | cons x r ih =>
  obtain ⟨q, hq, hp⟩ := List.mem_flatMap.1 h
  exact (insA_perm hp).trans ((ih hq).cons x)
noncomputable section
def ML.pays (es : ML) : List (V × V) := ML.rec (motive := fun _ => List (V × V)) [] (fun k v _ _ ih => (k, v) :: ih) es
def ML.bns (es : ML) : List Nat := ML.rec (motive := fun _ => List Nat) [] (fun _ _ b _ ih => b :: ih) es
def zipM : List (V × V) → List Nat → ML
 | (k, v) :: r, b :: s => .cons k v b (zipM r s)
 | _, _ => .nil
def leK (a b : V × V) : Bool := match a.1, b.1 with
 | .int _ n, .int _ m => Nat.ble n m
 | _, _ => true
def insS (x : V × V) : List (V × V) → List (V × V)
 | [] => [x]
 | y :: r => match leK x y with
  | true => x :: y :: r
  | false => y :: insS x r
def srt : List (V × V) → List (V × V)
 | [] => []
 | x :: r => insS x (srt r)
end
theorem insS_perm (x : V × V) (l : List (V × V)) : (insS x l).Perm (x :: l) := by
 induction l with
 | nil => exact .refl _
 | cons y r ih =>
  unfold insS
  split
  ·exact .refl _
  ·exact (ih.cons y).trans (List.Perm.swap ..)
theorem srt_perm (l : List (V × V)) : (srt l).Perm l := by
 induction l with
 | nil => exact .refl _
 | cons x r ih => exact (insS_perm x _).trans (ih.cons x)
noncomputable def vv2 (ρ : Env) (p : V × V) : Value × Value := (p.1.val ρ, p.2.val ρ)
theorem pays_ents (es : ML) : (ML.ents ρ es).map CEnt.pay = (ML.pays es).map (vv2 ρ) := by
 induction es with
 | nil => rfl
 | cons k v b r ih => exact congrArg (fun l => vv2 ρ (k, v) :: l) ih
theorem bns_ents (es : ML) : (ML.ents ρ es).map CEnt.born = ML.bns es := by
 induction es with
 | nil => rfl
 | cons k v b r ih => exact congrArg (fun l => b :: l) ih
theorem len_pays (es : ML) : (ML.pays es).length = (ML.bns es).length := by
 induction es with
 | nil => rfl
 | cons k v b r ih => exact congrArg (· + 1) ih
theorem zip_pays {p : List (V × V)} {B : List Nat} (h : p.length = B.length) : ML.pays (zipM p B) = p ∧ ML.bns (zipM p B) = B := by
 induction p generalizing B with
 | nil => cases B with
  | nil => exact ⟨rfl, rfl⟩
  | cons _ _ => cases h
 | cons x r ih => cases B with
  | nil => cases h
  | cons b s =>
   obtain ⟨k, v⟩ := x
   obtain ⟨h1, h2⟩ := ih (by simpa using h)
   exact ⟨congrArg (fun l => (k, v) :: l) h1, congrArg (fun l => b :: l) h2⟩
theorem cent_ext {a b : List CEnt} (h1 : a.map CEnt.born = b.map CEnt.born) (h2 : a.map CEnt.pay = b.map CEnt.pay) : a = b := by
 induction a generalizing b with
 | nil => cases b with
  | nil => rfl
  | cons _ _ => cases h1
 | cons x r ih => cases b with
  | nil => cases h1
  | cons y s =>
   simp only [List.map_cons, List.cons.injEq] at h1 h2
   rw [ih h1.2 h2.2]
   obtain ⟨k, v, b⟩ := x
   obtain ⟨k', v', b'⟩ := y
   have e1 : b = b' := h1.1
   have e2 : (k, v) = (k', v') := h2.1
   injection e2 with e2 e3
   subst e1 e2 e3
   rfl
theorem Mix.open {es0 : List CEnt} {es : ML} (h : Mix es0 (ML.ents ρ es)) : ∃ p ∈ prm (ML.pays es), es0 = ML.ents ρ (zipM p (ML.bns es)) := by
 have h1 := mem_prm h.pay
 rw [pays_ents, prm_map] at h1
 obtain ⟨p, hp, he⟩ := List.mem_map.1 h1
 refine ⟨p, hp, ?_⟩
 obtain ⟨k1, k2⟩ := zip_pays (B := ML.bns es) ((prm_perm hp).length_eq.trans (len_pays es))
 refine cent_ext ?_ ?_
 ·rw [h.born, bns_ents, bns_ents, k2]
 ·rw [pays_ents, k1, he]
theorem Mix.shut {es : ML} {p : List (V × V)} (hp : p.Perm (ML.pays es)) : Mix (ML.ents ρ es) (ML.ents ρ (zipM p (ML.bns es))) := by
 obtain ⟨k1, k2⟩ := zip_pays (B := ML.bns es) (hp.length_eq.trans (len_pays es))
 refine ⟨?_, ?_⟩
 ·rw [bns_ents, bns_ents, k2]
 ·rw [pays_ents, pays_ents, k1]
  exact (hp.map _).symm
theorem RW.forget {r : Ren} {h : CH} {w : World} (hW : RW r h w) {i : Nat} {o o' : CObj} (hi : h.t.get i = some o) (hi9 : i < 2 ^ 39) (hp1 : o.plain) (hp2 : o'.plain) {b c : Nat} {x : Obj} (k1 : r i = some (b, c)) (k2 : w.heap[b]? = some x) (ho : RO r c o' x) : Nx r h w r ⟨h.t.set i o', h.n⟩ w := by
 have := hW.setO (x' := x) hi k1 hi9 hp1 hp2 ho
 have hs : w.heap.setIfInBounds b x = w.heap := by
  apply Array.ext_getElem?
  intro k
  rw [Array.getElem?_setIfInBounds]
  by_cases hk : b = k
  ·subst hk
   rw [if_pos rfl, if_pos (Array.getElem?_eq_some_iff.1 k2).1, k2]
  ·rw [if_neg hk]
 rw [hs] at this
 exact this
theorem RO.shut {r : Ren} {c : Nat} {es es' : List CEnt} {clock : Nat} {x : Obj} (h : RO r c (.map es clock) x) (hc : clock < hid) (hm : Mix es es') : RO r c (.map es' (clock + hid)) x := by
 obtain ⟨es0, arr, h0, h1, h2⟩ := h
 rw [if_neg (by omega)] at h0
 subst h0
 exact ⟨es0, arr, by rw [if_pos (by omega)]; exact hm, by rw [h1, Nat.add_mod_right], h2⟩
theorem RO.opened {r : Ren} {c : Nat} {es : List CEnt} {clock : Nat} {x : Obj} (h : RO r c (.map es clock) x) (hc : hid ≤ clock) : ∃ es0, Mix es0 es ∧ RO r c (.map es0 (clock % hid)) x := by
 obtain ⟨es0, arr, h0, h1, h2⟩ := h
 rw [if_pos hc] at h0
 have hlt : clock % hid < hid := Nat.mod_lt _ (by decide)
 exact ⟨es0, h0, es0, arr, by rw [if_neg (by omega)], by rw [h1, Nat.mod_mod], h2⟩
noncomputable section
def closeAt (i : Id) : Clo := ⟨fun t k => match HT.at t i with
 | .map es c => match Nat.blt c hid with
  | true => match es with
   | .cons k1 v1 b1 (.cons k2 v2 b2 r) => HT.putK t i (.map (zipM (srt (ML.pays (.cons k1 v1 b1 (.cons k2 v2 b2 r)))) (ML.bns (.cons k1 v1 b1 (.cons k2 v2 b2 r)))) (Nat.add c hid)) k
   | _ => k t
  | false => k t
 | _ => k t⟩
def closeC (a : Nat) (i : Id) : Clo := ⟨fun t k => match O.get (HT.at t i) a with
 | .map j => (closeAt j).f t k
 | _ => k t⟩
def Clo.seq (a b : Clo) : Clo := ⟨fun t k => a.f t fun t => b.f t k⟩
def openAt (i : Id) (t : HT) (k : HT → Bool) : Bool := match HT.at t i with
 | .map es c => match Nat.blt c hid with
  | true => k t
  | false => (prm (ML.pays es)).all fun p => HT.putK t i (.map (zipM p (ML.bns es)) (Nat.mod c hid)) k
 | _ => k t
def openL : List Id → HT → (HT → Bool) → Bool
 | [], t, k => k t
 | i :: r, t, k => openAt i t fun t => openL r t k
def looseB (s : List Id) (t : HT) : Bool := s.any fun i => match HT.at t i with
 | .map _ c => Nat.ble hid c
 | _ => false
end
theorem closeAt_ok (i : Id) : CloOK (closeAt i) := fun t k h => by
 unfold closeAt at h
 dsimp only at h
 split at h
 case h_2 => exact ⟨t, h, fun _ _ hh hr => ⟨hh, hr, fun _ _ hW => Nx.refl hW⟩⟩
 rename_i es c hes
 split at h
 case h_2 => exact ⟨t, h, fun _ _ hh hr => ⟨hh, hr, fun _ _ hW => Nx.refl hW⟩⟩
 rename_i hc
 have hc : c < hid := by rw [← Nat.blt_eq]; exact hc
 split at h
 case h_2 => exact ⟨t, h, fun _ _ hh hr => ⟨hh, hr, fun _ _ hW => Nx.refl hW⟩⟩
 rename_i k1 v1 b1 k2 v2 b2 r
 rw [HT.putK_eq] at h
 generalize hE : (ML.cons k1 v1 b1 (.cons k2 v2 b2 r)) = E at *
 refine ⟨_, h, fun ρ m hh hr => ⟨_, hr.putX (i := i) (o := .map (zipM (srt (ML.pays E)) (ML.bns E)) (Nat.add c hid)) (.inr rfl), fun r w hW => ?_⟩⟩
 have hg : hh.t.get i.nat = some (.map (ML.ents ρ E) c) := hr.other i _ (by rw [hes]; rfl)
 obtain ⟨b, d, x, q1, q2, q3⟩ := hW.obj _ _ hg
 exact hW.forget hg (Nat.lt_trans i.nat_lt (by decide)) rfl rfl q1 q2 (q3.shut hc (Mix.shut (srt_perm _)))
theorem Clo.seq_ok {a b : Clo} (ha : CloOK a) (hb : CloOK b) : CloOK (a.seq b) := fun t k h => by
 obtain ⟨t1, h1, c1⟩ := ha t _ h
 obtain ⟨t2, h2, c2⟩ := hb t1 _ h1
 refine ⟨t2, h2, fun ρ m hh hr => ?_⟩
 obtain ⟨h', q1, q2⟩ := c1 ρ m hh hr
 obtain ⟨h'', q3, q4⟩ := c2 ρ m h' q1
 exact ⟨h'', q3, fun r w hW => (q2 r w hW).trans (q4 r w (q2 r w hW).rw)⟩
theorem closeC_ok (a : Nat) (i : Id) : CloOK (closeC a i) := fun t k h => by
 unfold closeC at h
 dsimp only at h
 split at h
 ·exact closeAt_ok _ t k h
 ·exact ⟨t, h, fun _ _ hh hr => ⟨hh, hr, fun _ _ hW => Nx.refl hW⟩⟩
theorem openAt_ok {i : Id} {t : HT} {k : HT → Bool} (h : openAt i t k = true) {m : Id} {hh : CH} (hr : HR ρ ⟨t, m⟩ hh) {r : Ren} {w : World} (hW : RW r hh w) : ∃ t' h', k t' = true ∧ HR ρ ⟨t', m⟩ h' ∧ Nx r hh w r h' w := by
 unfold openAt at h
 split at h
 case h_2 => exact ⟨t, hh, h, hr, Nx.refl hW⟩
 rename_i es c hes
 split at h
 ·exact ⟨t, hh, h, hr, Nx.refl hW⟩
 rename_i hc
 have hc : hid ≤ c := by
  have : ¬ c < hid := fun e => by rw [← Nat.blt_eq, hc] at e; cases e
  omega
 have hg : hh.t.get i.nat = some (.map (ML.ents ρ es) c) := hr.other i _ (by rw [hes]; rfl)
 obtain ⟨b, d, x, q1, q2, q3⟩ := hW.obj _ _ hg
 obtain ⟨es0, q4, q5⟩ := q3.opened hc
 obtain ⟨p, hp, rfl⟩ := q4.open
 have h := List.all_eq_true.1 h p hp
 rw [HT.putK_eq] at h
 exact ⟨_, _, h, hr.putX (i := i) (o := .map (zipM p (ML.bns es)) (Nat.mod c hid)) (.inr rfl), hW.forget hg (Nat.lt_trans i.nat_lt (by decide)) rfl rfl q1 q2 q5⟩
theorem openL_ok {s : List Id} {t : HT} {k : HT → Bool} (h : openL s t k = true) {m : Id} {hh : CH} (hr : HR ρ ⟨t, m⟩ hh) {r : Ren} {w : World} (hW : RW r hh w) : ∃ t' h', k t' = true ∧ HR ρ ⟨t', m⟩ h' ∧ Nx r hh w r h' w := by
 induction s generalizing t hh with
 | nil => exact ⟨t, hh, h, hr, Nx.refl hW⟩
 | cons i s ih =>
  obtain ⟨t1, h1, q1, q2, q3⟩ := openAt_ok h hr hW
  obtain ⟨t2, h2, q4, q5, q6⟩ := ih q1 q2 q3.rw
  exact ⟨t2, h2, q4, q5, q3.trans q6⟩
noncomputable section
def open1At (i : Id) (t : HT) (k : HT → Bool) : Bool := match HT.at t i with
 | .map es c => match Nat.blt c hid with
  | true => k t
  | false => HT.putK t i (.map es (Nat.mod c hid)) k
 | _ => k t
def open1 : List Id → HT → (HT → Bool) → Bool
 | [], t, k => k t
 | i :: r, t, k => open1At i t fun t => open1 r t k
def sameU (cl : Clo) (v0 : V) (n0 : Id) (s : List Id) (t0 : HT) (v : V) (l : H) : Bool := cl.f l.t fun t => Bool.and (Bool.and (V.alike v v0) (Id.alike l.n n0)) (onceL t.lg .nil fun s2 => Bool.and (eqAt s2 t t0) (eqAt s t t0))
def umC (sel : V → HT → List Id) (cl : V → Clo) (slow : CF) : CF := ⟨fun cK m a l k => match looseB (sel a l.t) l.t with
 | false => slow.f cK m a l k
 | true => open1 (sel a l.t) ⟨l.t.tr, .nil⟩ fun t1 => slow.f cK m a ⟨t1, l.n⟩ fun v0 e0 => (cl a).f e0.t fun tc => onceL tc.lg .nil fun s => layL s (keptO (fun _ => false) l.n.nat (refsL s tc (V.idsL v0 .nil)) tc) l.t fun t0 =>
  Bool.and (openL (sel a l.t) ⟨l.t.tr, .nil⟩ fun t1 => slow.f cK m a ⟨t1, l.n⟩ (sameU (cl a) v0 e0.n s t0)) (k v0 ⟨t0, e0.n⟩)⟩
end
theorem open1_some {s : List Id} {t : HT} {k : HT → Bool} (h : open1 s t k = true) : ∃ t', k t' = true := by
 induction s generalizing t with
 | nil => exact ⟨t, h⟩
 | cons i s ih =>
  have h : open1At i t (fun t => open1 s t k) = true := h
  unfold open1At at h
  split at h
  ·split at h
   ·exact ih h
   ·rw [HT.putK_eq] at h
    exact ih h
  ·exact ih h
theorem um_ok {f : FuncId} {slow : CF} (hs : ∀ b, CfOK P (ρ.at b) f slow) {cl : V → Clo} (hcl : ∀ a, CloOK (cl a)) (sel : V → HT → List Id) : CfOK P ρ f (umC sel cl slow) := by
 have hs0 : CfOK P ρ f slow := hs ρ.base
 refine ⟨hs0.1, fun cK hC hE m a l k h => ?_⟩
 unfold umC at h
 dsimp only at h
 split at h
 ·exact hs0.2 cK hC hE m a l k h
 obtain ⟨t1, g1⟩ := open1_some h
 obtain ⟨v0, e0, g2, _⟩ := (hs l.t.tr).2 cK hC hE m a _ _ g1
 obtain ⟨tc, g3, _⟩ := hcl a _ _ g2
 obtain ⟨s, g4, _⟩ := onceL_ok g3
 obtain ⟨t0, g5, hat, hlg⟩ := layL_ok g4
 obtain ⟨g6, g7⟩ := andB_ok g5
 refine ⟨v0, _, g7, fun hh hrr => ?_⟩
 have hlay : ∃ hR, HR ρ ⟨t0, e0.n⟩ hR := by
  have hb : ∀ (b : Id → O) (t : HT) (s : List Id) (m : Id) (h : CH), HR ρ ⟨t, m⟩ h → ∀ t', (∀ i, t'.at i = if i ∈ s then b i else t.at i) → (∀ i, i ∈ t'.lg ↔ i ∈ s ∨ i ∈ t.lg) → ∃ h', HR ρ ⟨t', m⟩ h' := fun b t s m h hm t' ha hg => by
   have : ∃ t1 h1, HR ρ ⟨t1, m⟩ h1 ∧ (∀ i, t1.at i = if i ∈ s then b i else t.at i) := by
    have hk : layL s b t (fun _ => true) = true := by
     clear hg ha
     have : ∀ k : HT → Bool, (∀ t, k t = true) → layL s b t k = true := by
      induction s with
      | nil => exact fun k hk => hk t
      | cons x r ih => exact fun k hk => ih _ fun t => by rw [HT.putK_eq]; exact hk _
     exact this _ fun _ => rfl
    obtain ⟨t1, h1, _, q1, q2⟩ := lay_any hm hk
    exact ⟨t1, h1, q1, q2⟩
   obtain ⟨t1, h1, q1, q2⟩ := this
   refine ⟨h1, HR.same rfl q1 rfl (fun i => by dsimp only; rw [ha, q2]) fun i hi => ?_⟩
   dsimp only at hi ⊢
   rw [hg] at hi
   rw [ha, if_neg fun e => hi (.inl e)]
   exact hm.old i fun e => hi (.inr e)
  obtain ⟨h', q⟩ := hb _ l.t s l.n hh hrr t0 hat hlg
  exact ⟨⟨h'.t, e0.n.nat⟩, ⟨rfl, q.here, q.other, q.gone, q.old⟩⟩
 obtain ⟨hR, hRr⟩ := hlay
 refine ⟨hR, hRr, fun r cargs w hv hW => ?_⟩
 have hst : HR (ρ.at l.t.tr) ⟨⟨l.t.tr, .nil⟩, l.n⟩ hh := HR.same (ρ := ρ) (ρ' := ρ.at l.t.tr) rfl hrr rfl (fun i => rfl) fun i _ => rfl
 obtain ⟨t2, h2, q1, q2, q3⟩ := openL_ok g6 hst hW
 obtain ⟨v, l', q4, q5⟩ := (hs l.t.tr).2 cK hC hE m a _ _ q1
 obtain ⟨h', q6, q7⟩ := q5 h2 q2
 have hrun := q7 r cargs w hv q3.rw
 unfold sameU at q4
 obtain ⟨tc', q8, c1⟩ := hcl a _ _ q4
 obtain ⟨hc', q9, c2⟩ := c1 _ _ _ q6
 obtain ⟨q10, q11⟩ := andB_ok q8
 obtain ⟨q12, q13⟩ := andB_ok q10
 obtain ⟨s2, q14, q15⟩ := onceL_ok q11
 obtain ⟨q16, q17⟩ := andB_ok q14
 have hv0 := V.alike_ok q12
 have hn := Id.alike_ok q13
 subst hv0
 suffices fin : ∀ (e : Ending) (w' : World), (∃ r' v', e = .returned v' ∧ Nx r h2 w r' h' w' ∧ RV r' (v.val (ρ.at l.t.tr)) v') → ∃ r' v', e = .returned v' ∧ Nx r hh w r' hR w' ∧ RV r' (v.val ρ) v' from
  hrun.imp (fun q => ⟨q.1, q.2.mono fun {e w'} hx => fin e w' hx⟩) fun ⟨e, v', w', k1, k2, k3⟩ => ⟨e, v', w', k1, k2, fin _ _ k3⟩
 intro _ w' ⟨r', v', k1, hN, k3⟩
 refine ⟨r', v', k1, ?_, k3⟩
 refine less_nx (ρ := ρ) (ρ' := ρ.at l.t.tr) rfl q9 hRr (by dsimp only; rw [hn]) (fun i hi => ?_) (fun i => ?_) (q3.trans (hN.trans (c2 r' w' hN.rw)))
 rotate_left
 ·dsimp only
  by_cases hin : i ∈ s ∨ i ∈ s2
  ·exact (hin.elim (fun h => (eqAt_ok q17 i h).2) fun h => (eqAt_ok q16 i h).2).symm
  ·rw [hat, if_neg fun e => hin (.inl e), q9.old i fun e => hin (.inr ((q15 i).2 (.inl e)))]
   rfl
 dsimp only at hi ⊢
 have eqs : ∀ j, j ∈ s ∨ j ∈ s2 → (t0.at j).live = true → O.shed (tc'.at j) = t0.at j := fun j hj => hj.elim (fun h => (eqAt_ok q17 j h).1) fun h => (eqAt_ok q16 j h).1
 by_cases hin : i ∈ s ∨ i ∈ s2
 ·have he := eqs i hin hi
  rw [← he] at hi ⊢
  generalize tc'.at i = o at hi
  cases o <;> first | rfl | cases hi
 ·have h2 : i ∉ tc'.lg := fun e => hin (.inr ((q15 i).2 (.inl e)))
  rw [hat, if_neg fun e => hin (.inl e), q9.old i h2]
  rfl
end Go.Ex
