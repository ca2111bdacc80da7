/- Plain facts: the first move of a region, block by block. -/
import Derived.Test.YtkifpnhijdcjlaaG1
namespace Go.Proofs.Ytkifpnhijdcjlaa
open Go.RowKit

/-- the first move among the pieces of a region, from a place on. -/
def firstL (t : Int) : RunL → MoveO
  | [] => none
  | p :: G => if p.1 + p.2 ≤ t then firstL t G else if t < p.1 then some (p.1, t, min (min p.2 (p.1 - t)) 8) else firstL (p.1 + p.2) G
def inR (r1 r2 : Int) (p : Int × Int) : Bool := decide (r1 ≤ p.1) && decide (p.1 < r1 + r2)
def ofR (r1 r2 : Int) (ps : RunL) : RunL := ps.filter (inR r1 r2)

theorem within_more {r1 r2 s t a n : Int} {ps : RunL} (h : rising a n ps = true) (hs : s ≤ a) (ht : t ≤ a) : withinL r1 r2 s ps = withinL r1 r2 t ps := by
  unfold withinL
  refine List.filter_congr fun p hp => ?_
  obtain ⟨k, hk⟩ := List.getElem?_of_mem hp
  have := rising_get h hk
  unfold inB
  rw [decide_eq_true (show s < p.1 + p.2 from by omega), decide_eq_true (show t < p.1 + p.2 from by omega)]
theorem nextIn_first {r1 r2 t a n : Int} {ps : RunL} (h : rising a n ps = true) : nextIn t (withinL r1 r2 t ps) = firstL t (ofR r1 r2 ps) := by
  induction ps generalizing t a with
  | nil => rfl
  | cons p l ih =>
    obtain ⟨h1, h2, h3, h4⟩ := rising_cons h
    by_cases hr : inR r1 r2 p = true
    · have ho : ofR r1 r2 (p :: l) = p :: ofR r1 r2 l := by unfold ofR; rw [List.filter_cons, if_pos hr]
      rw [ho, firstL]
      by_cases he : p.1 + p.2 ≤ t
      · have hb : ¬ inB r1 r2 t p = true := by unfold inB; rw [decide_eq_false (show ¬ t < p.1 + p.2 from by omega)]; simp
        have hw : withinL r1 r2 t (p :: l) = withinL r1 r2 t l := by unfold withinL; rw [List.filter_cons, if_neg hb]
        rw [if_pos he, hw, ih h4]
      · have hb : inB r1 r2 t p = true := by
          unfold inB; unfold inR at hr; rw [decide_eq_true (show t < p.1 + p.2 from by omega), hr]; rfl
        have hw : withinL r1 r2 t (p :: l) = p :: withinL r1 r2 t l := by unfold withinL; rw [List.filter_cons, if_pos hb]
        rw [if_neg he, hw, nextIn]
        by_cases ht : t < p.1
        · rw [if_pos ht, if_pos ht]
        · rw [if_neg ht, if_neg ht, within_more h4 (by omega) (Int.le_refl _), ih h4]
    · have ho : ofR r1 r2 (p :: l) = ofR r1 r2 l := by unfold ofR; rw [List.filter_cons, if_neg hr]
      have hb : ¬ inB r1 r2 t p = true := by
        intro hb; apply hr; unfold inB at hb; unfold inR; simp only [Bool.and_eq_true] at hb ⊢; exact hb.1
      have hw : withinL r1 r2 t (p :: l) = withinL r1 r2 t l := by unfold withinL; rw [List.filter_cons, if_neg hb]
      rw [ho, hw, ih h4]
theorem rising_ofR {r1 r2 a n : Int} {ps : RunL} (h : rising a n ps = true) : rising a n (ofR r1 r2 ps) = true := by
  induction ps generalizing a with
  | nil => rfl
  | cons p l ih =>
    obtain ⟨h1, h2, h3, h4⟩ := rising_cons h
    have := ih h4
    by_cases hr : inR r1 r2 p = true
    · have ho : ofR r1 r2 (p :: l) = p :: ofR r1 r2 l := by unfold ofR; rw [List.filter_cons, if_pos hr]
      rw [ho, rising, if_neg (by omega)]; exact this
    · have ho : ofR r1 r2 (p :: l) = ofR r1 r2 l := by unfold ofR; rw [List.filter_cons, if_neg hr]
      rw [ho]; exact rising_less this (by omega)
theorem rising_up {a n n' : Int} {l : RunL} (h : rising a n l = true) (hn : n ≤ n') : rising a n' l = true := by
  induction l generalizing a with
  | nil => rfl
  | cons p l ih =>
    obtain ⟨h1, h2, h3, h4⟩ := rising_cons h
    rw [rising, if_neg (by omega)]; exact ih h4
theorem mem_ofR {r1 r2 : Int} {ps : RunL} {p : Int × Int} : p ∈ ofR r1 r2 ps ↔ p ∈ ps ∧ r1 ≤ p.1 ∧ p.1 < r1 + r2 := by
  unfold ofR inR; simp [List.mem_filter]

theorem first_used {a n t : Int} {G : RunL} {p : Int × Int} (h : rising a n G = true) (hp : p ∈ G) (h1 : p.1 ≤ t) (h2 : t < p.1 + p.2) : firstL t G = firstL (t + 1) G := by
  induction G generalizing a with
  | nil => cases hp
  | cons g l ih =>
    obtain ⟨k1, k2, k3, k4⟩ := rising_cons h
    rw [firstL, firstL]
    rcases List.mem_cons.1 hp with rfl | hp
    · rw [if_neg (by omega), if_neg (by omega)]
      by_cases he : p.1 + p.2 ≤ t + 1
      · rw [if_pos he, show p.1 + p.2 = t + 1 from by omega]
      · rw [if_neg he, if_neg (by omega)]
    · obtain ⟨k, hk⟩ := List.getElem?_of_mem hp
      have := rising_get k4 hk
      rw [if_pos (by omega), if_pos (by omega)]
      exact ih k4 hp
theorem first_none {t : Int} {G : RunL} (h : ∀ p ∈ G, p.1 + p.2 ≤ t) : firstL t G = none := by
  induction G with
  | nil => rfl
  | cons g l ih => rw [firstL, if_pos (h g List.mem_cons_self)]; exact ih fun p hp => h p (List.mem_cons_of_mem _ hp)
theorem first_some {a n t : Int} {G : RunL} {p : Int × Int} (h : rising a n G = true) (hp : p ∈ G) (ht : t < p.1) (hf : ∀ q ∈ G, q.1 + q.2 ≤ t ∨ p.1 ≤ q.1) : firstL t G = some (p.1, t, min (min p.2 (p.1 - t)) 8) := by
  induction G generalizing a with
  | nil => cases hp
  | cons g l ih =>
    obtain ⟨k1, k2, k3, k4⟩ := rising_cons h
    rw [firstL]
    rcases List.mem_cons.1 hp with rfl | hp
    · rw [if_neg (by omega), if_pos ht]
    · obtain ⟨k, hk⟩ := List.getElem?_of_mem hp
      have := rising_get k4 hk
      have hg := hf g List.mem_cons_self
      rw [if_pos (by omega)]
      exact ih k4 hp fun q hq => hf q (List.mem_cons_of_mem _ hq)

/-- what lies between pins. -/
theorem regions_apart {a n : Int} {qs : RunL} (h : rising a n qs = true) : ∀ r ∈ regionsL a n qs, ∀ q ∈ qs, q.1 + q.2 ≤ r.1 ∨ r.1 + r.2 ≤ q.1 := by
  induction qs generalizing a with
  | nil => intro r _ q hq; cases hq
  | cons p l ih =>
    obtain ⟨h1, h2, h3, h4⟩ := rising_cons h
    intro r hr q hq
    unfold regionsL at hr
    rcases List.mem_append.1 hr with hr | hr
    · split at hr
      · simp at hr; subst hr; dsimp only
        rcases List.mem_cons.1 hq with rfl | hq
        · omega
        · obtain ⟨k, hk⟩ := List.getElem?_of_mem hq
          have := rising_get h4 hk
          omega
      · cases hr
    · have := regions_mem h4 h3 r hr
      rcases List.mem_cons.1 hq with rfl | hq
      · omega
      · exact ih h4 r hr q hq
theorem regions_whole {a n : Int} {qs : RunL} (h : rising a n qs = true) {p : Int × Int} (hp1 : a ≤ p.1) (_hp2 : 1 ≤ p.2) (hp3 : p.1 + p.2 ≤ n) (hc : ∀ q ∈ qs, p.1 + p.2 ≤ q.1 ∨ q.1 + q.2 ≤ p.1) :
    ∀ r ∈ regionsL a n qs, p.1 + p.2 ≤ r.1 ∨ r.1 + r.2 ≤ p.1 ∨ (r.1 ≤ p.1 ∧ p.1 + p.2 ≤ r.1 + r.2) := by
  induction qs generalizing a with
  | nil =>
    intro r hr
    unfold regionsL at hr
    split at hr
    · simp at hr; subst hr; dsimp only; omega
    · cases hr
  | cons q l ih =>
    obtain ⟨h1, h2, h3, h4⟩ := rising_cons h
    intro r hr
    have hq := hc q List.mem_cons_self
    unfold regionsL at hr
    rcases List.mem_append.1 hr with hr | hr
    · split at hr
      · simp at hr; subst hr; dsimp only; omega
      · cases hr
    · have := regions_mem h4 h3 r hr
      by_cases hlt : q.1 + q.2 ≤ p.1
      · exact ih h4 hlt (fun q' hq' => hc q' (List.mem_cons_of_mem _ hq')) r hr
      · left; omega

/-- the blocks' marks. -/
def marksF (ps qs : RunL) : Nat → Int := pinL (markL (fun _ => 0) 1 ps) qs
theorem all_apart {ps qs : RunL} (h : ps.all (clears qs) = true) {p q : Int × Int} (hp : p ∈ ps) (hq : q ∈ qs) : p.1 + p.2 ≤ q.1 ∨ q.1 + q.2 ≤ p.1 :=
  apart_iff.1 (List.all_eq_true.1 (List.all_eq_true.1 h p hp) q hq)
theorem marksF_pin {ps qs : RunL} {q : Int × Int} {j : Nat} (hq : q ∈ qs) (hj : At q j) : marksF ps qs j = -1 := pinL_hit hq hj
theorem marksF_piece {ps qs : RunL} {a n : Int} (hr : rising a n ps = true) (hc : ps.all (clears qs) = true) {i : Nat} {p : Int × Int} {j : Nat} (hp : ps[i]? = some p) (hj : At p j) : marksF ps qs j = (i : Int) + 1 := by
  unfold marksF
  rw [pinL_miss, markL_hit hr hp hj]
  · omega
  · intro q hq hq'
    have := all_apart hc (List.mem_of_getElem? hp) hq
    unfold At at hj hq'; omega
theorem marksF_free {ps qs : RunL} {j : Nat} (h1 : ∀ p ∈ ps, ¬ At p j) (h2 : ∀ q ∈ qs, ¬ At q j) : marksF ps qs j = 0 := by
  unfold marksF
  rw [pinL_miss h2, markL_miss h1]
theorem marksF_cases {ps qs : RunL} {a n : Int} (hr : rising a n ps = true) (hc : ps.all (clears qs) = true) (j : Nat) :
    (∃ q ∈ qs, At q j) ∧ marksF ps qs j = -1 ∨ (∃ (i : Nat) (p : Int × Int), ps[i]? = some p ∧ At p j ∧ marksF ps qs j = (i : Int) + 1) ∨ (∀ p ∈ ps, ¬ At p j) ∧ (∀ q ∈ qs, ¬ At q j) ∧ marksF ps qs j = 0 := by
  by_cases h2 : ∃ q ∈ qs, At q j
  · obtain ⟨q, hq, hj⟩ := h2
    exact .inl ⟨⟨q, hq, hj⟩, marksF_pin hq hj⟩
  · by_cases h1 : ∃ p ∈ ps, At p j
    · obtain ⟨p, hp, hj⟩ := h1
      obtain ⟨i, hi⟩ := List.getElem?_of_mem hp
      exact .inr (.inl ⟨i, p, hi, hj, marksF_piece hr hc hi hj⟩)
    · exact .inr (.inr ⟨fun p hp hj => h1 ⟨p, hp, hj⟩, fun q hq hj => h2 ⟨q, hq, hj⟩, marksF_free (fun p hp hj => h1 ⟨p, hp, hj⟩) (fun q hq hj => h2 ⟨q, hq, hj⟩)⟩)

/-- one region's blocks. -/
structure Reg (F : Nat → Int) (ps G : RunL) (r1 stop : Int) : Prop where
  rise : rising 0 4096 G = true
  low : 0 ≤ r1
  high : stop ≤ 4096
  sub : ∀ p ∈ G, r1 ≤ p.1 ∧ p.1 + p.2 ≤ stop
  free : ∀ j : Nat, r1 ≤ j → (j : Int) < stop → F j = 0 → ∀ p ∈ G, ¬ At p j
  used : ∀ j : Nat, r1 ≤ j → (j : Int) < stop → ¬ F j = 0 → ∃ p ∈ G, At p j
  same : ∀ p ∈ G, ∀ i j : Nat, At p i → r1 ≤ j → (j : Int) < stop → (F j = F i ↔ At p j)
  nonz : ∀ p ∈ G, ∀ j : Nat, At p j → ¬ F j = 0
theorem reg_of {first n : Int} {ps qs : RunL} (hck : checkB first n ps qs = true) {r : Int × Int} (hr : r ∈ regionsL first n qs) : Reg (marksF ps qs) ps (ofR r.1 r.2 ps) r.1 (r.1 + r.2) := by
  obtain ⟨c1, c2, c3, c4, c5, c6⟩ := check_parts hck
  have hm := regions_mem c5 c2 r hr
  have hpin := regions_apart c5 r hr
  have hwh : ∀ p ∈ ps, p.1 + p.2 ≤ r.1 ∨ r.1 + r.2 ≤ p.1 ∨ (r.1 ≤ p.1 ∧ p.1 + p.2 ≤ r.1 + r.2) := fun p hp => by
    obtain ⟨k, hk⟩ := List.getElem?_of_mem hp
    have := rising_get c4 hk
    exact regions_whole c5 (by omega) (by omega) (by omega) (fun q hq => all_apart c6 hp hq) r hr
  have hlen : ∀ p ∈ ps, 1 ≤ p.2 := fun p hp => by
    obtain ⟨k, hk⟩ := List.getElem?_of_mem hp
    have := rising_get c4 hk
    omega
  have hrise : rising 0 4096 (ofR r.1 r.2 ps) = true := by
    have h1 := rising_less (rising_ofR (r1 := r.1) (r2 := r.2) c4) c1
    clear hwh
    exact rising_up h1 c3
  refine ⟨hrise, by omega, by omega, ?_, ?_, ?_, ?_, ?_⟩
  · intro p hp
    obtain ⟨h1, h2, h3⟩ := mem_ofR.1 hp
    have := hwh p h1; have := hlen p h1; omega
  · intro j h1 h2 h3 p hp hat
    obtain ⟨i, hi⟩ := List.getElem?_of_mem (mem_ofR.1 hp).1
    rw [marksF_piece c4 c6 hi hat] at h3; omega
  · intro j h1 h2 h3
    rcases marksF_cases c4 c6 j with ⟨⟨q, hq, hat⟩, _⟩ | ⟨i, p, hi, hat, _⟩ | ⟨_, _, h0⟩
    · have := hpin q hq; unfold At at hat; omega
    · have hp := List.mem_of_getElem? hi
      have := hwh p hp
      refine ⟨p, mem_ofR.2 ⟨hp, ?_, ?_⟩, hat⟩ <;> (unfold At at hat; omega)
    · exact absurd h0 h3
  · intro p hp i j hi h1 h2
    obtain ⟨k, hk⟩ := List.getElem?_of_mem (mem_ofR.1 hp).1
    rw [marksF_piece c4 c6 hk hi]
    constructor
    · intro he
      rcases marksF_cases c4 c6 j with ⟨_, h0⟩ | ⟨i', p', hi', hat, h0⟩ | ⟨_, _, h0⟩
      · omega
      · have : i' = k := by omega
        subst this
        rw [hk] at hi'; injection hi' with hi'; subst hi'; exact hat
      · omega
    · intro hat; exact marksF_piece c4 c6 hk hat
  · intro p hp j hat
    obtain ⟨k, hk⟩ := List.getElem?_of_mem (mem_ofR.1 hp).1
    rw [marksF_piece c4 c6 hk hat]; omega

theorem Reg.skip {F : Nat → Int} {ps G : RunL} {r1 stop : Int} (h : Reg F ps G r1 stop) {t : Nat} (h1 : r1 ≤ t) (h2 : (t : Int) < stop) (hF : ¬ F t = 0) : firstL t G = firstL ((t : Int) + 1) G := by
  obtain ⟨p, hp, hat⟩ := h.used t h1 h2 hF
  exact first_used h.rise hp hat.1 hat.2
theorem Reg.none {F : Nat → Int} {ps G : RunL} {r1 stop : Int} (h : Reg F ps G r1 stop) {t : Int} (h2 : stop ≤ t) : firstL t G = none :=
  first_none fun p hp => by have := h.sub p hp; omega
theorem Reg.bare {F : Nat → Int} {ps G : RunL} {r1 stop : Int} (h : Reg F ps G r1 stop) {t : Nat} (h1 : r1 ≤ t) (hF : ∀ j : Nat, t ≤ j → (j : Int) < stop → F j = 0) : firstL t G = .none :=
  first_none fun p hp => by
    obtain ⟨k, hk⟩ := List.getElem?_of_mem hp
    have h3 := rising_get h.rise hk
    have h4 := h.sub p hp
    apply Decidable.byContradiction; intro hc
    obtain ⟨j, hj⟩ : ∃ j : Nat, (j : Int) = p.1 + p.2 - 1 := ⟨(p.1 + p.2 - 1).toNat, by omega⟩
    exact h.free j (by omega) (by omega) (hF j (by omega) (by omega)) p hp (by unfold At; omega)
theorem Reg.hit {F : Nat → Int} {ps G : RunL} {r1 stop : Int} (h : Reg F ps G r1 stop) {t b : Nat} (h1 : r1 ≤ t) (htb : t ≤ b) (h2 : (b : Int) < stop) (hF : ∀ j : Nat, t ≤ j → j < b → F j = 0) (h0 : F t = 0) (hb : ¬ F b = 0) :
    ∃ l : Nat, 1 ≤ l ∧ t < b ∧ (b : Int) + l ≤ stop ∧ firstL t G = some ((b : Int), (t : Int), min (min (l : Int) ((b : Int) - t)) 8) ∧ ∀ j : Nat, b ≤ j → (j : Int) < stop → (F j = F b ↔ j < b + l) := by
  have htb' : t < b := by
    rcases Nat.lt_or_eq_of_le htb with h | h
    · exact h
    · subst h; exact absurd h0 hb
  obtain ⟨p, hp, hat⟩ := h.used b (by omega) h2 hb
  obtain ⟨k, hk⟩ := List.getElem?_of_mem hp
  have h3 := rising_get h.rise hk
  have h4 := h.sub p hp
  have hpb : p.1 = b := by
    apply Decidable.byContradiction; intro hc
    have := hat.1
    refine h.free (b - 1) (by omega) (by omega) (hF (b - 1) (by omega) (by omega)) p hp ?_
    have := hat.2
    unfold At; omega
  obtain ⟨p1, p2⟩ := p
  dsimp only at hpb h3 h4
  subst hpb
  refine ⟨p2.toNat, by omega, htb', by omega, ?_, fun j hj1 hj2 => ?_⟩
  · have hm : ((p2.toNat : Nat) : Int) = p2 := by omega
    rw [hm]
    refine first_some h.rise hp (by dsimp only; omega) fun q hq => ?_
    obtain ⟨k', hk'⟩ := List.getElem?_of_mem hq
    have h5 := rising_get h.rise hk'
    have h6 := h.sub q hq
    apply Decidable.byContradiction; intro hc
    dsimp only at hc
    obtain ⟨j, hj⟩ : ∃ j : Nat, (j : Int) = max q.1 t := ⟨(max q.1 t).toNat, by omega⟩
    exact h.free j (by omega) (by omega) (hF j (by omega) (by omega)) q hq (by unfold At; omega)
  · rw [h.same _ hp b j hat (by omega) hj2]
    unfold At; dsimp only; omega
end Go.Proofs.Ytkifpnhijdcjlaa
