/- The plain laws of the desk: lines, words, numbers, forms. -/
import Derived.Lib.AtoiAll
import Derived.Lib.ItoaMem
import Derived.Lib.Split
namespace Go.Desk

def plainB (c : UInt8) : Bool := decide (32 < c.toNat) && decide (c.toNat < 127) && !(c.toNat == 37)
def hx (n : Nat) : UInt8 := if n < 10 then UInt8.ofNat (48 + n) else UInt8.ofNat (87 + n)
def wr1 (c : UInt8) : List UInt8 := if plainB c then [c] else [37, hx (c.toNat / 16), hx (c.toNat % 16)]
def wrs (s : List UInt8) : List UInt8 := s.flatMap wr1
def wr (s : List UInt8) : List UInt8 := if s = [] then [37] else wrs s
/-- a hexadecimal digit, in small letters; in any. -/
def unx (c : UInt8) : Option Nat := if 48 ≤ c.toNat ∧ c.toNat ≤ 57 then some (c.toNat - 48) else if 97 ≤ c.toNat ∧ c.toNat ≤ 102 then some (c.toNat - 87) else none
def unX (c : UInt8) : Option Nat := if 48 ≤ c.toNat ∧ c.toNat ≤ 57 then some (c.toNat - 48) else if 97 ≤ c.toNat ∧ c.toNat ≤ 102 then some (c.toNat - 87) else if 65 ≤ c.toNat ∧ c.toNat ≤ 70 then some (c.toNat - 55) else none
/-- the text of a word, by a reading of digits. -/
def mean (u : UInt8 → Option Nat) : List UInt8 → Option (List UInt8)
  | [] => some []
  | c :: r => if c = 37 then
      match r with
      | a :: b :: r' => match u a, u b with
        | some x, some y => (mean u r').map (UInt8.ofNat (16 * x + y) :: ·)
        | _, _ => none
      | _ => none
    else (mean u r).map (c :: ·)
/-- the text that a word is. -/
def meant (w : List UInt8) : Option (List UInt8) := if w = [37] then some [] else match mean unx w with
  | some t => if w ≠ [] ∧ wr t = w then some t else none
  | none => none
theorem hx_unx {n : Nat} (h : n < 16) : unx (hx n) = some n := by
  have : ∀ n : Fin 16, unx (hx n.val) = some n.val := by decide
  exact this ⟨n, h⟩
theorem unx_unX {c : UInt8} {n : Nat} (h : unx c = some n) : unX c = some n := by
  unfold unx at h
  unfold unX
  split at h
  · rw [if_pos (by assumption)]; exact h
  · rw [if_neg (by assumption)]
    split at h
    · rw [if_pos (by assumption)]; exact h
    · cases h
theorem back16 (c : UInt8) : UInt8.ofNat (16 * (c.toNat / 16) + c.toNat % 16) = c := by
  rw [Nat.div_add_mod]
  exact UInt8.ofNat_toNat
theorem mean_wrs {u : UInt8 → Option Nat} (hu : ∀ n, n < 16 → u (hx n) = some n) (t : List UInt8) : mean u (wrs t) = some t := by
  induction t with
  | nil => rfl
  | cons c r ih =>
    show mean u (wr1 c ++ wrs r) = _
    unfold wr1
    split
    · rename_i hp
      have hc : c ≠ 37 := by
        rintro rfl
        revert hp
        decide
      show mean u (c :: wrs r) = _
      unfold mean
      rw [if_neg hc, ih]
      rfl
    · show mean u (37 :: hx (c.toNat / 16) :: hx (c.toNat % 16) :: wrs r) = _
      have h1 : c.toNat / 16 < 16 := by have := c.toNat_lt; omega
      have h2 : c.toNat % 16 < 16 := Nat.mod_lt _ (by omega)
      unfold mean
      rw [if_pos rfl]
      dsimp only
      rw [hu _ h1, hu _ h2, ih]
      dsimp only
      rw [back16]
      rfl
theorem mean_any {w t : List UInt8} (h : wrs t = w) {s : List UInt8} (hs : mean unX w = some s) : mean unx w = some s := by
  subst h
  rw [mean_wrs (fun n hn => unx_unX (hx_unx hn))] at hs
  rw [mean_wrs (fun n hn => hx_unx hn), ← hs]
end Go.Desk
namespace Go.Desk
open Go.Lib

def dig (c : UInt8) : Prop := 48 ≤ c.toNat ∧ c.toNat ≤ 57
instance (c : UInt8) : Decidable (dig c) := inferInstanceAs (Decidable (_ ∧ _))
def val (l : List UInt8) : Nat := l.foldl (fun n c => 10 * n + (c.toNat - 48)) 0
/-- digits with no nought ahead, but of nought itself. -/
def lead (l : List UInt8) : Prop := l ≠ [] ∧ (∀ c ∈ l, dig c) ∧ (l.head? = some 48 → l = [48])
theorem head_app {l m : List UInt8} (h : l ≠ []) : (l ++ m).head? = l.head? := by
  cases l with
  | nil => exact absurd rfl h
  | cons a r => rfl
theorem val_snoc (l : List UInt8) (c : UInt8) : val (l ++ [c]) = 10 * val l + (c.toNat - 48) := by
  unfold val
  rw [List.foldl_append]; rfl
theorem dec_small {u : Nat} (h : u < 10) : decDigits u = [UInt8.ofNat (48 + u)] := decDigits_one h
theorem dec_big {u : Nat} (h : ¬ u < 10) : decDigits u = decDigits (u / 10) ++ [UInt8.ofNat (48 + u % 10)] := by rw [decDigits, dif_neg h]
theorem toNat48 {n : Nat} (h : n < 10) : (UInt8.ofNat (48 + n)).toNat = 48 + n := by
  rw [UInt8.toNat_ofNat']; omega
theorem of48 {c : UInt8} (h : dig c) : UInt8.ofNat (48 + (c.toNat - 48)) = c := by
  have : 48 + (c.toNat - 48) = c.toNat := by have := h.1; omega
  rw [this]
  exact UInt8.ofNat_toNat
theorem dec_ok (u : Nat) : lead (decDigits u) ∧ val (decDigits u) = u := by
  induction u using Nat.strongRecOn with
  | ind u ih =>
    by_cases h : u < 10
    · rw [dec_small h]
      refine ⟨⟨by simp, fun c hc => ?_, fun hh => ?_⟩, ?_⟩
      · rw [List.mem_singleton] at hc
        subst hc
        unfold dig
        rw [toNat48 h]; omega
      · simp only [List.head?_cons, Option.some.injEq] at hh
        rw [hh]
      · show 10 * 0 + ((UInt8.ofNat (48 + u)).toNat - 48) = u
        rw [toNat48 h]; omega
    · obtain ⟨⟨h1, h2, h3⟩, h4⟩ := ih (u / 10) (by omega)
      rw [dec_big h]
      refine ⟨⟨by simp, fun c hc => ?_, fun hh => ?_⟩, ?_⟩
      · rcases List.mem_append.1 hc with hc | hc
        · exact h2 c hc
        · rw [List.mem_singleton] at hc
          subst hc
          unfold dig
          rw [toNat48 (Nat.mod_lt _ (by omega))]; omega
      · exfalso
        rw [head_app h1] at hh
        have e := h3 hh
        rw [e] at h4
        have : val [48] = 0 := rfl
        omega
      · rw [val_snoc, h4, toNat48 (Nat.mod_lt _ (by omega))]
        omega
theorem lead_pos {l : List UInt8} (h : lead l) (h0 : l ≠ [48]) : 1 ≤ val l := by
  obtain ⟨h1, h2, h3⟩ := h
  cases l with
  | nil => exact absurd rfl h1
  | cons c r =>
    have hc := h2 c (List.mem_cons_self ..)
    have hne : c ≠ 48 := fun e => h0 (h3 (by rw [e]; rfl))
    have hc1 : 1 ≤ c.toNat - 48 := by
      have : c.toNat ≠ 48 := fun e => hne (by rw [← UInt8.ofNat_toNat (x := c), e]; rfl)
      have := hc.1
      omega
    have : ∀ (r : List UInt8) (n : Nat), 1 ≤ n → 1 ≤ r.foldl (fun n c => 10 * n + (c.toNat - 48)) n := fun r => by
      induction r with
      | nil => exact fun n hn => hn
      | cons d r ih => exact fun n hn => ih (10 * n + (d.toNat - 48)) (by omega)
    exact this r _ (by show 1 ≤ 10 * 0 + (c.toNat - 48); omega)
theorem lead_init {l : List UInt8} {c : UInt8} (h : lead (l ++ [c])) (hl : l ≠ []) : lead l ∧ l ≠ [48] := by
  obtain ⟨h1, h2, h3⟩ := h
  have hh : (l ++ [c]).head? = l.head? := head_app hl
  have hn : l.head? ≠ some 48 := fun e => by
    have := h3 (by rw [hh]; exact e)
    have := congrArg List.length this
    simp at this
    exact hl this
  exact ⟨⟨hl, fun d hd => h2 d (List.mem_append_left _ hd), fun e => absurd e hn⟩, fun e => hn (by rw [e]; rfl)⟩
theorem lead_dec {l : List UInt8} (h : lead l) : decDigits (val l) = l := by
  generalize hn : l.length = n
  induction n generalizing l with
  | zero => exact absurd (List.eq_nil_of_length_eq_zero hn) h.1
  | succ n ih =>
    obtain ⟨l', c, rfl⟩ : ∃ l' c, l = l' ++ [c] := ⟨l.dropLast, l.getLast h.1, (List.dropLast_concat_getLast h.1).symm⟩
    have hc : dig c := h.2.1 c (by simp)
    have hc9 : c.toNat - 48 < 10 := by have := hc.2; omega
    rw [val_snoc]
    by_cases hl : l' = []
    · subst hl
      have : val [] = 0 := rfl
      rw [this, Nat.mul_zero, Nat.zero_add, dec_small hc9, of48 hc]
      rfl
    · obtain ⟨k1, k2⟩ := lead_init h hl
      have hp := lead_pos k1 k2
      rw [dec_big (by omega)]
      have e1 : (10 * val l' + (c.toNat - 48)) / 10 = val l' := by omega
      have e2 : (10 * val l' + (c.toNat - 48)) % 10 = c.toNat - 48 := by omega
      rw [e1, e2, of48 hc, ih k1 (by simpa using hn)]
theorem val_lt {l : List UInt8} (h : ∀ c ∈ l, dig c) : val l < 10 ^ l.length := by
  generalize hn : l.length = n
  induction n generalizing l with
  | zero =>
    have := List.eq_nil_of_length_eq_zero hn
    subst this
    decide
  | succ n ih =>
    have hne : l ≠ [] := fun e => by rw [e] at hn; cases hn
    obtain ⟨l', c, rfl⟩ : ∃ l' c, l = l' ++ [c] := ⟨l.dropLast, l.getLast hne, (List.dropLast_concat_getLast hne).symm⟩
    have := ih (l := l') (fun d hd => h d (List.mem_append_left _ hd)) (by simpa using hn)
    have hc := (h c (by simp)).2
    rw [val_snoc, Nat.pow_succ]
    omega
theorem len_le {l : List UInt8} (h : lead l) {k : Nat} (hk : 1 ≤ k) (hv : val l < 10 ^ k) : l.length ≤ k := by
  induction k generalizing l with
  | zero => omega
  | succ k ih =>
    have hne := h.1
    obtain ⟨l', c, rfl⟩ : ∃ l' c, l = l' ++ [c] := ⟨l.dropLast, l.getLast hne, (List.dropLast_concat_getLast hne).symm⟩
    by_cases hl : l' = []
    · subst hl; simp
    · obtain ⟨k1, k2⟩ := lead_init h hl
      rw [val_snoc, Nat.pow_succ] at hv
      by_cases h0 : k = 0
      · subst h0
        have := lead_pos k1 k2
        simp at hv
        omega
      · have := ih k1 (by omega) (by omega)
        simp
        omega
/-- the number that digits are, with a sign ahead or without. -/
def refDs (neg : Bool) (ds : List UInt8) : Option Int :=
  if ds = [] ∨ 9 < ds.length ∨ (ds.head? = some 48 ∧ (1 < ds.length ∨ neg = true)) ∨ ¬ ∀ c ∈ ds, dig c then none
  else some (if neg then -(val ds : Int) else val ds)
/-- the number that a word is. -/
def refNum (w : List UInt8) : Option Int := if w.head? = some 45 then refDs true w.tail else refDs false w
theorem refDs_some {neg : Bool} {ds : List UInt8} {n : Int} (h : refDs neg ds = some n) : lead ds ∧ (neg = true → ds ≠ [48]) ∧ val ds < 10 ^ 9 ∧ n = if neg then -(val ds : Int) else val ds := by
  unfold refDs at h
  split at h
  · cases h
  · rename_i hc
    injection h with h
    simp only [not_or] at hc
    obtain ⟨c1, c2, c3, c4⟩ := hc
    have c4 : ∀ c ∈ ds, dig c := Decidable.not_not.1 c4
    have hv := Nat.lt_of_lt_of_le (val_lt c4) (Nat.pow_le_pow_right (by omega) (by omega : ds.length ≤ 9))
    refine ⟨⟨c1, c4, fun e => ?_⟩, fun e1 e2 => c3 ⟨by rw [e2]; rfl, .inr e1⟩, hv, h.symm⟩
    have hl : ¬ 1 < ds.length := fun k => c3 ⟨e, .inl k⟩
    cases ds with
    | nil => exact absurd rfl c1
    | cons a r =>
      injection e with e
      subst e
      have : r = [] := by simpa using hl
      rw [this]
theorem refDs_of {neg : Bool} {ds : List UInt8} (h : lead ds) (h0 : neg = true → ds ≠ [48]) (hv : val ds < 10 ^ 9) : refDs neg ds = some (if neg then -(val ds : Int) else val ds) := by
  have hl := len_le h (k := 9) (by omega) hv
  unfold refDs
  rw [if_neg]
  rintro (e | e | ⟨e, q | q⟩ | e)
  · exact h.1 e
  · omega
  · rw [h.2.2 e] at q
    exact absurd q (by decide)
  · exact h0 q (h.2.2 e)
  · exact e h.2.1
theorem refNum_iff {w : List UInt8} {n : Int} : refNum w = some n ↔ itoa n = w ∧ -1000000000 < n ∧ n < 1000000000 := by
  unfold refNum
  constructor
  · intro h
    split at h
    · rename_i hneg
      obtain ⟨h1, h2, h3, h4⟩ := refDs_some h
      have hp := lead_pos h1 (h2 rfl)
      have h4 : n = -(val w.tail : Int) := h4
      subst h4
      refine ⟨?_, by omega, by omega⟩
      rw [itoa_neg _ hp, lead_dec h1]
      cases w with
      | nil => cases hneg
      | cons a r => injection hneg with hneg; subst hneg; rfl
    · obtain ⟨h1, h2, h3, h4⟩ := refDs_some h
      have h4 : n = (val w : Int) := h4
      subst h4
      exact ⟨by rw [itoa_nonneg, lead_dec h1], by omega, by omega⟩
  · rintro ⟨rfl, h1, h2⟩
    by_cases hn : n < 0
    · obtain ⟨u, rfl⟩ : ∃ u : Nat, n = -(u : Int) := ⟨n.natAbs, by omega⟩
      obtain ⟨k1, k2⟩ := dec_ok u
      rw [itoa_neg u (by omega), if_pos (by rfl)]
      have := refDs_of (neg := true) k1 (fun _ e => by
        rw [e] at k2
        have : val [48] = 0 := rfl
        omega) (by omega)
      rw [k2] at this
      exact this
    · obtain ⟨u, rfl⟩ : ∃ u : Nat, n = (u : Int) := ⟨n.toNat, by omega⟩
      obtain ⟨k1, k2⟩ := dec_ok u
      rw [itoa_nonneg, if_neg]
      · have := refDs_of (neg := false) k1 (fun e => by cases e) (by omega)
        rw [k2] at this
        exact this
      · intro e
        cases hd : decDigits u with
        | nil => exact k1.1 hd
        | cons a r =>
          rw [hd] at e
          injection e with e
          have := k1.2.1 a (by rw [hd]; exact List.mem_cons_self ..)
          rw [e] at this
          exact absurd this (by decide)
end Go.Desk
namespace Go.Desk
open Go.Lib

def valFrom (n : Nat) (l : List UInt8) : Nat := l.foldl (fun n c => 10 * n + (c.toNat - 48)) n
theorem valFrom_ge (l : List UInt8) (n : Nat) : n ≤ valFrom n l := by
  induction l generalizing n with
  | nil => exact Nat.le_refl _
  | cons c r ih =>
    have := ih (10 * n + (c.toNat - 48))
    show n ≤ valFrom (10 * n + (c.toNat - 48)) r
    omega
theorem parse_ok {l : List UInt8} (h : ∀ c ∈ l, dig c) {n : Nat} (hv : valFrom n l < 18446744073709551616) : parseUint10 n l = .ok (valFrom n l) := by
  induction l generalizing n with
  | nil => rfl
  | cons c r ih =>
    have hc : 48 ≤ c.toNat ∧ c.toNat ≤ 57 := h c (List.mem_cons_self ..)
    have e : valFrom n (c :: r) = valFrom (10 * n + (c.toNat - 48)) r := rfl
    rw [e] at hv ⊢
    have hge := valFrom_ge r (10 * n + (c.toNat - 48))
    unfold parseUint10
    rw [if_pos hc, if_neg (by omega), if_neg (by omega), ← ih (fun d hd => h d (List.mem_cons_of_mem _ hd)) hv]
    rw [Nat.mul_comm 10 n]
theorem atoi_itoa {n : Int} (h1 : -9223372036854775808 < n) (h2 : n < 9223372036854775808) : atoiAll (itoa n) = .ok n := by
  have key : ∀ u : Nat, u < 18446744073709551616 → parseMag (decDigits u) = .ok u := fun u hu => by
    obtain ⟨k1, k2⟩ := dec_ok u
    unfold parseMag
    rw [if_neg k1.1]
    have e : valFrom 0 (decDigits u) = u := k2
    rw [parse_ok k1.2.1 (by rw [e]; exact hu), e]
  by_cases hn : n < 0
  · obtain ⟨u, rfl⟩ : ∃ u : Nat, n = -(u : Int) := ⟨n.natAbs, by omega⟩
    rw [itoa_neg u (by omega)]
    unfold atoiAll
    have e : (45 : UInt8).toNat = 45 := rfl
    simp only [e]
    rw [if_pos (by right; trivial), key u (by omega)]
    simp
    omega
  · obtain ⟨u, rfl⟩ : ∃ u : Nat, n = (u : Int) := ⟨n.toNat, by omega⟩
    obtain ⟨k1, k2⟩ := dec_ok u
    rw [itoa_nonneg]
    cases hd : decDigits u with
    | nil => exact absurd hd k1.1
    | cons c r =>
      have hc : 48 ≤ c.toNat ∧ c.toNat ≤ 57 := k1.2.1 c (by rw [hd]; exact List.mem_cons_self ..)
      unfold atoiAll
      dsimp only
      rw [if_neg (by omega), ← hd, key u (by omega)]
      have h45 : ¬ c.toNat = 45 := by omega
      simp only [h45, false_and, if_false, not_false_eq_true, true_and]
      rw [if_neg (by omega)]
end Go.Desk
namespace Go.Desk
open Go.Lib

/-- a line's words. -/
def words : List UInt8 → List (List UInt8)
  | [] => [[]]
  | c :: r => if c = 32 then [] :: words r else match words r with
    | w :: ws => (c :: w) :: ws
    | [] => [[c]]
def joinW : List (List UInt8) → List UInt8
  | [] => []
  | [w] => w
  | w :: ws => w ++ 32 :: joinW ws
theorem words_ne (l : List UInt8) : words l ≠ [] := by
  cases l with
  | nil => simp [words]
  | cons c r =>
    unfold words
    split
    · simp
    · split <;> simp
theorem join_words (l : List UInt8) : joinW (words l) = l := by
  induction l with
  | nil => rfl
  | cons c r ih =>
    unfold words
    split
    · rename_i hc
      subst hc
      cases hw : words r with
      | nil => exact absurd hw (words_ne r)
      | cons w ws =>
        rw [hw] at ih
        show [] ++ 32 :: joinW (w :: ws) = _
        rw [ih]; rfl
    · cases hw : words r with
      | nil => exact absurd hw (words_ne r)
      | cons w ws =>
        rw [hw] at ih
        dsimp only
        cases ws with
        | nil =>
          have ih : w = r := ih
          show c :: w = c :: r
          rw [ih]
        | cons v vs =>
          have ih : w ++ 32 :: joinW (v :: vs) = r := ih
          show (c :: w) ++ 32 :: joinW (v :: vs) = c :: r
          rw [← ih]; rfl
structure CallV where
  kind : Nat := 0
  path : List UInt8 := []
  other : List UInt8 := []
  fd : Int := 0
  n : Int := 0
  data : List UInt8 := []
  on : Bool := false
  deriving DecidableEq
inductive Part where
  | t | n | f
  deriving DecidableEq
structure Form where
  kind : Nat
  word : List UInt8
  parts : List Part
def wOpen : List UInt8 := [111, 112, 101, 110]
def wOn : List UInt8 := [111, 110]
def wOff : List UInt8 := [111, 102, 102]
/-- what a word lays into a call. -/
def take (c : CallV) (p : Part) (seen : Nat) (w : List UInt8) : Option CallV := match p with
  | .f => if w = wOn then some { c with on := true } else if w = wOff then some { c with on := false } else none
  | .t => (meant w).map fun s => if c.kind = 4 then { c with data := s } else if seen = 0 then { c with path := s } else { c with other := s }
  | .n => (refNum w).map fun x => if seen = 0 ∧ c.kind ≠ 1 then { c with fd := x } else { c with n := x }
def seenOf : Part → Nat → Nat → Nat
  | .t, st, _ => st
  | .n, _, sn => sn
  | .f, _, _ => 0
def stOf : Part → Nat → Nat
  | .t, st => st + 1
  | _, st => st
def snOf : Part → Nat → Nat
  | .n, sn => sn + 1
  | _, sn => sn
def takes (c : CallV) : List Part → Nat → Nat → List (List UInt8) → Option CallV
  | [], _, _, _ => some c
  | p :: ps, st, sn, w :: ws => match take c p (seenOf p st sn) w with
    | some c => takes c ps (stOf p st) (snOf p sn) ws
    | none => none
  | _ :: _, _, _, [] => none
/-- the word of a part of a call. -/
def lay (c : CallV) (p : Part) (seen : Nat) : List UInt8 := match p with
  | .f => if c.on then wOn else wOff
  | .t => if c.kind = 4 then wr c.data else if seen = 0 then wr c.path else wr c.other
  | .n => if seen = 0 ∧ c.kind ≠ 1 then itoa c.fd else itoa c.n
def lays (c : CallV) : List Part → Nat → Nat → List (List UInt8)
  | [], _, _ => []
  | p :: ps, st, sn => lay c p (seenOf p st sn) :: lays c ps (stOf p st) (snOf p sn)
theorem meant_wr {w s : List UInt8} (h : meant w = some s) : wr s = w := by
  unfold meant at h
  split at h
  · rename_i hw
    injection h with h
    subst h hw
    rfl
  · split at h
    · split at h
      · rename_i hc
        injection h with h
        subst h
        exact hc.2
      · cases h
    · cases h
theorem refNum_itoa {w : List UInt8} {n : Int} (h : refNum w = some n) : itoa n = w := (refNum_iff.1 h).1
theorem take_kind {c d : CallV} {p : Part} {seen : Nat} {w : List UInt8} (h : take c p seen w = some d) : d.kind = c.kind := by
  unfold take at h
  cases p with
  | f =>
    dsimp only at h
    split at h
    · injection h with h; subst h; rfl
    · split at h
      · injection h with h; subst h; rfl
      · cases h
  | t =>
    dsimp only at h
    rw [Option.map_eq_some_iff] at h
    obtain ⟨s, _, rfl⟩ := h
    split <;> first | rfl | (split <;> rfl)
  | n =>
    dsimp only at h
    rw [Option.map_eq_some_iff] at h
    obtain ⟨s, _, rfl⟩ := h
    split <;> rfl
end Go.Desk
namespace Go.Desk
open Go.Lib

theorem idx_hit (r : List UInt8) : index (32 :: r) [32] = 0 := by
  unfold index
  rw [if_pos (by simp)]
theorem idx_next {c : UInt8} (hc : c ≠ 32) (r : List UInt8) : index (c :: r) [32] = if index r [32] == -1 then -1 else index r [32] + 1 := by
  rw [index]
  rw [if_neg]
  simp only [List.isPrefixOf, Bool.and_true, beq_iff_eq]
  exact fun e => hc e.symm
theorem split_words (l : List UInt8) : ∀ k, l.count 32 ≤ k → splitK [32] 0 k l = words l := by
  induction l with
  | nil =>
    intro k _
    cases k with
    | zero => rfl
    | succ k => rfl
  | cons c r ih =>
    intro k hk
    by_cases hc : c = 32
    · subst hc
      rw [List.count_cons_self] at hk
      cases k with
      | zero => omega
      | succ k =>
        have e : words (32 :: r) = [] :: words r := by
          rw [words, if_pos rfl]
        rw [e, splitK, idx_hit]
        show ([] : List UInt8) :: splitK [32] 0 k r = _
        rw [ih k (by omega)]
    · rw [List.count_cons_of_ne hc] at hk
      have h := ih k hk
      obtain ⟨w, ws, hw⟩ : ∃ w ws, words r = w :: ws := by
        cases hw : words r with
        | nil => exact absurd hw (words_ne r)
        | cons w ws => exact ⟨w, ws, rfl⟩
      have e : words (c :: r) = (c :: w) :: ws := by
        rw [words, if_neg hc, hw]
      rw [hw] at h
      cases k with
      | zero =>
        have h : [r] = w :: ws := h
        injection h with h1 h2
        rw [e, ← h1, ← h2]; rfl
      | succ k =>
        rw [splitK] at h
        rw [splitK, idx_next hc]
        by_cases hi : (index r [32] == -1) = true
        · rw [if_pos hi] at h
          injection h with h1 h2
          rw [e, ← h1, ← h2, if_pos hi]
          rfl
        · rw [if_neg hi] at h
          have hge := index_ge r [32]
          have hi' : index r [32] ≠ -1 := fun q => hi (by rw [q]; rfl)
          obtain ⟨i, hii⟩ : ∃ i : Nat, index r [32] = i := ⟨(index r [32]).toNat, by omega⟩
          injection h with h3 h4
          rw [hii] at h3 h4
          rw [e, ← h3, ← h4, if_neg hi, hii]
          have h1 : ¬ (((i : Int) + 1 == -1) = true) := fun q => by have := beq_iff_eq.1 q; omega
          rw [if_neg h1]
          have h2 : ((i : Int) + 1).toNat = i + 1 := by omega
          rw [h2]
          rfl
end Go.Desk
namespace Go.Desk
open Go.Lib

theorem take_t {c d : CallV} {seen : Nat} {w : List UInt8} (h : take c .t seen w = some d) : ∃ s, meant w = some s ∧ wr s = w ∧ d = if c.kind = 4 then { c with data := s } else if seen = 0 then { c with path := s } else { c with other := s } := by
  have h : (meant w).map (fun s => if c.kind = 4 then { c with data := s } else if seen = 0 then { c with path := s } else { c with other := s }) = some d := h
  rw [Option.map_eq_some_iff] at h
  obtain ⟨s, h1, h2⟩ := h
  exact ⟨s, h1, meant_wr h1, h2.symm⟩
theorem take_n {c d : CallV} {seen : Nat} {w : List UInt8} (h : take c .n seen w = some d) : ∃ x, refNum w = some x ∧ itoa x = w ∧ d = if seen = 0 ∧ c.kind ≠ 1 then { c with fd := x } else { c with n := x } := by
  have h : (refNum w).map (fun x => if seen = 0 ∧ c.kind ≠ 1 then { c with fd := x } else { c with n := x }) = some d := h
  rw [Option.map_eq_some_iff] at h
  obtain ⟨s, h1, h2⟩ := h
  exact ⟨s, h1, refNum_itoa h1, h2.symm⟩
theorem take_f {c d : CallV} {seen : Nat} {w : List UInt8} (h : take c .f seen w = some d) : ∃ b, (if b then wOn else wOff) = w ∧ d = { c with on := b } := by
  have h : (if w = wOn then some { c with on := true } else if w = wOff then some { c with on := false } else none) = some d := h
  split at h
  · rename_i e; injection h with h; exact ⟨true, e.symm, h.symm⟩
  · split at h
    · rename_i e; injection h with h; exact ⟨false, e.symm, h.symm⟩
    · cases h
theorem takes_nil {c d : CallV} {st sn : Nat} {ws : List (List UInt8)} (h : takes c [] st sn ws = some d) : d = c := by
  have h : some c = some d := h
  injection h with h
  exact h.symm
theorem takes_cons {c d : CallV} {p : Part} {ps : List Part} {st sn : Nat} {ws : List (List UInt8)} (h : takes c (p :: ps) st sn ws = some d) :
    ∃ w r c1, ws = w :: r ∧ take c p (seenOf p st sn) w = some c1 ∧ takes c1 ps (stOf p st) (snOf p sn) r = some d := by
  cases ws with
  | nil => cases h
  | cons w r =>
    have h : (match take c p (seenOf p st sn) w with
      | some c => takes c ps (stOf p st) (snOf p sn) r
      | none => none) = some d := h
    split at h
    · rename_i c1 h1
      exact ⟨w, r, c1, rfl, h1, h⟩
    · cases h
/-- the kinds of calls, and what follows their words. -/
def shapes : List (Nat × List Part) := [(1, [.t, .n]), (2, [.n]), (3, [.n, .n]), (4, [.n, .t]), (5, [.n, .n]), (6, [.n, .n]), (7, [.t]), (8, [.t]), (9, [.t, .t]), (10, [.t]), (11, [.t, .t]), (12, [.t]), (13, [.t]), (14, [.n]), (15, [.t, .f]), (16, [.n]), (17, []), (18, []), (19, []), (20, [])]
theorem back {k : Nat} {ps : List Part} (hs : (k, ps) ∈ shapes) {d : CallV} {ws : List (List UInt8)} (hl : ws.length = ps.length) (h : takes { kind := k } ps 0 0 ws = some d) : lays d ps 0 0 = ws := by
  simp only [shapes, List.mem_cons, Prod.mk.injEq, List.not_mem_nil, or_false] at hs
  have e0 : ∀ {l : List (List UInt8)}, l.length = 0 → l = [] := fun h => List.eq_nil_of_length_eq_zero h
  rcases hs with ⟨rfl, rfl⟩ | ⟨rfl, rfl⟩ | ⟨rfl, rfl⟩ | ⟨rfl, rfl⟩ | ⟨rfl, rfl⟩ | ⟨rfl, rfl⟩ | ⟨rfl, rfl⟩ | ⟨rfl, rfl⟩ | ⟨rfl, rfl⟩ | ⟨rfl, rfl⟩ | ⟨rfl, rfl⟩ | ⟨rfl, rfl⟩ | ⟨rfl, rfl⟩ | ⟨rfl, rfl⟩ | ⟨rfl, rfl⟩ | ⟨rfl, rfl⟩ | ⟨rfl, rfl⟩ | ⟨rfl, rfl⟩ | ⟨rfl, rfl⟩ | ⟨rfl, rfl⟩
  all_goals first
    | (have := e0 hl; subst this; rfl)
    | (obtain ⟨w, r, c1, rfl, h1, h2⟩ := takes_cons h
       obtain rfl := takes_nil h2
       have := e0 (l := r) (by simpa using hl)
       subst this
       first
         | (obtain ⟨s, _, q, rfl⟩ := take_t h1
            simp [lays, lay, seenOf, q])
         | (obtain ⟨s, _, q, rfl⟩ := take_n h1
            simp [lays, lay, seenOf, q]))
    | (obtain ⟨w, r, c1, rfl, h1, h2⟩ := takes_cons h
       obtain ⟨w2, r2, c2, rfl, h3, h4⟩ := takes_cons h2
       obtain rfl := takes_nil h4
       have := e0 (l := r2) (by simpa using hl)
       subst this
       first
         | (obtain ⟨s, _, q, rfl⟩ := take_t h1
            obtain ⟨s2, _, q2, rfl⟩ := take_n h3
            simp [lays, lay, seenOf, snOf, q, q2])
         | (obtain ⟨s, _, q, rfl⟩ := take_n h1
            obtain ⟨s2, _, q2, rfl⟩ := take_n h3
            simp [lays, lay, seenOf, snOf, q, q2])
         | (obtain ⟨s, _, q, rfl⟩ := take_n h1
            obtain ⟨s2, _, q2, rfl⟩ := take_t h3
            simp [lays, lay, seenOf, q, q2])
         | (obtain ⟨s, _, q, rfl⟩ := take_t h1
            obtain ⟨s2, _, q2, rfl⟩ := take_t h3
            simp [lays, lay, seenOf, stOf, q, q2])
         | (obtain ⟨s, _, q, rfl⟩ := take_t h1
            obtain ⟨b, q2, rfl⟩ := take_f h3
            simp [lays, lay, seenOf, q, q2]))
end Go.Desk
namespace Go.Desk
open Go.Lib

def forms : List Form := [
  ⟨1, [111, 112, 101, 110], [.t, .n]⟩, ⟨2, [99, 108, 111, 115, 101], [.n]⟩, ⟨3, [114, 101, 97, 100], [.n, .n]⟩, ⟨4, [119, 114, 105, 116, 101], [.n, .t]⟩,
  ⟨5, [115, 101, 101, 107], [.n, .n]⟩, ⟨6, [114, 101, 115, 105, 122, 101], [.n, .n]⟩, ⟨7, [109, 107, 100, 105, 114], [.t]⟩, ⟨8, [114, 109, 100, 105, 114], [.t]⟩,
  ⟨9, [108, 105, 110, 107], [.t, .t]⟩, ⟨10, [117, 110, 108, 105, 110, 107], [.t]⟩, ⟨11, [114, 101, 110, 97, 109, 101], [.t, .t]⟩, ⟨12, [108, 105, 115, 116], [.t]⟩,
  ⟨13, [115, 116, 97, 116], [.t]⟩, ⟨14, [102, 115, 116, 97, 116], [.n]⟩, ⟨15, [112, 105, 110], [.t, .f]⟩, ⟨16, [102, 115, 121, 110, 99], [.n]⟩,
  ⟨17, [115, 121, 110, 99], []⟩, ⟨18, [117, 115, 97, 103, 101], []⟩, ⟨19, [115, 108, 105, 100, 101], []⟩, ⟨20, [114, 101, 112, 111, 114, 116], []⟩]
theorem forms_shapes : forms.map (fun f => (f.kind, f.parts)) = shapes := rfl
theorem form_shape {f : Form} (h : f ∈ forms) : (f.kind, f.parts) ∈ shapes := by
  rw [← forms_shapes]
  exact List.mem_map.2 ⟨f, h, rfl⟩
/-- the first of some forms whose word, and whose number of words, are so. -/
def formOf (w : List UInt8) (k : Nat) : List Form → Option Form
  | [] => none
  | f :: r => if f.word = w ∧ k = f.parts.length then some f else formOf w k r
def deskRead (line : List UInt8) : Option CallV := match words line with
  | [] => none
  | w :: ws => match formOf w ws.length forms with
    | some f => takes { kind := f.kind } f.parts 0 0 ws
    | none => none
def kindForm (k : Nat) : List Form → Option Form
  | [] => none
  | f :: r => if f.kind = k then some f else kindForm k r
/-- the line of a call: as it is laid; whether it is one. -/
def lineOf (c : CallV) : Option (List UInt8) := (kindForm c.kind forms).map fun f => joinW (f.word :: lays c f.parts 0 0)
theorem formOf_some {w : List UInt8} {k : Nat} {l : List Form} {f : Form} (h : formOf w k l = some f) : f ∈ l ∧ f.word = w ∧ k = f.parts.length := by
  induction l with
  | nil => cases h
  | cons g r ih =>
    unfold formOf at h
    split at h
    · rename_i hc
      injection h with h
      subst h
      exact ⟨List.mem_cons_self .., hc.1, hc.2⟩
    · obtain ⟨h1, h2⟩ := ih h
      exact ⟨List.mem_cons_of_mem _ h1, h2⟩
theorem takes_kind {c d : CallV} {ps : List Part} {st sn : Nat} {ws : List (List UInt8)} (h : takes c ps st sn ws = some d) : d.kind = c.kind := by
  induction ps generalizing c st sn ws with
  | nil => rw [takes_nil h]
  | cons p ps ih =>
    obtain ⟨w, r, c1, rfl, h1, h2⟩ := takes_cons h
    rw [ih h2, take_kind h1]
theorem kindForm_of {f : Form} (h : f ∈ forms) : kindForm f.kind forms = some f := by
  simp only [forms, List.mem_cons, List.not_mem_nil, or_false] at h
  rcases h with rfl | rfl | rfl | rfl | rfl | rfl | rfl | rfl | rfl | rfl | rfl | rfl | rfl | rfl | rfl | rfl | rfl | rfl | rfl | rfl <;> rfl
/-- the line that is read is the line that is written. -/
theorem read_line {line : List UInt8} {c : CallV} (h : deskRead line = some c) : lineOf c = some line := by
  unfold deskRead at h
  split at h
  · cases h
  · rename_i w ws hw
    split at h
    · rename_i f hf
      obtain ⟨h1, h2, h3⟩ := formOf_some hf
      have hb := back (form_shape h1) h3 h
      have hk := takes_kind h
      unfold lineOf
      rw [hk, kindForm_of h1]
      show some (joinW (f.word :: lays c f.parts 0 0)) = _
      rw [hb, h2, ← hw, join_words]
    · cases h
end Go.Desk
namespace Go.Desk
open Go.Lib

/-- of a word: its kind, how many texts, how many numbers, whether a number comes first. -/
def refTab : List (List UInt8 × Nat × Nat × Nat × Bool) := [
  ([111, 112, 101, 110], 1, 1, 1, false), ([99, 108, 111, 115, 101], 2, 0, 1, true), ([114, 101, 97, 100], 3, 0, 2, true), ([119, 114, 105, 116, 101], 4, 1, 1, true),
  ([115, 101, 101, 107], 5, 0, 2, true), ([114, 101, 115, 105, 122, 101], 6, 0, 2, true), ([109, 107, 100, 105, 114], 7, 1, 0, false), ([114, 109, 100, 105, 114], 8, 1, 0, false),
  ([108, 105, 110, 107], 9, 2, 0, false), ([117, 110, 108, 105, 110, 107], 10, 1, 0, false), ([114, 101, 110, 97, 109, 101], 11, 2, 0, false), ([108, 105, 115, 116], 12, 1, 0, false),
  ([115, 116, 97, 116], 13, 1, 0, false), ([102, 115, 116, 97, 116], 14, 0, 1, true), ([112, 105, 110], 15, 1, 0, false), ([102, 115, 121, 110, 99], 16, 0, 1, true),
  ([115, 121, 110, 99], 17, 0, 0, false), ([117, 115, 97, 103, 101], 18, 0, 0, false), ([115, 108, 105, 100, 101], 19, 0, 0, false), ([114, 101, 112, 111, 114, 116], 20, 0, 0, false)]
def refKind (w : List UInt8) : List (List UInt8 × Nat × Nat × Nat × Bool) → Option (Nat × Nat × Nat × Bool)
  | [] => none
  | x :: r => if x.1 = w then some x.2 else refKind w r
def flagOf (k : Nat) : Nat := if k = 15 then 1 else 0
def partsOf (k t n : Nat) (first : Bool) : List Part := (if first then [.n] else []) ++ List.replicate t .t ++ (if (if first then n - 1 else n) > 0 then [.n] else []) ++ (if k = 15 then [.f] else [])
def refRead (line : List UInt8) : Option CallV := match words line with
  | [] => none
  | w :: ws => match refKind w refTab with
    | some x => if ws.length = x.2.1 + x.2.2.1 + flagOf x.1 then takes { kind := x.1 } (partsOf x.1 x.2.1 x.2.2.1 x.2.2.2) 0 0 ws else none
    | none => none
/-- row by row the same. -/
def rowsB : List Form → List (List UInt8 × Nat × Nat × Nat × Bool) → Bool
  | [], [] => true
  | f :: r, x :: s => decide (f.word = x.1) && decide (f.kind = x.2.1) && decide (f.parts = partsOf x.2.1 x.2.2.1 x.2.2.2.1 x.2.2.2.2) && decide (f.parts.length = x.2.2.1 + x.2.2.2.1 + flagOf x.2.1) && rowsB r s && r.all (fun g => decide (g.word ≠ f.word))
  | _, _ => false
theorem rows_ok : rowsB forms refTab = true := by decide
theorem formOf_none {w : List UInt8} {k : Nat} {l : List Form} (h : l.all (fun g => decide (g.word ≠ w)) = true) : formOf w k l = none := by
  induction l with
  | nil => rfl
  | cons g r ih =>
    simp only [List.all_cons, Bool.and_eq_true, decide_eq_true_eq] at h
    unfold formOf
    rw [if_neg fun e => h.1 e.1]
    exact ih h.2
theorem same_rows {l : List Form} {t : List (List UInt8 × Nat × Nat × Nat × Bool)} (h : rowsB l t = true) (w : List UInt8) (ws : List (List UInt8)) :
    (match refKind w t with
      | some x => if ws.length = x.2.1 + x.2.2.1 + flagOf x.1 then takes { kind := x.1 } (partsOf x.1 x.2.1 x.2.2.1 x.2.2.2) 0 0 ws else none
      | none => none) = (match formOf w ws.length l with
      | some f => takes { kind := f.kind } f.parts 0 0 ws
      | none => none) := by
  induction l generalizing t with
  | nil =>
    cases t with
    | nil => rfl
    | cons x s => cases h
  | cons f r ih =>
    cases t with
    | nil => cases h
    | cons x s =>
      simp only [rowsB, Bool.and_eq_true, decide_eq_true_eq] at h
      obtain ⟨⟨⟨⟨⟨h1, h2⟩, h3⟩, h4⟩, h5⟩, h6⟩ := h
      unfold refKind formOf
      by_cases hw : x.1 = w
      · rw [if_pos hw]
        have hfw : f.word = w := by rw [h1, hw]
        by_cases hl : ws.length = f.parts.length
        · rw [if_pos ⟨hfw, hl⟩]
          dsimp only
          rw [if_pos (by rw [hl, h4]), h2, h3]
        · rw [if_neg fun e => hl e.2]
          rw [formOf_none (by rw [← hfw]; exact h6)]
          dsimp only
          rw [if_neg fun e => hl (by rw [e, h4])]
      · rw [if_neg hw, if_neg fun e => hw (by rw [← h1]; exact e.1)]
        exact ih h5
theorem refRead_eq (line : List UInt8) : refRead line = deskRead line := by
  unfold refRead deskRead
  cases words line with
  | nil => rfl
  | cons w ws => exact same_rows rows_ok w ws
end Go.Desk
namespace Go.Desk
open Go.Lib

def partB : Part → UInt8
  | .t => 116
  | .n => 110
  | .f => 102
/-- what words lay, from a part on: the rest, with the counts of texts and numbers seen. -/
theorem takes_step {c c1 : CallV} {p : Part} {ps : List Part} {st sn : Nat} {w : List UInt8} {ws : List (List UInt8)} (h : take c p (seenOf p st sn) w = some c1) : takes c (p :: ps) st sn (w :: ws) = takes c1 ps (stOf p st) (snOf p sn) ws := by
  show (match take c p (seenOf p st sn) w with
    | some c => takes c ps (stOf p st) (snOf p sn) ws
    | none => none) = _
  rw [h]
theorem takes_stop {c : CallV} {p : Part} {ps : List Part} {st sn : Nat} {w : List UInt8} {ws : List (List UInt8)} (h : take c p (seenOf p st sn) w = none) : takes c (p :: ps) st sn (w :: ws) = none := by
  show (match take c p (seenOf p st sn) w with
    | some c => takes c ps (stOf p st) (snOf p sn) ws
    | none => none) = _
  rw [h]
/-- the lines of words, behind a beginning. -/
def tailW : List (List UInt8) → List UInt8
  | [] => []
  | w :: ws => 32 :: w ++ tailW ws
theorem joinW_tail (w : List UInt8) (ws : List (List UInt8)) : joinW (w :: ws) = w ++ tailW ws := by
  induction ws generalizing w with
  | nil => simp [joinW, tailW]
  | cons v vs ih =>
    show w ++ 32 :: joinW (v :: vs) = w ++ (32 :: v ++ tailW vs)
    rw [ih v]
    rfl
theorem tailW_app (ws vs : List (List UInt8)) : tailW (ws ++ vs) = tailW ws ++ tailW vs := by
  induction ws with
  | nil => rfl
  | cons w ws ih =>
    show 32 :: w ++ tailW (ws ++ vs) = (32 :: w ++ tailW ws) ++ tailW vs
    rw [ih, List.append_assoc]
/-- the first form that fits, by its place. -/
theorem formOf_drop {w : List UInt8} {k j : Nat} {l : List Form} (hj : j ≤ l.length) (h : ∀ i (hi : i < j), ¬ ((l[i]'(by omega)).word = w ∧ k = (l[i]'(by omega)).parts.length)) : formOf w k l = formOf w k (l.drop j) := by
  induction j generalizing l with
  | zero => rfl
  | succ j ih =>
    cases l with
    | nil => simp at hj
    | cons f r =>
      have h0 : ¬ (f.word = w ∧ k = f.parts.length) := h 0 (by omega)
      rw [formOf, if_neg h0]
      show formOf w k r = formOf w k (r.drop j)
      exact ih (by simpa using hj) fun i hi => h (i + 1) (by omega)
theorem formOf_hit {w : List UInt8} {k : Nat} {f : Form} {r : List Form} (h : f.word = w ∧ k = f.parts.length) : formOf w k (f :: r) = some f := by
  rw [formOf, if_pos h]
theorem kindForm_drop {k j : Nat} {l : List Form} (hj : j ≤ l.length) (h : ∀ i (hi : i < j), ¬ (l[i]'(by omega)).kind = k) : kindForm k l = kindForm k (l.drop j) := by
  induction j generalizing l with
  | zero => rfl
  | succ j ih =>
    cases l with
    | nil => simp at hj
    | cons f r =>
      have h0 : ¬ f.kind = k := h 0 (by omega)
      rw [kindForm, if_neg h0]
      show kindForm k r = kindForm k (r.drop j)
      exact ih (by simpa using hj) fun i hi => h (i + 1) (by omega)
/-- the words that are laid, part by part. -/
theorem lays_cons (c : CallV) (p : Part) (ps : List Part) (st sn : Nat) : lays c (p :: ps) st sn = lay c p (seenOf p st sn) :: lays c ps (stOf p st) (snOf p sn) := rfl
theorem lays_len (c : CallV) (ps : List Part) (st sn : Nat) : (lays c ps st sn).length = ps.length := by
  induction ps generalizing st sn with
  | nil => rfl
  | cons p ps ih => simp [lays, ih]
end Go.Desk
namespace Go.Desk
open Go.Lib
theorem wr1_len (c : UInt8) : (wr1 c).length ≤ 3 := by unfold wr1; split <;> simp
theorem wrs_le (l : List UInt8) : (wrs l).length ≤ 3 * l.length := by
  induction l with
  | nil => exact Nat.le_refl _
  | cons c r ih =>
    have e : wrs (c :: r) = wr1 c ++ wrs r := rfl
    rw [e, List.length_append, List.length_cons]
    have := wr1_len c
    omega
theorem wr_le (l : List UInt8) : (wr l).length ≤ 3 * l.length + 1 := by
  unfold wr
  split
  · simp
  · have := wrs_le l
    omega
theorem itoa_len {n : Int} (h0 : -9223372036854775808 ≤ n) (h1 : n ≤ 9223372036854775807) : (itoa n).length ≤ 21 := by
  have key : ∀ u : Nat, u < 10 ^ 20 → (decDigits u).length ≤ 20 := fun u hu => by
    obtain ⟨k1, k2⟩ := dec_ok u
    exact len_le k1 (by omega) (by rw [k2]; exact hu)
  by_cases hn : n < 0
  · obtain ⟨u, rfl⟩ : ∃ u : Nat, n = -(u : Int) := ⟨n.natAbs, by omega⟩
    rw [itoa_neg u (by omega)]
    have := key u (by omega)
    simp
    omega
  · obtain ⟨u, rfl⟩ : ∃ u : Nat, n = (u : Int) := ⟨n.toNat, by omega⟩
    rw [itoa_nonneg]
    have := key u (by omega)
    omega
/-- a call whose texts are short, whose numbers a machine holds. -/
structure Small (c : CallV) : Prop where
  path : c.path.length ≤ 3000
  other : c.other.length ≤ 3000
  data : c.data.length ≤ 3000
  fd0 : -9223372036854775808 ≤ c.fd
  fd1 : c.fd ≤ 9223372036854775807
  n0 : -9223372036854775808 ≤ c.n
  n1 : c.n ≤ 9223372036854775807
theorem lay_len {c : CallV} (h : Small c) (p : Part) (s : Nat) : (lay c p s).length ≤ 9001 := by
  have e1 := wr_le c.path
  have e2 := wr_le c.other
  have e3 := wr_le c.data
  have := h.path
  have := h.other
  have := h.data
  have := itoa_len h.fd0 h.fd1
  have := itoa_len h.n0 h.n1
  unfold lay
  cases p with
  | t => dsimp only; split <;> (try split) <;> omega
  | n => dsimp only; split <;> omega
  | f => dsimp only; split <;> decide
theorem lays_small {c : CallV} (h : Small c) (ps : List Part) (st sn : Nat) : (tailW (lays c ps st sn)).length ≤ 9002 * ps.length := by
  induction ps generalizing st sn with
  | nil => exact Nat.le_refl _
  | cons p ps ih =>
    have e := lay_len h p (seenOf p st sn)
    have := ih (stOf p st) (snOf p sn)
    rw [lays_cons]
    show (32 :: lay c p (seenOf p st sn) ++ tailW _).length ≤ _
    simp only [List.length_append, List.length_cons]
    omega
theorem tail_take {c : CallV} (h : Small c) (ps : List Part) (st sn : Nat) (i : Nat) : (tailW ((lays c ps st sn).take i)).length ≤ 9002 * ps.length := by
  induction ps generalizing st sn i with
  | nil => simp [lays, tailW]
  | cons p ps ih =>
    cases i with
    | zero => simp [tailW]
    | succ i =>
      have e := lay_len h p (seenOf p st sn)
      have := ih (stOf p st) (snOf p sn) i
      rw [lays_cons]
      show (32 :: lay c p (seenOf p st sn) ++ tailW _).length ≤ _
      simp only [List.length_append, List.length_cons]
      omega
end Go.Desk
namespace Go.Desk
open Go.Lib
theorem wrs_ge (l : List UInt8) : l.length ≤ (wrs l).length := by
  induction l with
  | nil => exact Nat.le_refl _
  | cons c r ih =>
    have e : wrs (c :: r) = wr1 c ++ wrs r := rfl
    rw [e, List.length_append, List.length_cons]
    have : 1 ≤ (wr1 c).length := by unfold wr1; split <;> simp
    omega
theorem meant_short {w s : List UInt8} (h : meant w = some s) : s.length ≤ w.length := by
  have h1 := meant_wr h
  rw [← h1]
  unfold wr
  split
  · rename_i e; rw [e]; simp
  · exact wrs_ge s
theorem take_small {c d : CallV} {p : Part} {st : Nat} {x : List UInt8} (hc : Small c) (hx : x.length ≤ 3000) (h : take c p st x = some d) : Small d := by
  cases p with
  | t =>
    obtain ⟨s, h1, _, rfl⟩ := take_t h
    have := meant_short h1
    split
    · exact ⟨hc.path, hc.other, by show s.length ≤ 3000; omega, hc.fd0, hc.fd1, hc.n0, hc.n1⟩
    · split
      · exact ⟨by show s.length ≤ 3000; omega, hc.other, hc.data, hc.fd0, hc.fd1, hc.n0, hc.n1⟩
      · exact ⟨hc.path, by show s.length ≤ 3000; omega, hc.data, hc.fd0, hc.fd1, hc.n0, hc.n1⟩
  | n =>
    obtain ⟨v, h1, _, rfl⟩ := take_n h
    obtain ⟨_, h2, h3⟩ := refNum_iff.1 h1
    split
    · exact ⟨hc.path, hc.other, hc.data, by show _ ≤ v; omega, by show v ≤ _; omega, hc.n0, hc.n1⟩
    · exact ⟨hc.path, hc.other, hc.data, hc.fd0, hc.fd1, by show _ ≤ v; omega, by show v ≤ _; omega⟩
  | f =>
    obtain ⟨b, _, rfl⟩ := take_f h
    exact ⟨hc.path, hc.other, hc.data, hc.fd0, hc.fd1, hc.n0, hc.n1⟩
theorem takes_small {ps : List Part} : ∀ {c d : CallV} {st sn : Nat} {ws : List (List UInt8)}, Small c → (∀ x ∈ ws, x.length ≤ 3000) → takes c ps st sn ws = some d → Small d := by
  induction ps with
  | nil => intro c d st sn ws hc _ h; rw [takes_nil h]; exact hc
  | cons p ps ih =>
    intro c d st sn ws hc hx h
    obtain ⟨w, r, c1, rfl, h1, h2⟩ := takes_cons h
    exact ih (take_small hc (hx w (List.mem_cons_self ..)) h1) (fun x h => hx x (List.mem_cons_of_mem _ h)) h2
theorem words_le (l : List UInt8) : ∀ x ∈ words l, x.length ≤ l.length := by
  induction l with
  | nil => intro x hx; simp [words] at hx; simp [hx]
  | cons c r ih =>
    intro x hx
    unfold words at hx
    split at hx
    · rcases List.mem_cons.1 hx with rfl | hx
      · simp
      · have := ih x hx
        simp; omega
    · split at hx
      · rename_i w ws hw
        rcases List.mem_cons.1 hx with rfl | hx
        · have := ih w (by rw [hw]; exact List.mem_cons_self ..)
          simp; omega
        · have := ih x (by rw [hw]; exact List.mem_cons_of_mem _ hx)
          simp; omega
      · simp at hx
        subst hx
        simp
theorem read_small {l : List UInt8} {d : CallV} (hl : l.length ≤ 3000) (h : deskRead l = some d) : Small d ∧ 1 ≤ d.kind ∧ ∃ f, kindForm d.kind forms = some f ∧ joinW (f.word :: lays d f.parts 0 0) = l := by
  have hline := read_line h
  unfold deskRead at h
  split at h
  · cases h
  · rename_i w ws hw
    split at h
    · rename_i f hf
      obtain ⟨h1, h2, h3⟩ := formOf_some hf
      have hk := takes_kind h
      refine ⟨takes_small ⟨by simp, by simp, by simp, by simp, by simp, by simp, by simp⟩ (fun x hx => ?_) h, ?_, ?_⟩
      · have := words_le l x (by rw [hw]; exact List.mem_cons_of_mem _ hx)
        omega
      · rw [hk]
        have : ∀ f ∈ forms, 1 ≤ f.kind := by decide
        exact this f h1
      · unfold lineOf at hline
        rw [Option.map_eq_some_iff] at hline
        exact hline
    · cases h
end Go.Desk
