/- Plain facts on marks; the reference's Check. -/
import Derived.Test.YtkifpnhijdcjlaaI2
import Derived.Test.YtkifpnhijdcjlaaM2
namespace Go.Proofs.Ytkifpnhijdcjlaa
open Go.RowKit

def At (p : Int × Int) (j : Nat) : Prop := p.1 ≤ (j : Int) ∧ (j : Int) < p.1 + p.2

theorem pinL_miss {f : Nat → Int} {l : RunL} {j : Nat} (h : ∀ q ∈ l, ¬ At q j) : pinL f l j = f j := by
  induction l generalizing f with
  | nil => rfl
  | cons p t ih =>
    rw [pinL, ih fun q hq => h q (List.mem_cons_of_mem _ hq)]
    exact if_neg (h p List.mem_cons_self)
theorem pinL_keep {f : Nat → Int} {l : RunL} {j : Nat} (h : f j = -1) : pinL f l j = -1 := by
  induction l generalizing f with
  | nil => exact h
  | cons p t ih =>
    rw [pinL]; apply ih; unfold painted; split <;> first | rfl | exact h
theorem pinL_hit {f : Nat → Int} {l : RunL} {j : Nat} {q : Int × Int} (hq : q ∈ l) (h : At q j) : pinL f l j = -1 := by
  induction l generalizing f with
  | nil => cases hq
  | cons p t ih =>
    rw [pinL]
    rcases List.mem_cons.1 hq with rfl | hq
    · exact pinL_keep (if_pos h)
    · exact ih hq
theorem markL_miss {f : Nat → Int} {k : Int} {l : RunL} {j : Nat} (h : ∀ q ∈ l, ¬ At q j) : markL f k l j = f j := by
  induction l generalizing f k with
  | nil => rfl
  | cons p t ih =>
    rw [markL, ih fun q hq => h q (List.mem_cons_of_mem _ hq)]
    exact if_neg (h p List.mem_cons_self)
theorem markL_hit {f : Nat → Int} {k a n : Int} {l : RunL} {i j : Nat} {p : Int × Int} (hr : rising a n l = true) (hp : l[i]? = some p) (h : At p j) : markL f k l j = k + i := by
  induction l generalizing f k a i with
  | nil => simp at hp
  | cons r t ih =>
    obtain ⟨h1, h2, h3, h4⟩ := rising_cons hr
    rw [markL]
    cases i with
    | zero =>
      simp at hp; subst hp
      rw [markL_miss]
      · unfold painted; unfold At at h; rw [if_pos h]; simp
      · intro q hq hh
        obtain ⟨i, hi⟩ := List.getElem?_of_mem hq
        have := rising_get h4 hi
        unfold At at h hh; omega
    | succ i =>
      rw [ih h4 (by simpa using hp)]; omega
theorem rising_less {a b n : Int} {l : RunL} (h : rising a n l = true) (hb : b ≤ a) : rising b n l = true := by
  cases l with
  | nil => rfl
  | cons r t =>
    obtain ⟨h1, h2, h3, h4⟩ := rising_cons h
    rw [rising, if_neg (by omega)]; exact h4
theorem rising_len {a n : Int} {l : RunL} (h : rising a n l = true) (ha : a ≤ n) : (l.length : Int) ≤ n - a := by
  induction l generalizing a with
  | nil => simp; omega
  | cons r t ih =>
    obtain ⟨h1, h2, h3, h4⟩ := rising_cons h
    have := ih h4 h3
    simp; omega

theorem marks_over {ps qs : RunL} {q : Int × Int} {j : Nat} (hq : q ∈ qs) (h : At q j) (hF : ¬ markL (fun _ => 0) 1 ps j = 0) : ps.all (clears qs) = false := by
  rw [Bool.eq_false_iff]; intro hall
  apply hF
  refine markL_miss fun p hp hh => ?_
  have := List.all_eq_true.1 hall p hp
  unfold clears at this
  have := apart_iff.1 (List.all_eq_true.1 this q hq)
  unfold At at h hh; omega
theorem marks_free {first n : Int} {ps qs : RunL} (h0 : 0 ≤ first) (r1 : rising first n ps = true) (r2 : rising first n qs = true)
    (h : ∀ (i : Nat) (q : Int × Int), qs[i]? = some q → ∀ j : Nat, At q j → markL (fun _ => 0) 1 ps j = 0) : ps.all (clears qs) = true := by
  refine List.all_eq_true.2 fun p hp => List.all_eq_true.2 fun q hq => apart_iff.2 ?_
  obtain ⟨i, hi⟩ := List.getElem?_of_mem hp
  obtain ⟨k, hk⟩ := List.getElem?_of_mem hq
  have := rising_get r1 hi
  have := rising_get r2 hk
  apply Decidable.byContradiction; intro hc
  obtain ⟨j, hj⟩ : ∃ j : Nat, (j : Int) = max p.1 q.1 := ⟨(max p.1 q.1).toNat, by omega⟩
  have h1 := h k q hk j (by unfold At; omega)
  rw [markL_hit r1 hi (by unfold At; omega)] at h1
  omega

set_option maxHeartbeats 4000000 in
theorem refCheck_main (first : Int) (n : Nat) (A : Option Addr) (m c : Nat) (ps : RunL) (B : Option Addr) (l d : Nat) (qs : RunL) (w : World) (h0 : 0 ≤ first) (h1 : first ≤ n) (h2 : n ≤ 4096)
    (hr : Runs w w.heap.size A m ps) (hq : Runs w w.heap.size B l qs) (hm : m ≤ 4096) (hl : l ≤ 4096) (hp : rising first n ps = true) (hp2 : rising first n qs = true) :
    Calls Try.prog 24 #[.int .i64 first, .int .i64 (n : Int), .slice A m c, .slice B l d] w fun e w' => e = .returned (.int .i64 (errB (ps.all (clears qs)))) ∧ Below w.heap.size w w' := by
  have Hp := Lib.hid hp
  have Hp2 := Lib.hid hp2
  go_enter Try.func24, Try.ntmps24
  go_wp2_with fail
  refine (Row_any first n A m c ps _ h0 (by omega) h1 hr (by unfold maxLen; omega)).mono ?_
  rw [hp]
  rintro e w1 ⟨rfl, q1, rfl⟩
  go_wp2_with fail
  refine (Row_any first n B l d qs (w.drewN q1) h0 (by omega) h1 hq (by unfold maxLen; omega)).mono ?_
  rw [hp2]
  rintro e w1 ⟨rfl, q2, rfl⟩
  clear hp hp2
  go_wp2_with fail
  refine (Marks_any n A m c ps none 0 0 [] (w.drewN (q1 + q2)) h2 hr ⟨rfl, fun i x hx => by simp at hx⟩ hm (by omega) (rising_less Hp.out h0) rfl).mono ?_
  rintro e w3 ⟨g, rfl, hg, HI, hb⟩
  have HI' : Hid (Ints w3 g n (markL (fun _ => 0) 1 ps)) := HI
  clear HI
  have hb0 : Below w.heap.size w w3 := (below_drewN (Below.refl _ _) _).trans hb
  clear hb
  go_wp2_with fail
  obtain ⟨F, hF⟩ : ∃ F, F = markL (fun _ => 0) 1 ps := ⟨_, rfl⟩
  rw [← hF] at HI'
  have HF := Lib.hid hF; clear hF
  go_loopw [10] (fun i wr => ∃ (k : Nat), k ≤ l ∧ i = .int .i64 k ∧ Hid (∀ (i : Nat) (q : Int × Int), i < k → qs[i]? = some q → ∀ j : Nat, At q j → F j = 0) ∧ ∃ z, wr = w3.drewN z) (fun i _ => l - (intOf i).toNat)
  case atStart => exact ⟨0, Nat.zero_le _, rfl, fun i q hi => absurd hi (Nat.not_lt_zero _), 0, rfl⟩
  case round =>
    obtain ⟨k, hk, rfl, HA, z, rfl⟩ := hrel
    by_cases hlt : k < l
    · obtain ⟨x1, x2, b, o, hx, wf1, wf2, wf3, wf4, rfl, hbB, e0, e1⟩ := (hq.below hb0 (Nat.le_refl _)).at_ hlt
      have hd := rising_get Hp2.out hx
      dsimp only at hd
      obtain ⟨hd1, hd2, hd3⟩ := hd
      have Hx := Lib.hid hx; clear hx
      go_wp2_with fail
      obtain ⟨s1, rfl⟩ : ∃ s1 : Nat, x1 = (s1 : Int) := ⟨x1.toNat, by omega⟩
      go_loopw [11] (fun v wr => ∃ (q : Nat), v = .int .i64 (q : Int) ∧ (s1 : Int) ≤ (q : Int) ∧ (q : Int) ≤ (s1 : Int) + x2 ∧ Hid (∀ j : Nat, (s1 : Int) ≤ j → (j : Int) < q → F j = 0) ∧ ∃ z, wr = w3.drewN z) (fun v _ => ((s1 : Int) + x2 - intOf v).toNat)
      case atStart => exact ⟨s1, rfl, by omega, by omega, fun j hj1 hj2 => by omega, z, rfl⟩
      case round =>
        clear z
        obtain ⟨q, rfl, hq1, hq2, HB, z, rfl⟩ := hrel
        by_cases hlq : (q : Int) < (s1 : Int) + x2
        · have d1 := decide_eq_true hlq
          obtain ⟨g0, g1⟩ := HI'.out.get (i := q) (by omega)
          by_cases hz : F q = 0
          · have Hz := Lib.hid hz
            rw [hz] at g0
            clear hz
            go_wp2_with fail
            go_quiet (fail)
            go_wp2_with fail
            go_roundw
            case rel => exact ⟨q + 1, by go_num, by omega, by omega, fun j hj1 hj2 => (by by_cases hjq : j = q; { rw [hjq]; exact Hz.out }; { exact HB.out j hj1 (by omega) }), _, by go_simp; rfl⟩
            case measure => simp [intOf]; omega
          · have Hz := Lib.hid hz
            obtain ⟨u, hu⟩ : ∃ u, F q = u := ⟨_, rfl⟩
            rw [hu] at g0 hz
            clear hu
            have d2 := decide_eq_false hz
            have hf : Hid (ps.all (clears qs) = false) := marks_over (List.mem_of_getElem? Hx.out) (j := q) ⟨hq1, hlq⟩ (HF.out ▸ Hz.out)
            go_wp2_with fail
            go_quiet (fail)
            go_wp2_with fail
            go_ret
            exact ⟨by rw [hf.out]; rfl, by go_simp; exact below_drewN hb0 _⟩
        · have d1 := decide_eq_false hlq
          have hqe : (q : Int) = (s1 : Int) + x2 := by omega
          have HA' : Hid (∀ (i : Nat) (q : Int × Int), i < k + 1 → qs[i]? = some q → ∀ j : Nat, At q j → F j = 0) := by
            intro i y hi hy j hj
            by_cases hik : i = k
            · subst hik
              rw [Hx.out] at hy; injection hy with hy; subst hy
              exact HB.out j hj.1 (by have := hj.2; dsimp only at this; omega)
            · exact HA.out i y (by omega) hy j hj
          clear hqe
          go_wp2_with fail
          go_quiet (fail)
          go_wp2_with fail
          go_roundw
          case rel => exact ⟨k + 1, by omega, by go_num, HA', _, by go_simp; rfl⟩
          case measure => simp [intOf]; omega
    · have hf : Hid (ps.all (clears qs) = true) := marks_free h0 Hp.out Hp2.out fun i q hi => HF.out ▸ HA.out i q (by have := (List.getElem?_eq_some_iff.1 hi).1; have := hq.1; omega) hi
      go_wp2_with fail
      go_ret
      exact ⟨by rw [hf.out]; rfl, below_drewN hb0 _⟩

set_option maxHeartbeats 1000000 in
theorem refCheck_any (first n : Int) (A : Option Addr) (m c : Nat) (ps : RunL) (B : Option Addr) (l d : Nat) (qs : RunL) (w : World)
    (hr : Runs w w.heap.size A m ps) (hq : Runs w w.heap.size B l qs) (hm : m ≤ 1048576) (hl : l ≤ 1048576) :
    Calls Try.prog 24 #[.int .i64 first, .int .i64 n, .slice A m c, .slice B l d] w fun e w' => e = .returned (.int .i64 (errB (checkB first n ps qs))) ∧ Below w.heap.size w w' := by
  by_cases h0 : first < 0
  · have hf : Hid (checkB first n ps qs = false) := by
      show checkB first n ps qs = false
      unfold checkB; rw [decide_eq_false (show ¬ 0 ≤ first from by omega)]; simp
    go_enter Try.func24, Try.ntmps24
    go_wp2
    go_ret
    exact ⟨by rw [hf.out]; rfl, Below.refl _ _⟩
  by_cases h1 : n < first
  · have hf : Hid (checkB first n ps qs = false) := by
      show checkB first n ps qs = false
      unfold checkB; rw [decide_eq_false (show ¬ first ≤ n from by omega)]; simp
    go_enter Try.func24, Try.ntmps24
    go_wp2
    go_ret
    exact ⟨by rw [hf.out]; rfl, Below.refl _ _⟩
  by_cases h2 : 4096 < n
  · have hf : Hid (checkB first n ps qs = false) := by
      show checkB first n ps qs = false
      unfold checkB; rw [decide_eq_false (show ¬ n ≤ 4096 from by omega)]; simp
    go_enter Try.func24, Try.ntmps24
    go_wp2
    go_ret
    exact ⟨by rw [hf.out]; rfl, Below.refl _ _⟩
  cases hp : rising first n ps
  · have hf : Hid (checkB first n ps qs = false) := by
      show checkB first n ps qs = false
      unfold checkB; rw [hp]; simp
    go_enter Try.func24, Try.ntmps24
    go_wp2_with fail
    refine (Row_any first n A m c ps _ (by omega) (by omega) (by omega) hr (by unfold maxLen; omega)).mono ?_
    rw [hp]
    rintro e w1 ⟨rfl, q1, rfl⟩
    go_wp2
    go_ret
    exact ⟨by rw [hf.out]; rfl, below_drewN (Below.refl _ _) _⟩
  cases hp2 : rising first n qs
  · have hf : Hid (checkB first n ps qs = false) := by
      show checkB first n ps qs = false
      unfold checkB; rw [hp2]; simp
    go_enter Try.func24, Try.ntmps24
    go_wp2_with fail
    refine (Row_any first n A m c ps _ (by omega) (by omega) (by omega) hr (by unfold maxLen; omega)).mono ?_
    rw [hp]
    rintro e w1 ⟨rfl, q1, rfl⟩
    go_wp2_with fail
    refine (Row_any first n B l d qs (w.drewN q1) (by omega) (by omega) (by omega) hq (by unfold maxLen; omega)).mono ?_
    rw [hp2]
    rintro e w2 ⟨rfl, q2, rfl⟩
    go_wp2
    go_ret
    exact ⟨by rw [hf.out]; rfl, below_drewN (Below.refl _ _) _⟩
  · have hf : checkB first n ps qs = ps.all (clears qs) := by
      unfold checkB; rw [hp, hp2, decide_eq_true (show 0 ≤ first from by omega), decide_eq_true (show first ≤ n from by omega), decide_eq_true (show n ≤ 4096 from by omega)]; simp
    rw [hf]
    obtain ⟨nn, rfl⟩ : ∃ nn : Nat, n = (nn : Int) := ⟨n.toNat, by omega⟩
    have l1 := rising_len hp (by omega)
    have l2 := rising_len hp2 (by omega)
    have := hr.1
    have := hq.1
    exact refCheck_main first nn A m c ps B l d qs w (by omega) (by omega) (by omega) hr hq (by omega) (by omega) hp hp2
end Go.Proofs.Ytkifpnhijdcjlaa
