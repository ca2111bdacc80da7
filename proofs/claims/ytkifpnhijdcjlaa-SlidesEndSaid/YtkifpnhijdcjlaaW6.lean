/- Walks: regions, Regions. -/
import Derived.Test.YtkifpnhijdcjlaaW5
namespace Go.Proofs.Ytkifpnhijdcjlaa
open Go.RowKit

theorem clone_any (A : Option Addr) (m c : Nat) (xs : RunL) (w : World) (hr : Runs w w.heap.size A m xs) (hm : m ≤ 1048000) :
    Calls Try.prog 42 #[.slice A m c] w fun e w' => ∃ A' c', e = .returned (.slice A' m c') ∧ Own w' w.heap.size (.slice A' m c') xs ∧ Below w.heap.size w w' := by
  rcases A with _ | a
  · have hm0 : m = 0 := by
      rcases Nat.eq_zero_or_pos m with h | h
      · exact h
      · obtain ⟨_, _, b, o, _, _, _, _, _, e, _⟩ := hr.at_ h; cases e
    have hx : xs = [] := List.eq_nil_of_length_eq_zero (by rw [← hr.1, hm0])
    subst hm0 hx
    have hn := fun w => Lib.run_eql_slice_nil (P := Try.prog) w 22 39 none 0 c 0 0 Try.underlying22
    go_enter Try.func42, Try.ntmps42
    go_wp2_with fail
    go_ret
    exact ⟨none, 0, rfl, Own.nil _ _, Below.refl _ _⟩
  · exact clone_some a m c xs w hr hm

theorem Runs.lay {w : World} {H : Nat} {a b : Int} (hH : w.heap.size = H) (h1 : -9223372036854775808 ≤ a) (h2 : a ≤ 9223372036854775807) (h3 : -9223372036854775808 ≤ b) (h4 : b ≤ 9223372036854775807) :
    Runs (w.alloc (.cells #[.int .i64 a, .int .i64 b] 39)) (w.alloc (.cells #[.int .i64 a, .int .i64 b] 39)).heap.size (some ⟨H, 0, none⟩) 1 [(a, b)] := by
  subst hH
  exact Runs.laid (heap_alloc_new w _) ⟨h1, h2⟩ ⟨h3, h4⟩

/-- the gaps ahead of each run. -/
def gaps (at_ : Int) : RunL → RunL
  | [] => []
  | p :: l => (if p.1 > at_ then [(at_, p.1 - at_)] else []) ++ gaps (p.1 + p.2) l
theorem gaps_step {a : Int} {l : RunL} {k : Nat} {x1 x2 : Int} (h : l[k]? = some (x1, x2)) : gaps a (l.drop k) = (if a < x1 then [(a, x1 - a)] else []) ++ gaps (x1 + x2) (l.drop (k + 1)) := by
  obtain ⟨hk, e⟩ := List.getElem?_eq_some_iff.1 h
  rw [List.drop_eq_getElem_cons hk, gaps, e]
theorem gaps_regions (a n : Int) (l : RunL) : gaps a (l ++ [(n, 0)]) = regionsL a n l := by
  induction l generalizing a with
  | nil => simp [gaps, regionsL]
  | cons p l ih => simp only [List.cons_append, gaps, regionsL]; rw [ih]

set_option maxHeartbeats 1000000 in
theorem regions_any (first n : Int) (B : Option Addr) (l d : Nat) (qs : RunL) (w : World) (h0 : 0 ≤ first) (h1 : first ≤ n) (h2 : n ≤ 4096)
    (hq : Runs w w.heap.size B l qs) (hl : l ≤ 1000) (hq1 : rising first n qs = true) :
    Calls Try.prog 32 #[.int .i64 first, .int .i64 n, .slice B l d] w fun e w' => ∃ A' m' c', e = .returned (.slice A' m' c') ∧ Own w' w.heap.size (.slice A' m' c') (regionsL first n qs) ∧ Below w.heap.size w w' := by
  have hqf := Lib.hid hq1
  clear hq1
  go_enter Try.func32, Try.ntmps32
  go_wp2_with fail
  refine (clone_any B l d qs _ hq (by omega)).mono ?_
  rintro e w1 ⟨A1, c1, rfl, ho1, hb1⟩
  have ho1' := ho1.alloc (.cells #[.int .i64 n, .int .i64 0] 39)
  have hlaid : Runs (w1.alloc (.cells #[.int .i64 n, .int .i64 0] 39)) (w1.alloc (.cells #[.int .i64 n, .int .i64 0] 39)).heap.size (some ⟨w1.heap.size, 0, none⟩) 1 [(n, 0)] := Runs.laid (heap_alloc_new w1 _) ⟨by omega, by omega⟩ ⟨by omega, by omega⟩
  have hsz1 := hb1.size
  go_wp2_with (at_builtin; refine wpList_app_runs rfl _ _ rfl w.heap.size (.slice A1 l c1) qs (by rfl) ho1' (some ⟨w1.heap.size, 0, none⟩) 1 1 [(n, 0)] (by rfl) hlaid (by have := hq.1; omega) (by simp; omega) ?_; intro A2 c2 w2 h1 h2 h3)
  go_wp2
  have hpe := h1.runs
  have hbw2 : Below w.heap.size w w2 := (hb1.alloc hsz1 _).grown h2 (by simp; omega) (fun g hg => ((ho1'.1.lt g hg).1))
  have hget : ∀ (k : Nat) (x1 x2 : Int), (qs ++ [(n, 0)])[k]? = some (x1, x2) → first ≤ x1 ∧ 0 ≤ x2 ∧ x1 ≤ n ∧ x1 + x2 ≤ n := fun k x1 x2 hk => by
    rcases Nat.lt_or_ge k qs.length with hlt | hge
    · rw [List.getElem?_append_left hlt] at hk
      have := rising_get hqf.out hk
      dsimp only at this; omega
    · rw [List.getElem?_append_right hge] at hk
      have hk0 := (List.getElem?_eq_some_iff.1 hk).1
      simp at hk0
      rw [hk0] at hk; simp at hk; omega
  have hLlen : qs.length = l := hq.1.symm
  have hlen : (qs ++ [(n, 0)]).length = l + 1 := by simp [hLlen]
  have hreg := Lib.hid (gaps_regions first n qs)
  generalize hpeq : qs ++ [(n, 0)] = pe at *
  rw [hLlen] at *
  have Hget := Lib.hid hget
  clear hpeq hLlen h1 h3 ho1 ho1' hlaid h2 hb1 hget
  go_loopw [7, 8, 19] (fun v t i wr => ∃ (k : Nat) (a : Int) (out : RunL) (A' : Option Addr) (c' : Nat), k ≤ l + 1 ∧ i = .int .i64 k ∧ t = .int .i64 a ∧ 0 ≤ a ∧ a ≤ n ∧ v = .slice A' out.length c' ∧ out.length ≤ k ∧
      Hid (Own wr w2.heap.size (.slice A' out.length c') out) ∧ Hid (out ++ gaps a (pe.drop k) = gaps first pe) ∧ Below w2.heap.size w2 wr) (fun _ _ i _ => l + 1 - (intOf i).toNat)
  case atStart => exact ⟨0, first, [], none, 0, by omega, rfl, rfl, h0, by assumption, rfl, by simp, Own.nil _ _, by exact rfl, Below.refl _ _⟩
  case round =>
    obtain ⟨k, a, out, A', c', hk, rfl, rfl, ha0, han, rfl, hok, Ho, Hg, hb⟩ := hrel
    by_cases hlt : k < l + 1
    · obtain ⟨x1, x2, b, o, hx, v1, v2, v3, v4, rfl, hbB, e0, e1⟩ := (hpe.below hb (Nat.le_refl _)).at_ hlt
      obtain ⟨g1, g2, g3, g4⟩ := Hget.out _ _ _ hx
      have hst := gaps_step (a := a) hx
      have Hx := Lib.hid hx
      clear hx
      have hsz := hb.size
      by_cases hgt : a < x1
      · rw [if_pos hgt] at hst
        have Hst := Lib.hid hst
        clear hst
        have hlaid := Runs.lay (w := wr.alloc (.cells #[.int .i64 x1, .int .i64 x2] 39)) (H := wr.heap.size + 1) (a := a) (b := x1 - a) (by simp) (by omega) (by omega) (by omega) (by omega)
        have ho2 := (Ho.out.alloc (.cells #[.int .i64 x1, .int .i64 x2] 39)).alloc (.cells #[.int .i64 a, .int .i64 (x1 - a)] 39)
        have hf0 : ∀ (g : Nat), (Value.slice A' out.length c').ownBlock = some g → w2.heap.size ≤ g ∧ g < wr.heap.size := Ho.out.1.lt
        have hne : some wr.heap.size ≠ (Value.slice A' out.length c').ownBlock := fun h => by have := (hf0 _ h.symm).2; omega
        have s0 : ((wr.alloc (.cells #[.int .i64 x1, .int .i64 x2] 39)).alloc (.cells #[.int .i64 a, .int .i64 (x1 - a)] 39)).cell? ⟨wr.heap.size, 0, none⟩ = some (.int .i64 x1) := by go_simp
        have s1 : ((wr.alloc (.cells #[.int .i64 x1, .int .i64 x2] 39)).alloc (.cells #[.int .i64 a, .int .i64 (x1 - a)] 39)).cell? ⟨wr.heap.size, 1, none⟩ = some (.int .i64 x2) := by go_simp
        go_wp2_with (first
          | (at_builtin; refine wpList_app_runs rfl _ _ rfl w2.heap.size (.slice A' out.length c') out (by rfl) ho2 (some ⟨wr.heap.size + 1, 0, none⟩) 1 1 [(a, x1 - a)] (by rfl) hlaid (by omega) (by simp; omega) ?_; intro A3 c3 w3 k1 k2 k3; have r0 := k2.cell s0 hne; have r1 := k2.cell s1 hne)
          | (go_at_call 36; refine (end_any _ _ _ (by omega) (by omega)).mono ?_; rintro e w4 ⟨rfl, hb4⟩))
        have hb3 : Below w2.heap.size w2 w3 := ((hb.alloc hsz _).alloc (by simp; omega) _).grown k2 (by simp; omega) (fun g hg => (hf0 g hg).1)
        go_roundw
        case rel =>
          refine ⟨k + 1, x1 + x2, out ++ [(a, x1 - a)], A3, c3, by omega, by go_num, by go_num, by omega, by omega, by simp, by simp; omega, ?_, ?_, ?_⟩
          · have h := k1.below hb4 (Nat.le_refl _)
            rw [List.length_append]; exact h
          · have := Hg.out; rw [Hst.out, ← List.append_assoc] at this; exact this
          · exact hb3.trans (hb4.mono hb3.size)
        case measure => simp [intOf]; omega
      · rw [if_neg hgt] at hst
        have Hst := Lib.hid hst
        clear hst
        go_wp2_with (go_at_call 36; refine (end_any _ _ _ (by omega) (by omega)).mono ?_; rintro e w' ⟨rfl, hb2⟩)
        go_roundw
        case rel =>
          refine ⟨k + 1, x1 + x2, out, A', c', by omega, by go_num, by go_num, by omega, by omega, rfl, by omega, ?_, ?_, ?_⟩
          · exact (Ho.out.alloc _).below hb2 (Nat.le_refl _)
          · have := Hg.out; rw [Hst.out] at this; exact this
          · exact (hb.alloc hsz _).trans (hb2.mono (by simp; omega))
        case measure => simp [intOf]; omega
    · have hd : Hid (pe.drop k = []) := List.drop_eq_nil_of_le (by omega)
      go_wp2
      go_ret
      have hfin := Hg.out
      rw [hd.out, hreg.out] at hfin
      simp only [gaps, List.append_nil] at hfin
      subst hfin
      exact ⟨A', _, c', rfl, ⟨by have := Ho.out.1; exact ⟨this.1, this.2.imp_right (fun ⟨g, cap, cur, e1, e2, e3⟩ => ⟨g, cap, cur, e1, Nat.le_trans hbw2.size e2, e3⟩)⟩, Ho.out.2⟩, hbw2.trans (hb.mono hbw2.size)⟩
end Go.Proofs.Ytkifpnhijdcjlaa
