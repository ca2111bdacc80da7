/- The sort: what it does to a row; insertion sort's walk. -/
import Derived.Test.YtkifpnhijdcjlaaW2
import Derived.Test.YtkifpnhijdcjlaaGrow
import Derived.RegionTactic
import Derived.ChangeAlike
namespace Go.Proofs.Ytkifpnhijdcjlaa
open Go.RowKit
attribute [local go_sem] ext_cell ext_frozen

def at0 (xs : RunL) (i : Nat) : Int × Int := xs.getD i (0, 0)
def swp (xs : RunL) (i j : Nat) : RunL := (xs.set i (at0 xs j)).set j (at0 xs i)
def bub (a : Nat) : Nat → RunL → RunL
  | 0, xs => xs
  | j + 1, xs => if a < j + 1 ∧ (at0 xs (j + 1)).1 < (at0 xs j).1 then bub a j (swp xs (j + 1) j) else xs
def insFrom (a : Nat) : Nat → Nat → RunL → RunL
  | _, 0, xs => xs
  | i, c + 1, xs => insFrom a (i + 1) c (bub a i xs)
def insSort (a b : Nat) (xs : RunL) : RunL := insFrom a (a + 1) (b - (a + 1)) xs
theorem swp_len (xs : RunL) (i j : Nat) : (swp xs i j).length = xs.length := by simp [swp]

abbrev rowV (g n cap : Nat) : Value := .slice (some ⟨g, 0, none⟩) n cap
theorem Own.get {w : World} {base g n cap : Nat} {xs : RunL} (h : Own w base (rowV g n cap) xs) {i : Nat} (hi : i < n) :
    w.cell? ⟨g, i * 2, none⟩ = some (.int .i64 (at0 xs i).1) ∧ w.cell? ⟨g, i * 2 + 1, none⟩ = some (.int .i64 (at0 xs i).2) ∧ w.frozen? ⟨g, i * 2, none⟩ = false ∧ w.frozen? ⟨g, i * 2 + 1, none⟩ = false ∧ I64 (at0 xs i).1 ∧ I64 (at0 xs i).2 := by
  have hr := h.runs
  obtain ⟨x1, x2, b, o, hx, u1, u2, u3, u4, e, _, c0, c1⟩ := hr.at_ hi
  injection e with e
  injection e with e1 e2
  subst e1 e2
  have ha : at0 xs i = (x1, x2) := by unfold at0; rw [List.getD_eq_getElem?_getD, hx]; rfl
  rw [ha]
  simp only [Nat.zero_add] at c0 c1
  refine ⟨c0, c1, ?_, ?_, ⟨u1, u2⟩, ⟨u3, u4⟩⟩
  all_goals
    rcases h.1.2 with ⟨e, _⟩ | ⟨g', cap', cur, e, _, hh, _⟩
    · cases e
    · injection e with e _ _
      injection e with e
      injection e with e
      subst e
      unfold World.frozen?
      rw [hh]
      simp
theorem flat_set (xs : RunL) (i : Nat) (a b : Int) (hi : i < xs.length) : flat (xs.set i (a, b)) = ((flat xs).set (i * 2) (.int .i64 a)).set (i * 2 + 1) (.int .i64 b) := by
  apply List.ext_getElem?
  intro j
  rcases Nat.mod_two_eq_zero_or_one j with h0 | h0
  · obtain ⟨k, rfl⟩ : ∃ k, j = k * 2 := ⟨j / 2, by omega⟩
    rw [flat_even]
    simp only [List.getElem?_set, flat_even, flat_length, List.length_set]
    by_cases hk : i = k
    · subst hk
      rw [if_pos rfl, if_pos hi, if_neg (by omega), if_pos rfl, if_pos (by omega)]; rfl
    · rw [if_neg hk, if_neg (by omega), if_neg (by omega)]
  · obtain ⟨k, rfl⟩ : ∃ k, j = k * 2 + 1 := ⟨j / 2, by omega⟩
    rw [flat_odd]
    simp only [List.getElem?_set, flat_odd, flat_length, List.length_set]
    by_cases hk : i = k
    · subst hk
      rw [if_pos rfl, if_pos hi, if_pos rfl, if_pos (by omega)]; rfl
    · rw [if_neg hk, if_neg (by omega), if_neg (by omega)]
theorem Own.set {w : World} {base g n cap : Nat} {xs : RunL} (h : Own w base (rowV g n cap) xs) {i : Nat} (hi : i < n) {a b : Int} (ha : I64 a) (hb : I64 b) :
    Own ((w.setCell ⟨g, i * 2, none⟩ (.int .i64 a)).setCell ⟨g, i * 2 + 1, none⟩ (.int .i64 b)) base (rowV g n cap) (xs.set i (a, b)) := by
  have hr := h.runs.1
  refine ⟨⟨by rw [flat_length, List.length_set], ?_⟩, fun x hx => ?_⟩
  · rcases h.1.2 with ⟨e, _⟩ | ⟨g', cap', cur, e, e1, hh, e2, e3, e4, e5⟩
    · cases e
    · injection e with e en ec
      injection e with e
      injection e with e
      subst e ec
      refine .inr ⟨g, cap, (cur.setIfInBounds (i * 2) (.int .i64 a)).setIfInBounds (i * 2 + 1) (.int .i64 b), by rw [List.length_set, ← hr], e1, ?_, by rw [List.length_set]; exact e2, e3, by simp [e4], ?_⟩
      · simp [World.setCell, Array.getElem?_modify, hh]
      · rw [List.length_set, flat_set _ _ _ _ (by omega)]
        simp only [Array.toList_setIfInBounds, List.take_set, e5]
  · rcases List.mem_or_eq_of_mem_set hx with hx | rfl
    · exact h.2 x hx
    · exact ⟨ha, hb⟩

theorem gset {a w : World} {g : Nat} (h : a.grownBy w (some g)) (o : Nat) (u : Value) : a.grownBy (w.setCell ⟨g, o, none⟩ u) (some g) :=
  ⟨h.os, h.tape, h.output, by simpa [World.setCell] using h.size, fun i hi hne => (Below.heap_setCell w ⟨g, o, none⟩ u i (fun e => hne (by rw [e]))).trans (h.block i hi hne)⟩
theorem gdrew {a w : World} {row : Option Nat} (h : a.grownBy w row) : a.grownBy w.drew row := ⟨h.os, h.tape, h.output, h.size, h.block⟩
theorem gext {a w : World} {row : Option Nat} (h : a.grownBy w row) (z : World) : a.grownBy (ext w z) row :=
  ⟨h.os, h.tape, h.output, Nat.le_trans h.size (ext_below w z).size, fun i hi hne => ((ext_below w z).block i (Nat.lt_of_lt_of_le hi h.size)).trans (h.block i hi hne)⟩
theorem Own.swap {w : World} {base g n cap : Nat} {xs : RunL} (h : Own w base (rowV g n cap) xs) {i j : Nat} (hi : i < n) (hj : j < n) :
    Own ((((w.setCell ⟨g, i * 2, none⟩ (.int .i64 (at0 xs j).1)).setCell ⟨g, i * 2 + 1, none⟩ (.int .i64 (at0 xs j).2)).setCell ⟨g, j * 2, none⟩ (.int .i64 (at0 xs i).1)).setCell ⟨g, j * 2 + 1, none⟩ (.int .i64 (at0 xs i).2)) base (rowV g n cap) (swp xs i j) :=
  (h.set hi (h.get hj).2.2.2.2.1 (h.get hj).2.2.2.2.2).set hj (h.get hi).2.2.2.2.1 (h.get hi).2.2.2.2.2

theorem cmp_lt {a b : Int} (h : a < b) : cmpI a b < 0 := by unfold cmpI; rw [if_pos h]; omega
theorem cmp_ge {a b : Int} (h : ¬ a < b) : ¬ cmpI a b < 0 := by unfold cmpI; rw [if_neg h]; split <;> omega

def SortPost (base g n cap : Nat) (ys : RunL) (w : World) (e : Ending) (w' : World) : Prop := e = .returned (.tuple #[]) ∧ Own w' base (rowV g n cap) ys ∧ w.grownBy w' (some g)

set_option maxHeartbeats 4000000 in
theorem insertion_any (base g n cap a b : Nat) (xs : RunL) (w : World) (h : Own w base (rowV g n cap) xs) (hn : n ≤ 1048576) (ha : a ≤ n) (hb : b ≤ n) :
    Calls Try.prog 43 #[rowV g n cap, .int .i64 a, .int .i64 b, .func (.func 28) #[] #[]] w (SortPost base g n cap (insSort a b xs) w) := by
  go_enter Try.func43, Try.ntmps43
  go_wp2_with fail
  go_loopw [8] (fun i wr => ∃ (k : Nat) (cur : RunL), k ≤ n + 1 ∧ a + 1 ≤ k ∧ i = .int .i64 k ∧ Hid (Own wr base (rowV g n cap) cur) ∧ Hid (insFrom a k (b - k) cur = insSort a b xs) ∧ w.grownBy wr (some g)) (fun i _ => n + 2 - (intOf i).toNat)
  case atStart => exact ⟨a + 1, xs, by omega, by omega, by go_num, h, by exact rfl, World.grownBy.refl _ _⟩
  case round =>
    obtain ⟨k, cur, hk, hak, rfl, Ho, Hs, hg⟩ := hrel
    by_cases hlt : k < b
    · have Hstep : Hid (insFrom a (k + 1) (b - (k + 1)) (bub a k cur) = insSort a b xs) := by
        show insFrom a (k + 1) (b - (k + 1)) (bub a k cur) = insSort a b xs
        rw [← Hs.out, show b - k = (b - (k + 1)) + 1 from by omega]; rfl
      obtain ⟨wo, rfl⟩ : ∃ wo : World, wo = wr := ⟨_, rfl⟩
      go_wp2_with fail
      go_loopw [9] (fun j wr => ∃ (q : Nat) (cu : RunL), q ≤ k ∧ a ≤ q ∧ j = .int .i64 q ∧ Hid (Own wr base (rowV g n cap) cu) ∧ Hid (bub a q cu = bub a k cur) ∧ w.grownBy wr (some g)) (fun j _ => (intOf j).toNat)
      case atStart => exact ⟨k, cur, by omega, by omega, rfl, Ho, by exact rfl, hg⟩
      case round =>
        obtain ⟨q, cu, hq, haq, rfl, Hc, Hb, hg2⟩ := hrel
        have hsz := hg2.size
        by_cases hqa : a < q
        · obtain ⟨q, rfl⟩ : ∃ q', q = q' + 1 := ⟨q - 1, by omega⟩
          obtain ⟨c0, c1, y0, y1, j0, j1⟩ := Hc.out.get (i := q) (by omega)
          obtain ⟨d0, d1, z0, z1, k0, k1⟩ := Hc.out.get (i := q + 1) (by omega)
          have hgl := (Hc.out.1.lt g rfl).2
          have hd1 : decide ((a : Int) < (q : Int) + 1) = true := decide_eq_true (by omega)
          have hqn1 : q + 1 < n := by omega
          have hqn : q < n := by omega
          by_cases hc : (at0 cu (q + 1)).1 < (at0 cu q).1
          · have hcm := cmp_lt hc
            have Hn : Hid (bub a q (swp cu (q + 1) q) = bub a k cur) := by
              show bub a q (swp cu (q + 1) q) = bub a k cur
              rw [← Hb.out, bub, if_pos ⟨hqa, hc⟩]
            clear hc
            unfold I64 at j0 j1 k0 k1
            obtain ⟨j01, j02⟩ := j0
            obtain ⟨j11, j12⟩ := j1
            obtain ⟨k01, k02⟩ := k0
            obtain ⟨k11, k12⟩ := k1
            go_wp2_with fail
            refine wp_region_grow_lit (by kernel_rfl) (by kernel_rfl) ?_
            repeat (go_big_quiet_step ((go_at_call 28; exact grow_of (cmpRuns_any _ _ _ _ _))))
            refine wpQuiet_nil ?_
            intro _ hw'
            obtain ⟨z, hw''⟩ := hw'
            subst hw''
            have hbz := ext_below wr z
            have Hcz : Hid (Own (ext wr z) base (rowV g n cap) cu) := Hc.out.below hbz (Nat.le_refl _)
            have hgz : w.grownBy (ext wr z) (some g) := ⟨hg2.os, hg2.tape, hg2.output, Nat.le_trans hsz hbz.size, fun i hi hne => (hbz.block i (Nat.lt_of_lt_of_le hi hsz)).trans (hg2.block i hi hne)⟩
            have hglz : g < (ext wr z).heap.size := (Hcz.out.1.lt g rfl).2
            obtain ⟨c0, c1, y0, y1, _, _⟩ := Hcz.out.get (i := q) (by omega)
            obtain ⟨d0, d1, z0, z1, _, _⟩ := Hcz.out.get (i := q + 1) (by omega)
            generalize ext wr z = Wz at *
            clear hbz
            go_wp2
            have e1 : ¬ (q + 1) * 2 = q * 2 := by omega
            have e2 : ¬ (q + 1) * 2 = q * 2 + 1 := by omega
            have e3 : ¬ (q + 1) * 2 + 1 = q * 2 := by omega
            have e5 : ¬ q * 2 = (q + 1) * 2 := by omega
            have e6 : ¬ q * 2 + 1 = (q + 1) * 2 := by omega
            have e7 : ¬ q * 2 = (q + 1) * 2 + 1 := by omega
            go_region
            go_wp2
            go_roundw
            case rel => exact ⟨q, swp cu (q + 1) q, by omega, by omega, by go_num, Hcz.out.swap (by omega) (by omega), Hn, gdrew (gset (gset (gset (gset hgz _ _) _ _) _ _) _ _)⟩
            case measure => simp [intOf]
          · have hcm := cmp_ge hc
            have Hn : Hid (cu = bub a k cur) := by
              show cu = bub a k cur
              rw [← Hb.out, bub, if_neg (fun h => hc h.2)]
            clear hc
            unfold I64 at j0 j1 k0 k1
            obtain ⟨j01, j02⟩ := j0
            obtain ⟨j11, j12⟩ := j1
            obtain ⟨k01, k02⟩ := k0
            obtain ⟨k11, k12⟩ := k1
            go_wp2_with fail
            refine wp_region_grow_lit (by kernel_rfl) (by kernel_rfl) ?_
            repeat (go_big_quiet_step ((go_at_call 28; exact grow_of (cmpRuns_any _ _ _ _ _))))
            refine wpQuiet_nil ?_
            intro _ hw'
            obtain ⟨z, hw''⟩ := hw'
            subst hw''
            go_wp2
            go_roundw
            case rel => exact ⟨k + 1, cu, by omega, by omega, by go_num, Hc.out.below (ext_below wr z) (Nat.le_refl _), by rw [Hn.out]; exact Hstep, gext hg2 z⟩
            case measure => simp [intOf]; omega
        · have hd1 : decide ((a : Int) < (q : Int)) = false := decide_eq_false (by omega)
          have hd2 : decide (a < q) = false := decide_eq_false hqa
          have Hn : Hid (cu = bub a k cur) := by
            show cu = bub a k cur
            rw [← Hb.out]
            cases q with
            | zero => rfl
            | succ q => rw [bub, if_neg (fun h => hqa h.1)]
          go_wp2_with fail
          refine wp_region_grow_lit (by kernel_rfl) (by kernel_rfl) ?_
          repeat (go_big_quiet_step (fail))
          refine wpQuiet_nil ?_
          intro _ hw'
          obtain ⟨z, hw''⟩ := hw'
          subst hw''
          go_wp2
          go_roundw
          case rel => exact ⟨k + 1, cu, by omega, by omega, by go_num, Hc.out.below (ext_below wr z) (Nat.le_refl _), by rw [Hn.out]; exact Hstep, gext hg2 z⟩
          case measure => simp [intOf]; omega
    · have hb0 : Hid (cur = insSort a b xs) := by
        show cur = insSort a b xs
        rw [← Hs.out, show b - k = 0 from by omega]; rfl
      go_wp2
      go_end0
      exact ⟨rfl, by rw [← hb0.out]; exact Ho.out, hg⟩
end Go.Proofs.Ytkifpnhijdcjlaa
