/- Walks: the reference's Regions. -/
import Derived.Test.YtkifpnhijdcjlaaI4
import Derived.Test.YtkifpnhijdcjlaaW10
import Derived.Test.YtkifpnhijdcjlaaS1
namespace Go.Proofs.Ytkifpnhijdcjlaa
open Go.RowKit

theorem Own.isRow {w : World} {base m c : Nat} {A : Option Addr} {xs : RunL} (h : Own w base (.slice A m c) xs) (hm : 0 < m) : ∃ g, A = some ⟨g, 0, none⟩ ∧ base ≤ g := by
  rcases h.1.2 with ⟨e, _⟩ | ⟨g', cap', cur, e, e1, _⟩
  · injection e with e1 e2 e3; omega
  · injection e with e; exact ⟨g', e, e1⟩
theorem Own.setLen {w : World} {base g n cap : Nat} {xs : RunL} {x : Int × Int} {b : Int} (h : Own w base (rowV g (n + 1) cap) (xs ++ [x])) (hb : I64 b) :
    Own (w.setCell ⟨g, n * 2 + 1, none⟩ (.int .i64 b)) base (rowV g (n + 1) cap) (xs ++ [(x.1, b)]) := by
  have hr := h.runs.1
  have hn : n = xs.length := by simp at hr; omega
  subst hn
  have hf : flat (xs ++ [(x.1, b)]) = (flat (xs ++ [x])).set (xs.length * 2 + 1) (.int .i64 b) := by
    rw [flat_append, flat_append]
    rw [List.set_append_right _ _ (by rw [flat_length]; omega), flat_length]
    rw [show xs.length * 2 + 1 - xs.length * 2 = 1 from by omega]; rfl
  refine ⟨⟨by rw [flat_length], ?_⟩, fun y hy => ?_⟩
  · rcases h.1.2 with ⟨e, _⟩ | ⟨g', cap', cur, e, e1, hh, e2, e3, e4, e5⟩
    · cases e
    · injection e with e en ec
      injection e with e
      injection e with e
      subst e ec
      refine .inr ⟨g, cap, cur.setIfInBounds (xs.length * 2 + 1) (.int .i64 b), by simp, e1, ?_, by simpa using e2, e3, by simp [e4], ?_⟩
      · simp [World.setCell, Array.getElem?_modify, hh]
      · rw [hf, Array.toList_setIfInBounds, List.take_set, ← e5]; simp
  · rcases List.mem_append.1 hy with hy | hy
    · exact h.2 y (List.mem_append_left _ hy)
    · simp at hy; subst hy; exact ⟨(h.2 x (by simp)).1, hb⟩
set_option maxHeartbeats 4000000 in
theorem refRegions_any (first n : Int) (B : Option Addr) (l d : Nat) (qs : RunL) (w : World)
    (hq : Runs w w.heap.size B l qs) (hl : l ≤ 1000) :
    Calls Try.prog 26 #[.int .i64 first, .int .i64 n, .slice B l d] w (RegionsPost first n qs w) := by
  go_enter Try.func26, Try.ntmps26
  go_wp2_with fail
  refine (refCheck_any first n none 0 0 [] B l d qs _ ⟨rfl, fun i x hx => by simp at hx⟩ hq (by omega) (by omega)).mono ?_
  rintro e w1 ⟨rfl, hb1⟩
  cases hck : checkB first n [] qs with
  | false =>
    have he : errB false = 2 := rfl
    rw [he]
    have Hck := Lib.hid hck
    clear hck
    go_wp2
    go_ret2
    exact ⟨none, 0, 0, by rw [Hck.out]; rfl, by rw [if_neg (by rw [Hck.out]; simp)]; exact Own.nil _ _, hb1⟩
  | true =>
    obtain ⟨c1, c2, c3, c4, c5, c6⟩ := check_parts hck
    have he : errB true = 0 := rfl
    rw [he]
    have hq1 := (hq.below hb1 (Nat.le_refl _)).more hb1.size
    have hsz1 := hb1.size
    have Hck := Lib.hid hck
    clear hck c4 c6
    obtain ⟨fst, rfl⟩ : ∃ fst : Nat, first = (fst : Int) := ⟨first.toNat, by omega⟩
    obtain ⟨nn, rfl⟩ : ∃ nn : Nat, n = (nn : Int) := ⟨n.toNat, by omega⟩
    have Hc5 := Lib.hid c5
    have hl4 : l ≤ 4096 := by have := rising_len c5 c2; have := hq.1; omega
    clear c5
    go_wp2_with fail
    refine (Marks_any nn none 0 0 [] B l d qs _ (by omega) ⟨rfl, fun i x hx => by simp at hx⟩ hq1 (by omega) hl4 rfl (rising_less Hc5.out c1)).mono ?_
    rintro e w3 ⟨g, rfl, hg, HI, hb⟩
    have HI' : Hid (Ints w3 g nn (pinL (fun _ => 0) qs)) := HI
    have hgl := HI.lt
    clear HI
    have HR : Hid (gat (pinL (fun _ => 0) qs) fst fst (nn - fst) [] = regionsL fst nn qs) :=
      gat_regions (Nat.le_refl _) (Or.inl rfl) (by omega) Hc5.out (fun q hq j hj => pinL_hit hq hj) (fun j _ hj => pinL_miss hj)
    have HV : Hid (∀ j, pinL (fun _ => 0) qs j = -1 ∨ pinL (fun _ => 0) qs j = 0) := fun j => by
      by_cases h : ∃ q ∈ qs, At q j
      · obtain ⟨q, hq, hj⟩ := h; exact Or.inl (pinL_hit hq hj)
      · exact Or.inr (pinL_miss fun q hq hj => h ⟨q, hq, hj⟩)
    have hb0 : Below w.heap.size w w3 := hb1.trans (hb.mono hsz1)
    clear hb hq1 hq
    obtain ⟨F, hF⟩ : ∃ F, F = pinL (fun _ => 0) qs := ⟨_, rfl⟩
    rw [← hF] at HI' HR HV
    clear hF
    obtain ⟨R, hR⟩ : ∃ R, R = regionsL fst nn qs := ⟨_, rfl⟩
    rw [← hR] at HR
    have HRe := Lib.hid hR; clear hR
    go_wp2_with fail
    go_loopw [10, 11] (fun v i wr => ∃ (k : Nat) (out : RunL) (A' : Option Addr) (c' : Nat), fst ≤ k ∧ k ≤ nn ∧ i = .int .i64 (k : Int) ∧ v = .slice A' out.length c' ∧ out.length ≤ k ∧
      Hid (Own wr w3.heap.size (.slice A' out.length c') out) ∧ Hid (gat F fst k (nn - k) out = R) ∧ Hid (fst < k → F (k - 1) = 0 → ∃ ini x, out = ini ++ [x] ∧ 1 ≤ x.2 ∧ x.2 ≤ (k : Int)) ∧ Below w3.heap.size w3 wr) (fun _ i _ => nn - (intOf i).toNat)
    case atStart => exact ⟨fst, [], none, 0, Nat.le_refl _, by omega, rfl, rfl, by simp, Own.nil _ _, HR, fun h => absurd h (Nat.lt_irrefl _), Below.refl _ _⟩
    case round =>
      obtain ⟨k, out, A', c', hfk, hkn, rfl, rfl, hol, Ho, Hg, Hlast, hbr⟩ := hrel
      have Hi := Lib.hid (HI'.out.below hbr hgl)
      by_cases hlt : k < nn
      · obtain ⟨g0, g1⟩ := Hi.out.get hlt
        have Hg' : Hid (gat F fst (k + 1) (nn - (k + 1)) (gstep F fst k out) = R) := by
          refine Lib.hid (Eq.trans ?_ Hg.out)
          rw [show nn - k = (nn - (k + 1)) + 1 from by omega, gat]
        clear Hg
        have hsz := hbr.size
        rcases HV.out k with hz | hz
        · have hst : gstep F fst k out = out := if_pos hz
          rw [hst] at Hg'
          have Hn : Hid (fst < k + 1 → F (k + 1 - 1) = 0 → ∃ ini x, out = ini ++ [x] ∧ 1 ≤ x.2 ∧ x.2 ≤ ((k + 1 : Nat) : Int)) := fun _ h => by
            rw [Nat.add_sub_cancel, hz] at h; cases h
          rw [hz] at g0
          clear hz hst
          go_wp2_with fail
          go_roundw
          case rel => exact ⟨k + 1, out, A', c', by omega, by omega, by go_num, rfl, by omega, Ho, Hg', Hn, hbr⟩
          case measure => simp [intOf]; omega
        · rw [hz] at g0
          have Hz := Lib.hid hz
          by_cases hf : fst < k
          · obtain ⟨k, rfl⟩ : ∃ k', k = k' + 1 := ⟨k - 1, by omega⟩
            obtain ⟨p0, p1⟩ := Hi.out.get (i := k) (by omega)
            have hdf : decide ((fst : Int) < (k : Int) + 1) = true := decide_eq_true (by omega)
            rcases HV.out k with hy | hy
            · have hst : gstep F fst (k + 1) out = out ++ [(((k + 1 : Nat) : Int), 1)] := by
                unfold gstep; rw [if_neg (by rw [hz]; decide), if_neg (by rintro ⟨_, h⟩; rw [Nat.add_sub_cancel, hy] at h; cases h)]
              rw [hy] at p0
              clear hz hy
              rw [hst] at Hg'
              have Hn : Hid (fst < (k + 1) + 1 → F ((k + 1) + 1 - 1) = 0 → ∃ ini x, out ++ [((((k + 1) : Nat) : Int), (1 : Int))] = ini ++ [x] ∧ 1 ≤ x.2 ∧ x.2 ≤ (((k + 1) + 1 : Nat) : Int)) := fun _ _ => ⟨out, _, rfl, Int.le_refl _, by dsimp only; omega⟩
              clear hst Hlast
              have hlaid := Runs.lay (w := wr) (H := wr.heap.size) (a := (((k + 1) : Nat) : Int)) (b := 1) rfl (by omega) (by omega) (by omega) (by omega)
              have ho2 := Ho.out.alloc (.cells #[.int .i64 (((k + 1) : Nat) : Int), .int .i64 1] 39)
              have hf0 : ∀ (g : Nat), (Value.slice A' out.length c').ownBlock = some g → w3.heap.size ≤ g ∧ g < wr.heap.size := Ho.out.1.lt
              go_wp2_with (at_builtin; refine wpList_app_runs rfl _ _ rfl w3.heap.size (.slice A' out.length c') out (by rfl) ho2 (some ⟨wr.heap.size, 0, none⟩) 1 1 [((((k + 1) : Nat) : Int), 1)] (by rfl) hlaid (by omega) (by simp; omega) ?_; intro A3 c3 w4 k1 k2 k3)
              have hb3 : Below w3.heap.size w3 w4 := (hbr.alloc hsz _).grown k2 (by simp; omega) (fun g hg => (hf0 g hg).1)
              go_roundw
              case rel => exact ⟨(k + 1) + 1, out ++ [((((k + 1) : Nat) : Int), 1)], A3, c3, by omega, by omega, by go_num, by simp, by simp; omega, by rw [List.length_append]; exact k1, Hg', Hn, hb3⟩
              case measure => simp [intOf]; omega
            · obtain ⟨ini, x, rfl, hx1, hx2⟩ := Hlast.out hf (by simpa using hy)
              have hst : gstep F fst (k + 1) (ini ++ [x]) = ini ++ [(x.1, x.2 + 1)] := by
                unfold gstep; rw [if_neg (by rw [hz]; decide), if_pos ⟨hf, by simpa using hy⟩, bump_snoc]
              rw [hst] at Hg'
              rw [hy] at p0
              have Hn : Hid (fst < k + 1 + 1 → F (k + 1 + 1 - 1) = 0 → ∃ ini' y, ini ++ [(x.1, x.2 + 1)] = ini' ++ [y] ∧ 1 ≤ y.2 ∧ y.2 ≤ ((k + 1 + 1 : Nat) : Int)) := fun _ _ => ⟨ini, _, rfl, by dsimp only; omega, by dsimp only; omega⟩
              clear hst hz hy Hlast
              obtain ⟨r, rfl, hgr⟩ := Ho.out.isRow (by simp)
              rw [List.length_append, List.length_singleton] at Ho hol
              have Ho' : Hid (Own wr w3.heap.size (rowV r (ini.length + 1) c') (ini ++ [x])) := Ho
              obtain ⟨b0, b1, b2, b3, _, _⟩ := Ho'.out.get (i := ini.length) (by omega)
              have hat : at0 (ini ++ [x]) ini.length = x := by unfold at0; simp [List.getD_eq_getElem?_getD]
              rw [hat] at b0 b1
              have Hs := Lib.hid (Ho'.out.setLen (b := x.2 + 1) ⟨by omega, by omega⟩)
              have hbs := hbr.setCell (p := ⟨r, ini.length * 2 + 1, none⟩) hgr (.int .i64 (x.2 + 1))
              obtain ⟨x1, x2⟩ := x
              dsimp only at b0 b1 hx1 hx2 Hn
              go_wp2_with fail
              go_roundw
              case rel => exact ⟨k + 1 + 1, ini ++ [(x1, x2 + 1)], some ⟨r, 0, none⟩, c', by omega, by omega, by go_num, by rw [List.length_append, List.length_append]; rfl, by rw [List.length_append, List.length_singleton]; omega, by rw [List.length_append]; exact Hs, Hg', Hn, hbs⟩
              case measure => simp [intOf]; omega
          · have hst : gstep F fst k out = out ++ [((k : Int), 1)] := by
              unfold gstep; rw [if_neg (by rw [hz]; decide), if_neg (fun h => hf h.1)]
            have hdf : decide ((fst : Int) < (k : Int)) = false := decide_eq_false (by omega)
            clear hz
            rw [hst] at Hg'
            have Hn : Hid (fst < k + 1 → F (k + 1 - 1) = 0 → ∃ ini x, out ++ [(((k : Nat) : Int), (1 : Int))] = ini ++ [x] ∧ 1 ≤ x.2 ∧ x.2 ≤ ((k + 1 : Nat) : Int)) := fun _ _ => ⟨out, _, rfl, Int.le_refl _, by dsimp only; omega⟩
            clear hst Hlast
            have hlaid := Runs.lay (w := wr) (H := wr.heap.size) (a := ((k : Nat) : Int)) (b := 1) rfl (by omega) (by omega) (by omega) (by omega)
            have ho2 := Ho.out.alloc (.cells #[.int .i64 ((k : Nat) : Int), .int .i64 1] 39)
            have hf0 : ∀ (g : Nat), (Value.slice A' out.length c').ownBlock = some g → w3.heap.size ≤ g ∧ g < wr.heap.size := Ho.out.1.lt
            go_wp2_with (at_builtin; refine wpList_app_runs rfl _ _ rfl w3.heap.size (.slice A' out.length c') out (by rfl) ho2 (some ⟨wr.heap.size, 0, none⟩) 1 1 [(((k : Nat) : Int), 1)] (by rfl) hlaid (by omega) (by simp; omega) ?_; intro A3 c3 w4 k1 k2 k3)
            have hb3 : Below w3.heap.size w3 w4 := (hbr.alloc hsz _).grown k2 (by simp; omega) (fun g hg => (hf0 g hg).1)
            go_roundw
            case rel => exact ⟨k + 1, out ++ [(((k : Nat) : Int), 1)], A3, c3, by omega, by omega, by go_num, by simp, by simp; omega, by rw [List.length_append]; exact k1, Hg', Hn, hb3⟩
            case measure => simp [intOf]; omega
      · have hfin : Hid (out = R) := by
          refine Lib.hid (Eq.trans ?_ Hg.out)
          rw [show nn - k = 0 from by omega]; rfl
        have Hlow := Lib.hid (Ho.out.lower hb0.size)
        go_wp2
        go_ret2
        exact ⟨A', _, c', by rw [Hck.out]; rfl, by rw [if_pos Hck.out, ← HRe.out, ← hfin.out]; exact Hlow.out, hb0.trans (hbr.mono hb0.size)⟩
end Go.Proofs.Ytkifpnhijdcjlaa
