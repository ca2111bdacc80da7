/- Walks: the binary search. -/
import Derived.Test.YtkifpnhijdcjlaaW2
namespace Go.Proofs.Ytkifpnhijdcjlaa
open Go.RowKit

/-- where a number belongs in a row that rises. -/
def Cuts (xs : RunL) (t : Int) (i : Nat) : Prop := i ≤ xs.length ∧ (∀ (k : Nat) (x : Int × Int), xs[k]? = some x → k < i → x.1 < t) ∧ (∀ (k : Nat) (x : Int × Int), xs[k]? = some x → i ≤ k → t ≤ x.1)
def hit (xs : RunL) (t : Int) (i : Nat) : Bool := match xs[i]? with | some x => x.1 == t | none => false
def SearchPost (xs : RunL) (t : Int) (w : World) (e : Ending) (w' : World) : Prop := ∃ i : Nat, Cuts xs t i ∧ e = .returned (.tuple #[.int .i64 i, .bool (hit xs t i)]) ∧ Below w.heap.size w w'
def Mono (xs : RunL) : Prop := ∀ (i j : Nat) (x y : Int × Int), xs[i]? = some x → xs[j]? = some y → i ≤ j → x.1 ≤ y.1
/-- the search's state. -/
def Mid (xs : RunL) (t : Int) (i j : Nat) : Prop := (∀ (k : Nat) (x : Int × Int), xs[k]? = some x → k < i → x.1 < t) ∧ (∀ (k : Nat) (x : Int × Int), xs[k]? = some x → j ≤ k → t ≤ x.1)

set_option maxHeartbeats 400000 in
theorem search_any (A : Option Addr) (m c : Nat) (xs : RunL) (t : Int) (w : World) (hr : Runs w w.heap.size A m xs) (hm : m ≤ 1048576) (hs : Mono xs) :
    Calls Try.prog 34 #[.slice A m c, .int .i64 t, .func (.func 35) #[] #[]] w (SearchPost xs t w) := by
  go_enter Try.func34, Try.ntmps34
  go_wp2_with fail
  go_loopw [9, 10] (fun p q wr => ∃ i j : Nat, i ≤ j ∧ j ≤ m ∧ p = .int .i64 i ∧ q = .int .i64 j ∧ Hid (Mid xs t i j) ∧ Below w.heap.size w wr) (fun p q _ => (intOf q - intOf p).toNat)
  case atStart => exact ⟨0, m, by omega, by omega, rfl, rfl, ⟨fun k x _ h => by omega, fun k x h hk => by have := (List.getElem?_eq_some_iff.1 h).1; have := hr.1; omega⟩, Below.refl _ _⟩
  case round =>
    obtain ⟨i, j, hij, hj, rfl, rfl, H, hb⟩ := hrel
    by_cases hlt : i < j
    · obtain ⟨h, hh⟩ : ∃ h : Nat, ((i : Int) + (j : Int)) / 2 = (h : Int) := ⟨(i + j) / 2, by omega⟩
      have h1 : i ≤ h := by omega
      have h2 : h < j := by omega
      obtain ⟨x1, x2, b, o, hx, w1, w2, w3, w4, rfl, hbB, c0, c1⟩ := (hr.below hb (Nat.le_refl _)).at_ (k := h) (by omega)
      have hup := H.out.1
      have hdn := H.out.2
      by_cases hc : x1 < t
      · have hci : cmpI x1 t < 0 := by unfold cmpI; rw [if_pos hc]; omega
        have Hn : Hid (Mid xs t (h + 1) j) := ⟨fun k y hy hk => by
          have := hs k h y (x1, x2) hy hx (by omega)
          dsimp only at this; omega, hdn⟩
        clear hup hdn
        have Hx := Lib.hid hx; clear hx
        go_wp2_with (go_at_call 35; refine (cmpStart_any _ _ _ _).mono ?_; rintro e w' ⟨rfl, hb2⟩)
        go_roundw
        case rel => exact ⟨h + 1, j, by omega, by omega, by go_num, rfl, Hn, hb.trans (hb2.mono hb.size)⟩
        case measure => simp [intOf]; omega
      · have hci : ¬ cmpI x1 t < 0 := by unfold cmpI; rw [if_neg hc]; split <;> omega
        have Hn : Hid (Mid xs t i h) := ⟨hup, fun k y hy hk => by
          have := hs h k (x1, x2) y hx hy hk
          dsimp only at this; omega⟩
        clear hup hdn
        have Hx := Lib.hid hx; clear hx
        go_wp2_with (go_at_call 35; refine (cmpStart_any _ _ _ _).mono ?_; rintro e w' ⟨rfl, hb2⟩)
        go_roundw
        case rel => exact ⟨i, h, by omega, by omega, rfl, by go_num, Hn, hb.trans (hb2.mono hb.size)⟩
        case measure => simp [intOf]; omega
    · obtain rfl : i = j := by omega
      have hcut : Cuts xs t i := ⟨by have := hr.1; omega, H.out.1, H.out.2⟩
      by_cases him : i < m
      · obtain ⟨x1, x2, b, o, hx, w1, w2, w3, w4, rfl, hbB, c0, c1⟩ := (hr.below hb (Nat.le_refl _)).at_ (k := i) him
        have hhit : hit xs t i = (x1 == t) := by unfold hit; rw [hx]
        have hfin : Hid (hit xs t i = (cmpI x1 t == 0)) := by
          show hit xs t i = (cmpI x1 t == 0)
          rw [hhit]; unfold cmpI
          by_cases h1 : x1 < t
          · rw [if_pos h1, beq_eq_false_iff_ne.2 (by omega)]; rfl
          · by_cases h2 : t < x1
            · rw [if_neg h1, if_pos h2, beq_eq_false_iff_ne.2 (by omega)]; rfl
            · rw [if_neg h1, if_neg h2, beq_iff_eq.2 (by omega)]; rfl
        have Hx := Lib.hid hx; have Hc := Lib.hid hcut
        clear hx hhit hcut
        go_wp2_with (go_at_call 35; refine (cmpStart_any _ _ _ _).mono ?_; rintro e w' ⟨rfl, hb2⟩)
        go_ret2
        exact ⟨i, Hc.out, by rw [hfin.out]; rfl, hb.trans (hb2.mono hb.size)⟩
      · have hfin : Hid (hit xs t i = false) := by
          show hit xs t i = false
          unfold hit; rw [List.getElem?_eq_none (by have := hr.1; omega)]
        have Hc := Lib.hid hcut
        clear hcut
        go_wp2
        go_ret2
        exact ⟨i, Hc.out, by rw [hfin.out]; rfl, hb⟩
end Go.Proofs.Ytkifpnhijdcjlaa
