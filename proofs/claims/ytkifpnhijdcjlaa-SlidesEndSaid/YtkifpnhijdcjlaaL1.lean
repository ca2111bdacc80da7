/- Walks: SameRuns; lives. -/
import Derived.Test.YtkifpnhijdcjlaaW12
import Derived.Test.YtkifpnhijdcjlaaW11
namespace Go.Proofs.Ytkifpnhijdcjlaa
open Go.RowKit

def sameB : RunL → RunL → Bool
  | [], [] => true
  | x :: xs, y :: ys => if x.1 = y.1 ∧ x.2 = y.2 then sameB xs ys else false
  | _, _ => false
theorem sameB_len {xs ys : RunL} (h : xs.length ≠ ys.length) : sameB xs ys = false := by
  induction xs generalizing ys with
  | nil => cases ys with
    | nil => exact absurd rfl h
    | cons y ys => rfl
  | cons x xs ih => cases ys with
    | nil => rfl
    | cons y ys =>
      unfold sameB
      split
      · exact ih (by simpa using h)
      · rfl
theorem sameB_self (xs : RunL) : sameB xs xs = true := by
  induction xs with
  | nil => rfl
  | cons x xs ih => unfold sameB; rw [if_pos ⟨rfl, rfl⟩]; exact ih
theorem sameB_step {xs ys : RunL} {k : Nat} {x1 x2 y1 y2 : Int} (hx : xs[k]? = some (x1, x2)) (hy : ys[k]? = some (y1, y2)) : sameB (xs.drop k) (ys.drop k) = if x1 = y1 ∧ x2 = y2 then sameB (xs.drop (k + 1)) (ys.drop (k + 1)) else false := by
  obtain ⟨h1, e1⟩ := List.getElem?_eq_some_iff.1 hx
  obtain ⟨h2, e2⟩ := List.getElem?_eq_some_iff.1 hy
  rw [List.drop_eq_getElem_cons h1, List.drop_eq_getElem_cons h2, sameB, e1, e2]

set_option maxHeartbeats 1000000 in
theorem same_any (A : Option Addr) (m c : Nat) (xs : RunL) (B : Option Addr) (l d : Nat) (ys : RunL) (w : World) (hx : Runs w w.heap.size A m xs) (hy : Runs w w.heap.size B l ys) (hm : m ≤ 1048576) (hl : l ≤ 1048576) :
    Calls Try.prog 12 #[.slice A m c, .slice B l d] w fun e w' => e = .returned (.bool (sameB xs ys)) ∧ ∃ q, w' = w.drewN q := by
  by_cases hml : m = l
  · subst hml
    have hne : ((m : Int) != (m : Int)) = false := by simp
    go_enter Try.func12, Try.ntmps12
    go_wp2_with fail
    go_loopw [5] (fun i wr => ∃ k : Nat, k ≤ m ∧ i = .int .i64 k ∧ Hid (sameB xs ys = sameB (xs.drop k) (ys.drop k)) ∧ ∃ q, wr = w.drewN q) (fun i _ => m - (intOf i).toNat)
    case atStart => exact ⟨0, by omega, rfl, by exact rfl, 0, rfl⟩
    case round =>
      obtain ⟨k, hk, rfl, H, q, rfl⟩ := hrel
      by_cases hlt : k < m
      · obtain ⟨x1, x2, b, o, ex, v1, v2, v3, v4, rfl, hbB, c0, c1⟩ := hx.at_ hlt
        obtain ⟨y1, y2, b', o', ey, u1, u2, u3, u4, rfl, hbB', d0, d1⟩ := hy.at_ hlt
        have hst := sameB_step ex ey
        have Hx := Lib.hid ex
        have Hy := Lib.hid ey
        clear ex ey
        by_cases h1 : x1 = y1
        · by_cases h2 : x2 = y2
          · rw [if_pos ⟨h1, h2⟩] at hst
            have Hst := Lib.hid (H.out.trans hst)
            subst h1 h2
            clear hst H
            go_wp2_with fail
            go_quiet (fail)
            go_wp2
            go_roundw
            case rel => exact ⟨k + 1, by omega, by go_num, Hst, q + nq, by go_simp⟩
            case measure => simp [intOf]; omega
          · rw [if_neg (fun h => h2 h.2)] at hst
            have Hst := Lib.hid (H.out.trans hst)
            subst h1
            clear hst H
            have hb2 : (x2 == y2) = false := beq_eq_false_iff_ne.2 h2
            go_wp2_with fail
            go_quiet (fail)
            go_wp2
            go_ret
            exact ⟨by rw [Hst.out]; rfl, q + nq, by go_simp⟩
        · rw [if_neg (fun h => h1 h.1)] at hst
          have Hst := Lib.hid (H.out.trans hst)
          clear hst H
          have hb2 : (x1 == y1) = false := beq_eq_false_iff_ne.2 h1
          go_wp2_with fail
          go_quiet (fail)
          go_wp2
          go_ret
          exact ⟨by rw [Hst.out]; rfl, q + nq, by go_simp⟩
      · have hd1 : xs.drop k = [] := List.drop_eq_nil_of_le (by have := hx.1; omega)
        have hd2 : ys.drop k = [] := List.drop_eq_nil_of_le (by have := hy.1; omega)
        have Hst : Hid (sameB xs ys = true) := H.out.trans (by rw [hd1, hd2]; rfl)
        clear hd1 hd2 H
        go_wp2
        go_ret
        exact ⟨by rw [Hst.out]; rfl, q, rfl⟩
  · have hf : Hid (sameB xs ys = false) := sameB_len (by rw [← hx.1, ← hy.1]; exact hml)
    have hne : ((m : Int) != (l : Int)) = true := by rw [bne_iff_ne]; omega
    have hne2 : (m != l) = true := by rw [bne_iff_ne]; omega
    go_enter Try.func12, Try.ntmps12
    go_wp2
    go_ret
    exact ⟨by rw [hf.out]; rfl, 0, rfl⟩
end Go.Proofs.Ytkifpnhijdcjlaa
