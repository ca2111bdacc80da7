/- Walks: within. -/
import Derived.Test.YtkifpnhijdcjlaaW6
namespace Go.Proofs.Ytkifpnhijdcjlaa
open Go.RowKit
attribute [local go_sem] ext_cell ext_frozen

theorem Own.lower {w : World} {base B : Nat} {v : Value} {xs : RunL} (h : Own w base v xs) (hB : B ≤ base) : Own w B v xs :=
  ⟨⟨h.1.1, h.1.2.imp_right (fun ⟨g, cap, cur, e1, e2, e3⟩ => ⟨g, cap, cur, e1, Nat.le_trans hB e2, e3⟩)⟩, h.2⟩

/-- runs of blocks that may be. -/
def Small (xs : RunL) : Prop := ∀ (k : Nat) (x : Int × Int), xs[k]? = some x → 0 ≤ x.1 ∧ 1 ≤ x.2 ∧ x.1 + x.2 ≤ 4096
theorem rising_small {a n : Int} {l : RunL} (h : rising a n l = true) (h0 : 0 ≤ a) (hn : n ≤ 4096) : Small l := fun k x hx => by
  have := rising_get h hx; omega

def inB (r1 r2 f : Int) (p : Int × Int) : Bool := decide (r1 ≤ p.1) && decide (p.1 < r1 + r2) && decide (f < p.1 + p.2)
def withinL (r1 r2 f : Int) (ps : RunL) : RunL := ps.filter (inB r1 r2 f)
theorem within_step {r1 r2 f x1 x2 : Int} {ps : RunL} {k : Nat} (h : ps[k]? = some (x1, x2)) : withinL r1 r2 f (ps.take (k + 1)) = withinL r1 r2 f (ps.take k) ++ if inB r1 r2 f (x1, x2) then [(x1, x2)] else [] := by
  obtain ⟨hk, e⟩ := List.getElem?_eq_some_iff.1 h
  unfold withinL
  rw [List.take_succ_eq_append_getElem hk, List.filter_append, e]
  congr 1
  by_cases hb : inB r1 r2 f (x1, x2) = true <;> simp [hb]

set_option maxHeartbeats 2000000 in
theorem within_any (r1 r2 f : Int) (A : Option Addr) (m c : Nat) (ps : RunL) (w : World) (h0 : 0 ≤ r1) (h1 : 0 ≤ r2) (h2 : r1 + r2 ≤ 4096)
    (hr : Runs w w.heap.size A m ps) (hm : m ≤ 1000) (hs : Small ps) :
    Calls Try.prog 45 #[.slice A m c, .agg #[.int .i64 r1, .int .i64 r2], .int .i64 f] w fun e w' => ∃ A' m' c', e = .returned (.slice A' m' c') ∧ Own w' w.heap.size (.slice A' m' c') (withinL r1 r2 f ps) ∧ Below w.heap.size w w' := by
  have Hs := Lib.hid hs
  clear hs
  go_enter Try.func45, Try.ntmps45
  go_wp2_with fail
  have hbx : Below w.heap.size w (w.alloc (.cells #[.int .i64 r1, .int .i64 r2] 39)) := (Below.refl _ _).alloc (Nat.le_refl _) _
  have hx0 : (w.alloc (.cells #[.int .i64 r1, .int .i64 r2] 39)).cell? ⟨w.heap.size, 0, none⟩ = some (.int .i64 r1) := by go_simp
  have hx1 : (w.alloc (.cells #[.int .i64 r1, .int .i64 r2] 39)).cell? ⟨w.heap.size, 1, none⟩ = some (.int .i64 r2) := by go_simp
  have hxs : (w.alloc (.cells #[.int .i64 r1, .int .i64 r2] 39)).heap.size = w.heap.size + 1 := by simp
  generalize w.alloc (.cells #[.int .i64 r1, .int .i64 r2] 39) = wx at *
  have Hxs := Lib.hid hxs
  have hxl : w.heap.size < wx.heap.size := by omega
  clear hxs
  go_loopw [7, 12] (fun v i wr => ∃ (k : Nat) (out : RunL) (A' : Option Addr) (c' : Nat), k ≤ m ∧ i = .int .i64 k ∧ v = .slice A' out.length c' ∧ out.length ≤ k ∧
      Hid (Own wr wx.heap.size (.slice A' out.length c') out) ∧ Hid (out = withinL r1 r2 f (ps.take k)) ∧ Below wx.heap.size wx wr) (fun _ i _ => m - (intOf i).toNat)
  case atStart => exact ⟨0, [], none, 0, by omega, rfl, rfl, by simp, Own.nil _ _, by exact rfl, Below.refl _ _⟩
  case round =>
    obtain ⟨k, out, A', c', hk, rfl, rfl, hok, Ho, Hw, hb⟩ := hrel
    by_cases hlt : k < m
    · obtain ⟨x1, x2, b, o, hx, v1, v2, v3, v4, rfl, hbB, e0, e1⟩ := (hr.below (hbx.trans (hb.mono (by omega))) (Nat.le_refl _)).at_ hlt
      obtain ⟨g1, g2, g3⟩ := Hs.out _ _ hx
      dsimp only at g1 g2 g3
      have hst := Lib.hid (within_step (r1 := r1) (r2 := r2) (f := f) hx)
      have hin : inB r1 r2 f (x1, x2) = (decide (r1 ≤ x1) && decide (x1 < r1 + r2) && decide (f < x1 + x2)) := rfl
      have Hx := Lib.hid hx
      clear hx
      have hsz := hb.size
      have y0 : wr.cell? ⟨w.heap.size, 0, none⟩ = some (.int .i64 r1) := (hb.cell (p := ⟨w.heap.size, 0, none⟩) hxl).trans hx0
      have y1 : wr.cell? ⟨w.heap.size, 1, none⟩ = some (.int .i64 r2) := (hb.cell (p := ⟨w.heap.size, 1, none⟩) hxl).trans hx1
      have hwl : w.heap.size < wr.heap.size := by omega
      have hne : some wr.heap.size ≠ (Value.slice A' out.length c').ownBlock := fun h => by have := (Ho.out.1.lt _ h.symm).2; omega
      have hf0 : ∀ (g : Nat), (Value.slice A' out.length c').ownBlock = some g → wx.heap.size ≤ g := fun g hg => (Ho.out.1.lt g hg).1
      have Hne := Lib.hid hne
      have Hf0 := Lib.hid hf0
      clear hne hf0
      obtain ⟨W, hW⟩ : ∃ W, W = wr.alloc (.cells #[.int .i64 x1, .int .i64 x2] 39) := ⟨_, rfl⟩
      have Ho2 : Hid (Own W wx.heap.size (.slice A' out.length c') out) := by rw [hW]; exact Ho.out.alloc _
      have c0 : W.cell? ⟨wr.heap.size, 0, none⟩ = some (.int .i64 x1) := by rw [hW]; go_simp
      have c1 : W.cell? ⟨wr.heap.size, 1, none⟩ = some (.int .i64 x2) := by rw [hW]; go_simp
      have d0 : W.cell? ⟨w.heap.size, 0, none⟩ = some (.int .i64 r1) := by rw [hW, World.cell?_alloc_lt _ _ _ hwl]; exact y0
      have d1 : W.cell? ⟨w.heap.size, 1, none⟩ = some (.int .i64 r2) := by rw [hW, World.cell?_alloc_lt _ _ _ hwl]; exact y1
      have hbW : Below wx.heap.size wx W := by rw [hW]; exact hb.alloc hsz _
      have hWl : wr.heap.size < W.heap.size := World.block_lt_of_cell? W _ c0
      have hwW : w.heap.size < W.heap.size := by omega
      have hWw : ∀ (p : Act → World → Prop) a, p a W → p a (wr.alloc (.cells #[.int .i64 x1, .int .i64 x2] 39)) := fun p a h => by rw [← hW]; exact h
      by_cases t1 : r1 ≤ x1
      · by_cases t2 : x1 < r1 + r2
        · by_cases t3 : f < x1 + x2
          · have hfin : Hid (inB r1 r2 f (x1, x2) = true) := by rw [hin, decide_eq_true t1, decide_eq_true t2, decide_eq_true t3]; exact rfl
            clear hin
            go_wp2
            rw [← hW]
            clear hW
            refine wp_region_grow_lit (by kernel_rfl) (by kernel_rfl) ?_
            repeat (go_big_quiet_step ((go_at_call 36; exact grow_of (end_any _ _ _ (by omega) (by omega)))))
            refine wpQuiet_nil ?_
            intro _ hw'
            obtain ⟨z, hw''⟩ := hw'
            subst hw''
            have hoz := Ho2.out.below (ext_below W z) (Nat.le_refl _)
            have hbz := hbW.trans ((ext_below W z).mono hbW.size)
            have z0 : (ext W z).cell? ⟨wr.heap.size, 0, none⟩ = some (.int .i64 x1) := by rw [ext_cell _ _ hWl]; exact c0
            have z1 : (ext W z).cell? ⟨wr.heap.size, 1, none⟩ = some (.int .i64 x2) := by rw [ext_cell _ _ hWl]; exact c1
            generalize ext W z = Wz at *
            have hlaid := Runs.lay (w := Wz) (H := Wz.heap.size) (a := x1) (b := x2) rfl (by omega) (by omega) (by omega) (by omega)
            have hoz2 := hoz.alloc (.cells #[.int .i64 x1, .int .i64 x2] 39)
            have hszz := hbz.size
            go_wp2_with (at_builtin; refine wpList_app_runs rfl _ _ rfl wx.heap.size (.slice A' out.length c') out (by rfl) hoz2 (some ⟨Wz.heap.size, 0, none⟩) 1 1 [(x1, x2)] (by rfl) hlaid (by omega) (by simp; omega) ?_; intro A3 c3 w3 k1 k2 k3)
            go_roundw
            case rel =>
              refine ⟨k + 1, out ++ [(x1, x2)], A3, c3, by omega, by go_num, by simp, by simp; omega, ?_, ?_, ?_⟩
              · rw [List.length_append]; exact k1
              · rw [hst.out, hfin.out, ← Hw.out]; exact rfl
              · exact (hbz.alloc hszz _).grown k2 (by simp; omega) (fun g hg => Hf0.out g hg)
            case measure => simp [intOf]; omega
          · have hfin : Hid (inB r1 r2 f (x1, x2) = false) := by show inB r1 r2 f (x1, x2) = false; rw [hin, decide_eq_false t3]; simp
            have td := decide_eq_false t3
            clear hin
            go_wp2
            rw [← hW]
            clear hW
            refine wp_region_grow_lit (by kernel_rfl) (by kernel_rfl) ?_
            repeat (go_big_quiet_step ((go_at_call 36; exact grow_of (end_any _ _ _ (by omega) (by omega)))))
            refine wpQuiet_nil ?_
            intro _ hw'
            obtain ⟨z, hw''⟩ := hw'
            subst hw''
            go_wp2
            go_roundw
            case rel => exact ⟨k + 1, out, A', c', by omega, by go_num, rfl, by omega, Ho2.out.below (ext_below W z) (Nat.le_refl _), by show out = _; rw [hst.out, hfin.out, ← Hw.out]; simp, hbW.trans ((ext_below W z).mono hbW.size)⟩
            case measure => simp [intOf]; omega
        · have hfin : Hid (inB r1 r2 f (x1, x2) = false) := by show inB r1 r2 f (x1, x2) = false; rw [hin, decide_eq_false t2]; simp
          have td := decide_eq_false t2
          clear hin
          go_wp2
          rw [← hW]
          clear hW
          refine wp_region_grow_lit (by kernel_rfl) (by kernel_rfl) ?_
          repeat (go_big_quiet_step ((go_at_call 36; exact grow_of (end_any _ _ _ (by omega) (by omega)))))
          refine wpQuiet_nil ?_
          intro _ hw'
          obtain ⟨z, hw''⟩ := hw'
          subst hw''
          go_wp2
          go_roundw
          case rel => exact ⟨k + 1, out, A', c', by omega, by go_num, rfl, by omega, Ho2.out.below (ext_below W z) (Nat.le_refl _), by show out = _; rw [hst.out, hfin.out, ← Hw.out]; simp, hbW.trans ((ext_below W z).mono hbW.size)⟩
          case measure => simp [intOf]; omega
      · have hfin : Hid (inB r1 r2 f (x1, x2) = false) := by show inB r1 r2 f (x1, x2) = false; rw [hin, decide_eq_false t1]; simp
        have td := decide_eq_false t1
        clear hin
        go_wp2
        rw [← hW]
        clear hW
        refine wp_region_grow_lit (by kernel_rfl) (by kernel_rfl) ?_
        repeat (go_big_quiet_step ((go_at_call 36; exact grow_of (end_any _ _ _ (by omega) (by omega)))))
        refine wpQuiet_nil ?_
        intro _ hw'
        obtain ⟨z, hw''⟩ := hw'
        subst hw''
        go_wp2
        go_roundw
        case rel => exact ⟨k + 1, out, A', c', by omega, by go_num, rfl, by omega, Ho2.out.below (ext_below W z) (Nat.le_refl _), by show out = _; rw [hst.out, hfin.out, ← Hw.out]; simp, hbW.trans ((ext_below W z).mono hbW.size)⟩
        case measure => simp [intOf]; omega
    · obtain rfl : k = m := by omega
      have hd : Hid (ps.take k = ps) := List.take_of_length_le (by rw [hr.1]; exact Nat.le_refl _)
      go_wp2
      go_ret
      have hfin := Hw.out
      rw [hd.out] at hfin
      subst hfin
      exact ⟨A', _, c', rfl, Ho.out.lower hbx.size, hbx.trans (hb.mono hbx.size)⟩
end Go.Proofs.Ytkifpnhijdcjlaa
