/- How many digits a number has, for the numbers that the run writes: told by the table of powers of ten. -/
import Derived.Test.YtkjdlganghbgaaaGreatDoorTab
import Derived.WalkKit
import Derived.WalkSpells
import Derived.BigCall
import Derived.IntWalk
import Derived.Lib.Hide
namespace Go.Proofs.YtkjdlganghbgaaaGreatDoor
open Go.Ex Go.RowKit Go.Proofs
theorem mixed : Tryz.prog.follows .mixedOrders = true := by kernel_rfl
theorem nonext {f : FuncId} {fn : Func} (h : Tryz.prog.funcs[f]? = some fn) (h1 : (fn.name == "runtime.NumGoroutine") = false) (h2 : fn.body.isNone = false) : Nonext Tryz.prog f := ⟨fn, h, h1, h2⟩
theorem pins_cell {w : World} (h : PinsIn w) {i : Nat} (hi : i < 20) : w.cell? ⟨5, i, none⟩ = some (.int .u64 ((10 ^ i : Nat) : Int)) := by
  obtain ⟨⟨cs, t, fz, h1, h2⟩, _⟩ := h (5, pow10P) (List.mem_cons_self ..)
  have h2 := h2 i hi
  unfold World.cell?
  simp only [h1]
  exact h2
theorem pins_below {w w' : World} (h : PinsIn w) (hb : Below w.heap.size w w') : PinsIn w' := h.same fun b hlt _ => hb.block b hlt
set_option maxRecDepth 100000 in
set_option maxHeartbeats 1000000 in
theorem digits_walk (u n nd : Nat) (b : Bool) (x : Int) (h1 : ∀ w, PinsIn w → Calls Tryz.prog 368 #[.int .u64 u] w fun e w' => e = .returned (.int .i64 n) ∧ Below w.heap.size w w')
    (h2 : ∀ w, PinsIn w → Calls Tryz.prog 367 #[.int .i64 n] w fun e w' => e = .returned (.int .i64 nd) ∧ Below w.heap.size w w')
    (h3 : ∀ w, PinsIn w → Calls Tryz.prog 369 #[.bool b] w fun e w' => e = .returned (.int .i64 x) ∧ Below w.heap.size w w')
    (hnd : nd < 20) (hb : decide ((10 : Int) ^ nd ≤ (u : Int)) = b) (hx0 : 0 ≤ x) (hx1 : x ≤ 1) (w : World) (hw : PinsIn w) :
    Calls Tryz.prog 250 #[.int .u64 u] w fun e w' => e = .returned (.int .i64 (nd + x)) ∧ Below w.heap.size w w' := by
  go_enter Tryz.func250, Tryz.ntmps250
  go_wp2_with (fail)
  refine (h1 _ hw).mono ?_
  rintro e w1 ⟨rfl, hb1⟩
  have hw1 := pins_below hw hb1
  go_wp2_with (fail)
  refine (h2 _ hw1).mono ?_
  rintro e w2 ⟨rfl, hb2⟩
  have hw2 := pins_below hw1 hb2
  have hc := pins_cell hw2 hnd
  have HB := Lib.hid hb
  clear hb
  go_wp2_with (fail)
  rw [HB.out]
  refine (h3 _ hw2).mono ?_
  rintro e w3 ⟨rfl, hb3⟩
  go_wp2_with (fail)
  go_ret
  exact ⟨rfl, (hb1.trans (hb2.mono hb1.size)).trans (hb3.mono (Nat.le_trans hb1.size hb2.size))⟩
noncomputable def oneR (f : FuncId) (a v : V) : Bool := runV Tryz.T Tryz.F (ntOf []) 2000 50 f (.cons a .nil) v (q 0)
theorem one_at {f : FuncId} (hf : Nonext Tryz.prog f) {a v : V} {a' v' : Value} (ea : ∀ ρ : Env, a.val ρ = a') (ev : ∀ ρ : Env, v.val ρ = v') (fa : flatB 4 a' = true) (fv : flatB 4 v' = true) (h : oneR f a v = true) (w : World) (hw : PinsIn w) : Calls Tryz.prog f #[a'] w fun e w' => e = .returned v' ∧ Below w.heap.size w w' := by
  have e : ∀ ρ : Env, (V.cons a .nil).vals ρ = [a'] := fun ρ => by rw [← ea ρ]; rfl
  have := (runV_ok (ρ := ⟨fun _ => .int .i64 0, T5.new⟩) mixed Tryz.T_ok Tryz.F_ok (fun _ => ntOf_ok (fun x hx => by cases hx)) hf h (by rw [e]; simpa using fa) (by rw [ev]; exact fv)).2.2 w hw
  rw [e, ev] at this
  exact this
/-- the numbers of three digits that the run writes. -/
theorem digits_of (u n nd : Nat) (b : Bool) (x : Nat) (h1 : oneR 368 (.int .u64 u) (.int .i64 n) = true) (h2 : oneR 367 (.int .i64 n) (.int .i64 nd) = true) (h3 : oneR 369 (.bool b) (.int .i64 x) = true)
    (hnd : nd < 20) (hb : decide ((10 : Int) ^ nd ≤ (u : Int)) = b) (hx1 : x ≤ 1) (hx : nd + x = 3) {ρ : Env} : Go.Ex.Told Tryz.prog ρ 250 (.cons (.int .u64 u) .nil) (.int .i64 3) := by
  refine ⟨fun v hv => ?_, rfl, fun w hw => ?_⟩
  · have hv : v ∈ [Value.int .u64 u] := hv
    rw [List.mem_singleton] at hv
    subst hv
    rfl
  · have := digits_walk u n nd b x (one_at (nonext Tryz.func368 (by kernel_rfl) (by kernel_rfl)) (fun _ => rfl) (fun _ => rfl) rfl rfl h1) (one_at (nonext Tryz.func367 (by kernel_rfl) (by kernel_rfl)) (fun _ => rfl) (fun _ => rfl) rfl rfl h2) (one_at (nonext Tryz.func369 (by kernel_rfl) (by kernel_rfl)) (fun _ => rfl) (fun _ => rfl) rfl rfl h3) hnd hb (by omega) (by omega) w hw
    have e : (nd : Int) + (x : Int) = 3 := by omega
    rw [e] at this
    exact this
def digT : List (V × V) := [(.cons (.int .u64 256) .nil, .int .i64 3), (.cons (.int .u64 128) .nil, .int .i64 3), (.cons (.int .u64 310) .nil, .int .i64 3), (.cons (.int .u64 120) .nil, .int .i64 3), (.cons (.int .u64 210) .nil, .int .i64 3), (.cons (.int .u64 121) .nil, .int .i64 3), (.cons (.int .u64 216) .nil, .int .i64 3)]
theorem digOK {ρ : Env} : CfOK Tryz.prog ρ 250 (toldC digT) := by
  refine told_ok (nonext Tryz.func250 (by kernel_rfl) (by kernel_rfl)) fun x hx => ?_
  unfold digT at hx
  simp only [List.mem_cons, List.not_mem_nil, or_false] at hx
  rcases hx with rfl | rfl | rfl | rfl | rfl | rfl | rfl
  · exact digits_of 256 9 2 true 1 (by kernel_rfl) (by kernel_rfl) (by kernel_rfl) (by decide) (by decide) (by decide) (by decide)
  · exact digits_of 128 8 2 true 1 (by kernel_rfl) (by kernel_rfl) (by kernel_rfl) (by decide) (by decide) (by decide) (by decide)
  · exact digits_of 310 9 2 true 1 (by kernel_rfl) (by kernel_rfl) (by kernel_rfl) (by decide) (by decide) (by decide) (by decide)
  · exact digits_of 120 7 2 true 1 (by kernel_rfl) (by kernel_rfl) (by kernel_rfl) (by decide) (by decide) (by decide) (by decide)
  · exact digits_of 210 8 2 true 1 (by kernel_rfl) (by kernel_rfl) (by kernel_rfl) (by decide) (by decide) (by decide) (by decide)
  · exact digits_of 121 7 2 true 1 (by kernel_rfl) (by kernel_rfl) (by kernel_rfl) (by decide) (by decide) (by decide) (by decide)
  · exact digits_of 216 8 2 true 1 (by kernel_rfl) (by kernel_rfl) (by kernel_rfl) (by decide) (by decide) (by decide) (by decide)
end Go.Proofs.YtkjdlganghbgaaaGreatDoor
