/- The tables of the load: its functions, its types, reckoned from the program when they are asked for. -/
import Derived.Test.YtkjdlganghbgaaaGreatDoorProg
import Derived.Test.YtkjdlganghbgaaaGreatDoorEe
import Derived.WalkKit
import Derived.WalkSpells
import Derived.BigCall
import Derived.IntWalk
import Derived.Lib.Hide
import Derived.Test.YtkjdlganghbgaaaGreatDoorLay
import Derived.Test.YtkjdlganghbgaaaGreatDoorC1
import Derived.Test.YtkjdlganghbgaaaGreatDoorLm
namespace Go.Ex
/-- a table whose leaves are reckoned when they are asked for. -/
def trOf {α : Type} (d : Nat) : (Nat → Option α) → Tr α := Nat.rec (motive := fun _ => (Nat → Option α) → Tr α) (fun _ => .lf) (fun _ ih f => .nd (ih fun j => f (2 * j + 1)) (f 0) (ih fun j => f (2 * j + 2))) d
theorem trOf_get {α : Type} {d : Nat} : ∀ {f : Nat → Option α} {i : Nat} {x : α}, (trOf d f).get i = some x → f i = some x := by
  induction d with
  | zero => intro f i x h; cases h
  | succ d ih =>
    intro f i x h
    have e : trOf (d + 1) f = .nd (trOf d fun j => f (2 * j + 1)) (f 0) (trOf d fun j => f (2 * j + 2)) := rfl
    rw [e] at h
    cases i with
    | zero => exact h
    | succ j =>
      rw [Tr.get_succ] at h
      split at h
      · have := ih h
        rw [← this]
        congr 1
        omega
      · have := ih h
        rw [← this]
        congr 1
        omega
noncomputable def fnOf (P : Program) (i : Nat) : Option Func := match P.funcs[i]? with
  | some x => Bool.rec (Bool.rec (some x) none x.body.isNone) none (x.name == "runtime.NumGoroutine")
  | none => none
theorem trOf_tab (P : Program) (d : Nat) : zA7 P (trOf d (tyOf P)) := fun _ _ h => trOf_get h
theorem trOf_fns (P : Program) (d : Nat) : zDn P (trOf d (fnOf P)) := fun i x h => by
  have h := trOf_get h
  unfold fnOf at h
  cases hf : P.funcs[i]? with
  | none => rw [hf] at h; cases h
  | some y =>
    rw [hf] at h
    dsimp only at h
    cases h1 : (y.name == "runtime.NumGoroutine") with
    | true => rw [h1] at h; cases h
    | false =>
      rw [h1] at h
      cases h2 : y.body.isNone with
      | true => rw [h2] at h; cases h
      | false =>
        rw [h2] at h
        have h : some y = some x := h
        injection h with h
        subst h
        exact ⟨by first | exact hf | rfl, h1, h2⟩
end Go.Ex
namespace Go.Proofs.Tryz
open Go.Ex
noncomputable def T : Tr Ty := trOf 10 (tyOf prog)
theorem T_ok : zA7 prog T := trOf_tab prog 10
noncomputable def F : Tr Func := trOf 10 (fnOf prog)
theorem F_ok : zDn prog F := trOf_fns prog 10
end Go.Proofs.Tryz
namespace Go.Proofs.YtkjdlganghbgaaaGreatDoor
open Go.Ex Go.RowKit Go.Proofs
theorem mixed : Tryz.prog.follows .mixedOrders = true := by kernel_rfl
theorem nonext {f : FuncId} {fn : Func} (h : Tryz.prog.funcs[f]? = some fn) (h1 : (fn.name == "runtime.NumGoroutine") = false) (h2 : fn.body.isNone = false) : zCr Tryz.prog f := ⟨fn, h, h1, h2⟩
theorem pins_cell {w : World} (h : zC7 w) {i : Nat} (hi : i < 20) : w.cell? ⟨5, i, none⟩ = some (.int .u64 ((10 ^ i : Nat) : Int)) := by
  obtain ⟨⟨cs, t, fz, h1, h2⟩, _⟩ := h (5, pow10P) (List.mem_cons_self ..)
  have h2 := h2 i hi
  unfold World.cell?
  simp only [h1]
  exact h2
theorem pins_below {w w' : World} (h : zC7 w) (hb : Below w.heap.size w w') : zC7 w' := h.same fun b hlt _ => hb.block b hlt
set_option maxRecDepth 100000 in
set_option maxHeartbeats 1000000 in
theorem digits_walk (u n nd : Nat) (b : Bool) (x : Int) (h1 : ∀ w, zC7 w → Calls Tryz.prog 368 #[.int .u64 u] w fun e w' => e = .returned (.int .i64 n) ∧ Below w.heap.size w w')
    (h2 : ∀ w, zC7 w → Calls Tryz.prog 367 #[.int .i64 n] w fun e w' => e = .returned (.int .i64 nd) ∧ Below w.heap.size w w')
    (h3 : ∀ w, zC7 w → Calls Tryz.prog 369 #[.bool b] w fun e w' => e = .returned (.int .i64 x) ∧ Below w.heap.size w w')
    (hnd : nd < 20) (hb : decide ((10 : Int) ^ nd ≤ (u : Int)) = b) (hx0 : 0 ≤ x) (hx1 : x ≤ 1) (w : World) (hw : zC7 w) :
    Calls Tryz.prog 250 #[.int .u64 u] w fun e w' => e = .returned (.int .i64 (nd + x)) ∧ Below w.heap.size w w' := by
  go_enter Tryz.func250, Tryz.ntmps250
  go_wp2_with (fail)
  refine (h1 _ hw).mono ?_
  rintro e w1 ⟨rfl, hb1⟩
  have hw1 := pins_below hw hb1
  go_wp2_with (fail)
  refine (h2 _ hw1).mono ?_
  rintro e w2 ⟨rfl, hb2⟩
  have hw2 := pins_below hw1 hb2
  have hc := pins_cell hw2 hnd
  have HB := Lib.hid hb
  clear hb
  go_wp2_with (fail)
  rw [HB.out]
  refine (h3 _ hw2).mono ?_
  rintro e w3 ⟨rfl, hb3⟩
  go_wp2_with (fail)
  go_ret
  exact ⟨rfl, (hb1.trans (hb2.mono hb1.size)).trans (hb3.mono (Nat.le_trans hb1.size hb2.size))⟩
noncomputable def oneR (f : FuncId) (a v : V) : Bool := runV Tryz.T Tryz.F (ntOf []) 2000 50 f (.cons a .nil) v (q 0)
theorem one_at {f : FuncId} (hf : zCr Tryz.prog f) {a v : V} {a' v' : Value} (ea : ∀ ρ : Env, a.val ρ = a') (ev : ∀ ρ : Env, v.val ρ = v') (fa : zAk 4 a' = true) (fv : zAk 4 v' = true) (h : oneR f a v = true) (w : World) (hw : zC7 w) : Calls Tryz.prog f #[a'] w fun e w' => e = .returned v' ∧ Below w.heap.size w w' := by
  have e : ∀ ρ : Env, (V.cons a .nil).vals ρ = [a'] := fun ρ => by rw [← ea ρ]; rfl
  have := (runV_ok (ρ := ⟨fun _ => .int .i64 0, T5.new⟩) mixed Tryz.T_ok Tryz.F_ok (fun _ => zAb (fun x hx => by cases hx)) hf h (by rw [e]; simpa using fa) (by rw [ev]; exact fv)).2.2 w hw
  rw [e, ev] at this
  exact this
/-- the numbers of three digits that the run writes. -/
theorem digits_of (u n nd : Nat) (b : Bool) (x : Nat) (h1 : oneR 368 (.int .u64 u) (.int .i64 n) = true) (h2 : oneR 367 (.int .i64 n) (.int .i64 nd) = true) (h3 : oneR 369 (.bool b) (.int .i64 x) = true)
    (hnd : nd < 20) (hb : decide ((10 : Int) ^ nd ≤ (u : Int)) = b) (hx1 : x ≤ 1) (hx : nd + x = 3) {ρ : Env} : Go.Ex.Told Tryz.prog ρ 250 (.cons (.int .u64 u) .nil) (.int .i64 3) := by
  refine ⟨fun v hv => ?_, rfl, fun w hw => ?_⟩
  · have hv : v ∈ [Value.int .u64 u] := hv
    rw [List.mem_singleton] at hv
    subst hv
    rfl
  · have := digits_walk u n nd b x (one_at (nonext Tryz.func368 (by kernel_rfl) (by kernel_rfl)) (fun _ => rfl) (fun _ => rfl) rfl rfl h1) (one_at (nonext Tryz.func367 (by kernel_rfl) (by kernel_rfl)) (fun _ => rfl) (fun _ => rfl) rfl rfl h2) (one_at (nonext Tryz.func369 (by kernel_rfl) (by kernel_rfl)) (fun _ => rfl) (fun _ => rfl) rfl rfl h3) hnd hb (by omega) (by omega) w hw
    have e : (nd : Int) + (x : Int) = 3 := by omega
    rw [e] at this
    exact this
def digT : List (V × V) := [(.cons (.int .u64 256) .nil, .int .i64 3), (.cons (.int .u64 128) .nil, .int .i64 3), (.cons (.int .u64 310) .nil, .int .i64 3), (.cons (.int .u64 120) .nil, .int .i64 3), (.cons (.int .u64 210) .nil, .int .i64 3), (.cons (.int .u64 121) .nil, .int .i64 3), (.cons (.int .u64 216) .nil, .int .i64 3)]
theorem digOK {ρ : Env} : CfOK Tryz.prog ρ 250 (toldC digT) := by
  refine told_ok (nonext Tryz.func250 (by kernel_rfl) (by kernel_rfl)) fun x hx => ?_
  unfold digT at hx
  simp only [List.mem_cons, List.not_mem_nil, or_false] at hx
  rcases hx with rfl | rfl | rfl | rfl | rfl | rfl | rfl
  · exact digits_of 256 9 2 true 1 (by kernel_rfl) (by kernel_rfl) (by kernel_rfl) (by decide) (by decide) (by decide) (by decide)
  · exact digits_of 128 8 2 true 1 (by kernel_rfl) (by kernel_rfl) (by kernel_rfl) (by decide) (by decide) (by decide) (by decide)
  · exact digits_of 310 9 2 true 1 (by kernel_rfl) (by kernel_rfl) (by kernel_rfl) (by decide) (by decide) (by decide) (by decide)
  · exact digits_of 120 7 2 true 1 (by kernel_rfl) (by kernel_rfl) (by kernel_rfl) (by decide) (by decide) (by decide) (by decide)
  · exact digits_of 210 8 2 true 1 (by kernel_rfl) (by kernel_rfl) (by kernel_rfl) (by decide) (by decide) (by decide) (by decide)
  · exact digits_of 121 7 2 true 1 (by kernel_rfl) (by kernel_rfl) (by kernel_rfl) (by decide) (by decide) (by decide) (by decide)
  · exact digits_of 216 8 2 true 1 (by kernel_rfl) (by kernel_rfl) (by kernel_rfl) (by decide) (by decide) (by decide) (by decide)
end Go.Proofs.YtkjdlganghbgaaaGreatDoor
namespace Go.Proofs.YtkjdlganghbgaaaGreatDoor
open Go.Ex Go.Proofs

noncomputable section
/-- the closures of slices.Chunk, of maps.Keys. -/
def chunksB (f : FuncId) : Bool := Nat.beq f 520 || Nat.beq f 521
/-- the closure of strings.Lines. -/
def linesB (f : FuncId) : Bool := Nat.beq f 50
def keysB (f : FuncId) : Bool := Nat.beq f 260 || Nat.beq f 421
def natLof (c : CF) : List (FuncId × CF) := [(87, noEscC), (194, noZeroC 5), (167, repeatC), (286, fnT Tryz.T Tryz.F 286), (110, c), (142, zGp keysB 3), (308, fnR Tryz.T Tryz.F chunksB 308), (387, nodesC (fnC Tryz.T Tryz.F 387)), (436, zF8), (90, countC), (161, placeC), (12, fnL Tryz.T Tryz.F linesB 12), (250, toldC digT)]
def natL : List (FuncId × CF) := natLof (fnT Tryz.T Tryz.F 110)
/-- the queue of a cache that is not looked at any more is forgotten. -/
def natLg : List (FuncId × CF) := natLof (fnTg [391, 495] Tryz.T Tryz.F 110)
/-- so many of one value, as a chain. -/
def repV (n : Nat) (v : V) : V := Nat.rec .nil (fun _ ih => .cons v ih) n
end
theorem chunksOK : zDo Tryz.prog chunksB := fun f hf => by
  unfold chunksB at hf
  rw [Bool.or_eq_true] at hf
  rcases hf with hf | hf
  · have := Nat.eq_of_beq_eq_true hf
    subst this
    exact ⟨chunkA, Tryz.f520, Tryz.func520, by kernel_rfl, by kernel_rfl⟩
  · have := Nat.eq_of_beq_eq_true hf
    subst this
    exact ⟨chunkB, Tryz.f521, Tryz.func521, by kernel_rfl, by kernel_rfl⟩
theorem sortsOK (m : Nat) : AnyZI.SortsIn Tryz.prog Tryz.sortedA_ren Fence.wide m :=
  ⟨fun blk off cap ss W hH hblk hsz => callsIn_wide.2 (AnyM.slices_Sort_int Tryz.sortA blk off cap ss W hH hblk hsz), fun p cap W => callsIn_wide.2 (AnyM.slices_Sort_int_none Tryz.sortA p cap W)⟩
theorem sortedOK : zHq Tryz.prog 142 keysB 3 :=
  sorted_is (σ := Tryz.sortedA_ren) Tryz.sortedA sortsOK (Go.Ex.enters_of (nonext Tryz.func259 (by kernel_rfl) (by kernel_rfl))) fun fk hf => by
    unfold keysB at hf
    rw [Bool.or_eq_true] at hf
    rcases hf with hf | hf
    · have := Nat.eq_of_beq_eq_true hf
      subst this
      exact ⟨Tryz.keysA_ren, { Tryz.keysA with }, rfl, Go.Ex.enters_of (nonext Tryz.func260 (by kernel_rfl) (by kernel_rfl))⟩
    · have := Nat.eq_of_beq_eq_true hf
      subst this
      exact ⟨Tryz.keysB_ren, { Tryz.keysB with }, rfl, Go.Ex.enters_of (nonext Tryz.func421 (by kernel_rfl) (by kernel_rfl))⟩
theorem noEscOK : Extf Tryz.prog 87 Extern.AbiNoEscape.same := ⟨Tryz.f87, Tryz.func87, by kernel_rfl, by kernel_rfl, by kernel_rfl, by kernel_rfl⟩
theorem noZeroOK : ∃ ps, Extf Tryz.prog 194 (Extern.BytealgMakeNoZero.makeNoZero ps #[31]) := ⟨Tryz.f194.params, Tryz.f194, Tryz.func194, by kernel_rfl, by kernel_rfl, by kernel_rfl, by kernel_rfl⟩
theorem countOK : Extf Tryz.prog 90 Extern.BytealgCount.count := ⟨Tryz.f90, Tryz.func90, by kernel_rfl, by kernel_rfl, by kernel_rfl, by kernel_rfl⟩
theorem placeOK : Extf Tryz.prog 161 Extern.BytealgIndexByte.indexByte := ⟨Tryz.f161, Tryz.func161, by kernel_rfl, by kernel_rfl, by kernel_rfl, by kernel_rfl⟩
theorem linesOK : zFi Tryz.prog linesB := fun f hf => by
  have := Nat.eq_of_beq_eq_true hf
  subst this
  exact ⟨lines_is, nonext Tryz.func50 (by kernel_rfl) (by kernel_rfl)⟩
set_option maxRecDepth 10000 in
theorem natOKof {ρ : Env} {c : CF} (e5 : CfOK Tryz.prog ρ 110 c) : ∀ x ∈ natLof c, CfOK Tryz.prog ρ x.1 x.2 := by
  have e1 : CfOK Tryz.prog ρ 87 noEscC := noEsc_ok noEscOK
  have e2 : CfOK Tryz.prog ρ 194 (noZeroC 5) := by
    obtain ⟨ps, h⟩ := noZeroOK
    exact noZero_ok Tryz.underlying31 h
  have hrep : Tryz.lays105_ren.f 105 = 167 := by kernel_rfl
  have e3 : CfOK Tryz.prog ρ 167 repeatC := by
    have := repeat_ok (ρ := ρ) Tryz.lays105 Tryz.Builder_Extra_105
    rwa [hrep] at this
  have e4 : CfOK Tryz.prog ρ 286 (fnT Tryz.T Tryz.F 286) := fnT_ok mixed Tryz.T_ok Tryz.F_ok (by decide +kernel)
  have e6 : CfOK Tryz.prog ρ 142 (zGp keysB 3) := sorted_ok sortedOK (nonext Tryz.func142 (by kernel_rfl) (by kernel_rfl))
  have e7 : CfOK Tryz.prog ρ 308 (fnR Tryz.T Tryz.F chunksB 308) := fnR_ok mixed Tryz.T_ok Tryz.F_ok chunksOK (by decide +kernel)
  have e8 : CfOK Tryz.prog ρ 387 (nodesC (fnC Tryz.T Tryz.F 387)) := nodes_ok nodesA (nonext Tryz.func387 (by kernel_rfl) (by kernel_rfl)) (fnC_ok mixed Tryz.T_ok Tryz.F_ok (by decide +kernel))
  have h150 : Tryz.lays150_ren.f 150 = 436 := by kernel_rfl
  have e9 : CfOK Tryz.prog ρ 436 zF8 := by
    have := contains_ok (ρ := ρ) Tryz.lays150 Tryz.set150
    rwa [h150] at this
  intro x hx
  unfold natLof at hx
  simp only [List.mem_cons, List.not_mem_nil, or_false] at hx
  rcases hx with rfl | rfl | rfl | rfl | rfl | rfl | rfl | rfl | rfl | rfl | rfl | rfl | rfl
  · exact e1
  · exact e2
  · exact e3
  · exact e4
  · exact e5
  · exact e6
  · exact e7
  · exact e8
  · exact e9
  · exact count_ok countOK
  · exact place_ok placeOK
  · exact fnL_ok mixed Tryz.T_ok Tryz.F_ok linesOK (by decide +kernel)
  · exact digOK
theorem natOK {ρ : Env} : ∀ x ∈ natL, CfOK Tryz.prog ρ x.1 x.2 := natOKof (fnT_ok mixed Tryz.T_ok Tryz.F_ok (by decide +kernel))
theorem natOKg {ρ : Env} : ∀ x ∈ natLg, CfOK Tryz.prog ρ x.1 x.2 := natOKof (fnTg_ok mixed Tryz.T_ok Tryz.F_ok (by decide +kernel))
end Go.Proofs.YtkjdlganghbgaaaGreatDoor
