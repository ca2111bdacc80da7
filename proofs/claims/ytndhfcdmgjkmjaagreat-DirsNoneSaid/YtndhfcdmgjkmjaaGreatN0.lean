/- The natives of the load: what is done by hand, or by the kit's contracts. -/
import Derived.Test.YtndhfcdmgjkmjaaGreatTab
import Derived.Test.YtndhfcdmgjkmjaaGreatLay
import Derived.Test.YtndhfcdmgjkmjaaGreatC1
namespace Go.Proofs.YtndhfcdmgjkmjaaGreat
open Go.Ex Go.Proofs

noncomputable section
/-- the closures of slices.Chunk, of maps.Keys. -/
def chunksB (f : FuncId) : Bool := Nat.beq f 353 || Nat.beq f 354
def keysB (f : FuncId) : Bool := Nat.beq f 274 || Nat.beq f 322
def natL : List (FuncId × CF) := [(112, noEscC), (305, noZeroC 5), (121, repeatC), (211, fnT Tryz.T Tryz.F 211), (143, fnT Tryz.T Tryz.F 143), (213, sortedC keysB 3), (284, fnR Tryz.T Tryz.F chunksB 284), (179, nodesC (fnC Tryz.T Tryz.F 179)), (163, containsC)]
/-- so many of one value, as a chain. -/
def repV (n : Nat) (v : V) : V := Nat.rec .nil (fun _ ih => .cons v ih) n
end
theorem mixed : Tryz.prog.follows .mixedOrders = true := by kernel_rfl
theorem chunksOK : ChunksOK Tryz.prog chunksB := fun f hf => by
  unfold chunksB at hf
  rw [Bool.or_eq_true] at hf
  rcases hf with hf | hf
  · have := Nat.eq_of_beq_eq_true hf
    subst this
    exact ⟨chunkA, Tryz.f353, Tryz.func353, by kernel_rfl, by kernel_rfl⟩
  · have := Nat.eq_of_beq_eq_true hf
    subst this
    exact ⟨chunkB, Tryz.f354, Tryz.func354, by kernel_rfl, by kernel_rfl⟩
theorem sortsOK (m : Nat) : AnyZI.SortsIn Tryz.prog Tryz.sortedA_ren Fence.wide m :=
  ⟨fun blk off cap ss W hH hblk hsz => callsIn_wide.2 (AnyM.slices_Sort_int Tryz.sortA blk off cap ss W hH hblk hsz), fun p cap W => callsIn_wide.2 (AnyM.slices_Sort_int_none Tryz.sortA p cap W)⟩
theorem nonext {f : FuncId} {fn : Func} (h : Tryz.prog.funcs[f]? = some fn) (h1 : (fn.name == "runtime.NumGoroutine") = false) (h2 : fn.body.isNone = false) : Nonext Tryz.prog f := ⟨fn, h, h1, h2⟩
theorem sortedOK : SortedIs Tryz.prog 213 keysB 3 :=
  sorted_is (σ := Tryz.sortedA_ren) Tryz.sortedA sortsOK (Go.Ex.enters_of (nonext Tryz.func102 (by kernel_rfl) (by kernel_rfl))) fun fk hf => by
    unfold keysB at hf
    rw [Bool.or_eq_true] at hf
    rcases hf with hf | hf
    · have := Nat.eq_of_beq_eq_true hf
      subst this
      exact ⟨Tryz.keysA_ren, { Tryz.keysA with }, rfl, Go.Ex.enters_of (nonext Tryz.func274 (by kernel_rfl) (by kernel_rfl))⟩
    · have := Nat.eq_of_beq_eq_true hf
      subst this
      exact ⟨Tryz.keysB_ren, { Tryz.keysB with }, rfl, Go.Ex.enters_of (nonext Tryz.func322 (by kernel_rfl) (by kernel_rfl))⟩
theorem noEscOK : Extf Tryz.prog 112 Extern.AbiNoEscape.same := ⟨Tryz.f112, Tryz.func112, by kernel_rfl, by kernel_rfl, by kernel_rfl, by kernel_rfl⟩
theorem noZeroOK : ∃ ps, Extf Tryz.prog 305 (Extern.BytealgMakeNoZero.makeNoZero ps #[78]) := ⟨Tryz.f305.params, Tryz.f305, Tryz.func305, by kernel_rfl, by kernel_rfl, by kernel_rfl, by kernel_rfl⟩
set_option maxRecDepth 10000 in
theorem natOK {ρ : Env} : ∀ x ∈ natL, CfOK Tryz.prog ρ x.1 x.2 := by
  have e1 : CfOK Tryz.prog ρ 112 noEscC := noEsc_ok noEscOK
  have e2 : CfOK Tryz.prog ρ 305 (noZeroC 5) := by
    obtain ⟨ps, h⟩ := noZeroOK
    exact noZero_ok Tryz.underlying78 h
  have hrep : Tryz.lays105_ren.f 105 = 121 := by kernel_rfl
  have e3 : CfOK Tryz.prog ρ 121 repeatC := by
    have := repeat_ok (ρ := ρ) Tryz.lays105 Tryz.Builder_Extra_105
    rwa [hrep] at this
  have e4 : CfOK Tryz.prog ρ 211 (fnT Tryz.T Tryz.F 211) := fnT_ok mixed Tryz.T_ok Tryz.F_ok (by decide +kernel)
  have e5 : CfOK Tryz.prog ρ 143 (fnT Tryz.T Tryz.F 143) := fnT_ok mixed Tryz.T_ok Tryz.F_ok (by decide +kernel)
  have e6 : CfOK Tryz.prog ρ 213 (sortedC keysB 3) := sorted_ok sortedOK (nonext Tryz.func213 (by kernel_rfl) (by kernel_rfl))
  have e7 : CfOK Tryz.prog ρ 284 (fnR Tryz.T Tryz.F chunksB 284) := fnR_ok mixed Tryz.T_ok Tryz.F_ok chunksOK (by decide +kernel)
  have e8 : CfOK Tryz.prog ρ 179 (nodesC (fnC Tryz.T Tryz.F 179)) := nodes_ok nodesA (nonext Tryz.func179 (by kernel_rfl) (by kernel_rfl)) (fnC_ok mixed Tryz.T_ok Tryz.F_ok (by decide +kernel))
  have h150 : Tryz.lays150_ren.f 150 = 163 := by kernel_rfl
  have e9 : CfOK Tryz.prog ρ 163 containsC := by
    have := contains_ok (ρ := ρ) Tryz.lays150 Tryz.set150
    rwa [h150] at this
  intro x hx
  unfold natL at hx
  simp only [List.mem_cons, List.not_mem_nil, or_false] at hx
  rcases hx with rfl | rfl | rfl | rfl | rfl | rfl | rfl | rfl | rfl
  · exact e1
  · exact e2
  · exact e3
  · exact e4
  · exact e5
  · exact e6
  · exact e7
  · exact e8
  · exact e9
end Go.Proofs.YtndhfcdmgjkmjaaGreat
