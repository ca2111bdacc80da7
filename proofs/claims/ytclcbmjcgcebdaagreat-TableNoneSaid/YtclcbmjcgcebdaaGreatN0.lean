/- The natives of the load: what is done by hand, or by the kit's contracts. -/
import Derived.Test.YtclcbmjcgcebdaaGreatTab
import Derived.Test.YtclcbmjcgcebdaaGreatLay
import Derived.Test.YtclcbmjcgcebdaaGreatC1
import Derived.Test.YtclcbmjcgcebdaaGreatEe
namespace Go.Proofs.YtclcbmjcgcebdaaGreat
open Go.Ex Go.Proofs

noncomputable section
/-- the closures of slices.Chunk, of maps.Keys. -/
def chunksB (f : FuncId) : Bool := Nat.beq f 293 || Nat.beq f 294
def keysB (f : FuncId) : Bool := Nat.beq f 242 || Nat.beq f 263
def natL : List (FuncId × CF) := [(212, noEscC), (213, noZeroC 5), (54, repeatC), (190, fnT Tryz.T Tryz.F 190), (139, fnT Tryz.T Tryz.F 139), (192, sortedC keysB 3), (251, fnR Tryz.T Tryz.F chunksB 251), (47, nodesC (fnC Tryz.T Tryz.F 47))]
end
theorem mixed : Tryz.prog.follows .mixedOrders = true := by kernel_rfl
theorem chunksOK : ChunksOK Tryz.prog chunksB := fun f hf => by
  unfold chunksB at hf
  rw [Bool.or_eq_true] at hf
  rcases hf with hf | hf
  · have := Nat.eq_of_beq_eq_true hf
    subst this
    exact ⟨chunkA, Tryz.f293, Tryz.func293, by kernel_rfl, by kernel_rfl⟩
  · have := Nat.eq_of_beq_eq_true hf
    subst this
    exact ⟨chunkB, Tryz.f294, Tryz.func294, by kernel_rfl, by kernel_rfl⟩
theorem sortsOK (m : Nat) : AnyZI.SortsIn Tryz.prog Tryz.sortedA_ren Fence.wide m :=
  ⟨fun blk off cap ss W hH hblk hsz => callsIn_wide.2 (AnyM.slices_Sort_int Tryz.sortA blk off cap ss W hH hblk hsz), fun p cap W => callsIn_wide.2 (AnyM.slices_Sort_int_none Tryz.sortA p cap W)⟩
theorem nonext {f : FuncId} {fn : Func} (h : Tryz.prog.funcs[f]? = some fn) (h1 : (fn.name == "runtime.NumGoroutine") = false) (h2 : fn.body.isNone = false) : Nonext Tryz.prog f := ⟨fn, h, h1, h2⟩
theorem sortedOK : SortedIs Tryz.prog 192 keysB 3 :=
  sorted_is (σ := Tryz.sortedA_ren) Tryz.sortedA sortsOK (Go.Ex.enters_of (nonext Tryz.func241 (by kernel_rfl) (by kernel_rfl))) fun fk hf => by
    unfold keysB at hf
    rw [Bool.or_eq_true] at hf
    rcases hf with hf | hf
    · have := Nat.eq_of_beq_eq_true hf
      subst this
      exact ⟨Tryz.keysA_ren, { Tryz.keysA with }, rfl, Go.Ex.enters_of (nonext Tryz.func242 (by kernel_rfl) (by kernel_rfl))⟩
    · have := Nat.eq_of_beq_eq_true hf
      subst this
      exact ⟨Tryz.keysB_ren, { Tryz.keysB with }, rfl, Go.Ex.enters_of (nonext Tryz.func263 (by kernel_rfl) (by kernel_rfl))⟩
theorem noEscOK : Extf Tryz.prog 212 Extern.AbiNoEscape.same := ⟨Tryz.f212, Tryz.func212, by kernel_rfl, by kernel_rfl, by kernel_rfl, by kernel_rfl⟩
theorem noZeroOK : ∃ ps, Extf Tryz.prog 213 (Extern.BytealgMakeNoZero.makeNoZero ps #[192]) := ⟨Tryz.f213.params, Tryz.f213, Tryz.func213, by kernel_rfl, by kernel_rfl, by kernel_rfl, by kernel_rfl⟩
set_option maxRecDepth 10000 in
theorem natOK {ρ : Env} : ∀ x ∈ natL, CfOK Tryz.prog ρ x.1 x.2 := by
  have e1 : CfOK Tryz.prog ρ 212 noEscC := noEsc_ok noEscOK
  have e2 : CfOK Tryz.prog ρ 213 (noZeroC 5) := by
    obtain ⟨ps, h⟩ := noZeroOK
    exact noZero_ok Tryz.underlying192 h
  have h54 : Tryz.lays105_ren.f 105 = 54 := by kernel_rfl
  have e3 : CfOK Tryz.prog ρ 54 repeatC := by
    have := repeat_ok (ρ := ρ) Tryz.lays105 Tryz.Builder_Extra_105
    rwa [h54] at this
  have e4 : CfOK Tryz.prog ρ 190 (fnT Tryz.T Tryz.F 190) := fnT_ok mixed Tryz.T_ok Tryz.F_ok (by decide +kernel)
  have e5 : CfOK Tryz.prog ρ 139 (fnT Tryz.T Tryz.F 139) := fnT_ok mixed Tryz.T_ok Tryz.F_ok (by decide +kernel)
  have e6 : CfOK Tryz.prog ρ 192 (sortedC keysB 3) := sorted_ok sortedOK (nonext Tryz.func192 (by kernel_rfl) (by kernel_rfl))
  have e7 : CfOK Tryz.prog ρ 251 (fnR Tryz.T Tryz.F chunksB 251) := fnR_ok mixed Tryz.T_ok Tryz.F_ok chunksOK (by decide +kernel)
  have e8 : CfOK Tryz.prog ρ 47 (nodesC (fnC Tryz.T Tryz.F 47)) := nodes_ok nodesA (nonext Tryz.func47 (by kernel_rfl) (by kernel_rfl)) (fnC_ok mixed Tryz.T_ok Tryz.F_ok (by decide +kernel))
  intro x hx
  unfold natL at hx
  simp only [List.mem_cons, List.not_mem_nil, or_false] at hx
  rcases hx with rfl | rfl | rfl | rfl | rfl | rfl | rfl | rfl
  · exact e1
  · exact e2
  · exact e3
  · exact e4
  · exact e5
  · exact e6
  · exact e7
  · exact e8
end Go.Proofs.YtclcbmjcgcebdaaGreat
