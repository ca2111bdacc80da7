/- The natives of the load: what is done by hand, or by the kit's contracts. -/
import Derived.Test.YtfmjhleccnmhkaaGreatTab
import Derived.Test.YtfmjhleccnmhkaaGreatLay
import Derived.Test.YtfmjhleccnmhkaaGreatC1
import Derived.Test.YtfmjhleccnmhkaaGreatNQ
namespace Go.Proofs.YtfmjhleccnmhkaaGreat
open Go.Ex Go.Proofs

noncomputable section
/-- the closures of slices.Chunk, of maps.Keys. -/
def chunksB (f : FuncId) : Bool := Nat.beq f 318 || Nat.beq f 319
def keysB (f : FuncId) : Bool := Nat.beq f 152 || Nat.beq f 237
def umF (f : FuncId) : CF := fnU selT clT Tryz.T Tryz.F f
def vmF (f : FuncId) : CF := fnV selT clT Tryz.T Tryz.F f
def cpF : CF := fnU selD clD Tryz.T Tryz.F 75
def natL : List (FuncId × CF) := [(323, noEscC), (352, noZeroC 5), (123, repeatC), (68, vmF 68), (28, umF 28), (76, vmF 76), (185, vmF 185), (194, vmF 194), (75, cpF), (29, fnT Tryz.T Tryz.F 29), (70, sortedC keysB 3), (165, fnR Tryz.T Tryz.F chunksB 165), (81, nodesC (fnC Tryz.T Tryz.F 81)), (338, containsC), (157, qC true), (166, qC false)]
/-- so many of one value, as a chain. -/
def repV (n : Nat) (v : V) : V := Nat.rec .nil (fun _ ih => .cons v ih) n
end
theorem mixed : Tryz.prog.follows .mixedOrders = true := by kernel_rfl
theorem chunksOK : ChunksOK Tryz.prog chunksB := fun f hf => by
  unfold chunksB at hf
  rw [Bool.or_eq_true] at hf
  rcases hf with hf | hf
  · have := Nat.eq_of_beq_eq_true hf
    subst this
    exact ⟨chunkA, Tryz.f318, Tryz.func318, by kernel_rfl, by kernel_rfl⟩
  · have := Nat.eq_of_beq_eq_true hf
    subst this
    exact ⟨chunkB, Tryz.f319, Tryz.func319, by kernel_rfl, by kernel_rfl⟩
theorem sortsOK (m : Nat) : AnyZI.SortsIn Tryz.prog Tryz.sortedA_ren Fence.wide m :=
  ⟨fun blk off cap ss W hH hblk hsz => callsIn_wide.2 (AnyM.slices_Sort_int Tryz.sortA blk off cap ss W hH hblk hsz), fun p cap W => callsIn_wide.2 (AnyM.slices_Sort_int_none Tryz.sortA p cap W)⟩
theorem nonext {f : FuncId} {fn : Func} (h : Tryz.prog.funcs[f]? = some fn) (h1 : (fn.name == "runtime.NumGoroutine") = false) (h2 : fn.body.isNone = false) : Nonext Tryz.prog f := ⟨fn, h, h1, h2⟩
theorem sortedOK : SortedIs Tryz.prog 70 keysB 3 :=
  sorted_is (σ := Tryz.sortedA_ren) Tryz.sortedA sortsOK (Go.Ex.enters_of (nonext Tryz.func151 (by kernel_rfl) (by kernel_rfl))) fun fk hf => by
    unfold keysB at hf
    rw [Bool.or_eq_true] at hf
    rcases hf with hf | hf
    · have := Nat.eq_of_beq_eq_true hf
      subst this
      exact ⟨Tryz.keysA_ren, { Tryz.keysA with }, rfl, Go.Ex.enters_of (nonext Tryz.func152 (by kernel_rfl) (by kernel_rfl))⟩
    · have := Nat.eq_of_beq_eq_true hf
      subst this
      exact ⟨Tryz.keysB_ren, { Tryz.keysB with }, rfl, Go.Ex.enters_of (nonext Tryz.func237 (by kernel_rfl) (by kernel_rfl))⟩
theorem noEscOK : Extf Tryz.prog 323 Extern.AbiNoEscape.same := ⟨Tryz.f323, Tryz.func323, by kernel_rfl, by kernel_rfl, by kernel_rfl, by kernel_rfl⟩
theorem noZeroOK : ∃ ps, Extf Tryz.prog 352 (Extern.BytealgMakeNoZero.makeNoZero ps #[134]) := ⟨Tryz.f352.params, Tryz.f352, Tryz.func352, by kernel_rfl, by kernel_rfl, by kernel_rfl, by kernel_rfl⟩
set_option maxRecDepth 10000 in
theorem natOK {ρ : Env} : ∀ x ∈ natL, CfOK Tryz.prog ρ x.1 x.2 := by
  have e1 : CfOK Tryz.prog ρ 323 noEscC := noEsc_ok noEscOK
  have e2 : CfOK Tryz.prog ρ 352 (noZeroC 5) := by
    obtain ⟨ps, h⟩ := noZeroOK
    exact noZero_ok Tryz.underlying134 h
  have hrep : Tryz.lays105_ren.f 105 = 123 := by kernel_rfl
  have e3 : CfOK Tryz.prog ρ 123 repeatC := by
    have := repeat_ok (ρ := ρ) Tryz.lays105 Tryz.Builder_Extra_105
    rwa [hrep] at this
  have eU : ∀ f, (Tryz.F.get f).isSome = true → CfOK Tryz.prog ρ f (umF f) := fun f hf => fnU_ok mixed Tryz.T_ok Tryz.F_ok hf selT clT_ok
  have eV : ∀ f, (Tryz.F.get f).isSome = true → CfOK Tryz.prog ρ f (vmF f) := fun f hf => fnV_ok mixed Tryz.T_ok Tryz.F_ok hf selT clT_ok
  have u1 : CfOK Tryz.prog ρ 68 (vmF 68) := eV 68 (by decide +kernel)
  have u2 : CfOK Tryz.prog ρ 28 (umF 28) := eU 28 (by decide +kernel)
  have u3 : CfOK Tryz.prog ρ 76 (vmF 76) := eV 76 (by decide +kernel)
  have u4 : CfOK Tryz.prog ρ 185 (vmF 185) := eV 185 (by decide +kernel)
  have u5 : CfOK Tryz.prog ρ 194 (vmF 194) := eV 194 (by decide +kernel)
  have u6 : CfOK Tryz.prog ρ 75 cpF := fnU_ok mixed Tryz.T_ok Tryz.F_ok (by decide +kernel) selD clD_ok
  have e5 : CfOK Tryz.prog ρ 29 (fnT Tryz.T Tryz.F 29) := fnT_ok mixed Tryz.T_ok Tryz.F_ok (by decide +kernel)
  have e6 : CfOK Tryz.prog ρ 70 (sortedC keysB 3) := sorted_ok sortedOK (nonext Tryz.func70 (by kernel_rfl) (by kernel_rfl))
  have e7 : CfOK Tryz.prog ρ 165 (fnR Tryz.T Tryz.F chunksB 165) := fnR_ok mixed Tryz.T_ok Tryz.F_ok chunksOK (by decide +kernel)
  have e8 : CfOK Tryz.prog ρ 81 (nodesC (fnC Tryz.T Tryz.F 81)) := nodes_ok nodesA (nonext Tryz.func81 (by kernel_rfl) (by kernel_rfl)) (fnC_ok mixed Tryz.T_ok Tryz.F_ok (by decide +kernel))
  have h150 : Tryz.lays150_ren.f 150 = 338 := by kernel_rfl
  have e9 : CfOK Tryz.prog ρ 338 containsC := by
    have := contains_ok (ρ := ρ) Tryz.lays150 Tryz.set150
    rwa [h150] at this
  have q1 : CfOK Tryz.prog ρ 157 (qC true) := q_native (nonext Tryz.func157 (by kernel_rfl) (by kernel_rfl)) Go.Ex.use_q
  have q2 : CfOK Tryz.prog ρ 166 (qC false) := q_native (nonext Tryz.func166 (by kernel_rfl) (by kernel_rfl)) Go.Ex.pin_q
  intro x hx
  unfold natL at hx
  simp only [List.mem_cons, List.not_mem_nil, or_false] at hx
  rcases hx with rfl | rfl | rfl | rfl | rfl | rfl | rfl | rfl | rfl | rfl | rfl | rfl | rfl | rfl | rfl | rfl
  · exact e1
  · exact e2
  · exact e3
  · exact u1
  · exact u2
  · exact u3
  · exact u4
  · exact u5
  · exact u6
  · exact e5
  · exact e6
  · exact e7
  · exact e8
  · exact e9
  · exact q1
  · exact q2
end Go.Proofs.YtfmjhleccnmhkaaGreat
