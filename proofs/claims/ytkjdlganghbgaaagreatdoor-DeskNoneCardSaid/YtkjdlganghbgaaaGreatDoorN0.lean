/- The natives of the load: what is done by hand, or by the kit's contracts. -/
import Derived.Test.YtkjdlganghbgaaaGreatDoorTab
import Derived.Test.YtkjdlganghbgaaaGreatDoorLay
import Derived.Test.YtkjdlganghbgaaaGreatDoorC1
import Derived.Test.YtkjdlganghbgaaaGreatDoorNd
import Derived.Test.YtkjdlganghbgaaaGreatDoorLm
namespace Go.Proofs.YtkjdlganghbgaaaGreatDoor
open Go.Ex Go.Proofs

noncomputable section
/-- the closures of slices.Chunk, of maps.Keys. -/
def chunksB (f : FuncId) : Bool := Nat.beq f 520 || Nat.beq f 521
/-- the closure of strings.Lines. -/
def linesB (f : FuncId) : Bool := Nat.beq f 50
def keysB (f : FuncId) : Bool := Nat.beq f 260 || Nat.beq f 421
def natLof (c : CF) : List (FuncId × CF) := [(87, noEscC), (194, noZeroC 5), (167, repeatC), (286, fnT Tryz.T Tryz.F 286), (110, c), (142, sortedC keysB 3), (308, fnR Tryz.T Tryz.F chunksB 308), (387, nodesC (fnC Tryz.T Tryz.F 387)), (436, containsC), (90, countC), (161, placeC), (12, fnL Tryz.T Tryz.F linesB 12), (250, toldC digT)]
def natL : List (FuncId × CF) := natLof (fnT Tryz.T Tryz.F 110)
/-- the queue of a cache that is not looked at any more is forgotten. -/
def natLg : List (FuncId × CF) := natLof (fnTg [391, 495] Tryz.T Tryz.F 110)
/-- so many of one value, as a chain. -/
def repV (n : Nat) (v : V) : V := Nat.rec .nil (fun _ ih => .cons v ih) n
end
theorem chunksOK : ChunksOK Tryz.prog chunksB := fun f hf => by
  unfold chunksB at hf
  rw [Bool.or_eq_true] at hf
  rcases hf with hf | hf
  · have := Nat.eq_of_beq_eq_true hf
    subst this
    exact ⟨chunkA, Tryz.f520, Tryz.func520, by kernel_rfl, by kernel_rfl⟩
  · have := Nat.eq_of_beq_eq_true hf
    subst this
    exact ⟨chunkB, Tryz.f521, Tryz.func521, by kernel_rfl, by kernel_rfl⟩
theorem sortsOK (m : Nat) : AnyZI.SortsIn Tryz.prog Tryz.sortedA_ren Fence.wide m :=
  ⟨fun blk off cap ss W hH hblk hsz => callsIn_wide.2 (AnyM.slices_Sort_int Tryz.sortA blk off cap ss W hH hblk hsz), fun p cap W => callsIn_wide.2 (AnyM.slices_Sort_int_none Tryz.sortA p cap W)⟩
theorem sortedOK : SortedIs Tryz.prog 142 keysB 3 :=
  sorted_is (σ := Tryz.sortedA_ren) Tryz.sortedA sortsOK (Go.Ex.enters_of (nonext Tryz.func259 (by kernel_rfl) (by kernel_rfl))) fun fk hf => by
    unfold keysB at hf
    rw [Bool.or_eq_true] at hf
    rcases hf with hf | hf
    · have := Nat.eq_of_beq_eq_true hf
      subst this
      exact ⟨Tryz.keysA_ren, { Tryz.keysA with }, rfl, Go.Ex.enters_of (nonext Tryz.func260 (by kernel_rfl) (by kernel_rfl))⟩
    · have := Nat.eq_of_beq_eq_true hf
      subst this
      exact ⟨Tryz.keysB_ren, { Tryz.keysB with }, rfl, Go.Ex.enters_of (nonext Tryz.func421 (by kernel_rfl) (by kernel_rfl))⟩
theorem noEscOK : Extf Tryz.prog 87 Extern.AbiNoEscape.same := ⟨Tryz.f87, Tryz.func87, by kernel_rfl, by kernel_rfl, by kernel_rfl, by kernel_rfl⟩
theorem noZeroOK : ∃ ps, Extf Tryz.prog 194 (Extern.BytealgMakeNoZero.makeNoZero ps #[31]) := ⟨Tryz.f194.params, Tryz.f194, Tryz.func194, by kernel_rfl, by kernel_rfl, by kernel_rfl, by kernel_rfl⟩
theorem countOK : Extf Tryz.prog 90 Extern.BytealgCount.count := ⟨Tryz.f90, Tryz.func90, by kernel_rfl, by kernel_rfl, by kernel_rfl, by kernel_rfl⟩
theorem placeOK : Extf Tryz.prog 161 Extern.BytealgIndexByte.indexByte := ⟨Tryz.f161, Tryz.func161, by kernel_rfl, by kernel_rfl, by kernel_rfl, by kernel_rfl⟩
theorem linesOK : LinesOK Tryz.prog linesB := fun f hf => by
  have := Nat.eq_of_beq_eq_true hf
  subst this
  exact ⟨lines_is, nonext Tryz.func50 (by kernel_rfl) (by kernel_rfl)⟩
set_option maxRecDepth 10000 in
theorem natOKof {ρ : Env} {c : CF} (e5 : CfOK Tryz.prog ρ 110 c) : ∀ x ∈ natLof c, CfOK Tryz.prog ρ x.1 x.2 := by
  have e1 : CfOK Tryz.prog ρ 87 noEscC := noEsc_ok noEscOK
  have e2 : CfOK Tryz.prog ρ 194 (noZeroC 5) := by
    obtain ⟨ps, h⟩ := noZeroOK
    exact noZero_ok Tryz.underlying31 h
  have hrep : Tryz.lays105_ren.f 105 = 167 := by kernel_rfl
  have e3 : CfOK Tryz.prog ρ 167 repeatC := by
    have := repeat_ok (ρ := ρ) Tryz.lays105 Tryz.Builder_Extra_105
    rwa [hrep] at this
  have e4 : CfOK Tryz.prog ρ 286 (fnT Tryz.T Tryz.F 286) := fnT_ok mixed Tryz.T_ok Tryz.F_ok (by decide +kernel)
  have e6 : CfOK Tryz.prog ρ 142 (sortedC keysB 3) := sorted_ok sortedOK (nonext Tryz.func142 (by kernel_rfl) (by kernel_rfl))
  have e7 : CfOK Tryz.prog ρ 308 (fnR Tryz.T Tryz.F chunksB 308) := fnR_ok mixed Tryz.T_ok Tryz.F_ok chunksOK (by decide +kernel)
  have e8 : CfOK Tryz.prog ρ 387 (nodesC (fnC Tryz.T Tryz.F 387)) := nodes_ok nodesA (nonext Tryz.func387 (by kernel_rfl) (by kernel_rfl)) (fnC_ok mixed Tryz.T_ok Tryz.F_ok (by decide +kernel))
  have h150 : Tryz.lays150_ren.f 150 = 436 := by kernel_rfl
  have e9 : CfOK Tryz.prog ρ 436 containsC := by
    have := contains_ok (ρ := ρ) Tryz.lays150 Tryz.set150
    rwa [h150] at this
  intro x hx
  unfold natLof at hx
  simp only [List.mem_cons, List.not_mem_nil, or_false] at hx
  rcases hx with rfl | rfl | rfl | rfl | rfl | rfl | rfl | rfl | rfl | rfl | rfl | rfl | rfl
  · exact e1
  · exact e2
  · exact e3
  · exact e4
  · exact e5
  · exact e6
  · exact e7
  · exact e8
  · exact e9
  · exact count_ok countOK
  · exact place_ok placeOK
  · exact fnL_ok mixed Tryz.T_ok Tryz.F_ok linesOK (by decide +kernel)
  · exact digOK
theorem natOK {ρ : Env} : ∀ x ∈ natL, CfOK Tryz.prog ρ x.1 x.2 := natOKof (fnT_ok mixed Tryz.T_ok Tryz.F_ok (by decide +kernel))
theorem natOKg {ρ : Env} : ∀ x ∈ natLg, CfOK Tryz.prog ρ x.1 x.2 := natOKof (fnTg_ok mixed Tryz.T_ok Tryz.F_ok (by decide +kernel))
end Go.Proofs.YtkjdlganghbgaaaGreatDoor
