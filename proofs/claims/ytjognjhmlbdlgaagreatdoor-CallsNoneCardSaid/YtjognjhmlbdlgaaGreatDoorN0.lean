/- The natives of the load: what is done by hand, or by the kit's contracts. -/
import Derived.Test.YtjognjhmlbdlgaaGreatDoorTab
import Derived.Test.YtjognjhmlbdlgaaGreatDoorLay
import Derived.Test.YtjognjhmlbdlgaaGreatDoorC1
namespace Go.Proofs.YtjognjhmlbdlgaaGreatDoor
open Go.Ex Go.Proofs

noncomputable section
/-- the closures of slices.Chunk, of maps.Keys. -/
def chunksB (f : FuncId) : Bool := Nat.beq f 481 || Nat.beq f 482
def keysB (f : FuncId) : Bool := Nat.beq f 337 || Nat.beq f 393
def natLof (c : CF) : List (FuncId × CF) := [(370, noEscC), (515, noZeroC 5), (196, repeatC), (141, fnT Tryz.T Tryz.F 141), (92, c), (215, sortedC keysB 3), (298, fnR Tryz.T Tryz.F chunksB 298), (348, nodesC (fnC Tryz.T Tryz.F 348)), (254, containsC), (460, countC), (568, placeC)]
def natL : List (FuncId × CF) := natLof (fnT Tryz.T Tryz.F 92)
/-- the queue of a cache that is not looked at any more is forgotten. -/
def natLg : List (FuncId × CF) := natLof (fnTg [379, 441] Tryz.T Tryz.F 92)
/-- so many of one value, as a chain. -/
def repV (n : Nat) (v : V) : V := Nat.rec .nil (fun _ ih => .cons v ih) n
end
theorem mixed : Tryz.prog.follows .mixedOrders = true := by kernel_rfl
theorem chunksOK : ChunksOK Tryz.prog chunksB := fun f hf => by
  unfold chunksB at hf
  rw [Bool.or_eq_true] at hf
  rcases hf with hf | hf
  · have := Nat.eq_of_beq_eq_true hf
    subst this
    exact ⟨chunkA, Tryz.f481, Tryz.func481, by kernel_rfl, by kernel_rfl⟩
  · have := Nat.eq_of_beq_eq_true hf
    subst this
    exact ⟨chunkB, Tryz.f482, Tryz.func482, by kernel_rfl, by kernel_rfl⟩
theorem sortsOK (m : Nat) : AnyZI.SortsIn Tryz.prog Tryz.sortedA_ren Fence.wide m :=
  ⟨fun blk off cap ss W hH hblk hsz => callsIn_wide.2 (AnyM.slices_Sort_int Tryz.sortA blk off cap ss W hH hblk hsz), fun p cap W => callsIn_wide.2 (AnyM.slices_Sort_int_none Tryz.sortA p cap W)⟩
theorem nonext {f : FuncId} {fn : Func} (h : Tryz.prog.funcs[f]? = some fn) (h1 : (fn.name == "runtime.NumGoroutine") = false) (h2 : fn.body.isNone = false) : Nonext Tryz.prog f := ⟨fn, h, h1, h2⟩
theorem sortedOK : SortedIs Tryz.prog 215 keysB 3 :=
  sorted_is (σ := Tryz.sortedA_ren) Tryz.sortedA sortsOK (Go.Ex.enters_of (nonext Tryz.func319 (by kernel_rfl) (by kernel_rfl))) fun fk hf => by
    unfold keysB at hf
    rw [Bool.or_eq_true] at hf
    rcases hf with hf | hf
    · have := Nat.eq_of_beq_eq_true hf
      subst this
      exact ⟨Tryz.keysA_ren, { Tryz.keysA with }, rfl, Go.Ex.enters_of (nonext Tryz.func337 (by kernel_rfl) (by kernel_rfl))⟩
    · have := Nat.eq_of_beq_eq_true hf
      subst this
      exact ⟨Tryz.keysB_ren, { Tryz.keysB with }, rfl, Go.Ex.enters_of (nonext Tryz.func393 (by kernel_rfl) (by kernel_rfl))⟩
theorem noEscOK : Extf Tryz.prog 370 Extern.AbiNoEscape.same := ⟨Tryz.f370, Tryz.func370, by kernel_rfl, by kernel_rfl, by kernel_rfl, by kernel_rfl⟩
theorem noZeroOK : ∃ ps, Extf Tryz.prog 515 (Extern.BytealgMakeNoZero.makeNoZero ps #[109]) := ⟨Tryz.f515.params, Tryz.f515, Tryz.func515, by kernel_rfl, by kernel_rfl, by kernel_rfl, by kernel_rfl⟩
theorem countOK : Extf Tryz.prog 460 Extern.BytealgCount.count := ⟨Tryz.f460, Tryz.func460, by kernel_rfl, by kernel_rfl, by kernel_rfl, by kernel_rfl⟩
theorem placeOK : Extf Tryz.prog 568 Extern.BytealgIndexByte.indexByte := ⟨Tryz.f568, Tryz.func568, by kernel_rfl, by kernel_rfl, by kernel_rfl, by kernel_rfl⟩
set_option maxRecDepth 10000 in
theorem natOKof {ρ : Env} {c : CF} (e5 : CfOK Tryz.prog ρ 92 c) : ∀ x ∈ natLof c, CfOK Tryz.prog ρ x.1 x.2 := by
  have e1 : CfOK Tryz.prog ρ 370 noEscC := noEsc_ok noEscOK
  have e2 : CfOK Tryz.prog ρ 515 (noZeroC 5) := by
    obtain ⟨ps, h⟩ := noZeroOK
    exact noZero_ok Tryz.underlying109 h
  have hrep : Tryz.lays105_ren.f 105 = 196 := by kernel_rfl
  have e3 : CfOK Tryz.prog ρ 196 repeatC := by
    have := repeat_ok (ρ := ρ) Tryz.lays105 Tryz.Builder_Extra_105
    rwa [hrep] at this
  have e4 : CfOK Tryz.prog ρ 141 (fnT Tryz.T Tryz.F 141) := fnT_ok mixed Tryz.T_ok Tryz.F_ok (by decide +kernel)
  have e6 : CfOK Tryz.prog ρ 215 (sortedC keysB 3) := sorted_ok sortedOK (nonext Tryz.func215 (by kernel_rfl) (by kernel_rfl))
  have e7 : CfOK Tryz.prog ρ 298 (fnR Tryz.T Tryz.F chunksB 298) := fnR_ok mixed Tryz.T_ok Tryz.F_ok chunksOK (by decide +kernel)
  have e8 : CfOK Tryz.prog ρ 348 (nodesC (fnC Tryz.T Tryz.F 348)) := nodes_ok nodesA (nonext Tryz.func348 (by kernel_rfl) (by kernel_rfl)) (fnC_ok mixed Tryz.T_ok Tryz.F_ok (by decide +kernel))
  have h150 : Tryz.lays150_ren.f 150 = 254 := by kernel_rfl
  have e9 : CfOK Tryz.prog ρ 254 containsC := by
    have := contains_ok (ρ := ρ) Tryz.lays150 Tryz.set150
    rwa [h150] at this
  intro x hx
  unfold natLof at hx
  simp only [List.mem_cons, List.not_mem_nil, or_false] at hx
  rcases hx with rfl | rfl | rfl | rfl | rfl | rfl | rfl | rfl | rfl | rfl | rfl
  · exact e1
  · exact e2
  · exact e3
  · exact e4
  · exact e5
  · exact e6
  · exact e7
  · exact e8
  · exact e9
  · exact count_ok countOK
  · exact place_ok placeOK
theorem natOK {ρ : Env} : ∀ x ∈ natL, CfOK Tryz.prog ρ x.1 x.2 := natOKof (fnT_ok mixed Tryz.T_ok Tryz.F_ok (by decide +kernel))
theorem natOKg {ρ : Env} : ∀ x ∈ natLg, CfOK Tryz.prog ρ x.1 x.2 := natOKof (fnTg_ok mixed Tryz.T_ok Tryz.F_ok (by decide +kernel))
end Go.Proofs.YtjognjhmlbdlgaaGreatDoor
