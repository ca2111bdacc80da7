/- The natives of the load: what is done by hand, or by the kit's contracts. -/
import Derived.Test.YtncnheodmcfmmaaGreatDoorTab
import Derived.Test.YtncnheodmcfmmaaGreatDoorLay
import Derived.Test.YtncnheodmcfmmaaGreatDoorC1
namespace Go.Proofs.YtncnheodmcfmmaaGreatDoor
open Go.Ex Go.Proofs

noncomputable section
/-- the closures of slices.Chunk, of maps.Keys. -/
def chunksB (f : FuncId) : Bool := Nat.beq f 370 || Nat.beq f 371
def keysB (f : FuncId) : Bool := Nat.beq f 258 || Nat.beq f 262
def natLof (c : CF) : List (FuncId × CF) := [(340, noEscC), (341, noZeroC 5), (119, repeatC), (184, fnT Tryz.T Tryz.F 184), (26, c), (148, sortedC keysB 3), (158, fnR Tryz.T Tryz.F chunksB 158), (443, nodesC (fnC Tryz.T Tryz.F 443)), (278, containsC), (463, countC), (557, placeC)]
def natL : List (FuncId × CF) := natLof (fnT Tryz.T Tryz.F 26)
/-- the queue of a cache that is not looked at any more is forgotten. -/
def natLg : List (FuncId × CF) := natLof (fnTg [212, 328] Tryz.T Tryz.F 26)
/-- so many of one value, as a chain. -/
def repV (n : Nat) (v : V) : V := Nat.rec .nil (fun _ ih => .cons v ih) n
end
theorem mixed : Tryz.prog.follows .mixedOrders = true := by kernel_rfl
theorem chunksOK : ChunksOK Tryz.prog chunksB := fun f hf => by
  unfold chunksB at hf
  rw [Bool.or_eq_true] at hf
  rcases hf with hf | hf
  · have := Nat.eq_of_beq_eq_true hf
    subst this
    exact ⟨chunkA, Tryz.f370, Tryz.func370, by kernel_rfl, by kernel_rfl⟩
  · have := Nat.eq_of_beq_eq_true hf
    subst this
    exact ⟨chunkB, Tryz.f371, Tryz.func371, by kernel_rfl, by kernel_rfl⟩
theorem sortsOK (m : Nat) : AnyZI.SortsIn Tryz.prog Tryz.sortedA_ren Fence.wide m :=
  ⟨fun blk off cap ss W hH hblk hsz => callsIn_wide.2 (AnyM.slices_Sort_int Tryz.sortA blk off cap ss W hH hblk hsz), fun p cap W => callsIn_wide.2 (AnyM.slices_Sort_int_none Tryz.sortA p cap W)⟩
theorem nonext {f : FuncId} {fn : Func} (h : Tryz.prog.funcs[f]? = some fn) (h1 : (fn.name == "runtime.NumGoroutine") = false) (h2 : fn.body.isNone = false) : Nonext Tryz.prog f := ⟨fn, h, h1, h2⟩
theorem sortedOK : SortedIs Tryz.prog 148 keysB 3 :=
  sorted_is (σ := Tryz.sortedA_ren) Tryz.sortedA sortsOK (Go.Ex.enters_of (nonext Tryz.func257 (by kernel_rfl) (by kernel_rfl))) fun fk hf => by
    unfold keysB at hf
    rw [Bool.or_eq_true] at hf
    rcases hf with hf | hf
    · have := Nat.eq_of_beq_eq_true hf
      subst this
      exact ⟨Tryz.keysA_ren, { Tryz.keysA with }, rfl, Go.Ex.enters_of (nonext Tryz.func258 (by kernel_rfl) (by kernel_rfl))⟩
    · have := Nat.eq_of_beq_eq_true hf
      subst this
      exact ⟨Tryz.keysB_ren, { Tryz.keysB with }, rfl, Go.Ex.enters_of (nonext Tryz.func262 (by kernel_rfl) (by kernel_rfl))⟩
theorem noEscOK : Extf Tryz.prog 340 Extern.AbiNoEscape.same := ⟨Tryz.f340, Tryz.func340, by kernel_rfl, by kernel_rfl, by kernel_rfl, by kernel_rfl⟩
theorem noZeroOK : ∃ ps, Extf Tryz.prog 341 (Extern.BytealgMakeNoZero.makeNoZero ps #[157]) := ⟨Tryz.f341.params, Tryz.f341, Tryz.func341, by kernel_rfl, by kernel_rfl, by kernel_rfl, by kernel_rfl⟩
theorem countOK : Extf Tryz.prog 463 Extern.BytealgCount.count := ⟨Tryz.f463, Tryz.func463, by kernel_rfl, by kernel_rfl, by kernel_rfl, by kernel_rfl⟩
theorem placeOK : Extf Tryz.prog 557 Extern.BytealgIndexByte.indexByte := ⟨Tryz.f557, Tryz.func557, by kernel_rfl, by kernel_rfl, by kernel_rfl, by kernel_rfl⟩
set_option maxRecDepth 10000 in
theorem natOKof {ρ : Env} {c : CF} (e5 : CfOK Tryz.prog ρ 26 c) : ∀ x ∈ natLof c, CfOK Tryz.prog ρ x.1 x.2 := by
  have e1 : CfOK Tryz.prog ρ 340 noEscC := noEsc_ok noEscOK
  have e2 : CfOK Tryz.prog ρ 341 (noZeroC 5) := by
    obtain ⟨ps, h⟩ := noZeroOK
    exact noZero_ok Tryz.underlying157 h
  have hrep : Tryz.lays105_ren.f 105 = 119 := by kernel_rfl
  have e3 : CfOK Tryz.prog ρ 119 repeatC := by
    have := repeat_ok (ρ := ρ) Tryz.lays105 Tryz.Builder_Extra_105
    rwa [hrep] at this
  have e4 : CfOK Tryz.prog ρ 184 (fnT Tryz.T Tryz.F 184) := fnT_ok mixed Tryz.T_ok Tryz.F_ok (by decide +kernel)
  have e6 : CfOK Tryz.prog ρ 148 (sortedC keysB 3) := sorted_ok sortedOK (nonext Tryz.func148 (by kernel_rfl) (by kernel_rfl))
  have e7 : CfOK Tryz.prog ρ 158 (fnR Tryz.T Tryz.F chunksB 158) := fnR_ok mixed Tryz.T_ok Tryz.F_ok chunksOK (by decide +kernel)
  have e8 : CfOK Tryz.prog ρ 443 (nodesC (fnC Tryz.T Tryz.F 443)) := nodes_ok nodesA (nonext Tryz.func443 (by kernel_rfl) (by kernel_rfl)) (fnC_ok mixed Tryz.T_ok Tryz.F_ok (by decide +kernel))
  have h150 : Tryz.lays150_ren.f 150 = 278 := by kernel_rfl
  have e9 : CfOK Tryz.prog ρ 278 containsC := by
    have := contains_ok (ρ := ρ) Tryz.lays150 Tryz.set150
    rwa [h150] at this
  intro x hx
  unfold natLof at hx
  simp only [List.mem_cons, List.not_mem_nil, or_false] at hx
  rcases hx with rfl | rfl | rfl | rfl | rfl | rfl | rfl | rfl | rfl | rfl | rfl
  · exact e1
  · exact e2
  · exact e3
  · exact e4
  · exact e5
  · exact e6
  · exact e7
  · exact e8
  · exact e9
  · exact count_ok countOK
  · exact place_ok placeOK
theorem natOK {ρ : Env} : ∀ x ∈ natL, CfOK Tryz.prog ρ x.1 x.2 := natOKof (fnT_ok mixed Tryz.T_ok Tryz.F_ok (by decide +kernel))
theorem natOKg {ρ : Env} : ∀ x ∈ natLg, CfOK Tryz.prog ρ x.1 x.2 := natOKof (fnTg_ok mixed Tryz.T_ok Tryz.F_ok (by decide +kernel))
end Go.Proofs.YtncnheodmcfmmaaGreatDoor
