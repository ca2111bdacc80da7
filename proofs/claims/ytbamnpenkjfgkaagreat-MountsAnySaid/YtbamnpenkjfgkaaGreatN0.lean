/- The natives of the load: what is done by hand, or by the kit's contracts. -/
import Derived.Test.YtbamnpenkjfgkaaGreatTab
import Derived.Test.YtbamnpenkjfgkaaGreatUL
import Derived.Test.YtbamnpenkjfgkaaGreatC1
namespace Go.Proofs.YtbamnpenkjfgkaaGreat
open Go.Ex Go.Proofs
noncomputable section
def chunksB (f : FuncId) : Bool:=Nat.beq f 285 || Nat.beq f 286
def keysB (f : FuncId) : Bool:=Nat.beq f 92 || Nat.beq f 249
def natL : List (FuncId × CF):=[(202,noEscC),(203,noZeroC 5),(30,repeatC),(126,fnT Tryz.T Tryz.F 126),(72,fnTg [220,225] Tryz.T Tryz.F 72),(38,sortedC keysB 3),(197,fnR Tryz.T Tryz.F chunksB 197),(159,nodesC (fnC Tryz.T Tryz.F 159)),(232,containsC)]
def repV (n : Nat) (v : V) : V:=Nat.rec .nil (fun _ ih=>.cons v ih) n
end
theorem mixed : Tryz.prog.follows .mixedOrders=true:=by kernel_rfl
theorem chunksOK : ChunksOK Tryz.prog chunksB:=fun f hf=>by
  unfold chunksB at hf
  rw [Bool.or_eq_true] at hf
  rcases hf with hf | hf
  · have:=Nat.eq_of_beq_eq_true hf
    subst this
    exact ⟨chunkA,Tryz.f285,Tryz.func285,by kernel_rfl,by kernel_rfl⟩
  · have:=Nat.eq_of_beq_eq_true hf
    subst this
    exact ⟨chunkB,Tryz.f286,Tryz.func286,by kernel_rfl,by kernel_rfl⟩
theorem sortsOK (m : Nat) : AnyZI.SortsIn Tryz.prog Tryz.sortedA_ren Fence.wide m :=
  ⟨fun blk off cap ss W hH hblk hsz=>callsIn_wide.2 (AnyM.slices_Sort_int Tryz.sortA blk off cap ss W hH hblk hsz),fun p cap W=>callsIn_wide.2 (AnyM.slices_Sort_int_none Tryz.sortA p cap W)⟩
theorem nonext {f : FuncId} {fn : Func} (h : Tryz.prog.funcs[f]? = some fn) (h1 : (fn.name == "runtime.NumGoroutine") = false) (h2 : fn.body.isNone = false) : Nonext Tryz.prog f := ⟨fn, h, h1, h2⟩
theorem sortedOK : SortedIs Tryz.prog 38 keysB 3 :=
  sorted_is (σ:=Tryz.sortedA_ren) Tryz.sortedA sortsOK (Go.Ex.enters_of (nonext Tryz.func91 (by kernel_rfl) (by kernel_rfl))) fun fk hf=>by
    unfold keysB at hf
    rw [Bool.or_eq_true] at hf
    rcases hf with hf | hf
    · have:=Nat.eq_of_beq_eq_true hf
      subst this
      exact ⟨Tryz.keysA_ren,{ Tryz.keysA with },rfl,Go.Ex.enters_of (nonext Tryz.func92 (by kernel_rfl) (by kernel_rfl))⟩
    · have:=Nat.eq_of_beq_eq_true hf
      subst this
      exact ⟨Tryz.keysB_ren,{ Tryz.keysB with },rfl,Go.Ex.enters_of (nonext Tryz.func249 (by kernel_rfl) (by kernel_rfl))⟩
theorem noEscOK : Extf Tryz.prog 202 Extern.AbiNoEscape.same:=⟨Tryz.f202,Tryz.func202,by kernel_rfl,by kernel_rfl,by kernel_rfl,by kernel_rfl⟩
theorem noZeroOK : ∃ ps,Extf Tryz.prog 203 (Extern.BytealgMakeNoZero.makeNoZero ps #[23]):=⟨Tryz.f203.params,Tryz.f203,Tryz.func203,by kernel_rfl,by kernel_rfl,by kernel_rfl,by kernel_rfl⟩
set_option maxRecDepth 10000 in
theorem natOK {ρ : Env} : ∀ x ∈ natL,CfOK Tryz.prog ρ x.1 x.2:=by
  have e1 : CfOK Tryz.prog ρ 202 noEscC:=noEsc_ok noEscOK
  have e2 : CfOK Tryz.prog ρ 203 (noZeroC 5):=by
    obtain ⟨ps,h⟩:=noZeroOK
    exact noZero_ok Tryz.underlying23 h
  have hrep : Tryz.lays105_ren.f 105=30:=by kernel_rfl
  have e3 : CfOK Tryz.prog ρ 30 repeatC:=by
    have:=repeat_ok (ρ:=ρ) Tryz.lays105 Tryz.Builder_Extra_105
    rwa [hrep] at this
  have e4 : CfOK Tryz.prog ρ 126 (fnT Tryz.T Tryz.F 126):=fnT_ok mixed Tryz.T_ok Tryz.F_ok (by decide +kernel)
  have e5 : CfOK Tryz.prog ρ 72 (fnTg [220,225] Tryz.T Tryz.F 72):=fnTg_ok mixed Tryz.T_ok Tryz.F_ok (by decide +kernel)
  have e6 : CfOK Tryz.prog ρ 38 (sortedC keysB 3):=sorted_ok sortedOK (nonext Tryz.func38 (by kernel_rfl) (by kernel_rfl))
  have e7 : CfOK Tryz.prog ρ 197 (fnR Tryz.T Tryz.F chunksB 197):=fnR_ok mixed Tryz.T_ok Tryz.F_ok chunksOK (by decide +kernel)
  have e8 : CfOK Tryz.prog ρ 159 (nodesC (fnC Tryz.T Tryz.F 159)):=nodes_ok nodesA (nonext Tryz.func159 (by kernel_rfl) (by kernel_rfl)) (fnC_ok mixed Tryz.T_ok Tryz.F_ok (by decide +kernel))
  have h150 : Tryz.lays150_ren.f 150=232:=by kernel_rfl
  have e9 : CfOK Tryz.prog ρ 232 containsC:=by
    have:=contains_ok (ρ:=ρ) Tryz.lays150 Tryz.set150
    rwa [h150] at this
  intro x hx
  unfold natL at hx
  simp only [List.mem_cons,List.not_mem_nil,or_false] at hx
  rcases hx with rfl | rfl | rfl | rfl | rfl | rfl | rfl | rfl | rfl
  · exact e1
  · exact e2
  · exact e3
  · exact e4
  · exact e5
  · exact e6
  · exact e7
  · exact e8
  · exact e9
end Go.Proofs.YtbamnpenkjfgkaaGreat
