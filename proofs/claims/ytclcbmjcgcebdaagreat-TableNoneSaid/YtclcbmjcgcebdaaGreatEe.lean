/- A verified executor: part 6. -/
import Derived.Test.YtclcbmjcgcebdaaGreatEd
namespace Go.Ex

variable {P : Program} {T : Tr Ty} {F : Tr Func} {ρ : Env} {n : Nat}
noncomputable section
def ntOf : List (FuncId × CF) → FuncId → Option CF
  | [], _ => none
  | x :: r, f => match Nat.beq x.1 f with
    | true => some x.2
    | false => ntOf r f
def fnC (T : Tr Ty) (F : Tr Func) (f : FuncId) : CF := match F.get f with
  | some fn => funC T (brC T) fn
  | none => failCF
def fnT (T : Tr Ty) (F : Tr Func) (f : FuncId) : CF := match F.get f with
  | some fn => funT T (brC T) fn
  | none => failCF
def fnR (T : Tr Ty) (F : Tr Func) (g : FuncId → Bool) (f : FuncId) : CF := match F.get f with
  | some fn => funR T (brC T) g fn
  | none => failCF
def isTrueV (v : V) : Bool := match v with
  | .bool true => true
  | _ => false
/-- the run of a law. -/
def lawRun (T : Tr Ty) (F : Tr Func) (nt : FuncId → Option CF) (M m : Nat) (f : FuncId) (args : V) : Bool := callK T F (brC T) nt M m f args ⟨HT.new, ⟨.d0, .d0, .d0, .d0, .d0⟩⟩ fun v _ => isTrueV v
end
theorem rvs_flat {r : Ren} {l : List Value} (h : ∀ v ∈ l, flatB 4 v = true) : RVs r ⟨l⟩ ⟨l⟩ := ⟨rfl, fun i a b ha hb => by
  have ha : l[i]? = some a := by simpa using ha
  have hb : l[i]? = some b := by simpa using hb
  rw [ha] at hb
  injection hb with hb
  subst hb
  exact flatB_ok (h a (List.mem_of_getElem? ha))⟩
theorem ntOf_ok {l : List (FuncId × CF)} (h : ∀ x ∈ l, CfOK P ρ x.1 x.2) : NtOK P ρ (ntOf l) := fun f x hx => by
  induction l with
  | nil => cases hx
  | cons y r ih =>
    unfold ntOf at hx
    split at hx
    · rename_i hb
      have hb := Nat.eq_of_beq_eq_true hb
      injection hx with hx
      subst hx
      have := h y (List.mem_cons_self ..)
      rw [hb] at this
      exact this
    · exact ih (fun z hz => h z (List.mem_cons_of_mem _ hz)) hx
theorem cons_ok {l : List (FuncId × CF)} {f : FuncId} {x : CF} (h : CfOK P ρ f x) (hl : ∀ y ∈ l, CfOK P ρ y.1 y.2) : ∀ y ∈ (f, x) :: l, CfOK P ρ y.1 y.2 := fun y hy => by
  rcases List.mem_cons.1 hy with rfl | hy
  · exact h
  · exact hl y hy
section
variable (hm : P.follows .mixedOrders = true) (hT : TabOK P T) (hF : FnsOK P F)
include hm hT hF
theorem fnC_ok {f : FuncId} (hf : (F.get f).isSome = true) : CfOK P ρ f (fnC T F f) := by
  obtain ⟨fn, hfn⟩ := Option.isSome_iff_exists.1 hf
  unfold fnC
  rw [hfn]
  exact ⟨.inl ⟨fn, hF f fn hfn⟩, fun cK hC hE m args l k h => funC_ok hT hF (brC_ok hm hT) hfn (hC ρ.base) hE h⟩
theorem fnT_ok {f : FuncId} (hf : (F.get f).isSome = true) : CfOK P ρ f (fnT T F f) := by
  obtain ⟨fn, hfn⟩ := Option.isSome_iff_exists.1 hf
  unfold fnT
  rw [hfn]
  exact funT_ok hT hF (fun b => brC_ok hm hT) hfn
theorem fnR_ok {g : FuncId → Bool} (hg : ChunksOK P g) {f : FuncId} (hf : (F.get f).isSome = true) : CfOK P ρ f (fnR T F g f) := by
  obtain ⟨fn, hfn⟩ := Option.isSome_iff_exists.1 hf
  unfold fnR
  rw [hfn]
  exact funR_ok hT hF (brC_ok hm hT) hg hfn
theorem law_ok {nt : FuncId → Option CF} (hN : ∀ b, NtOK P (ρ.at b) nt) {M m : Nat} {f : FuncId} (hf : Nonext P f) {args : V} (hrun : lawRun T F nt M m f args = true) {cargs : Array Value} (ha : RVs (fun _ => none) ⟨args.vals ρ⟩ cargs) (w : World) :
    Calls P f cargs w fun e w' => e = .returned (.bool true) ∧ RowKit.Below w.heap.size w w' := by
  unfold lawRun at hrun
  obtain ⟨v, l', h1, h2⟩ := (callK_ok (ρ := ρ) hT hF (fun b => brC_ok hm hT) hN M m).1 T5.new f args _ _ hrun
  obtain ⟨h', _, hc⟩ := h2 _ (HR.nil (ρ := ρ.at T5.new) rfl)
  have hv : v = .bool true := by
    unfold isTrueV at h1
    split at h1
    · rfl
    · cases h1
  subst hv
  have hW : RW (fun _ => none) ⟨.lf, 0⟩ w := ⟨fun i o hi => (by cases hi), fun i j o p b c d hi => (by cases hi), fun i x hi => (by cases hi), fun i b c hi => (by cases hi)⟩
  rcases hc (fun _ => none) cargs w ha hW with ⟨_, hcalls⟩ | ⟨e, v', w', ⟨fn, q1, _, q3, _⟩, _, _⟩
  · refine hcalls.mono ?_
    rintro e w' ⟨r', v', rfl, hN, hv'⟩
    have hv' : RV r' (.bool true) v' := hv'
    cases hv'
    exact ⟨rfl, hN.os, hN.tape, hN.output, hN.size, fun b hb => hN.frame b hb fun i o c hi => (by cases hi)⟩
  · obtain ⟨fn', g1, _, g3⟩ := hf
    rw [q1] at g1
    injection g1 with g1
    subst g1
    rw [q3] at g3
    cases g3
end
end Go.Ex
