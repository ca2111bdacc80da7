/- The tables of the load: its functions, its types, reckoned from the program when they are asked for. -/
import Derived.Test.YtbamnpenkjfgkaaGreatProg
import Derived.Test.YtbamnpenkjfgkaaGreatEe
namespace Go.Ex
def trOf {α : Type} (d : Nat) : (Nat→Option α)→Tr α:=Nat.rec (motive:=fun _=>(Nat→Option α)→Tr α) (fun _=>.lf) (fun _ ih f=>.nd (ih fun j=>f (2 * j+1)) (f 0) (ih fun j=>f (2 * j+2))) d
theorem trOf_get {α : Type} {d : Nat} : ∀ {f : Nat→Option α} {i : Nat} {x : α},(trOf d f).get i=some x→f i=some x:=by
  induction d with
  | zero=>intro f i x h;cases h
  | succ d ih =>
    intro f i x h
    have e : trOf (d+1) f=.nd (trOf d fun j=>f (2 * j+1)) (f 0) (trOf d fun j=>f (2 * j+2)):=rfl
    rw [e] at h
    cases i with
    | zero=>exact h
    | succ j =>
      rw [Tr.get_succ] at h
      split at h
      · have:=ih h
        rw [← this]
        congr 1
        omega
      · have:=ih h
        rw [← this]
        congr 1
        omega
noncomputable def fnOf (P : Program) (i : Nat) : Option Func:=match P.funcs[i]? with
  | some x => Bool.rec (Bool.rec (some x) none x.body.isNone) none (x.name == "runtime.NumGoroutine")
  | none=>none
theorem trOf_tab (P : Program) (d : Nat) : TabOK P (trOf d (tyOf P)):=fun _ _ h=>trOf_get h
theorem trOf_fns (P : Program) (d : Nat) : FnsOK P (trOf d (fnOf P)):=fun i x h=>by
  have h:=trOf_get h
  unfold fnOf at h
  cases hf : P.funcs[i]? with
  | none=>rw [hf] at h;cases h
  | some y =>
    rw [hf] at h
    dsimp only at h
    cases h1 : (y.name == "runtime.NumGoroutine") with
    | true=>rw [h1] at h;cases h
    | false =>
      rw [h1] at h
      cases h2 : y.body.isNone with
      | true=>rw [h2] at h;cases h
      | false =>
        rw [h2] at h
        have h : some y=some x:=h
        injection h with h
        subst h
        exact ⟨by first | exact hf | rfl,h1,h2⟩
end Go.Ex
namespace Go.Proofs.Tryz
open Go.Ex
noncomputable def T : Tr Ty:=trOf 10 (tyOf prog)
theorem T_ok : TabOK prog T:=trOf_tab prog 10
noncomputable def F : Tr Func:=trOf 10 (fnOf prog)
theorem F_ok : FnsOK prog F:=trOf_fns prog 10
end Go.Proofs.Tryz
