/- FilesNone: for every input the law returns true and leaves its arguments as they were. No condition. -/
import Derived.Test.YtndhfcdmgjkmjaaGreatFE
import Derived.Test.YtndhfcdmgjkmjaaGreatRows
import Derived.Test.YtndhfcdmgjkmjaaGreatJF
import Derived.ProofKit
import Derived.OpenShut
import Derived.Deep.Slices
import Derived.Deep.Fields
import Derived.ChangeSame
import Derived.ChangeMaps5
import Derived.Lib.SmallJoins
namespace Go.Proofs.YtndhfcdmgjkmjaaGreat
open Go.ChangeShapes Go.WideShapes Go.ChangeAt Go.RowKit Go.Deep Go.Joins

section
variable {H : Type} {enc : TypeId × Value → H} {P : Program} {w : World} {base : Nat} {sp : Nat → Bool} {held : Bool}
theorem int_at {m : Nat} {e : TypeId} (he : P.underlying e = some (.int .i64)) {c : Value} {y : DataW H × List MemPlace} (h : DataW.trod enc P w base sp held m e [c] = some y) : ∃ a : Int, c = .int .i64 a ∧ y = (.lit (.int .i64 a), []) ∧ (Lit.int .i64 a).wf = true := by
  obtain ⟨a, h1, h2, h3⟩ := DataW.trod_int he h
  injection h1 with h1
  exact ⟨a, h1, h2, h3⟩
theorem at_int {m : Nat} {e : TypeId} (he : P.underlying e = some (.int .i64)) {a : Int} (ha : (Lit.int .i64 a).wf = true) : DataW.trod enc P w base sp held (m + 1) e [.int .i64 a] = some (.lit (.int .i64 a), []) := by
  simp [DataW.trod, he, ha]
theorem open_ints3 {r : Reach} {b0 : Nat} {t e : TypeId} {v : Value} {d : DataW H} {ps : List MemPlace} (ht : P.underlying t = some (.array 3 e)) (he : P.underlying e = some (.int .i64)) (hc : P.cellsOf e = 1) (hct : P.cellsOf t = 3) (hval : Value.okWide P w r b0 t v) (hd : DataW.Trod enc P w base sp held t v d ps) :
    ∃ a b c : Int, v = .agg #[.int .i64 a, .int .i64 b, .int .i64 c] ∧ d = .agg [.lit (.int .i64 a), .lit (.int .i64 b), .lit (.int .i64 c)] ∧ ps = [] ∧ (Lit.int .i64 a).wf = true ∧ (Lit.int .i64 b).wf = true ∧ (Lit.int .i64 c).wf = true := by
  have hv : ∃ xs : Array Value, v = .agg xs ∧ xs.size = 3 := by
    simp only [Value.okWide, ht] at hval
    obtain ⟨cs, h1, h2, _⟩ := hval
    exact ⟨cs, h1, by rw [h2, hct]⟩
  obtain ⟨xs, rfl, hn⟩ := hv
  obtain ⟨x0, x1, x2, rfl⟩ : ∃ x0 x1 x2, xs = #[x0, x1, x2] := by
    refine ⟨xs[0], xs[1], xs[2], ?_⟩
    apply Array.ext
    · exact hn
    · intro i hi _
      have : i = 0 ∨ i = 1 ∨ i = 2 := by omega
      rcases this with rfl | rfl | rfl <;> rfl
  obtain ⟨fuel, hf⟩ := hd
  cases fuel with
  | zero => simp [DataW.trod] at hf
  | succ m =>
    simp only [DataW.trod, ht, Value.cells, hct, hc] at hf
    rw [if_pos (by rfl)] at hf
    simp only [Option.map_eq_some_iff] at hf
    obtain ⟨ys, hy, e1⟩ := hf
    rw [show List.range 3 = [0, 1, 2] from rfl] at hy
    simp only [List.mapM_cons, List.mapM_nil, bind, Option.bind_eq_some_iff, pure, Option.some.injEq, Nat.mul_one, Nat.zero_mul, Nat.one_mul, List.drop, List.take] at hy
    obtain ⟨y0, g0, _, ⟨y1, g1, _, ⟨y2, g2, _, rfl, rfl⟩, rfl⟩, rfl⟩ := hy
    obtain ⟨a, rfl, rfl, ha⟩ := int_at he g0
    obtain ⟨b, rfl, rfl, hb⟩ := int_at he g1
    obtain ⟨c, rfl, rfl, hc⟩ := int_at he g2
    simp only [Prod.mk.injEq] at e1
    exact ⟨a, b, c, rfl, e1.1.symm, by rw [← e1.2]; rfl, ha, hb, hc⟩
theorem shut_ints3 {t e : TypeId} (ht : P.underlying t = some (.array 3 e)) (he : P.underlying e = some (.int .i64)) (hc : P.cellsOf e = 1) (hct : P.cellsOf t = 3) {a b c : Int} (ha : (Lit.int .i64 a).wf = true) (hb : (Lit.int .i64 b).wf = true) (hcc : (Lit.int .i64 c).wf = true) :
    DataW.Trod enc P w base sp held t (.agg #[.int .i64 a, .int .i64 b, .int .i64 c]) (.agg [.lit (.int .i64 a), .lit (.int .i64 b), .lit (.int .i64 c)]) [] := by
  refine ⟨2, ?_⟩
  have e1 : ∀ {x : Int}, (Lit.int .i64 x).wf = true → DataW.trod enc P w base sp held 1 e [.int .i64 x] = some (.lit (.int .i64 x), []) := fun hx => at_int he hx
  unfold DataW.trod
  simp only [ht, Value.cells, hct, hc]
  rw [if_pos (by rfl), show List.range 3 = [0, 1, 2] from rfl]
  simp only [List.mapM_cons, List.mapM_nil, bind, pure, Nat.mul_one, Nat.zero_mul, Nat.one_mul, List.drop, List.take, e1 ha, e1 hb, e1 hcc, Option.bind, Option.map]
  rfl
end
section
variable {H : Type} {P : Program} {enc : TypeId × Value → H}
theorem post_of_below {f : Func} {s : ChangeSpec} {apart fresh handsOn again : Bool} {W W' : World} {args : Array Value} {v : Value} {ds gs : List (DataW H)} {before pa pv : List MemPlace}
    (hW : DataW.Whole enc P f.params.toList s.vars apart W args.toList ds gs before)
    (hres : ∀ (b : Nat) (sp : Nat → Bool) (hd : Bool), DataW.TrodAll enc P W' b sp hd f.resultTypes.toList (v.resultList f.resultTypes.size) (s.fn H (ds ++ gs)).results [])
    (hargs : ∀ sp : Nat → Bool, (∀ p ∈ before, sp p.block = true) → DataW.TrodAll enc P W' 0 sp true f.params.toList args.toList (s.fn H (ds ++ gs)).args pa)
    (hvars : ∀ sp : Nat → Bool, (∀ p ∈ before, sp p.block = true) → DataW.TrodVars enc P W' sp s.vars (s.fn H (ds ++ gs)).vars pv)
    (hps : before = pa ++ pv) (hb : Below W.heap.size W W')
    (hok : ∀ (j : Nat) (t : TypeId) (r : Value), f.resultTypes[j]? = some t → (v.resultList f.resultTypes.size)[j]? = some r → Value.okWide P W' .any 0 t r) :
    s.post enc P f apart fresh handsOn again W args v W' := by
  have hlt : ∀ p ∈ before, p.block < W.heap.size := fun p hp => hW.lt p hp
  have hold : ∀ p ∈ before, (fun b => decide (b < W.heap.size)) p.block = true := fun p hp => by simpa using hlt p hp
  refine ⟨ds, gs, before, [], pa, pv, hW, hres _ _ _, hargs _ hold, hvars _ hold, World.keptBut_mono (fun p hp => ⟨hp, ?_⟩) (hb.frame (· ∈ before)), fun _ => ?_⟩
  · rw [hps, List.mem_append] at hp
    exact Or.inr hp
  · obtain ⟨_, _, _, _, _, hz, hn⟩ := hW
    refine ⟨hok, _, _, ([] ++ pa) ++ pv, ⟨[] ++ pa, pv, trodAll_append (hargs _ (fun _ _ => rfl)) (hres _ _ _), hvars _ (fun _ _ => rfl), rfl, ?_, ?_⟩, ?_⟩
    · intro b off hp
      have hin : MemPlace.cell b off ∈ before := by rw [hps]; simpa using hp
      rw [hb.frozen (hlt _ hin)]
      exact hz b off hin
    · intro ha
      have := hn ha
      rw [hps] at this
      simpa using this
    · intro p hp _
      rw [hps]
      simpa using hp
end
theorem Tryz.own : ownKnob Tryz.prog.godebug = none := by kernel_rfl
set_option maxRecDepth 100000 in
theorem filesNone_lifted (os : Os) (started : os.Started) (H : Type) (enc : TypeId × Value → H) :
    ReturnsInHanded {} Tryz.checked os 3 .any (Rows.filesNoneSpec.pre6 enc Tryz.prog Tryz.f3 Rows.filesNoneRow.domain false) (Rows.filesNoneSpec.post enc Tryz.prog Tryz.f3 false true false false) := by
  refine returnsInHanded_of_change (C := Tryz.checked) Tryz.own started (by kernel_rfl) Tryz.func3
    (ChangeSpec.witness6 (enc := enc) (C := Tryz.checked) false ⟨#[], #[.agg #[.int .i64 0, .int .i64 0, .int .i64 0], .string ⟨#[]⟩], []⟩ 8 (by kernel_rfl) (by kernel_rfl) (by kernel_rfl) (by kernel_rfl)) ?_
  intro W base args ds gs before hval0 hW hcnd _
  have hval : ∀ (j : Nat) t v, Tryz.f3.params[j]? = some t → args[j]? = some v → Value.okWide Tryz.prog W .any base t v := hval0
  have hW' := hW
  obtain ⟨p, q, hA0, hV, rfl, hfz, hnd⟩ := hW
  have hA : DataW.TrodAll enc Tryz.prog W 0 (fun _ => true) true Tryz.f3.params.toList args.toList ds p := hA0
  rw [Tryz.params3] at hA hval
  obtain ⟨v0, v1, d0, d1, p0, p1, rfl, rfl, rfl, h0, h1⟩ := trodAll_two hA
  obtain ⟨rfl, rfl⟩ := trodVars_none hV
  obtain ⟨a, b, c, rfl, rfl, rfl, wa, wb, wc⟩ := open_ints3 Tryz.underlying22 Tryz.underlying3 (by kernel_rfl) (by kernel_rfl) (hval 0 22 v0 rfl rfl) h0
  obtain ⟨s, rfl, rfl, rfl, hs⟩ := Go.ChangeMaps.open_string Tryz.underlying9 (hval 1 9 v1 rfl rfl) h1
  clear hA0 hval0
  simp only [List.append_nil] at hW'
  refine (files_any a b c s W).mono fun e W' ⟨he, hb⟩ => ?_
  subst he
  exact ⟨_, rfl, post_of_below (pa := []) (pv := []) hW' (fun _ _ _ => trodAll_mk1 (shut_bool Tryz.underlying4 _))
    (fun sp _ => trodAll_mk2 (shut_ints3 Tryz.underlying22 Tryz.underlying3 (by kernel_rfl) (by kernel_rfl) wa wb wc) (Go.ChangeMaps.shut_string Tryz.underlying9 hs))
    (fun _ _ => rfl) (by simp) hb (ok_one (by kernel_rfl) rfl (okWide_bool_mk Tryz.underlying4 _))⟩

theorem closed3 : joinedFacts Tryz.prog 3 Tryz.f3 Rows.filesNoneSpec Rows.filesNoneRow = true := by
  unfold joinedFacts
  rw [show (Rows.filesNoneRow.inPlace == Tryz.prog.inPlace 3) = true from beq_iff_eq.2 jf1.symm, show (Rows.filesNoneRow.unfollowed == Tryz.prog.unfollowed 3) = true from beq_iff_eq.2 jf2.symm,
    show (Rows.filesNoneRow.recurses == Tryz.prog.recurses 3) = true from beq_iff_eq.2 jf3.symm, show (Rows.filesNoneRow.named == Tryz.prog.varsNamed 3) = true from beq_iff_eq.2 jf4.symm, jf5]
  kernel_rfl

theorem filesNone_holds : Rows.FilesNoneSaid :=
  OpenClaim.holds_of_wide 3 Tryz.f3 rfl rfl rfl rfl rfl rfl rfl ⟨rfl, rfl, rfl, rfl, rfl⟩ rfl rfl rfl rfl rfl (by kernel_rfl) Tryz.func3 closed3
    (of_decide_eq_true (by kernel_rfl)) (by unfold Func.isWrapper; first | (rw [if_pos (by decide +kernel)]; kernel_rfl) | (rw [if_neg (by decide +kernel)]; exact ⟨rfl, rfl⟩))
    (fun os started H enc _ => filesNone_lifted os started H enc)
end Go.Proofs.YtndhfcdmgjkmjaaGreat
