/- What the row's list of variables gives; the row's law with the shape of the first world. -/
import Derived.Test.YtkjdlganghbgaaaGreatDoorRows
import Derived.Lib.ItoaNum
import Derived.ProofKit
import Derived.OpenShut
import Derived.Shelf.Vars
import Derived.Lib.LaidTab
import Derived.Stop.LaidErr
import Derived.LaidMore
import Derived.Lay
import Derived.SevenTiedAt
import Derived.Stop.Joined
import Derived.Deep.Slices
import Derived.Deep.Fields
import Derived.ChangeSame
import Derived.ChangeMaps5
import Derived.Lib.SmallJoins
namespace Go.Proofs.YtkjdlganghbgaaaGreatDoor
open Go.ChangeShapes Go.WideShapes Go.ChangeAt Go.RowKit Go.Deep Go.Joins
theorem maxlen_cell {W : World} (h : W.ShapedOpen Tryz.prog) : ∃ m, W.cell? ⟨0, 0, none⟩ = some (.int .i64 m) :=
  Go.Proofs.cell_of_shapedOpen_int (zero := #[.int .i64 0]) (t := 3) h (of_decide_eq_true (by kernel_rfl)) (by kernel_rfl) rfl (by kernel_rfl) (by kernel_rfl) Tryz.underlying3
theorem star505 : "*" ++ "errors.errorString" = "*errors.errorString" := by decide
theorem row505 (u : TypeId) (h : Tryz.prog.typeName? 3 u = some "*errors.errorString") : u = 505 :=
  typeName_ptr_named (nm := "errors.errorString") (by rw [star505]; kernel_rfl) (by kernel_rfl) (by decide) u (by rw [star505]; exact h)
theorem laid_plain {W : World} (h : laidMetH Tryz.prog Rows.deskReadsRow.laid W) : laidMet Tryz.prog Rows.deskReadsRow.laid W := by
  rwa [MakeChecks.laidMetH_plain _ _ _ (by kernel_rfl)] at h
theorem sent_syntax {W : World} (h : laidMet Tryz.prog Rows.deskReadsRow.laid W) : ∃ tp p, W.var? Tryz.prog "strconv.ErrSyntax" = some #[.iface tp p] :=
  let ⟨_, _, h1, _⟩ := laid_sentinel (g := 3) (ti := 79) (tp := 505) (te := 507) (ts := 9) (laidMet.tail (laidMet.tail h)) (by kernel_rfl) (by kernel_rfl) Tryz.underlying79 row505 Tryz.underlying505 Tryz.underlying507 rfl rfl Tryz.underlying9 (by kernel_rfl) (by kernel_rfl)
  ⟨_, _, h1⟩
theorem sent_range {W : World} (h : laidMet Tryz.prog Rows.deskReadsRow.laid W) : ∃ tp p, W.var? Tryz.prog "strconv.ErrRange" = some #[.iface tp p] :=
  let ⟨_, _, h1, _⟩ := laid_sentinel (g := 4) (ti := 79) (tp := 505) (te := 507) (ts := 9) (laidMet.tail (laidMet.tail (laidMet.tail h))) (by kernel_rfl) (by kernel_rfl) Tryz.underlying79 row505 Tryz.underlying505 Tryz.underlying507 rfl rfl Tryz.underlying9 (by kernel_rfl) (by kernel_rfl)
  ⟨_, _, h1⟩
theorem tab_pow {W : World} (h : laidMet Tryz.prog Rows.deskReadsRow.laid W) : Lib.TabIs Tryz.prog W "internal/strconv.uint64pow10" .u64 Lib.pow10Tab :=
  Lib.tabIs_of_head (g := 5) (t := 448) (e := 151) (n := 20) (by kernel_rfl) (by kernel_rfl) (by kernel_rfl) (by kernel_rfl) (by kernel_rfl) (by kernel_rfl) (laidMet.tail (laidMet.tail (laidMet.tail (laidMet.tail h))))
section
variable {H : Type} {enc : TypeId × Value → H}
theorem returns_shaped {a : Assume} {C : Checked} {os : Os} {f : FuncId} {fn : Func} {s : ChangeSpec} {conds : List PathCond} {apart fresh handsOn again : Bool} {X : World → Array Value → Prop}
    (hX : ∀ (w w' : World) (args : Array Value), w.heap = w'.heap → X w args → X w' args)
    (own : ownKnob C.prog.godebug = none) (started : os.Started) (noInit : C.prog.inits.idxOf? f = none) (hfn : C.prog.funcs[f]? = some fn)
    (witness : ∃ (w : World) (tape : Tape) (i : Input), w.os = os ∧ (w.forCall tape i).Shaped C.prog ∧ i.vars = [] ∧ Input.okWide C.prog (w.forCall tape i) .any w.heap.size f i ∧
      ((s.pre enc C.prog fn conds apart (w.forCall tape i).memory i.args ∧ X (w.forCall tape i).memory i.args) ∧ sizedMet enc C.prog fn (OpenSpec.ofChange s) apart (w.forCall tape i).memory i.args) ∧ a.holds C.prog (lone (Frame.enter C.prog f i.args .normal) [] (w.forCall tape i)))
    (contract : ∀ (W : World) (base : Nat) (args : Array Value) (ds gs : List (DataW H)) (before : List MemPlace), W.ShapedOpen C.prog →
      (∀ (j : Nat) t v, fn.params[j]? = some t → args[j]? = some v → Value.okWide C.prog W .any base t v) →
      DataW.Whole enc C.prog fn.params.toList s.vars apart W args.toList ds gs before →
      (DataW.weightsEach C.prog (fn.params.toList ++ s.plain.varTypes C.prog) (ds ++ gs)).all (· ≤ reachBytes) = true → X W args →
      Calls C.prog f args W fun e W' => ∃ v, e = .returned v ∧ s.post enc C.prog fn apart fresh handsOn again W args v W') :
    ReturnsInHanded a C os f .any (fun w args => (s.pre enc C.prog fn conds apart w args ∧ X w args) ∧ sizedMet enc C.prog fn (OpenSpec.ofChange s) apart w args) (s.post enc C.prog fn apart fresh handsOn again) := by
  refine returnsInHanded_of_calls own started noInit witness ?_
  intro w tape i _ hsh _ hok hpre _
  obtain ⟨_, _, _, fn', hfn', _, _, _, _, hval⟩ := hok
  have e : fn' = fn := Option.some.inj (hfn'.symm.trans hfn)
  subst e
  obtain ⟨⟨⟨ds, gs, before, hw, hc⟩, hx⟩, hz⟩ := hpre
  have hw' := DataW.Whole.of_heap (w' := w.forCall tape i) (by rfl) hw
  refine (contract (w.forCall tape i) w.heap.size i.args ds gs before hsh hval hw' (hz.weights hw) (hX _ _ _ (by rfl) hx)).mono fun e W' ⟨v, he, hp⟩ => ?_
  subst he
  exact ChangeSpec.post_blind hp
end
end Go.Proofs.YtkjdlganghbgaaaGreatDoor
namespace Go.Proofs.YtkjdlganghbgaaaGreatDoor
open Go.Joins Go.ChangeShapes Go.WideShapes Go.RowKit Go.Deep
set_option maxRecDepth 100000
section
variable {H : Type} {enc : TypeId × Value → H} {P : Program} {w : World} {base : Nat} {spare : Nat → Bool} {held : Bool}
theorem open_agg7 {r : Reach} {b0 : Nat} {t : TypeId} {f0 f1 f2 f3 f4 f5 f6 : Field} {v : Value} {d : DataW H} {p : List MemPlace} (hs : P.underlying t = some (.struct #[f0, f1, f2, f3, f4, f5, f6])) (hone : oneCellFields P #[f0, f1, f2, f3, f4, f5, f6] = true) (hC : P.cellsOf t = 7)
    (hv : Value.okWide P w r b0 t v) (h : DataW.Trod enc P w base spare held t v d p) :
    ∃ (v0 v1 v2 v3 v4 v5 v6 : Value) (y0 y1 y2 y3 y4 y5 y6 : DataW H × List MemPlace) (n : Nat), v = .agg #[v0, v1, v2, v3, v4, v5, v6] ∧ d = .agg [y0.1, y1.1, y2.1, y3.1, y4.1, y5.1, y6.1] ∧ p = y0.2 ++ (y1.2 ++ (y2.2 ++ (y3.2 ++ (y4.2 ++ (y5.2 ++ y6.2))))) ∧
      DataW.trod enc P w base spare held n f0.type [v0] = some y0 ∧ DataW.trod enc P w base spare held n f1.type [v1] = some y1 ∧ DataW.trod enc P w base spare held n f2.type [v2] = some y2 ∧ DataW.trod enc P w base spare held n f3.type [v3] = some y3 ∧ DataW.trod enc P w base spare held n f4.type [v4] = some y4 ∧ DataW.trod enc P w base spare held n f5.type [v5] = some y5 ∧ DataW.trod enc P w base spare held n f6.type [v6] = some y6 := by
  obtain ⟨cs, rfl, hsz⟩ := okWide_struct hs hv
  obtain ⟨l⟩ := cs
  match l, hsz.trans hC with
  | [c0, c1, c2, c3, c4, c5, c6], _ =>
    obtain ⟨fuel, hf⟩ := h
    obtain ⟨xs, n, _, hx, _, hlen, hg⟩ := DataW.trod_struct hs hf
    obtain ⟨o0, k0⟩ := hone_of hone 0 f0 rfl
    obtain ⟨o1, k1⟩ := hone_of hone 1 f1 rfl
    obtain ⟨o2, k2⟩ := hone_of hone 2 f2 rfl
    obtain ⟨o3, k3⟩ := hone_of hone 3 f3 rfl
    obtain ⟨o4, k4⟩ := hone_of hone 4 f4 rfl
    obtain ⟨o5, k5⟩ := hone_of hone 5 f5 rfl
    obtain ⟨o6, k6⟩ := hone_of hone 6 f6 rfl
    match xs, hlen with
    | [y0, y1, y2, y3, y4, y5, y6], _ =>
      simp only [Prod.mk.injEq] at hx
      exact ⟨c0, c1, c2, c3, c4, c5, c6, y0, y1, y2, y3, y4, y5, y6, n, rfl, by simpa using hx.1, by simpa using hx.2, by simpa [Value.cells, o0, k0] using hg 0 f0 rfl, by simpa [Value.cells, o1, k1] using hg 1 f1 rfl, by simpa [Value.cells, o2, k2] using hg 2 f2 rfl, by simpa [Value.cells, o3, k3] using hg 3 f3 rfl, by simpa [Value.cells, o4, k4] using hg 4 f4 rfl, by simpa [Value.cells, o5, k5] using hg 5 f5 rfl, by simpa [Value.cells, o6, k6] using hg 6 f6 rfl⟩
end
theorem cells34 : Tryz.prog.cellsOf 34 = 7 := by kernel_rfl
theorem cells3 : Tryz.prog.cellsOf 3 = 1 := by kernel_rfl
theorem cells9 : Tryz.prog.cellsOf 9 = 1 := by kernel_rfl
theorem cells4 : Tryz.prog.cellsOf 4 = 1 := by kernel_rfl
section
variable {H : Type} {enc : TypeId × Value → H} {W : World}
/-- a call among the arguments. -/
theorem open_call {b0 : Nat} {spare : Nat → Bool} {held : Bool} {v : Value} {d : DataW H} {p : List MemPlace} (ho : Value.okWide Tryz.prog W .any b0 34 v) (h : DataW.Trod enc Tryz.prog W 0 spare held 34 v d p) :
    ∃ (kd : Int) (a b : ByteArray) (fd n : Int) (s : ByteArray) (on : Bool), v = .agg #[.int .i64 kd, .string a, .string b, .int .i64 fd, .int .i64 n, .string s, .bool on] ∧ d = .agg [.lit (.int .i64 kd), .lit (.string a.data.toList), .lit (.string b.data.toList), .lit (.int .i64 fd), .lit (.int .i64 n), .lit (.string s.data.toList), .lit (.bool on)] ∧ p = [] ∧
      (Lit.int .i64 kd).wf = true ∧ a.size ≤ maxLen ∧ b.size ≤ maxLen ∧ (Lit.int .i64 fd).wf = true ∧ (Lit.int .i64 n).wf = true ∧ s.size ≤ maxLen := by
  obtain ⟨v0, v1, v2, v3, v4, v5, v6, y0, y1, y2, y3, y4, y5, y6, n, rfl, rfl, rfl, t0, t1, t2, t3, t4, t5, t6⟩ := open_agg7 Tryz.underlying34 (by kernel_rfl) cells34 ho h
  obtain ⟨n0, e0, rfl, w0⟩ := DataW.trod_int Tryz.underlying3 t0
  obtain ⟨s1, e1, rfl, w1⟩ := DataW.trod_string Tryz.underlying9 t1
  obtain ⟨s2, e2, rfl, w2⟩ := DataW.trod_string Tryz.underlying9 t2
  obtain ⟨n3, e3, rfl, w3⟩ := DataW.trod_int Tryz.underlying3 t3
  obtain ⟨n4, e4, rfl, w4⟩ := DataW.trod_int Tryz.underlying3 t4
  obtain ⟨s5, e5, rfl, w5⟩ := DataW.trod_string Tryz.underlying9 t5
  obtain ⟨b6, e6, rfl⟩ := DataW.trod_bool Tryz.underlying4 t6
  simp only [List.cons.injEq, and_true] at e0 e1 e2 e3 e4 e5 e6
  subst e0 e1 e2 e3 e4 e5 e6
  exact ⟨n0, s1, s2, n3, n4, s5, b6, rfl, rfl, rfl, w0, w1, w2, w3, w4, w5⟩
theorem shut_call {base : Nat} {spare : Nat → Bool} {held : Bool} {kd : Int} {a b : ByteArray} {fd n : Int} {s : ByteArray} {on : Bool} (w0 : (Lit.int .i64 kd).wf = true) (w1 : a.size ≤ maxLen) (w2 : b.size ≤ maxLen) (w3 : (Lit.int .i64 fd).wf = true) (w4 : (Lit.int .i64 n).wf = true) (w5 : s.size ≤ maxLen) :
    DataW.Trod enc Tryz.prog W base spare held 34 (.agg #[.int .i64 kd, .string a, .string b, .int .i64 fd, .int .i64 n, .string s, .bool on]) (.agg [.lit (.int .i64 kd), .lit (.string a.data.toList), .lit (.string b.data.toList), .lit (.int .i64 fd), .lit (.int .i64 n), .lit (.string s.data.toList), .lit (.bool on)]) [] := by
  have ei : ∀ {x : Int}, (Lit.int .i64 x).wf = true → DataW.trod enc Tryz.prog W base spare held 1 3 [.int .i64 x] = some (.lit (.int .i64 x), []) := fun hx => trod_int_mk 0 Tryz.underlying3 hx
  have es : ∀ {x : ByteArray}, x.size ≤ maxLen → DataW.trod enc Tryz.prog W base spare held 1 9 [.string x] = some (.lit (.string x.data.toList), []) := fun hx => by simp [DataW.trod, Tryz.underlying9, hx]
  have eb : ∀ {x : Bool}, DataW.trod enc Tryz.prog W base spare held 1 4 [.bool x] = some (.lit (.bool x), []) := by simp [DataW.trod, Tryz.underlying4]
  refine ⟨2, ?_⟩
  have := trod_struct_mk (enc := enc) (w := W) (base := base) (spare := spare) (held := held) (n := 1) (xs := [(.lit (.int .i64 kd), []), (.lit (.string a.data.toList), []), (.lit (.string b.data.toList), []), (.lit (.int .i64 fd), []), (.lit (.int .i64 n), []), (.lit (.string s.data.toList), []), (.lit (.bool on), [])])
    (cs := [.int .i64 kd, .string a, .string b, .int .i64 fd, .int .i64 n, .string s, .bool on]) Tryz.underlying34 (by rw [cells34]; rfl) (by
      simp [cells3, cells9, cells4, ei w0, es w1, es w2, ei w3, ei w4, es w5, eb])
  simpa [Value.cells] using this
end
end Go.Proofs.YtkjdlganghbgaaaGreatDoor
