/- DeskReads, lifted to what the row says of a call. -/
import Derived.Test.YtkjdlganghbgaaaGreatDoorW21
import Derived.Test.YtkjdlganghbgaaaGreatDoorPR0
import Derived.Test.YtkjdlganghbgaaaGreatDoorK1
import Derived.Test.YtkjdlganghbgaaaGreatDoorJD1
import Derived.Test.YtkjdlganghbgaaaGreatDoorJD4
import Derived.Test.YtkjdlganghbgaaaGreatDoorK2
import Derived.Test.YtkjdlganghbgaaaGreatDoorK3
import Derived.ProofKit
import Derived.OpenShut
import Derived.LaidMore
import Derived.Lay
import Derived.SevenTiedAt
import Derived.Stop.Joined
namespace Go.Proofs.YtkjdlganghbgaaaGreatDoor
open Go.ChangeShapes Go.WideShapes Go.ChangeAt Go.RowKit Go.Deep Go.Joins
open Go.ChangeMaps (open_string shut_string)

section
variable {H : Type} {P : Program} {enc : TypeId × Value → H}
theorem post_of_below {f : Func} {s : ChangeSpec} {apart fresh handsOn again : Bool} {W W' : World} {args : Array Value} {v : Value} {ds gs : List (DataW H)} {before pa pv : List MemPlace}
    (hW : DataW.Whole enc P f.params.toList s.vars apart W args.toList ds gs before)
    (hres : ∀ (b : Nat) (sp : Nat → Bool) (hd : Bool), DataW.TrodAll enc P W' b sp hd f.resultTypes.toList (v.resultList f.resultTypes.size) (s.fn H (ds ++ gs)).results [])
    (hargs : ∀ sp : Nat → Bool, (∀ p ∈ before, sp p.block = true) → DataW.TrodAll enc P W' 0 sp true f.params.toList args.toList (s.fn H (ds ++ gs)).args pa)
    (hvars : ∀ sp : Nat → Bool, (∀ p ∈ before, sp p.block = true) → DataW.TrodVars enc P W' sp s.vars (s.fn H (ds ++ gs)).vars pv)
    (hps : before = pa ++ pv) (hb : Below W.heap.size W W')
    (hok : ∀ (j : Nat) (t : TypeId) (r : Value), f.resultTypes[j]? = some t → (v.resultList f.resultTypes.size)[j]? = some r → Value.okWide P W' .any 0 t r) :
    s.post enc P f apart fresh handsOn again W args v W' := by
  have hlt : ∀ p ∈ before, p.block < W.heap.size := fun p hp => hW.lt p hp
  have hold : ∀ p ∈ before, (fun b => decide (b < W.heap.size)) p.block = true := fun p hp => by simpa using hlt p hp
  refine ⟨ds, gs, before, [], pa, pv, hW, hres _ _ _, hargs _ hold, hvars _ hold, World.keptBut_mono (fun p hp => ⟨hp, ?_⟩) (hb.frame (· ∈ before)), fun _ => ?_⟩
  · rw [hps, List.mem_append] at hp
    exact Or.inr hp
  · obtain ⟨_, _, _, _, _, hz, hn⟩ := hW
    refine ⟨hok, _, _, ([] ++ pa) ++ pv, ⟨[] ++ pa, pv, trodAll_append (hargs _ (fun _ _ => rfl)) (hres _ _ _), hvars _ (fun _ _ => rfl), rfl, ?_, ?_⟩, ?_⟩
    · intro b off hp
      have hin : MemPlace.cell b off ∈ before := by rw [hps]; simpa using hp
      rw [hb.frozen (hlt _ hin)]
      exact hz b off hin
    · intro ha
      have := hn ha
      rw [hps] at this
      simpa using this
    · intro p hp _
      rw [hps]
      simpa using hp
end
/-- the table of powers of ten, as the run of lives takes it. -/
theorem pins_of_tab {W : World} (ht : Lib.TabIs Tryz.prog W "internal/strconv.uint64pow10" .u64 Lib.pow10Tab) : Go.Ex.zC7 W := by
  unfold Lib.TabIs World.var? at ht
  rw [show Tryz.prog.globalNamed "internal/strconv.uint64pow10" = some 5 by kernel_rfl] at ht
  simp only [Option.bind_some] at ht
  split at ht
  · rename_i cs t fz hh
    injection ht with ht
    intro x hx
    unfold Go.Ex.pins at hx
    rw [List.mem_singleton] at hx
    subst hx
    refine ⟨⟨cs, t, fz, hh, fun i hi => ?_⟩, fun _ _ h => by cases h⟩
    subst ht
    match i, hi with
    | 0, _ => rfl
    | 1, _ => rfl
    | 2, _ => rfl
    | 3, _ => rfl
    | 4, _ => rfl
    | 5, _ => rfl
    | 6, _ => rfl
    | 7, _ => rfl
    | 8, _ => rfl
    | 9, _ => rfl
    | 10, _ => rfl
    | 11, _ => rfl
    | 12, _ => rfl
    | 13, _ => rfl
    | 14, _ => rfl
    | 15, _ => rfl
    | 16, _ => rfl
    | 17, _ => rfl
    | 18, _ => rfl
    | 19, _ => rfl
    | i + 20, h => omega
  · cases ht
theorem weigh {H : Type} {l : ByteArray} {kd : Int} {a b : ByteArray} {fd n : Int} {s : ByteArray} {on : Bool} (h : (DataW.weightsEach (H := H) Tryz.prog [9, 34] [.lit (.string l.data.toList), .agg [.lit (.int .i64 kd), .lit (.string a.data.toList), .lit (.string b.data.toList), .lit (.int .i64 fd), .lit (.int .i64 n), .lit (.string s.data.toList), .lit (.bool on)]]).all (· ≤ reachBytes) = true) :
    l.size ≤ 281474976710656 ∧ a.size ≤ 281474976710656 ∧ b.size ≤ 281474976710656 ∧ s.size ≤ 281474976710656 := by
  have e1 : l.size = l.data.toList.length := rfl
  have e2 : a.size = a.data.toList.length := rfl
  have e3 : b.size = b.data.toList.length := rfl
  have e4 : s.size = s.data.toList.length := rfl
  rw [e1, e2, e3, e4]
  clear e1 e2 e3 e4
  generalize l.data.toList = l1, a.data.toList = l2, b.data.toList = l3, s.data.toList = l4 at *
  simp only [DataW.weightsEach, DataW.weights, Tryz.underlying34, List.map, List.all_cons, List.all_nil, Bool.and_true, Bool.and_eq_true, decide_eq_true_eq, List.nil_append, List.cons_append, List.append_nil] at h
  unfold reachBytes at h
  omega
theorem wf_i64 {x : Int} (h : (Lit.int .i64 x).wf = true) : -9223372036854775808 ≤ x ∧ x ≤ 9223372036854775807 := by
  unfold Lit.wf at h
  rw [Bool.and_eq_true, decide_eq_true_eq, decide_eq_true_eq] at h
  exact h
theorem Tryz.own : ownKnob Tryz.prog.godebug = none := by kernel_rfl
set_option maxRecDepth 100000 in
theorem deskReads_lifted (os : Os) (started : os.Started) (H : Type) (enc : TypeId × Value → H) :
    ReturnsInHanded {} Tryz.checked os 4 .any (fun w args => (Rows.deskReadsSpec.pre enc Tryz.prog Tryz.f4 Rows.deskReadsRow.domain false w args ∧ laidMetH Tryz.prog Rows.deskReadsRow.laid w) ∧ sizedMet enc Tryz.prog Tryz.f4 (OpenSpec.ofChange Rows.deskReadsSpec) false w args)
      (Rows.deskReadsSpec.post enc Tryz.prog Tryz.f4 false true false false) := by
  refine returns_shaped (C := Tryz.checked) (X := fun w _ => laidMetH Tryz.prog Rows.deskReadsRow.laid w) (fun _ _ _ hh h => h.of_heap hh) Tryz.own started (by kernel_rfl) Tryz.func4
    (ChangeSpec.witness_shaped (enc := enc) (C := Tryz.checked) (os := os) (X := fun w _ => laidMetH Tryz.prog Rows.deskReadsRow.laid w) false (World.laidAll Tryz.prog os Rows.deskReadsRow.laid) #[.string ⟨#[]⟩, .agg #[.int .i64 0, .string ⟨#[]⟩, .string ⟨#[]⟩, .int .i64 0, .int .i64 0, .string ⟨#[]⟩, .bool false]] 8 (World.laidAll_os _ _ _)
      (World.shaped_of_ZipB (by kernel_rfl) (by kernel_rfl)) (by kernel_rfl) (by kernel_rfl) (by kernel_rfl)
      (by rw [MakeChecks.laidMetH_plain _ _ _ (by kernel_rfl)]; exact laidMet_laidAll _ (by kernel_rfl) (by kernel_rfl))) ?_
  intro W base args ds gs before hsh hval0 hW hwt hL0
  have hL := laid_plain hL0
  have hval : ∀ (j : Nat) t v, Tryz.f4.params[j]? = some t → args[j]? = some v → Value.okWide Tryz.prog W .any base t v := hval0
  have hW' := hW
  obtain ⟨p, q, hA0, hV, rfl, hfz, hnd⟩ := hW
  have hA : DataW.TrodAll enc Tryz.prog W 0 (fun _ => true) true Tryz.f4.params.toList args.toList ds p := hA0
  rw [Tryz.params4] at hA hval
  obtain ⟨v0, v1, d0, d1, p0, p1, rfl, rfl, rfl, h0, h1⟩ := trodAll_two hA
  obtain ⟨rfl, rfl⟩ := trodVars_none hV
  obtain ⟨l, rfl, rfl, rfl, hl⟩ := open_string Tryz.underlying9 (hval 0 9 v0 rfl rfl) h0
  obtain ⟨kd, a, b, fd, n, s, on, rfl, rfl, rfl, w0, w1, w2, w3, w4, w5⟩ := open_call (hval 1 34 v1 rfl rfl) h1
  clear hA0 hval0
  simp only [List.append_nil] at hW'
  obtain ⟨z1, z2, z3, z4⟩ := weigh (H := H) (by rw [Tryz.params4] at hwt; exact hwt)
  obtain ⟨mm, hmm⟩ := maxlen_cell hsh
  obtain ⟨tp, pv, hsy⟩ := sent_syntax hL
  obtain ⟨tp2, pv2, hra⟩ := sent_range hL
  have htab := tab_pow hL
  refine (law_walk l kd fd n a b s on (wf_i64 w3).1 (wf_i64 w3).2 (wf_i64 w4).1 (wf_i64 w4).2 z2 z3 z4 z1 W (pins_of_tab htab) hmm hsy hra htab).mono fun e W' ⟨he, hb⟩ => ?_
  subst he
  exact ⟨_, rfl, post_of_below (pa := []) (pv := []) hW' (fun _ _ _ => trodAll_mk1 (shut_bool Tryz.underlying4 _))
    (fun sp _ => trodAll_mk2 (shut_string Tryz.underlying9 hl) (shut_call w0 w1 w2 w3 w4 w5))
    (fun _ _ => rfl) (by simp) hb (ok_one (by kernel_rfl) rfl (okWide_bool_mk Tryz.underlying4 _))⟩
end Go.Proofs.YtkjdlganghbgaaaGreatDoor
namespace Go.Proofs.YtkjdlganghbgaaaGreatDoor
open Go.ChangeShapes Go.WideShapes Go.ChangeAt Go.RowKit
set_option maxRecDepth 100000
theorem closed4 : joinedFacts Tryz.prog 4 Tryz.f4 Rows.deskReadsSpec Rows.deskReadsRow = true := by
  unfold joinedFacts
  rw [show (Rows.deskReadsRow.inPlace == Tryz.prog.inPlace 4) = true from beq_iff_eq.2 jd1.symm, show (Rows.deskReadsRow.unfollowed == Tryz.prog.unfollowed 4) = true from beq_iff_eq.2 jd2.symm,
    show (Rows.deskReadsRow.recurses == Tryz.prog.recurses 4) = true from beq_iff_eq.2 jd3.symm, show (Rows.deskReadsRow.named == Tryz.prog.varsNamed 4) = true from beq_iff_eq.2 jd4.symm, jm, k1, k2, k3, k4, k5, k6, k7]
  kernel_rfl
end Go.Proofs.YtkjdlganghbgaaaGreatDoor
namespace Go.Proofs.YtkjdlganghbgaaaGreatDoor
open Go.ChangeShapes Go.WideShapes Go.ChangeAt Go.RowKit Go.Deep Go.Joins
theorem deskReads_row : Rows.DeskReadsSaid :=
  OpenClaim.holds_of_wide 4 Tryz.f4 rfl rfl rfl rfl rfl rfl rfl ⟨rfl, rfl, rfl, rfl, rfl⟩ rfl rfl rfl rfl rfl (by kernel_rfl) Tryz.func4 closed4
    (of_decide_eq_true (by kernel_rfl)) (by unfold Func.isWrapper; first | (rw [if_pos (by decide +kernel)]; kernel_rfl) | (rw [if_neg (by decide +kernel)]; exact ⟨rfl, rfl⟩))
    (fun os started H enc _ => deskReads_lifted os started H enc)
end Go.Proofs.YtkjdlganghbgaaaGreatDoor
