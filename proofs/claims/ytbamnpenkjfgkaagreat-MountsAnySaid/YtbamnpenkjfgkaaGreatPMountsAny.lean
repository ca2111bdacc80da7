/- MountsAny: for every input the law returns true and leaves its arguments as they were. No condition. -/
import Derived.Test.YtbamnpenkjfgkaaGreatFZ
import Derived.Test.YtbamnpenkjfgkaaGreatUQ
import Derived.Test.YtbamnpenkjfgkaaGreatUP
import Derived.Test.YtbamnpenkjfgkaaGreatUL
import Derived.Test.YtbamnpenkjfgkaaGreatRows
import Derived.Test.YtbamnpenkjfgkaaGreatJD
import Derived.ProofKit
import Derived.OpenShut
import Derived.Deep.Slices
import Derived.Deep.Fields
import Derived.ChangeSame
import Derived.Lib.SmallJoins
namespace Go.Proofs.YtbamnpenkjfgkaaGreat
open Go.ChangeShapes Go.WideShapes Go.ChangeAt Go.RowKit Go.Deep Go.Joins
open Go.ChangeMaps (open_string shut_string)
section
variable {H : Type} {P : Program} {enc : TypeId × Value→H}
theorem post_of_below {f : Func} {s : ChangeSpec} {apart fresh handsOn again : Bool} {W W' : World} {args : Array Value} {v : Value} {ds gs : List (DataW H)} {before pa pv : List MemPlace}
    (hW : DataW.Whole enc P f.params.toList s.vars apart W args.toList ds gs before)
    (hres : ∀ (b : Nat) (sp : Nat→Bool) (hd : Bool),DataW.TrodAll enc P W' b sp hd f.resultTypes.toList (v.resultList f.resultTypes.size) (s.fn H (ds ++ gs)).results [])
    (hargs : ∀ sp : Nat→Bool,(∀ p ∈ before,sp p.block=true)→DataW.TrodAll enc P W' 0 sp true f.params.toList args.toList (s.fn H (ds ++ gs)).args pa)
    (hvars : ∀ sp : Nat→Bool,(∀ p ∈ before,sp p.block=true)→DataW.TrodVars enc P W' sp s.vars (s.fn H (ds ++ gs)).vars pv)
    (hps : before=pa ++ pv) (hb : Below W.heap.size W W')
    (hok : ∀ (j : Nat) (t : TypeId) (r : Value),f.resultTypes[j]?=some t→(v.resultList f.resultTypes.size)[j]?=some r→Value.okWide P W' .any 0 t r) :
    s.post enc P f apart fresh handsOn again W args v W':=by
  have hlt : ∀ p ∈ before,p.block < W.heap.size:=fun p hp=>hW.lt p hp
  have hold : ∀ p ∈ before,(fun b=>decide (b < W.heap.size)) p.block=true:=fun p hp=>by simpa using hlt p hp
  refine ⟨ds,gs,before,[],pa,pv,hW,hres _ _ _,hargs _ hold,hvars _ hold,World.keptBut_mono (fun p hp=>⟨hp,?_⟩) (hb.frame (· ∈ before)),fun _=>?_⟩
  · rw [hps,List.mem_append] at hp
    exact Or.inr hp
  · obtain ⟨_,_,_,_,_,hz,hn⟩:=hW
    refine ⟨hok,_,_,([] ++ pa) ++ pv,⟨[] ++ pa,pv,trodAll_append (hargs _ (fun _ _=>rfl)) (hres _ _ _),hvars _ (fun _ _=>rfl),rfl,?_,?_⟩,?_⟩
    · intro b off hp
      have hin : MemPlace.cell b off ∈ before:=by rw [hps];simpa using hp
      rw [hb.frozen (hlt _ hin)]
      exact hz b off hin
    · intro ha
      have:=hn ha
      rw [hps] at this
      simpa using this
    · intro p hp _
      rw [hps]
      simpa using hp
end
theorem mounts_any (s : ByteArray) (a : Int) (ha : 0≤a∧a≤255) (w : World) : Calls Tryz.prog 3 #[.string s,.int .u8 a] w fun e w'=>e=.returned (.bool true)∧Below w.heap.size w w':=by
  obtain ⟨x,rfl⟩:=Int.eq_ofNat_of_zero_le ha.1
  exact law_walk rep_walk blk_nil bwrite_is bstring_is sort_is joins s x (by omega) w (fun w'=>Below w.heap.size w w') fun W hB=>(lives_any W).mono fun e w' h=>⟨h.1,hB.trans (h.2.mono hB.size)⟩
theorem Tryz.own : ownKnob Tryz.prog.godebug=none:=by kernel_rfl
set_option maxRecDepth 100000 in
theorem mountsAny_lifted (os : Os) (started : os.Started) (H : Type) (enc : TypeId × Value→H) :
    ReturnsInHanded {} Tryz.checked os 3 .any (Rows.mountsAnySpec.pre6 enc Tryz.prog Tryz.f3 Rows.mountsAnyRow.domain false) (Rows.mountsAnySpec.post enc Tryz.prog Tryz.f3 false true false false):=by
  refine returnsInHanded_of_change (C:=Tryz.checked) Tryz.own started (by kernel_rfl) Tryz.func3
    (ChangeSpec.witness6 (enc:=enc) (C:=Tryz.checked) false ⟨#[],#[.string ⟨#[]⟩,.int .u8 0],[]⟩ 8 (by kernel_rfl) (by kernel_rfl) (by kernel_rfl) (by kernel_rfl)) ?_
  intro W base args ds gs before hval0 hW hcnd _
  have hval : ∀ (j : Nat) t v,Tryz.f3.params[j]?=some t→args[j]?=some v→Value.okWide Tryz.prog W .any base t v:=hval0
  have hW':=hW
  obtain ⟨p,q,hA0,hV,rfl,hfz,hnd⟩:=hW
  have hA : DataW.TrodAll enc Tryz.prog W 0 (fun _=>true) true Tryz.f3.params.toList args.toList ds p:=hA0
  rw [Tryz.params3] at hA hval
  obtain ⟨v0,v1,d0,d1,p0,p1,rfl,rfl,rfl,h0,h1⟩:=trodAll_two hA
  obtain ⟨rfl,rfl⟩:=trodVars_none hV
  obtain ⟨l,rfl,rfl,rfl,hl⟩:=open_string Tryz.underlying9 (hval 0 9 v0 rfl rfl) h0
  obtain ⟨a,rfl,rfl,rfl,wa⟩:=open_int Tryz.underlying5 (hval 1 5 v1 rfl rfl) h1
  clear hA0 hval0
  simp only [List.append_nil] at hW'
  refine (mounts_any l a (bounds_u8 wa) W).mono fun e W' ⟨he,hb⟩=>?_
  subst he
  exact ⟨_,rfl,post_of_below (pa:=[]) (pv:=[]) hW' (fun _ _ _=>trodAll_mk1 (shut_bool Tryz.underlying4 _))
    (fun sp _=>trodAll_mk2 (shut_string Tryz.underlying9 hl) (shut_int Tryz.underlying5 wa))
    (fun _ _=>rfl) (by simp) hb (ok_one (by kernel_rfl) rfl (okWide_bool_mk Tryz.underlying4 _))⟩
theorem closed3 : joinedFacts Tryz.prog 3 Tryz.f3 Rows.mountsAnySpec Rows.mountsAnyRow=true:=by
  unfold joinedFacts
  rw [show (Rows.mountsAnyRow.inPlace == Tryz.prog.inPlace 3)=true from beq_iff_eq.2 jf1.symm,show (Rows.mountsAnyRow.unfollowed == Tryz.prog.unfollowed 3)=true from beq_iff_eq.2 jf2.symm,
    show (Rows.mountsAnyRow.recurses == Tryz.prog.recurses 3)=true from beq_iff_eq.2 jf3.symm,show (Rows.mountsAnyRow.named == Tryz.prog.varsNamed 3)=true from beq_iff_eq.2 jf4.symm,jf5]
  kernel_rfl
theorem mountsAny_holds : Rows.MountsAnySaid :=
  OpenClaim.holds_of_wide 3 Tryz.f3 rfl rfl rfl rfl rfl rfl rfl ⟨rfl,rfl,rfl,rfl,rfl⟩ rfl rfl rfl rfl rfl (by kernel_rfl) Tryz.func3 closed3
    (of_decide_eq_true (by kernel_rfl)) (by unfold Func.isWrapper;first | (rw [if_pos (by decide +kernel)];kernel_rfl) | (rw [if_neg (by decide +kernel)];exact ⟨rfl,rfl⟩))
    (fun os started H enc _=>mountsAny_lifted os started H enc)
end Go.Proofs.YtbamnpenkjfgkaaGreat
