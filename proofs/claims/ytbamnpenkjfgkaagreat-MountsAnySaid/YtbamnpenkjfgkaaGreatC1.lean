/- Contracts of functions that are walked by hand: slices.Chunk's closures, the nodes of a tree that has none. -/
import Derived.Test.YtbamnpenkjfgkaaGreatProg
import Derived.Test.YtbamnpenkjfgkaaGreatE0
import Derived.WalkKit
import Derived.WalkSpells
import Derived.WalkLawsBesides
import Derived.IntWalk
import Derived.Lib.Hide
import Derived.Shelf.SlIterI.Collect
import Derived.Sort.QuietIn
namespace Go.Proofs.YtbamnpenkjfgkaaGreat
open Go.Ex Go.RowKit
set_option maxRecDepth 100000 in
set_option maxHeartbeats 2000000 in
theorem chunkA : ChunkIs Tryz.prog 285:=by
  intro w l sa na pa L c m hs hsf hn hnf hL hm hm2 hc R h0 h1
  refine callsIn_of_wp Tryz.func285 rfl trivial ?_
  have hQ : ∀ (e : Exit) a w',(e=.normal∨e=.ret)→R w'→a.defers=[]→bodyPost Tryz.prog Tryz.f285 (fun en w'=>en=.returned (.tuple #[])∧R w') e a w':=fun e a w' he hR hd=>by
    have hr : (results Tryz.f285 a.tmps).run Tryz.prog w'=.ok (.tuple #[]) w':=by simp [results,Tryz.f285]
    rcases he with rfl | rfl <;> exact ⟨hd,.tuple #[],hr,rfl,hR⟩
  generalize bodyPost Tryz.prog Tryz.f285 (fun en w'=>en=.returned (.tuple #[])∧R w')=Q at hQ ⊢
  simp only [Tryz.ntmps285,List.size_toArray,List.length_cons,List.length_nil,Nat.reduceAdd,Nat.reduceSub,Array.replicate_succ,Array.replicate_zero,List.push_toArray,List.append_toArray,List.nil_append,List.cons_append]
  gi_wp2
  refine wpIn_loop_rounds 2 ?_
  rw [roundsIn_succ]
  gi_wp2
  rotate_left
  · exact hQ _ _ _ (.inl rfl) (h0 (by omega)) rfl
  obtain ⟨g,o,fn,tmps,assign,body,rfl,hy⟩:=h1 (by assumption)
  refine wpIn_region_quiet_lit rfl (by kernel_rfl) (by kernel_rfl) ?_
  repeat (gi_big_quiet_step (skip))
  refine wpQuietIn_nil ?_
  intro _ hw'
  obtain ⟨nq,hw''⟩:=hw'
  subst hw''
  obtain ⟨hy,hR⟩:=hy nq
  rcases Nat.lt_or_eq_of_le hL with hlt | rfl
  · gi_wp2
    all_goals try (exfalso;omega)
    refine ⟨rfl,hR.mono ?_⟩
    rintro en W3 ⟨rfl,hs3,hsf3,hn3,hnf3,hR3⟩
    gi_wp2
    rw [roundsIn_succ]
    gi_wp2
    all_goals try (exfalso;omega)
    exact hQ _ _ _ (.inl rfl) hR3 rfl
  · gi_wp2
    all_goals try (exfalso;omega)
    refine ⟨rfl,hR.mono ?_⟩
    rintro en W3 ⟨rfl,hs3,hsf3,hn3,hnf3,hR3⟩
    gi_wp2
    rw [roundsIn_succ]
    gi_wp2
    all_goals try (exfalso;omega)
    exact hQ _ _ _ (.inl rfl) hR3 rfl
set_option maxRecDepth 100000 in
set_option maxHeartbeats 2000000 in
theorem chunkB : ChunkIs Tryz.prog 286:=by
  intro w l sa na pa L c m hs hsf hn hnf hL hm hm2 hc R h0 h1
  refine callsIn_of_wp Tryz.func286 rfl trivial ?_
  have hQ : ∀ (e : Exit) a w',(e=.normal∨e=.ret)→R w'→a.defers=[]→bodyPost Tryz.prog Tryz.f286 (fun en w'=>en=.returned (.tuple #[])∧R w') e a w':=fun e a w' he hR hd=>by
    have hr : (results Tryz.f286 a.tmps).run Tryz.prog w'=.ok (.tuple #[]) w':=by simp [results,Tryz.f286]
    rcases he with rfl | rfl <;> exact ⟨hd,.tuple #[],hr,rfl,hR⟩
  generalize bodyPost Tryz.prog Tryz.f286 (fun en w'=>en=.returned (.tuple #[])∧R w')=Q at hQ ⊢
  simp only [Tryz.ntmps286,List.size_toArray,List.length_cons,List.length_nil,Nat.reduceAdd,Nat.reduceSub,Array.replicate_succ,Array.replicate_zero,List.push_toArray,List.append_toArray,List.nil_append,List.cons_append]
  gi_wp2
  refine wpIn_loop_rounds 2 ?_
  rw [roundsIn_succ]
  gi_wp2
  rotate_left
  · exact hQ _ _ _ (.inl rfl) (h0 (by omega)) rfl
  obtain ⟨g,o,fn,tmps,assign,body,rfl,hy⟩:=h1 (by assumption)
  refine wpIn_region_quiet_lit rfl (by kernel_rfl) (by kernel_rfl) ?_
  repeat (gi_big_quiet_step (skip))
  refine wpQuietIn_nil ?_
  intro _ hw'
  obtain ⟨nq,hw''⟩:=hw'
  subst hw''
  obtain ⟨hy,hR⟩:=hy nq
  rcases Nat.lt_or_eq_of_le hL with hlt | rfl
  · gi_wp2
    all_goals try (exfalso;omega)
    refine ⟨rfl,hR.mono ?_⟩
    rintro en W3 ⟨rfl,hs3,hsf3,hn3,hnf3,hR3⟩
    gi_wp2
    rw [roundsIn_succ]
    gi_wp2
    all_goals try (exfalso;omega)
    exact hQ _ _ _ (.inl rfl) hR3 rfl
  · gi_wp2
    all_goals try (exfalso;omega)
    refine ⟨rfl,hR.mono ?_⟩
    rintro en W3 ⟨rfl,hs3,hsf3,hn3,hnf3,hR3⟩
    gi_wp2
    rw [roundsIn_succ]
    gi_wp2
    all_goals try (exfalso;omega)
    exact hQ _ _ _ (.inl rfl) hR3 rfl
def intN (v : Value) : Nat:=match v with | .int _ n=>n.toNat | _=>0
set_option maxRecDepth 100000 in
set_option maxHeartbeats 2000000 in
theorem nodesA : NodesIs Tryz.prog 159:=by
  intro w b g o L c hs hsf hL hk
  go_enter Tryz.func159,Tryz.ntmps159
  go_wp2
  go_loopw [3,11] (fun out i wr=>out=.slice none 0 0∧∃ k : Nat,k≤L∧i=.int .i64 k∧wr=w) (fun _ i _=>L - intN i)
  case atStart=>exact ⟨rfl,0,Nat.zero_le _,rfl,rfl⟩
  case round =>
    obtain ⟨rfl,k,hk1,rfl,rfl⟩:=hrel
    by_cases hlt : k < L
    · obtain ⟨hc,hf⟩:=hk k hlt
      go_wp2_with fail
      exact ⟨⟨rfl,k+1,by omega,by go_num,trivial⟩,by simp [intN];omega⟩
    · go_wp2
      go_ret
      exact ⟨rfl,rfl⟩
end Go.Proofs.YtbamnpenkjfgkaaGreat
