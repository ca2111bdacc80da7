/- Words for memory: slices of runs. -/
import Derived.Test.YtkifpnhijdcjlaaRows
import Derived.WalkKit
import Derived.WalkSpells
import Derived.WalkLawsBesides
import Derived.Laws.OwnMore
import Derived.Deep.AppendLies
import Derived.Deep.Draws
import Derived.IntWalk
import Derived.Lib.Hide
namespace Go.Proofs.Ytkifpnhijdcjlaa
open Go.RowKit

theorem block_of_add (a : Addr) (n : Nat) : (a.add n).block = a.block := by unfold Addr.add; split <;> rfl
theorem add_of_add (a : Addr) (i j : Nat) : (a.add i).add j = a.add (i + j) := by
  unfold Addr.add
  by_cases hi : i = 0 <;> by_cases hj : j = 0 <;> simp [hi, hj, Nat.add_assoc]

abbrev RunL := List (Int × Int)

/-- A number of int. -/
def I64 (x : Int) : Prop := -9223372036854775808 ≤ x ∧ x ≤ 9223372036854775807
/-- 'Runs w B A n xs': the slice value '.slice A n c' holds the runs xs and lies below block B. -/
def Runs (w : World) (B : Nat) (A : Option Addr) (n : Nat) (xs : RunL) : Prop :=
  n = xs.length ∧ ∀ (i : Nat) (x : Int × Int), xs[i]? = some x → I64 x.1 ∧ I64 x.2 ∧ ∃ b o, A = some ⟨b, o, none⟩ ∧ b < B ∧ w.cell? ⟨b, o + i * 2, none⟩ = some (.int .i64 x.1) ∧ w.cell? ⟨b, o + i * 2 + 1, none⟩ = some (.int .i64 x.2)
theorem Runs.below {w w' : World} {B B' : Nat} {A : Option Addr} {n : Nat} {xs : RunL} (h : Runs w B A n xs) (hb : Below B' w w') (hB : B ≤ B') : Runs w' B A n xs :=
  ⟨h.1, fun i x hx => by
    obtain ⟨h1, h2, b, o, e, hlt, c0, c1⟩ := h.2 i x hx
    exact ⟨h1, h2, b, o, e, hlt, (hb.cell (p := ⟨b, _, none⟩) (Nat.lt_of_lt_of_le hlt hB)).trans c0, (hb.cell (p := ⟨b, _, none⟩) (Nat.lt_of_lt_of_le hlt hB)).trans c1⟩⟩
theorem Runs.more {w : World} {B B' : Nat} {A : Option Addr} {n : Nat} {xs : RunL} (h : Runs w B A n xs) (hB : B ≤ B') : Runs w B' A n xs :=
  ⟨h.1, fun i x hx => by
    obtain ⟨h1, h2, b, o, e, hlt, c⟩ := h.2 i x hx
    exact ⟨h1, h2, b, o, e, by omega, c⟩⟩

theorem Runs.at_ {w : World} {B : Nat} {A : Option Addr} {n k : Nat} {xs : RunL} (h : Runs w B A n xs) (hk : k < n) :
    ∃ (x1 x2 : Int) (b o : Nat), xs[k]? = some (x1, x2) ∧ -9223372036854775808 ≤ x1 ∧ x1 ≤ 9223372036854775807 ∧ -9223372036854775808 ≤ x2 ∧ x2 ≤ 9223372036854775807 ∧ A = some ⟨b, o, none⟩ ∧ b < B ∧
      w.cell? ⟨b, o + k * 2, none⟩ = some (.int .i64 x1) ∧ w.cell? ⟨b, o + k * 2 + 1, none⟩ = some (.int .i64 x2) := by
  have hx : xs[k]? = some (xs[k]'(by have := h.1; omega)) := List.getElem?_eq_getElem _
  obtain ⟨h1, h2, b, o, e, hlt, c0, c1⟩ := h.2 k _ hx
  exact ⟨_, _, b, o, hx, h1.1, h1.2, h2.1, h2.2, e, hlt, c0, c1⟩


/-- The cells of runs. -/
def flat (xs : RunL) : List Value := xs.flatMap fun x => [.int .i64 x.1, .int .i64 x.2]
theorem flat_nil : flat [] = [] := rfl
theorem flat_cons (x : Int × Int) (xs : RunL) : flat (x :: xs) = .int .i64 x.1 :: .int .i64 x.2 :: flat xs := rfl
theorem flat_append (xs ys : RunL) : flat (xs ++ ys) = flat xs ++ flat ys := by simp [flat]
theorem flat_length (xs : RunL) : (flat xs).length = xs.length * 2 := by
  induction xs with
  | nil => rfl
  | cons x xs ih => rw [flat_cons]; simp only [List.length_cons, ih]; omega
theorem flat_even (xs : RunL) (i : Nat) : (flat xs)[i * 2]? = (xs[i]?).map fun x => .int .i64 x.1 := by
  induction xs generalizing i with
  | nil => simp [flat]
  | cons x xs ih =>
    rw [flat_cons]
    cases i with
    | zero => simp
    | succ i => rw [show (i + 1) * 2 = i * 2 + 1 + 1 from by omega]; simpa using ih i
theorem flat_odd (xs : RunL) (i : Nat) : (flat xs)[i * 2 + 1]? = (xs[i]?).map fun x => .int .i64 x.2 := by
  induction xs generalizing i with
  | nil => simp [flat]
  | cons x xs ih =>
    rw [flat_cons]
    cases i with
    | zero => simp
    | succ i => rw [show (i + 1) * 2 + 1 = i * 2 + 1 + 1 + 1 from by omega]; simpa using ih i
theorem flat_one (xs : RunL) : ∀ u ∈ flat xs, u.oneCell' = true := by
  intro u hu
  simp only [flat, List.mem_flatMap] at hu
  obtain ⟨x, _, hx⟩ := hu
  simp at hx
  rcases hx with rfl | rfl <;> rfl
def Wf (xs : RunL) : Prop := ∀ x ∈ xs, I64 x.1 ∧ I64 x.2
theorem Wf.nil : Wf [] := fun _ h => by cases h
theorem Wf.append {xs ys : RunL} (h : Wf xs) (k : Wf ys) : Wf (xs ++ ys) := fun x hx => by
  rcases List.mem_append.1 hx with hx | hx
  · exact h x hx
  · exact k x hx
theorem Wf.one {a b : Int} (h1 : -9223372036854775808 ≤ a) (h2 : a ≤ 9223372036854775807) (h3 : -9223372036854775808 ≤ b) (h4 : b ≤ 9223372036854775807) : Wf [(a, b)] := fun x hx => by
  simp at hx; subst hx; exact ⟨⟨h1, h2⟩, ⟨h3, h4⟩⟩
/-- A slice of the call's own that holds runs. -/
def Own (w : World) (base : Nat) (v : Value) (xs : RunL) : Prop := w.ownsRow base 39 2 v xs.length (flat xs) ∧ Wf xs
theorem Own.nil (w : World) (base : Nat) : Own w base (.slice none 0 0) [] := ⟨World.ownsRow_nil w base 39 2, Wf.nil⟩
theorem Runs.wf {w : World} {B : Nat} {A : Option Addr} {n : Nat} {xs : RunL} (h : Runs w B A n xs) : Wf xs := fun x hx => by
  obtain ⟨i, hi, rfl⟩ := List.getElem_of_mem hx
  obtain ⟨h1, h2, _⟩ := h.2 i _ (List.getElem?_eq_getElem hi)
  exact ⟨h1, h2⟩
theorem Own.form {w : World} {base : Nat} {v : Value} {xs : RunL} (h : Own w base v xs) : ∃ A c, v = .slice A xs.length c := by
  rcases h.1.2 with ⟨rfl, h0⟩ | ⟨g, cap, cur, rfl, _⟩
  · exact ⟨none, 0, by rw [h0]⟩
  · exact ⟨_, _, rfl⟩
theorem Own.runs {w : World} {base n c : Nat} {A : Option Addr} {xs : RunL} (h : Own w base (.slice A n c) xs) : Runs w w.heap.size A n xs := by
  obtain ⟨h1, hw⟩ := h
  rcases h1.2 with ⟨e, h0⟩ | ⟨g, cap, cur, e, hb, hh, hn, hc, hs, ht⟩
  · injection e with e1 e2 e3
    have : xs = [] := List.eq_nil_of_length_eq_zero h0
    subst this
    exact ⟨by simpa using e2, fun i x hx => by simp at hx⟩
  · injection e with e1 e2 e3
    subst e1
    refine ⟨e2, fun i x hx => ?_⟩
    have hlt := (Array.getElem?_eq_some_iff.1 hh).1
    have hm : x ∈ xs := List.mem_of_getElem? hx
    have hk := h1.cells (g := g) rfl
    refine ⟨(hw x hm).1, (hw x hm).2, g, 0, rfl, hlt, ?_, ?_⟩
    · have := hk (i * 2) (.int .i64 x.1) (by rw [flat_even, hx]; rfl)
      rw [← this]; congr 1; unfold Addr.add; split <;> simp_all
    · have := hk (i * 2 + 1) (.int .i64 x.2) (by rw [flat_odd, hx]; rfl)
      rw [← this]; congr 1
theorem Runs.news {w : World} {B : Nat} {b o n : Nat} {xs : RunL} (h : Runs w B (some ⟨b, o, none⟩) n xs) : ∀ j u, (flat xs)[j]? = some u → w.cell? ((⟨b, o, none⟩ : Addr).add j) = some u := by
  intro j u hu
  have hadd : (⟨b, o, none⟩ : Addr).add j = ⟨b, o + j, none⟩ := by unfold Addr.add; split <;> simp_all
  rw [hadd]
  have hj := (List.getElem?_eq_some_iff.1 hu).1
  rw [flat_length] at hj
  obtain ⟨x1, x2, b', o', hx, _, _, _, _, e, _, c0, c1⟩ : ∃ (x1 x2 : Int) (b' o' : Nat), xs[j / 2]? = some (x1, x2) ∧ True ∧ True ∧ True ∧ True ∧ some (⟨b, o, none⟩ : Addr) = some ⟨b', o', none⟩ ∧ True ∧
      w.cell? ⟨b', o' + (j / 2) * 2, none⟩ = some (.int .i64 x1) ∧ w.cell? ⟨b', o' + (j / 2) * 2 + 1, none⟩ = some (.int .i64 x2) := by
    have hx : xs[j / 2]? = some (xs[j / 2]'(by omega)) := List.getElem?_eq_getElem _
    obtain ⟨_, _, b', o', e, _, c0, c1⟩ := h.2 _ _ hx
    exact ⟨_, _, b', o', hx, trivial, trivial, trivial, trivial, e, trivial, c0, c1⟩
  injection e with e
  injection e with e1 e2
  subst e1 e2
  rcases Nat.mod_two_eq_zero_or_one j with h0 | h0
  · have hj2 : j = (j / 2) * 2 := by omega
    rw [hj2, flat_even, hx] at hu
    rw [hj2, c0]; exact hu
  · have hj2 : j = (j / 2) * 2 + 1 := by omega
    rw [hj2, flat_odd, hx] at hu
    rw [hj2, ← Nat.add_assoc, c1]; exact hu

theorem info39 : (Try.prog.info? 39).map (fun i => (i.zero, i.size, i.bytes)) = some (some (.agg #[.int .i64 0, .int .i64 0]), 2, 16) := by kernel_rfl

theorem run_append_runs (w : World) (ty base : Nat) (v : Value) (xs : RunL) (hown : Own w base v xs) (A : Option Addr) (m c : Nat) (ys : RunL) (hr : Runs w w.heap.size A m ys)
    (hlen : xs.length + m ≤ 1048576) (hbase : base ≤ w.heap.size) :
    ∃ v' w', (Builtin.append_ #[22, 22] ty #[v, .slice A m c]).run Try.prog w = .ok v' w' ∧ Own w' base v' (xs ++ ys) ∧ w.grownBy w' v.ownBlock ∧ (v'.ownBlock = v.ownBlock ∨ v'.ownBlock = some w.heap.size) := by
  obtain ⟨i0, hi, hz0, hz1, hz2⟩ := info_parts info39
  have hwf := hown.2.append hr.wf
  rcases A with _ | ad
  · have hm : m = 0 := by
      rcases Nat.eq_zero_or_pos m with h0 | h0
      · exact h0
      · obtain ⟨_, _, b, o, _, _, _, _, _, e, _⟩ := hr.at_ h0
        cases e
    have hy : ys = [] := List.eq_nil_of_length_eq_zero (by rw [← hr.1, hm])
    subst hm hy
    refine ⟨v, w, ?_, by simpa using hown, World.grownBy.refl w _, .inl rfl⟩
    rcases hown.1.2 with ⟨rfl, _⟩ | ⟨g, cap, cur, rfl, _, _, hnc, _⟩
    · simp [Builtin.append_, run_underlying Try.underlying22, sizeOf, typeInfo, hi, Builtin.lenOf, Builtin.firstCells]
    · simp [Builtin.append_, run_underlying Try.underlying22, sizeOf, typeInfo, hi, Builtin.lenOf, Builtin.firstCells, hnc, storeCells]
  · rcases Nat.eq_zero_or_pos m with h0 | h0
    · have hy : ys = [] := List.eq_nil_of_length_eq_zero (by rw [← hr.1, h0])
      subst h0 hy
      obtain ⟨v', w', h1, h2, h3, _, h5⟩ := run_append_own_at (P := Try.prog) w base 22 ty 39 i0 _ 2 16 Try.underlying22 hi hz0 hz1 hz2 rfl (by decide) v _ _ hown.1 ad 0 c [] rfl
        (fun j u hu => by simp at hu) (fun u hu => by cases hu) (by unfold maxLen; omega) (by omega) hbase
      exact ⟨v', w', h1, ⟨by simpa using h2, hwf⟩, h3, h5⟩
    · obtain ⟨_, _, b, o, _, _, _, _, _, e, _⟩ := hr.at_ h0
      injection e with e
      subst e
      obtain ⟨v', w', h1, h2, h3, _, h5⟩ := run_append_own_at (P := Try.prog) w base 22 ty 39 i0 _ 2 16 Try.underlying22 hi hz0 hz1 hz2 rfl (by decide) v _ _ hown.1 ⟨b, o, none⟩ m c (flat ys) (by rw [flat_length, hr.1])
        hr.news (flat_one ys) (by unfold maxLen; omega) (by omega) hbase
      refine ⟨v', w', h1, ⟨?_, hwf⟩, h3, h5⟩
      rw [flat_append, List.length_append, ← hr.1]
      exact h2

/-- append of runs onto a slice of the call's own, at a plain region's list. -/
theorem wpList_app_runs {w : World} {ops : Array Oper} {rest : List Oper} {o : Oper} {a : Act} {Q : Exit → Act → World → Prop} (hgd : o.guard = none) (s x : Operand)
    (ho : o.op = .call { callee := .builtin .append, args := #[s, x], argTypes := #[22, 22] }) (base : Nat) (v : Value) (xs : RunL) (hs : a.eval s = v) (hown : Own w base v xs)
    (A : Option Addr) (m c : Nat) (ys : RunL) (hx : a.eval x = .slice A m c) (hr : Runs w w.heap.size A m ys) (hlen : xs.length + m ≤ 1048576) (hbase : base ≤ w.heap.size)
    (h : ∀ A' c' w', Own w' base (.slice A' (xs.length + m) c') (xs ++ ys) → w.grownBy w' v.ownBlock → ((Value.slice A' (xs.length + m) c').ownBlock = v.ownBlock ∨ (Value.slice A' (xs.length + m) c').ownBlock = some w.heap.size) → wpList Try.prog ops Q rest (a.put o.dst (.slice A' (xs.length + m) c')) w') :
    wpList Try.prog ops Q (o :: rest) a w := by
  refine wpList_plain hgd fun _ hK => ?_
  obtain ⟨v', w', hrun, h2, h3, h4⟩ := run_append_runs w o.type base v xs hown A m c ys hr hlen hbase
  have hv := h2.form
  rw [show (xs ++ ys).length = xs.length + m from by rw [List.length_append, hr.1]] at hv
  obtain ⟨A', c', rfl⟩ := hv
  unfold Oper.wp execOp
  simp only [ho, resolve, invoke, builtin, Sem.run_bind, Sem.run_pure, Result.andThen_ok, List.map_toArray, List.map_cons, List.map_nil, hs, hx, hrun]
  exact hK _ _ (h A' c' w' h2 h3 h4)

/-- The one run that a literal has just laid. -/
theorem Runs.laid {w : World} {g : Nat} {a b : Int} {fr : Nat × Nat} (hg : w.heap[g]? = some (.cells #[.int .i64 a, .int .i64 b] 39 fr)) (ha : I64 a) (hb : I64 b) : Runs w w.heap.size (some ⟨g, 0, none⟩) 1 [(a, b)] := by
  refine ⟨rfl, fun i x hx => ?_⟩
  have hlt := (Array.getElem?_eq_some_iff.1 hg).1
  have hi : i = 0 := by have := (List.getElem?_eq_some_iff.1 hx).1; simp at this; exact this
  subst hi
  simp at hx
  subst hx
  exact ⟨ha, hb, g, 0, rfl, hlt, by rw [cell_of_row w g _ _ _ _ hg]; rfl, by rw [cell_of_row w g _ _ _ _ hg]; rfl⟩

theorem Own.alloc {w : World} {base : Nat} {v : Value} {xs : RunL} (h : Own w base v xs) (o : Obj) : Own (w.alloc o) base v xs := ⟨h.1.alloc o, h.2⟩
theorem Own.below {w w' : World} {base B : Nat} {v : Value} {xs : RunL} (h : Own w base v xs) (hb : Below B w w') (hB : w.heap.size ≤ B) : Own w' base v xs :=
  ⟨h.1.kept (row := none) ⟨hb.os, hb.tape, hb.output, hb.size, fun k hk _ => hb.block k (Nat.lt_of_lt_of_le hk hB)⟩ (by cases hv : v.ownBlock <;> simp), h.2⟩

theorem bcell {W w1 : World} (hb : Below W.heap.size W w1) : (∀ b o, b < W.heap.size → w1.cell? ⟨b, o, none⟩ = W.cell? ⟨b, o, none⟩) ∧ (∀ b o, b < W.heap.size → w1.frozen? ⟨b, o, none⟩ = W.frozen? ⟨b, o, none⟩) :=
  ⟨fun b o h => hb.cell (p := ⟨b, o, none⟩) h, fun b o h => hb.frozen (p := ⟨b, o, none⟩) h⟩

end Go.Proofs.Ytkifpnhijdcjlaa
