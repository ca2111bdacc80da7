/- The queue of a cache of buffers: what its functions may change, and what holds of it. -/
import Derived.Below
import Derived.WalkKit
import Derived.Test.YtfmjhleccnmhkaaGreatProg
import Derived.WalkSpells
import Derived.BigCall
import Derived.IntWalk
import Derived.Lib.Hide
import Derived.Maps.AppendAt
import Derived.Deep.RegionHeld3
import Derived.StillTailTactics
namespace Go.Que
open Go.RowKit (Below)
/-- nothing changes but cells that are told. -/
structure Mod (T : Nat → Nat → Prop) (w w' : World) : Prop where
  size : w.heap.size ≤ w'.heap.size
  os : w'.os = w.os
  tape : w'.tape = w.tape
  output : w'.output = w.output
  cells : ∀ (b : Nat) (arr : Array Value) (e : TypeId) (fz : Nat × Nat), (∃ k, ¬ T b k) → w.heap[b]? = some (.cells arr e fz) → ∃ arr', w'.heap[b]? = some (.cells arr' e fz) ∧ arr'.size = arr.size ∧ ∀ k, ¬ T b k → arr'[k]? = arr[k]?
  other : ∀ b, (∃ k, ¬ T b k) → b < w.heap.size → (∀ arr e fz, w.heap[b]? ≠ some (.cells arr e fz)) → w'.heap[b]? = w.heap[b]?
theorem Mod.refl (T : Nat → Nat → Prop) (w : World) : Mod T w w := ⟨Nat.le_refl _, rfl, rfl, rfl, fun _ arr _ _ _ h => ⟨arr, h, rfl, fun _ _ => rfl⟩, fun _ _ _ _ => rfl⟩
theorem Mod.trans {T : Nat → Nat → Prop} {w w1 w2 : World} (a : Mod T w w1) (b : Mod T w1 w2) : Mod T w w2 :=
  ⟨Nat.le_trans a.size b.size, b.os.trans a.os, b.tape.trans a.tape, b.output.trans a.output, fun q arr e fz hx h => by
    obtain ⟨arr1, h1, h2, h3⟩ := a.cells q arr e fz hx h
    obtain ⟨arr2, k1, k2, k3⟩ := b.cells q arr1 e fz hx h1
    exact ⟨arr2, k1, k2.trans h2, fun k hk => (k3 k hk).trans (h3 k hk)⟩, fun q hx hq hn => by
    have h1 := a.other q hx hq hn
    rw [b.other q hx (Nat.lt_of_lt_of_le hq a.size) (by rw [h1]; exact hn), h1]⟩
theorem Mod.mono {T S : Nat → Nat → Prop} {w w' : World} (h : Mod T w w') (hs : ∀ b k, T b k → S b k) : Mod S w w' :=
  ⟨h.size, h.os, h.tape, h.output, fun b arr e fz ⟨k, hk⟩ hb => by
    obtain ⟨arr', h1, h2, h3⟩ := h.cells b arr e fz ⟨k, fun ht => hk (hs b k ht)⟩ hb
    exact ⟨arr', h1, h2, fun k hk => h3 k fun ht => hk (hs b k ht)⟩, fun b ⟨k, hk⟩ => h.other b ⟨k, fun ht => hk (hs b k ht)⟩⟩
theorem Mod.below {T : Nat → Nat → Prop} {w w' : World} (h : Below w.heap.size w w') : Mod T w w' :=
  ⟨h.size, h.os, h.tape, h.output, fun b arr e fz _ hb => ⟨arr, by rw [h.block b (Array.getElem?_eq_some_iff.1 hb).1]; exact hb, rfl, fun _ _ => rfl⟩, fun b _ hb _ => h.block b hb⟩
theorem heap_setCell (w : World) (b k q : Nat) (v : Value) : (w.setCell ⟨b, k, none⟩ v).heap[q]? = if b = q then (w.heap[q]?).map (fun o => match o with | .cells c e f => .cells (c.setIfInBounds k v) e f | o => o) else w.heap[q]? := by
  simp only [World.setCell, Array.getElem?_modify]
  by_cases h : b = q
  · rw [if_pos h, if_pos h]; rfl
  · rw [if_neg h, if_neg h]
theorem Mod.setCell {T : Nat → Nat → Prop} (w : World) {b k : Nat} (ht : T b k) (v : Value) : Mod T w (w.setCell ⟨b, k, none⟩ v) := by
  refine ⟨by simp [World.setCell], rfl, rfl, rfl, fun q arr e fz _ hq => ?_, fun q _ _ hn => ?_⟩
  · rw [heap_setCell]
    by_cases h : b = q
    · subst h
      rw [if_pos rfl, hq]
      refine ⟨_, rfl, by simp, fun j hj => ?_⟩
      rw [Array.getElem?_setIfInBounds, if_neg]
      rintro rfl
      exact hj ht
    · rw [if_neg h]; exact ⟨arr, hq, rfl, fun _ _ => rfl⟩
  · rw [heap_setCell]
    by_cases h : b = q
    · subst h
      rw [if_pos rfl]
      cases hb : w.heap[b]? with
      | none => rfl
      | some o =>
        cases o with
        | cells c e f => exact absurd hb (hn c e f)
        | _ => rfl
    · rw [if_neg h]
/-! cells -/
theorem cell_set (w : World) (b k q j : Nat) (v : Value) : (w.setCell ⟨b, k, none⟩ v).cell? ⟨q, j, none⟩ = if b = q ∧ k = j ∧ (w.cell? ⟨b, k, none⟩).isSome = true then some v else w.cell? ⟨q, j, none⟩ := by
  unfold World.cell?
  dsimp only
  rw [heap_setCell]
  by_cases h : b = q
  · subst h
    rw [if_pos rfl]
    cases hb : w.heap[b]? with
    | none => simp
    | some o =>
      cases o with
      | cells c e f =>
        simp only [Option.map_some, Option.isSome_none, Bool.false_eq_true, if_false, Array.getElem?_setIfInBounds]
        by_cases hk : k = j
        · subst hk
          by_cases hs : k < c.size
          · simp [hs]
          · simp [hs]
        · simp [hk]
      | _ => simp
  · rw [if_neg h, if_neg fun e => h e.1]
theorem frozen_set (w : World) (b k q j : Nat) (v : Value) : (w.setCell ⟨b, k, none⟩ v).frozen? ⟨q, j, none⟩ = w.frozen? ⟨q, j, none⟩ := by
  unfold World.frozen?
  dsimp only
  rw [heap_setCell]
  by_cases h : b = q
  · subst h
    rw [if_pos rfl]
    cases hb : w.heap[b]? with
    | none => rfl
    | some o => cases o <;> rfl
  · rw [if_neg h]
theorem shape_set (w : World) (b k q : Nat) (v : Value) : (w.setCell ⟨b, k, none⟩ v).shape? q = w.shape? q := by
  unfold World.shape?
  rw [heap_setCell]
  by_cases h : b = q
  · subst h
    rw [if_pos rfl]
    cases hb : w.heap[b]? with
    | none => rfl
    | some o => cases o <;> simp
  · rw [if_neg h]
/-- what stands in a cell that may not change. -/
theorem Mod.cell {T : Nat → Nat → Prop} {w w' : World} (h : Mod T w w') {b k : Nat} {v : Value} (hc : w.cell? ⟨b, k, none⟩ = some v) (hn : ¬ T b k) : w'.cell? ⟨b, k, none⟩ = some v := by
  unfold World.cell? at hc ⊢
  dsimp only at hc ⊢
  split at hc
  · rename_i arr e fz hb
    obtain ⟨arr', h1, h2, h3⟩ := h.cells b arr e fz ⟨k, hn⟩ hb
    rw [h1]
    dsimp only
    rw [h3 k hn]
    exact hc
  · cases hc
theorem Mod.froz {T : Nat → Nat → Prop} {w w' : World} (h : Mod T w w') {b k : Nat} {v : Value} (hc : w.cell? ⟨b, k, none⟩ = some v) (hn : ¬ T b k) : w'.frozen? ⟨b, k, none⟩ = w.frozen? ⟨b, k, none⟩ := by
  unfold World.cell? at hc
  dsimp only at hc
  split at hc
  · rename_i arr e fz hb
    obtain ⟨arr', h1, h2, h3⟩ := h.cells b arr e fz ⟨k, hn⟩ hb
    unfold World.frozen?
    rw [h1, hb]
  · cases hc
/-- a queue of buffers: c: the cache's block; L: the buffers, in their order (f: their blocks); bq: the row's block. -/
structure Q (pt : TypeId) (f : Nat → Nat) (w : World) (c : Nat) (L : List Nat) (bq cap : Nat) : Prop where
  len : L.length ≤ cap
  fit : L.length < 1000000
  free : w.cell? ⟨c, 5, none⟩ = some (.slice (some ⟨bq, 0, none⟩) L.length cap)
  freef : w.frozen? ⟨c, 5, none⟩ = false
  row : ∀ (k x : Nat), L[k]? = some x → w.cell? ⟨bq, k, none⟩ = some (.pointer (some ⟨f x, 0, none⟩))
  room : ∃ cur, w.heap[bq]? = some (.cells cur pt (0, 0)) ∧ cur.size = cap ∧ cap ≤ maxLen
  apart : c ≠ bq
  bufs : ∀ (k x : Nat), L[k]? = some x → f x ≠ c ∧ f x ≠ bq ∧ (∃ u, w.cell? ⟨f x, 4, none⟩ = some (.int .i64 u)) ∧ w.cell? ⟨f x, 5, none⟩ = some (.int .i64 k) ∧ w.frozen? ⟨f x, 5, none⟩ = false
theorem Q.rowf {pt : TypeId} {f : Nat → Nat} {w : World} {c bq cap : Nat} {L : List Nat} (q : Q pt f w c L bq cap) (k : Nat) : w.frozen? ⟨bq, k, none⟩ = false := by
  obtain ⟨cur, h1, _⟩ := q.room
  unfold World.frozen?
  rw [h1]
  simp
theorem Q.inj {pt : TypeId} {f : Nat → Nat} {w : World} {c bq cap : Nat} {L : List Nat} (q : Q pt f w c L bq cap) {i j x y : Nat} (hi : L[i]? = some x) (hj : L[j]? = some y) (hxy : f x = f y) : i = j := by
  have h1 := (q.bufs i x hi).2.2.2.1
  have h2 := (q.bufs j y hj).2.2.2.1
  rw [hxy, h2] at h1
  injection h1 with h1
  injection h1 with _ h1
  omega
/-- what a queue's functions may change. -/
def TQ (f : Nat → Nat) (L : List Nat) (bq : Nat) (b k : Nat) : Prop := b = bq ∨ ∃ x ∈ L, b = f x ∧ k = 5
/-- two swapped. -/
def swapL (L : List Nat) (i j x y : Nat) : List Nat := (L.set i y).set j x
theorem swap_get {L : List Nat} {i j x y : Nat} (hi : L[i]? = some x) (hj : L[j]? = some y) (k : Nat) : (swapL L i j x y)[k]? = if k = j then some x else if k = i then some y else L[k]? := by
  have h1 := (List.getElem?_eq_some_iff.1 hi).1
  have h2 := (List.getElem?_eq_some_iff.1 hj).1
  unfold swapL
  rw [List.getElem?_set, List.getElem?_set]
  simp only [List.length_set]
  by_cases hk : k = j
  · subst hk; simp [h2]
  · rw [if_neg (fun e => hk e.symm), if_neg hk]
    by_cases hk2 : k = i
    · subst hk2; simp [h1]
    · rw [if_neg (fun e => hk2 e.symm), if_neg hk2]
theorem perm_set {L : List Nat} {i x y : Nat} (hi : L[i]? = some x) : (x :: L.set i y).Perm (y :: L) := by
  induction L generalizing i with
  | nil => cases hi
  | cons a r ih =>
    cases i with
    | zero =>
      injection hi with hi
      subst hi
      exact .swap _ _ _
    | succ i =>
      have := ih (i := i) (by simpa using hi)
      exact (List.Perm.swap a x _).trans ((this.cons a).trans (.swap y a r))
theorem swap_perm {L : List Nat} {i j x y : Nat} (hi : L[i]? = some x) (hj : L[j]? = some y) (hij : i ≠ j) : (swapL L i j x y).Perm L := by
  have h1 := perm_set (L := L) (y := y) hi
  have h2 := perm_set (L := L.set i y) (i := j) (x := y) (y := x) (by rw [List.getElem?_set, if_neg hij]; exact hj)
  exact List.Perm.cons_inv (h2.trans h1)
theorem swap_len {L : List Nat} {i j x y : Nat} : (swapL L i j x y).length = L.length := by simp [swapL]
/-- the world behind a swap. -/
def swapW (f : Nat → Nat) (w : World) (bq i j x y : Nat) : World := (((w.setCell ⟨bq, i, none⟩ (.pointer (some ⟨f y, 0, none⟩))).setCell ⟨bq, j, none⟩ (.pointer (some ⟨f x, 0, none⟩))).setCell ⟨f y, 5, none⟩ (.int .i64 i)).setCell ⟨f x, 5, none⟩ (.int .i64 j)
theorem swap_cell {pt : TypeId} {f : Nat → Nat} {w : World} {c bq cap : Nat} {L : List Nat} (q : Q pt f w c L bq cap) {i j x y : Nat} (hi : L[i]? = some x) (hj : L[j]? = some y) (b k : Nat) : (swapW f w bq i j x y).cell? ⟨b, k, none⟩ = if b = f x ∧ k = 5 then some (.int .i64 j) else if b = f y ∧ k = 5 then some (.int .i64 i) else if b = bq ∧ k = j then some (.pointer (some ⟨f x, 0, none⟩)) else if b = bq ∧ k = i then some (.pointer (some ⟨f y, 0, none⟩)) else w.cell? ⟨b, k, none⟩ := by
  obtain ⟨x1, x2, ⟨ux, x3⟩, x4, x5⟩ := q.bufs i x hi
  obtain ⟨y1, y2, ⟨uy, y3⟩, y4, y5⟩ := q.bufs j y hj
  have r1 := q.row i x hi
  have r2 := q.row j y hj
  have s1 : (w.setCell ⟨bq, i, none⟩ (.pointer (some ⟨f y, 0, none⟩))).cell? ⟨bq, j, none⟩ = some (.pointer (some ⟨f y, 0, none⟩)) := by
    rw [cell_set]
    split <;> first | rfl | exact r2
  have s2 : ((w.setCell ⟨bq, i, none⟩ (.pointer (some ⟨f y, 0, none⟩))).setCell ⟨bq, j, none⟩ (.pointer (some ⟨f x, 0, none⟩))).cell? ⟨f y, 5, none⟩ = some (.int .i64 j) := by
    rw [cell_set, if_neg (fun e => y2 e.1.symm), cell_set, if_neg (fun e => y2 e.1.symm)]; exact y4
  have s3 : ∃ v, (((w.setCell ⟨bq, i, none⟩ (.pointer (some ⟨f y, 0, none⟩))).setCell ⟨bq, j, none⟩ (.pointer (some ⟨f x, 0, none⟩))).setCell ⟨f y, 5, none⟩ (.int .i64 i)).cell? ⟨f x, 5, none⟩ = some v := by
    rw [cell_set]
    split
    · exact ⟨_, rfl⟩
    · rw [cell_set, if_neg (fun e => x2 e.1.symm), cell_set, if_neg (fun e => x2 e.1.symm)]; exact ⟨_, x4⟩
  obtain ⟨v3, s3⟩ := s3
  unfold swapW
  rw [cell_set, s3, cell_set _ (f y), s2, cell_set _ bq j, s1, cell_set _ bq i, r1]
  simp only [Option.isSome_some, and_true]
  by_cases h1 : b = f x ∧ k = 5
  · rw [if_pos h1, if_pos ⟨h1.1.symm, h1.2.symm⟩]
  · rw [if_neg h1, if_neg fun e => h1 ⟨e.1.symm, e.2.symm⟩]
    by_cases h2 : b = f y ∧ k = 5
    · rw [if_pos h2, if_pos ⟨h2.1.symm, h2.2.symm⟩]
    · rw [if_neg h2, if_neg fun e => h2 ⟨e.1.symm, e.2.symm⟩]
      by_cases h3 : b = bq ∧ k = j
      · rw [if_pos h3, if_pos ⟨h3.1.symm, h3.2.symm⟩]
      · rw [if_neg h3, if_neg fun e => h3 ⟨e.1.symm, e.2.symm⟩]
        by_cases h4 : b = bq ∧ k = i
        · rw [if_pos h4, if_pos ⟨h4.1.symm, h4.2.symm⟩]
        · rw [if_neg h4, if_neg fun e => h4 ⟨e.1.symm, e.2.symm⟩]
theorem Q.swap {pt : TypeId} {f : Nat → Nat} {w : World} {c bq cap : Nat} {L : List Nat} (q : Q pt f w c L bq cap) {i j x y : Nat} (hi : L[i]? = some x) (hj : L[j]? = some y) (hij : i ≠ j) : Q pt f (swapW f w bq i j x y) c (swapL L i j x y) bq cap ∧ Mod (TQ f L bq) w (swapW f w bq i j x y) := by
  have hxL : x ∈ L := List.mem_of_getElem? hi
  have hyL : y ∈ L := List.mem_of_getElem? hj
  have cell := swap_cell q hi hj
  have fro : ∀ b k, (swapW f w bq i j x y).frozen? ⟨b, k, none⟩ = w.frozen? ⟨b, k, none⟩ := fun b k => by
    unfold swapW; rw [frozen_set, frozen_set, frozen_set, frozen_set]
  have hmod : Mod (TQ f L bq) w (swapW f w bq i j x y) := by
    unfold swapW
    exact (((Mod.setCell _ (.inl rfl) _).trans (Mod.setCell _ (.inl rfl) _)).trans (Mod.setCell _ (.inr ⟨y, hyL, rfl, rfl⟩) _)).trans (Mod.setCell _ (.inr ⟨x, hxL, rfl, rfl⟩) _)
  obtain ⟨x1, x2, ⟨ux, x3⟩, x4, x5⟩ := q.bufs i x hi
  obtain ⟨y1, y2, ⟨uy, y3⟩, y4, y5⟩ := q.bufs j y hj
  have hap := q.apart
  have hrow : Mod (fun b k => (b = bq ∧ (k = i ∨ k = j)) ∨ b ≠ bq) w (swapW f w bq i j x y) := by
    unfold swapW
    exact (((Mod.setCell _ (.inl ⟨rfl, .inl rfl⟩) _).trans (Mod.setCell _ (.inl ⟨rfl, .inr rfl⟩) _)).trans (Mod.setCell _ (.inr y2) _)).trans (Mod.setCell _ (.inr x2) _)
  refine ⟨⟨by rw [swap_len]; exact q.len, by rw [swap_len]; exact q.fit, ?_, by rw [fro]; exact q.freef, fun k z hz => ?_, (by obtain ⟨cur, r1, r2, r3⟩ := q.room; obtain ⟨cur', r4, r5, _⟩ := hrow.cells _ _ _ _ ⟨i + j + 1, fun e => by rcases e with ⟨_, e | e⟩ | e <;> first | omega | exact e rfl⟩ r1; exact ⟨cur', r4, r5.trans r2, r3⟩), hap, fun k z hz => ?_⟩, hmod⟩
  · rw [cell, if_neg (fun e => x1 e.1.symm), if_neg (fun e => y1 e.1.symm), if_neg (fun e => hap e.1), if_neg (fun e => hap e.1), swap_len]; exact q.free
  · rw [cell, if_neg (fun e => x2 e.1.symm), if_neg (fun e => y2 e.1.symm)]
    rw [swap_get hi hj] at hz
    by_cases h1 : k = j
    · rw [if_pos h1] at hz
      injection hz with hz
      subst hz
      rw [if_pos ⟨rfl, h1⟩]
    · rw [if_neg h1] at hz
      rw [if_neg fun e => h1 e.2]
      by_cases h2 : k = i
      · rw [if_pos h2] at hz
        injection hz with hz
        subst hz
        rw [if_pos ⟨rfl, h2⟩]
      · rw [if_neg h2] at hz
        rw [if_neg fun e => h2 e.2]
        exact q.row k z hz
  · rw [swap_get hi hj] at hz
    have old : ∀ k' z', L[k']? = some z' → f z' ≠ c ∧ f z' ≠ bq ∧ (∃ u, (swapW f w bq i j x y).cell? ⟨f z', 4, none⟩ = some (.int .i64 u)) := fun k' z' hz' => by
      obtain ⟨z1, z2, ⟨u, z3⟩, z4, z5⟩ := q.bufs k' z' hz'
      refine ⟨z1, z2, u, ?_⟩
      rw [cell, if_neg (fun e => absurd e.2 (by decide)), if_neg (fun e => absurd e.2 (by decide)), if_neg (fun e => z2 e.1), if_neg (fun e => z2 e.1)]
      exact z3
    by_cases h1 : k = j
    · rw [if_pos h1] at hz
      injection hz with hz
      subst hz
      obtain ⟨o1, o2, o3⟩ := old i x hi
      exact ⟨o1, o2, o3, by rw [cell, if_pos ⟨rfl, rfl⟩, h1], by rw [fro]; exact x5⟩
    · rw [if_neg h1] at hz
      by_cases h2 : k = i
      · rw [if_pos h2] at hz
        injection hz with hz
        subst hz
        obtain ⟨o1, o2, o3⟩ := old j y hj
        exact ⟨o1, o2, o3, by rw [cell, if_neg (fun e => hij (q.inj hi hj e.1.symm)), if_pos ⟨rfl, rfl⟩, h2], by rw [fro]; exact y5⟩
      · rw [if_neg h2] at hz
        obtain ⟨z1, z2, z3, z4, z5⟩ := q.bufs k z hz
        obtain ⟨o1, o2, o3⟩ := old k z hz
        exact ⟨o1, o2, o3, by rw [cell, if_neg (fun e => h2 (q.inj hz hi e.1)), if_neg (fun e => h1 (q.inj hz hj e.1)), if_neg (fun e => z2 e.1), if_neg (fun e => z2 e.1)]; exact z4, by rw [fro]; exact z5⟩
/-- what lies elsewhere changes, or nothing. -/
theorem Q.keep {pt : TypeId} {f : Nat → Nat} {T : Nat → Nat → Prop} {w w' : World} {c bq cap : Nat} {L : List Nat} (q : Q pt f w c L bq cap) (h : Mod T w w') (h1 : ¬ T c 5) (h2 : ∀ k, ¬ T bq k) (h3 : ∀ x ∈ L, ¬ T (f x) 5) (h4 : ∀ x ∈ L, ∀ u, w.cell? ⟨f x, 4, none⟩ = some (.int .i64 u) → ∃ u', w'.cell? ⟨f x, 4, none⟩ = some (.int .i64 u')) : Q pt f w' c L bq cap := by
  obtain ⟨cur, r1, r2, r3⟩ := q.room
  obtain ⟨cur', r4, r5, _⟩ := h.cells _ _ _ _ ⟨0, h2 0⟩ r1
  refine ⟨q.len, q.fit, h.cell q.free h1, by rw [h.froz q.free h1]; exact q.freef, fun k x hx => h.cell (q.row k x hx) (h2 k), ⟨cur', r4, r5.trans r2, r3⟩, q.apart, fun k x hx => ?_⟩
  · obtain ⟨x1, x2, ⟨u, x3⟩, x4, x5⟩ := q.bufs k x hx
    have hm := List.mem_of_getElem? hx
    exact ⟨x1, x2, h4 x hm u x3, h.cell x4 (h3 x hm), by rw [h.froz x4 (h3 x hm)]; exact x5⟩
end Go.Que
namespace Go.Proofs.YtfmjhleccnmhkaaGreat
open Go.RowKit Go.Que
theorem Q_below {pt : TypeId} {f : Nat → Nat} {w w' : World} {c bq cap : Nat} {L : List Nat} (q : Q pt f w c L bq cap) (h : Below w.heap.size w w') : Q pt f w' c L bq cap :=
  q.keep (T := fun _ _ => False) (Mod.below h) (fun e => e) (fun _ e => e) (fun _ _ e => e) fun _ _ u hu => ⟨u, (Mod.below (T := fun _ _ => False) h).cell hu fun e => e⟩
set_option maxHeartbeats 4000000 in
theorem qlen_walk (b : Option Addr) (l cap : Nat) (w : World) : Calls Tryz.prog 429 #[.slice b l cap] w fun e w' => e = .returned (.int .i64 l) ∧ Below w.heap.size w w' := by
  go_enter Tryz.func429, Tryz.ntmps429
  go_wp2
  go_ret
  exact ⟨rfl, Below.refl _ _⟩
set_option maxHeartbeats 4000000 in
theorem qless_walk {pt : TypeId} {f : Nat → Nat} {w : World} {c bq cap : Nat} {L : List Nat} (q : Q pt f w c L bq cap) {i j x y : Nat} (hi : L[i]? = some x) (hj : L[j]? = some y) : Calls Tryz.prog 430 #[.slice (some ⟨bq, 0, none⟩) L.length cap, .int .i64 i, .int .i64 j] w fun e w' => (∃ t, e = .returned (.bool t)) ∧ Below w.heap.size w w' := by
  have hil := (List.getElem?_eq_some_iff.1 hi).1
  have hjl := (List.getElem?_eq_some_iff.1 hj).1
  have r1 := q.row i x hi
  have r2 := q.row j y hj
  obtain ⟨x1, x2, ⟨ux, x3⟩, x4, x5⟩ := q.bufs i x hi
  obtain ⟨y1, y2, ⟨uy, y3⟩, y4, y5⟩ := q.bufs j y hj
  have hlen := q.len
  have hfit := q.fit
  clear q hi hj
  generalize L.length = n at *
  go_enter Tryz.func430, Tryz.ntmps430
  go_wp2
  go_region
  go_wp2
  go_ret
  exact ⟨⟨_, rfl⟩, ⟨rfl, rfl, rfl, Nat.le_refl _, fun _ _ => rfl⟩⟩
set_option maxHeartbeats 8000000 in
theorem qswap_walk {pt : TypeId} {f : Nat → Nat} {w : World} {c bq cap : Nat} {L : List Nat} (q : Q pt f w c L bq cap) {i j x y : Nat} (hi : L[i]? = some x) (hj : L[j]? = some y) (hij : i ≠ j) : Calls Tryz.prog 431 #[.slice (some ⟨bq, 0, none⟩) L.length cap, .int .i64 i, .int .i64 j] w fun e w' => e = .returned (.tuple #[]) ∧ Q pt f w' c (swapL L i j x y) bq cap ∧ Mod (TQ f L bq) w w' := by
  have hil := (List.getElem?_eq_some_iff.1 hi).1
  have hjl := (List.getElem?_eq_some_iff.1 hj).1
  have r1 := q.row i x hi
  have r2 := q.row j y hj
  have hne : ¬ (f x = f y) := fun e => hij (q.inj hi hj e)
  have hne2 : ¬ (f y = f x) := fun e => hne e.symm
  obtain ⟨x1, x2, ⟨ux, x3⟩, x4, x5⟩ := q.bufs i x hi
  obtain ⟨y1, y2, ⟨uy, y3⟩, y4, y5⟩ := q.bufs j y hj
  have hlen := q.len
  have hfit := q.fit
  have f1 := q.rowf i
  have f2 := q.rowf j
  have hji : ¬ j = i := fun e => hij e.symm
  have x2' : ¬ bq = f x := fun e => x2 e.symm
  have y2' : ¬ bq = f y := fun e => y2 e.symm
  have QS := Lib.hid (q.swap hi hj hij)
  clear q hi hj
  generalize L.length = n at *
  go_enter Tryz.func431, Tryz.ntmps431
  go_wp2
  go_region
  go_wp2
  have e1 : ((w.setCell ⟨bq, i, none⟩ (.pointer (some ⟨f y, 0, none⟩))).setCell ⟨bq, j, none⟩ (.pointer (some ⟨f x, 0, none⟩))).drew.cell? ⟨bq, i, none⟩ = some (.pointer (some ⟨f y, 0, none⟩)) := by
    show ((w.setCell ⟨bq, i, none⟩ (.pointer (some ⟨f y, 0, none⟩))).setCell ⟨bq, j, none⟩ (.pointer (some ⟨f x, 0, none⟩))).cell? ⟨bq, i, none⟩ = _
    rw [cell_set, if_neg (fun e => hji e.2.1), cell_set, if_pos ⟨rfl, rfl, by rw [r1]; rfl⟩]
  have e2 : ((w.setCell ⟨bq, i, none⟩ (.pointer (some ⟨f y, 0, none⟩))).setCell ⟨bq, j, none⟩ (.pointer (some ⟨f x, 0, none⟩))).drew.cell? ⟨bq, j, none⟩ = some (.pointer (some ⟨f x, 0, none⟩)) := by
    show ((w.setCell ⟨bq, i, none⟩ (.pointer (some ⟨f y, 0, none⟩))).setCell ⟨bq, j, none⟩ (.pointer (some ⟨f x, 0, none⟩))).cell? ⟨bq, j, none⟩ = _
    rw [cell_set, if_pos ⟨rfl, rfl, by rw [cell_set, if_neg (fun e => hij e.2.1), r2]; rfl⟩]
  have e3 : ((w.setCell ⟨bq, i, none⟩ (.pointer (some ⟨f y, 0, none⟩))).setCell ⟨bq, j, none⟩ (.pointer (some ⟨f x, 0, none⟩))).drew.cell? ⟨f x, 5, none⟩ = some (.int .i64 i) := by
    show ((w.setCell ⟨bq, i, none⟩ (.pointer (some ⟨f y, 0, none⟩))).setCell ⟨bq, j, none⟩ (.pointer (some ⟨f x, 0, none⟩))).cell? ⟨f x, 5, none⟩ = _
    rw [cell_set, if_neg (fun e => x2' e.1), cell_set, if_neg (fun e => x2' e.1)]; exact x4
  have e4 : ((w.setCell ⟨bq, i, none⟩ (.pointer (some ⟨f y, 0, none⟩))).setCell ⟨bq, j, none⟩ (.pointer (some ⟨f x, 0, none⟩))).drew.cell? ⟨f y, 5, none⟩ = some (.int .i64 j) := by
    show ((w.setCell ⟨bq, i, none⟩ (.pointer (some ⟨f y, 0, none⟩))).setCell ⟨bq, j, none⟩ (.pointer (some ⟨f x, 0, none⟩))).cell? ⟨f y, 5, none⟩ = _
    rw [cell_set, if_neg (fun e => y2' e.1), cell_set, if_neg (fun e => y2' e.1)]; exact y4
  have e5 : ((w.setCell ⟨bq, i, none⟩ (.pointer (some ⟨f y, 0, none⟩))).setCell ⟨bq, j, none⟩ (.pointer (some ⟨f x, 0, none⟩))).drew.frozen? ⟨f x, 5, none⟩ = false := by
    show ((w.setCell ⟨bq, i, none⟩ (.pointer (some ⟨f y, 0, none⟩))).setCell ⟨bq, j, none⟩ (.pointer (some ⟨f x, 0, none⟩))).frozen? ⟨f x, 5, none⟩ = _
    rw [frozen_set, frozen_set]; exact x5
  have e6 : ((w.setCell ⟨bq, i, none⟩ (.pointer (some ⟨f y, 0, none⟩))).setCell ⟨bq, j, none⟩ (.pointer (some ⟨f x, 0, none⟩))).drew.frozen? ⟨f y, 5, none⟩ = false := by
    show ((w.setCell ⟨bq, i, none⟩ (.pointer (some ⟨f y, 0, none⟩))).setCell ⟨bq, j, none⟩ (.pointer (some ⟨f x, 0, none⟩))).frozen? ⟨f y, 5, none⟩ = _
    rw [frozen_set, frozen_set]; exact y5
  clear r1 r2 x3 x4 x5 y3 y4 y5 f1 f2
  generalize hW1 : ((w.setCell ⟨bq, i, none⟩ (.pointer (some ⟨f y, 0, none⟩))).setCell ⟨bq, j, none⟩ (.pointer (some ⟨f x, 0, none⟩))).drew = W1 at e1 e2 e3 e4 e5 e6 ⊢
  have HW := Lib.hid hW1
  clear hW1
  go_region
  go_wp2
  go_end0
  rw [← HW.out]
  have hb : Below (swapW f w bq i j x y).heap.size (swapW f w bq i j x y) (((((w.setCell ⟨bq, i, none⟩ (.pointer (some ⟨f y, 0, none⟩))).setCell ⟨bq, j, none⟩ (.pointer (some ⟨f x, 0, none⟩))).drew.setCell ⟨f y, 5, none⟩ (.int .i64 i)).setCell ⟨f x, 5, none⟩ (.int .i64 j)).drew) := ⟨rfl, rfl, rfl, Nat.le_refl _, fun _ _ => rfl⟩
  exact ⟨rfl, Q_below QS.out.1 hb, QS.out.2.trans (Mod.below hb)⟩
/-! the methods, by the interface -/
theorem Tryz.under273 : Tryz.prog.underlying 273 = some (.slice 252) := by kernel_rfl
theorem Tryz.under348 : Tryz.prog.underlying 348 = some (.pointer 273) := by kernel_rfl
noncomputable def methFacts (name : String) : Option (Nat × Option (FuncId × Bool)) := (Tryz.prog.info? 348).bind fun i => (i.methods.find? (·.name == name)).map fun m => (m.path.toList.length, m.func)
theorem Tryz.mLen : methFacts "Len" = some (0, some (429, false)) := by kernel_rfl
theorem Tryz.mLess : methFacts "Less" = some (0, some (430, false)) := by kernel_rfl
theorem Tryz.mSwap : methFacts "Swap" = some (0, some (431, false)) := by kernel_rfl
theorem Tryz.mPop : methFacts "Pop" = some (0, some (433, true)) := by kernel_rfl
theorem Tryz.mPush : methFacts "Push" = some (0, some (434, true)) := by kernel_rfl
theorem load273 {w : World} {c : Nat} {v : Value} (hc : w.cell? ⟨c, 5, none⟩ = some v) : (loadVar 273 ⟨c, 5, none⟩).run Tryz.prog w = .ok v w := by
  have h1 : (isAgg 273).run Tryz.prog w = .ok false w := by
    unfold isAgg
    rw [Sem.run_bind, run_underlying Tryz.under273 w]; rfl
  simp [loadVar, Sem.run_bind, h1, hc]
theorem meth_any {name : String} {f : FuncId} {b : Bool} (h : methFacts name = some (0, some (f, b))) {w : World} {c : Nat} {u : Value}
    (hu : (b = true ∧ u = .pointer (some ⟨c, 5, none⟩)) ∨ (b = false ∧ w.cell? ⟨c, 5, none⟩ = some u)) (fuel : Nat) : (method (fuel + 1) 348 (.pointer (some ⟨c, 5, none⟩)) name).run Tryz.prog w = .ok (f, u) w := by
  unfold methFacts at h
  cases hi : Tryz.prog.info? 348 with
  | none => rw [hi] at h; cases h
  | some i =>
    rw [hi] at h
    simp only [Option.bind_some] at h
    cases hm : i.methods.find? (·.name == name) with
    | none => rw [hm] at h; cases h
    | some m =>
      rw [hm] at h
      simp only [Option.map_some, Option.some.injEq, Prod.mk.injEq] at h
      obtain ⟨h1, h2⟩ := h
      have hp : m.path.toList = [] := List.eq_nil_of_length_eq_zero h1
      have hemp : m.path.isEmpty = true := by
        rw [Array.isEmpty_iff]
        exact Array.toList_eq_nil_iff.1 hp
      have hinf : (typeInfo 348).run Tryz.prog w = .ok i w := by simp [typeInfo, hi]
      unfold method
      simp only [Sem.run_bind, hinf, Result.andThen, hm, hp, follow, Sem.run_pure, h2]
      simp only [hemp, if_true]
      unfold receiverAt
      rw [Sem.run_bind, run_underlying Tryz.under348 w]
      rcases hu with ⟨rfl, rfl⟩ | ⟨rfl, hu⟩
      · rfl
      · simp only [Result.andThen, Sem.run_bind]
        have e1 : (Place.get 348 (.val (.pointer (some ⟨c, 5, none⟩)))).run Tryz.prog w = .ok (.pointer (some ⟨c, 5, none⟩)) w := rfl
        have e2 : ∀ s : String, (Builtin.ssaWrapNilChk_ #[348] 348 #[.pointer (some ⟨c, 5, none⟩), strVal "", strVal s]).run Tryz.prog w = .ok (.pointer (some ⟨c, 5, none⟩)) w := fun s => by
          unfold strVal; rfl
        have e3 : (asAddr (.pointer (some ⟨c, 5, none⟩))).run Tryz.prog w = .ok ⟨c, 5, none⟩ w := rfl
        simp only [e1, e2, e3, load273 hu]
theorem enter_run {f : FuncId} {fn : Func} (q1 : Tryz.prog.funcs[f]? = some fn) (q2 : (fn.name == "runtime.NumGoroutine") = false) (q3 : fn.body.isNone = false) (args : Array Value) (w : World) : (callFunc f args).run Tryz.prog w = .ok (.enter f args) w := by
  simp only [callFunc, Sem.run_bind, run_program, Result.andThen, q1, q2, q3, Bool.false_eq_true, if_false]
  rfl
end Go.Proofs.YtfmjhleccnmhkaaGreat
namespace Go.Proofs.YtfmjhleccnmhkaaGreat
open Go.RowKit Go.Que
/-- the queue as the heap's interface. -/
def qI (c : Nat) : Value := .iface 348 (.pointer (some ⟨c, 5, none⟩))
def intN (v : Value) : Nat := match v with | .int _ n => n.toNat | _ => 0
set_option maxRecDepth 100000 in
set_option maxHeartbeats 8000000 in
theorem up_walk {pt : TypeId} {f : Nat → Nat} {w : World} {c bq cap : Nat} {L : List Nat} (q : Q pt f w c L bq cap) {j : Nat} (hj : j < L.length) : Calls Tryz.prog 307 #[qI c, .int .i64 j] w fun e w' => e = .returned (.tuple #[]) ∧ ∃ L', L'.Perm L ∧ (∀ k, j < k → L'[k]? = L[k]?) ∧ Q pt f w' c L' bq cap ∧ Mod (TQ f L bq) w w' := by
  unfold qI
  have Q0 := Lib.hid q
  clear q
  go_enter Tryz.func307, Tryz.ntmps307
  go_wp2
  go_loopw [1] (fun vj wr => ∃ (k : Nat) (L' : List Nat), vj = .int .i64 k ∧ k < L'.length ∧ Hid (k ≤ j ∧ ∀ q, j < q → L'[q]? = L[q]?) ∧ L'.Perm L ∧ Hid (Q pt f wr c L' bq cap) ∧ Mod (TQ f L bq) w wr) (fun vj _ => intN vj)
  case atStart => exact ⟨j, L, rfl, hj, ⟨Nat.le_refl _, fun _ _ => rfl⟩, .refl _, Q0, Mod.refl _ _⟩
  case round =>
    obtain ⟨k, L', rfl, hk, hst, hp, hQ, hM⟩ := hrel
    obtain ⟨x, hx⟩ : ∃ x, L'[k]? = some x := ⟨_, List.getElem?_eq_getElem hk⟩
    have hfit := hQ.out.fit
    by_cases hk0 : k = 0
    · subst hk0
      go_wp2_with fail
      go_end0
      exact ⟨rfl, L', hp, hst.out.2, hQ.out, hM⟩
    · obtain ⟨m, hm⟩ : ∃ m : Nat, m + 1 = k := ⟨k - 1, by omega⟩
      obtain ⟨i, hi⟩ : ∃ i : Nat, i = m / 2 := ⟨_, rfl⟩
      have g1 : wrap64 ((k : Int) - 1) = (m : Int) := by unfold wrap64; omega
      have g2 : IntKind.i64.wrap ((k : Int) - 1) = (m : Int) := by rw [IntKind.wrap_i64]; omega
      have g3 : (m : Int).tdiv 2 = (i : Int) := by rw [hi]; rfl
      have g4 : ((i : Int) == (k : Int)) = false := by simp; omega
      have hik : Hid (i < k) := by show i < k; omega
      have hil : i < L'.length := by omega
      have hkl : k < L'.length := hk
      clear hm hi hk0 hk
      generalize hn : L'.length = n at *
      have HN := Lib.hid hn
      have HX := Lib.hid hx
      clear hn hx
      go_wp2_with fail
      rw [meth_any Tryz.mLess (.inr ⟨rfl, hQ.out.free⟩) 631]
      simp only [Result.andThen]
      rw [enter_run Tryz.func430 rfl rfl, HN.out]
      have hxi : ∃ y, L'[i]? = some y := ⟨_, List.getElem?_eq_getElem (by rw [HN.out]; exact hil)⟩
      obtain ⟨y, hy⟩ := hxi
      have hless := qless_walk hQ.out HX.out hy
      rw [HN.out] at hless
      refine hless.mono ?_
      rintro e w1 ⟨⟨t, rfl⟩, hb⟩
      have hQ1 := Lib.hid (Q_below hQ.out hb)
      have hM1 := hM.trans (Mod.below hb)
      have HY := Lib.hid hy
      clear hy hless
      cases t
      · go_wp2_with fail
        go_end0
        exact ⟨rfl, L', hp, hst.out.2, hQ1.out, hM1⟩
      · go_wp2_with fail
        rw [meth_any Tryz.mSwap (.inr ⟨rfl, hQ1.out.free⟩) 631]
        simp only [Result.andThen]
        rw [enter_run Tryz.func431 rfl rfl]
        refine (qswap_walk hQ1.out HY.out HX.out (Nat.ne_of_lt hik.out)).mono ?_
        rintro e w2 ⟨rfl, hQ2, hM2⟩
        go_wp2_with fail
        go_roundw
        case rel =>
          exact ⟨i, swapL L' i k y x, rfl, by rw [swap_len, HN.out]; exact hil, ⟨by have := hst.out.1; have := hik.out; omega, fun q hq => by rw [swap_get HY.out HX.out, if_neg (by have := hst.out.1; omega), if_neg (by have := hst.out.1; have := hik.out; omega)]; exact hst.out.2 q hq⟩, (swap_perm HY.out HX.out (Nat.ne_of_lt hik.out)).trans hp, hQ2, hM1.trans (hM2.mono fun b q h => h.elim .inl fun ⟨z, h1, h2⟩ => .inr ⟨z, hp.mem_iff.1 h1, h2⟩)⟩
        case measure => simp [intN]; exact hik.out
set_option maxRecDepth 100000 in
set_option maxHeartbeats 8000000 in
theorem down_walk {pt : TypeId} {f : Nat → Nat} {w : World} {c bq cap : Nat} {L : List Nat} (q : Q pt f w c L bq cap) {i0 n : Nat} (hi : i0 < L.length) (hn : n ≤ L.length) : Calls Tryz.prog 306 #[qI c, .int .i64 i0, .int .i64 n] w fun e w' => (∃ t, e = .returned (.bool t)) ∧ ∃ L', L'.Perm L ∧ (∀ k, n ≤ k → L'[k]? = L[k]?) ∧ Q pt f w' c L' bq cap ∧ Mod (TQ f L bq) w w' := by
  unfold qI
  have Q0 := Lib.hid q
  have hfit := q.fit
  clear q
  go_enter Tryz.func306, Tryz.ntmps306
  go_wp2
  go_loopw [7] (fun vj wr => ∃ (k : Nat) (L' : List Nat), vj = .int .i64 k ∧ k < L'.length ∧ L'.Perm L ∧ Hid (∀ q, n ≤ q → L'[q]? = L[q]?) ∧ Hid (Q pt f wr c L' bq cap) ∧ Mod (TQ f L bq) w wr) (fun vj _ => L.length - intN vj)
  case atStart => exact ⟨i0, L, rfl, hi, .refl _, fun _ _ => rfl, Q0, Mod.refl _ _⟩
  case round =>
    obtain ⟨k, L', rfl, hk, hp, hst, hQ, hM⟩ := hrel
    obtain ⟨x, hx⟩ : ∃ x, L'[k]? = some x := ⟨_, List.getElem?_eq_getElem hk⟩
    have hlen := hp.length_eq
    obtain ⟨d, hd⟩ : ∃ d : Nat, d = 2 * k := ⟨_, rfl⟩
    obtain ⟨j1, hj1⟩ : ∃ j1 : Nat, j1 = d + 1 := ⟨_, rfl⟩
    obtain ⟨j2, hj2⟩ : ∃ j2 : Nat, j2 = j1 + 1 := ⟨_, rfl⟩
    have g1 : wrap64 (2 * (k : Int)) = (d : Int) := by unfold wrap64; omega
    have g2 : IntKind.i64.wrap (2 * (k : Int)) = (d : Int) := by rw [IntKind.wrap_i64]; omega
    have g3 : wrap64 ((d : Int) + 1) = (j1 : Int) := by unfold wrap64; omega
    have g4 : IntKind.i64.wrap ((d : Int) + 1) = (j1 : Int) := by rw [IntKind.wrap_i64]; omega
    have g5 : wrap64 ((j1 : Int) + 1) = (j2 : Int) := by unfold wrap64; omega
    have g6 : IntKind.i64.wrap ((j1 : Int) + 1) = (j2 : Int) := by rw [IntKind.wrap_i64]; omega
    have k1 : k < j1 := by omega
    have k2 : k < j2 := by omega
    have k3 : j1 < j2 := by omega
    clear hd hj1 hj2
    generalize hm : L'.length = m at *
    have HN := Lib.hid hm
    have HX := Lib.hid hx
    have HL := Lib.hid hlen
    have hnm : n ≤ m := by omega
    have hml : m ≤ L.length := by omega
    clear hm hx hlen
    by_cases h1 : j1 < n
    · by_cases h2 : j2 < n
      · obtain ⟨y1, hy1⟩ : ∃ y, L'[j1]? = some y := ⟨_, List.getElem?_eq_getElem (by rw [HN.out]; omega)⟩
        obtain ⟨y2, hy2⟩ : ∃ y, L'[j2]? = some y := ⟨_, List.getElem?_eq_getElem (by rw [HN.out]; omega)⟩
        have HY1 := Lib.hid hy1
        have HY2 := Lib.hid hy2
        clear hy1 hy2
        go_wp2_with fail
        rw [meth_any Tryz.mLess (.inr ⟨rfl, hQ.out.free⟩) 631]
        simp only [Result.andThen]
        rw [enter_run Tryz.func430 rfl rfl]
        refine (qless_walk hQ.out HY2.out HY1.out).mono ?_
        rintro e w1 ⟨⟨t, rfl⟩, hb⟩
        have hQ1 := Lib.hid (Q_below hQ.out hb)
        have hM1 := hM.trans (Mod.below hb)
        cases t
        · go_wp2_with fail
          obtain ⟨y, hy⟩ : ∃ y, L'[j1]? = some y := ⟨_, List.getElem?_eq_getElem (by rw [HN.out]; omega)⟩
          have HY := Lib.hid hy
          have hjl : j1 < m := by omega
          have hkj : Hid (k < j1) := by show k < j1; omega
          clear hy
          rw [meth_any Tryz.mLess (.inr ⟨rfl, hQ1.out.free⟩) 631]
          simp only [Result.andThen]
          rw [enter_run Tryz.func430 rfl rfl]
          refine (qless_walk hQ1.out HY.out HX.out).mono ?_
          rintro e w2 ⟨⟨t2, rfl⟩, hb2⟩
          have hQ2 := Lib.hid (Q_below hQ1.out hb2)
          have hM2 := hM1.trans (Mod.below hb2)
          cases t2
          · go_wp2_with fail
            go_ret
            exact ⟨⟨_, rfl⟩, L', hp, hst.out, hQ2.out, hM2⟩
          · go_wp2_with fail
            rw [meth_any Tryz.mSwap (.inr ⟨rfl, hQ2.out.free⟩) 631]
            simp only [Result.andThen]
            rw [enter_run Tryz.func431 rfl rfl]
            refine (qswap_walk hQ2.out HX.out HY.out (Nat.ne_of_lt hkj.out)).mono ?_
            rintro e w3 ⟨rfl, hQ3, hM3⟩
            go_wp2_with fail
            go_roundw
            case rel =>
              exact ⟨j1, swapL L' k j1 x y, rfl, by rw [swap_len, HN.out]; exact hjl, (swap_perm HX.out HY.out (Nat.ne_of_lt hkj.out)).trans hp, fun q hq => by rw [swap_get HX.out HY.out, if_neg (by omega), if_neg (by have := hkj.out; omega)]; exact hst.out q hq, hQ3, hM2.trans (hM3.mono fun b q h => h.elim .inl fun ⟨z, h1, h2⟩ => .inr ⟨z, hp.mem_iff.1 h1, h2⟩)⟩
            case measure => simp [intN]; have := hkj.out; omega
        · go_wp2_with fail
          obtain ⟨y, hy⟩ : ∃ y, L'[j2]? = some y := ⟨_, List.getElem?_eq_getElem (by rw [HN.out]; omega)⟩
          have HY := Lib.hid hy
          have hjl : j2 < m := by omega
          have hkj : Hid (k < j2) := by show k < j2; omega
          clear hy
          rw [meth_any Tryz.mLess (.inr ⟨rfl, hQ1.out.free⟩) 631]
          simp only [Result.andThen]
          rw [enter_run Tryz.func430 rfl rfl]
          refine (qless_walk hQ1.out HY.out HX.out).mono ?_
          rintro e w2 ⟨⟨t2, rfl⟩, hb2⟩
          have hQ2 := Lib.hid (Q_below hQ1.out hb2)
          have hM2 := hM1.trans (Mod.below hb2)
          cases t2
          · go_wp2_with fail
            go_ret
            exact ⟨⟨_, rfl⟩, L', hp, hst.out, hQ2.out, hM2⟩
          · go_wp2_with fail
            rw [meth_any Tryz.mSwap (.inr ⟨rfl, hQ2.out.free⟩) 631]
            simp only [Result.andThen]
            rw [enter_run Tryz.func431 rfl rfl]
            refine (qswap_walk hQ2.out HX.out HY.out (Nat.ne_of_lt hkj.out)).mono ?_
            rintro e w3 ⟨rfl, hQ3, hM3⟩
            go_wp2_with fail
            go_roundw
            case rel =>
              exact ⟨j2, swapL L' k j2 x y, rfl, by rw [swap_len, HN.out]; exact hjl, (swap_perm HX.out HY.out (Nat.ne_of_lt hkj.out)).trans hp, fun q hq => by rw [swap_get HX.out HY.out, if_neg (by omega), if_neg (by have := hkj.out; omega)]; exact hst.out q hq, hQ3, hM2.trans (hM3.mono fun b q h => h.elim .inl fun ⟨z, h1, h2⟩ => .inr ⟨z, hp.mem_iff.1 h1, h2⟩)⟩
            case measure => simp [intN]; have := hkj.out; omega
      · have hQ1 := hQ
        have hM1 := hM
        go_wp2_with fail
        obtain ⟨y, hy⟩ : ∃ y, L'[j1]? = some y := ⟨_, List.getElem?_eq_getElem (by rw [HN.out]; omega)⟩
        have HY := Lib.hid hy
        have hjl : j1 < m := by omega
        have hkj : Hid (k < j1) := by show k < j1; omega
        clear hy
        rw [meth_any Tryz.mLess (.inr ⟨rfl, hQ1.out.free⟩) 631]
        simp only [Result.andThen]
        rw [enter_run Tryz.func430 rfl rfl]
        refine (qless_walk hQ1.out HY.out HX.out).mono ?_
        rintro e w2 ⟨⟨t2, rfl⟩, hb2⟩
        have hQ2 := Lib.hid (Q_below hQ1.out hb2)
        have hM2 := hM1.trans (Mod.below hb2)
        cases t2
        · go_wp2_with fail
          go_ret
          exact ⟨⟨_, rfl⟩, L', hp, hst.out, hQ2.out, hM2⟩
        · go_wp2_with fail
          rw [meth_any Tryz.mSwap (.inr ⟨rfl, hQ2.out.free⟩) 631]
          simp only [Result.andThen]
          rw [enter_run Tryz.func431 rfl rfl]
          refine (qswap_walk hQ2.out HX.out HY.out (Nat.ne_of_lt hkj.out)).mono ?_
          rintro e w3 ⟨rfl, hQ3, hM3⟩
          go_wp2_with fail
          go_roundw
          case rel =>
            exact ⟨j1, swapL L' k j1 x y, rfl, by rw [swap_len, HN.out]; exact hjl, (swap_perm HX.out HY.out (Nat.ne_of_lt hkj.out)).trans hp, fun q hq => by rw [swap_get HX.out HY.out, if_neg (by omega), if_neg (by have := hkj.out; omega)]; exact hst.out q hq, hQ3, hM2.trans (hM3.mono fun b q h => h.elim .inl fun ⟨z, h1, h2⟩ => .inr ⟨z, hp.mem_iff.1 h1, h2⟩)⟩
          case measure => simp [intN]; have := hkj.out; omega
    · go_wp2_with fail
      go_ret
      exact ⟨⟨_, rfl⟩, L', hp, hst.out, hQ.out, hM⟩
end Go.Proofs.YtfmjhleccnmhkaaGreat
namespace Go.Que
/-- what a queue's functions may change, with the queue itself and one buffer more. -/
def TP (f : Nat → Nat) (L : List Nat) (c bq x : Nat) (b k : Nat) : Prop := (b = c ∧ k = 5) ∨ (b = f x ∧ k = 5) ∨ TQ f L bq b k
theorem Q.pop {pt : TypeId} {f : Nat → Nat} {w : World} {c bq cap : Nat} {L : List Nat} (q : Q pt f w c L bq cap) {n x : Nat} (hn : L.length = n + 1) (hx : L[n]? = some x) :
    Q pt f ((w.setCell ⟨f x, 5, none⟩ (.int .i64 (-1))).setCell ⟨c, 5, none⟩ (.slice (some ⟨bq, 0, none⟩) n cap)) c (L.take n) bq cap ∧ Mod (TP f L c bq x) w ((w.setCell ⟨f x, 5, none⟩ (.int .i64 (-1))).setCell ⟨c, 5, none⟩ (.slice (some ⟨bq, 0, none⟩) n cap)) ∧
    ((w.setCell ⟨f x, 5, none⟩ (.int .i64 (-1))).setCell ⟨c, 5, none⟩ (.slice (some ⟨bq, 0, none⟩) n cap)).cell? ⟨f x, 5, none⟩ = some (.int .i64 (-1)) := by
  obtain ⟨x1, x2, ⟨ux, x3⟩, x4, x5⟩ := q.bufs n x hx
  have hap := q.apart
  have hlt : (L.take n).length = n := by rw [List.length_take]; omega
  have get : ∀ k z, (L.take n)[k]? = some z → k < n ∧ L[k]? = some z := fun k z h => by
    have hk := (List.getElem?_eq_some_iff.1 h).1
    rw [hlt] at hk
    rw [List.getElem?_take, if_pos hk] at h
    exact ⟨hk, h⟩
  have hm1 : Mod (fun b k => (b = c ∧ k = 5) ∨ (b = f x ∧ k = 5)) w ((w.setCell ⟨f x, 5, none⟩ (.int .i64 (-1))).setCell ⟨c, 5, none⟩ (.slice (some ⟨bq, 0, none⟩) n cap)) := (Mod.setCell _ (.inr ⟨rfl, rfl⟩) _).trans (Mod.setCell _ (.inl ⟨rfl, rfl⟩) _)
  have hc1 : ((w.setCell ⟨f x, 5, none⟩ (.int .i64 (-1))).cell? ⟨c, 5, none⟩) = some (.slice (some ⟨bq, 0, none⟩) L.length cap) := by rw [cell_set, if_neg (fun e => x1 e.1)]; exact q.free
  refine ⟨⟨by rw [hlt]; have := q.len; omega, by rw [hlt]; have := q.fit; omega, ?_, by rw [frozen_set, frozen_set]; exact q.freef, fun k z hz => ?_, ?_, hap, fun k z hz => ?_⟩, hm1.mono fun b k h => h.elim .inl fun h => .inr (.inl h), ?_⟩
  · rw [cell_set, if_pos ⟨rfl, rfl, by rw [hc1]; rfl⟩, hlt]
  · rw [cell_set, if_neg (fun e => hap e.1), cell_set, if_neg (fun e => x2 e.1)]; exact q.row k z (get k z hz).2
  · obtain ⟨cur, r1, r2, r3⟩ := q.room
    obtain ⟨cur', r4, r5, _⟩ := hm1.cells _ _ _ _ ⟨0, fun e => by rcases e with ⟨_, e⟩ | ⟨_, e⟩ <;> cases e⟩ r1
    exact ⟨cur', r4, r5.trans r2, r3⟩
  · obtain ⟨hk, hz'⟩ := get k z hz
    obtain ⟨z1, z2, ⟨u, z3⟩, z4, z5⟩ := q.bufs k z hz'
    have hne : f x ≠ f z := fun e => by have := q.inj hx hz' e; omega
    exact ⟨z1, z2, ⟨u, by rw [cell_set, if_neg (fun e => z1 e.1.symm), cell_set, if_neg (fun e => hne e.1)]; exact z3⟩, by rw [cell_set, if_neg (fun e => z1 e.1.symm), cell_set, if_neg (fun e => hne e.1)]; exact z4, by rw [frozen_set, frozen_set]; exact z5⟩
  · rw [cell_set, if_neg (fun e => x1 e.1.symm), cell_set, if_pos ⟨rfl, rfl, by rw [x4]; rfl⟩]
end Go.Que
namespace Go.Proofs.YtfmjhleccnmhkaaGreat
open Go.RowKit Go.Que
theorem stopHere {p : Prop} (h : Hid p) : p := h.out
set_option maxRecDepth 100000 in
set_option maxHeartbeats 8000000 in
theorem qpop_walk {f : Nat → Nat} {w : World} {c bq cap : Nat} {L : List Nat} (q : Q 252 f w c L bq cap) {n x : Nat} (hn : L.length = n + 1) (hx : L[n]? = some x) : Calls Tryz.prog 433 #[.pointer (some ⟨c, 5, none⟩)] w fun e w' => (∃ v, e = .returned v) ∧ w'.cell? ⟨f x, 5, none⟩ = some (.int .i64 (-1)) ∧ Q 252 f w' c (L.take n) bq cap ∧ Mod (TP f L c bq x) w w' := by
  obtain ⟨x1, x2, ⟨ux, x3⟩, x4, x5⟩ := q.bufs n x hx
  have r1 := q.row n x hx
  have c1 := q.free
  have c2 := q.freef
  have hlen := q.len
  have hfit := q.fit
  have hap := q.apart
  have QP := Lib.hid (q.pop hn hx)
  rw [hn] at c1 hlen hfit
  have x1' : ¬ c = f x := fun e => x1 e.symm
  have x2' : ¬ bq = f x := fun e => x2 e.symm
  have g1 : wrap64 (((n + 1 : Nat) : Int) - 1) = (n : Int) := by unfold wrap64; omega
  have g2 : IntKind.i64.wrap (((n + 1 : Nat) : Int) - 1) = (n : Int) := by rw [IntKind.wrap_i64]; omega
  clear q hx
  have HN := Lib.hid hn
  clear hn
  generalize hm : n + 1 = m at *
  have hnm : n < m := by omega
  have HM := Lib.hid hm
  clear hm
  go_enter Tryz.func433, Tryz.ntmps433
  go_wp2
  go_ret
  exact ⟨⟨_, rfl⟩, QP.out.2.2, QP.out.1, QP.out.2.1⟩
theorem Tryz.info252 : (Tryz.prog.info? 252).map (fun i => (i.zero, i.size, i.bytes)) = some (some (.pointer none), 1, 8) := by kernel_rfl
theorem Tryz.under272 : Tryz.prog.underlying 272 = some (.slice 252) := by kernel_rfl
theorem Tryz.under252 : Tryz.prog.underlying 252 = some (.pointer 260) := by kernel_rfl
theorem ta252 (v : Value) (w : World) : (Instr.typeAssert (.iface 252 v) 20 252 true).run Tryz.prog w = .ok (.tuple #[v, .bool true]) w := by
  unfold Instr.typeAssert
  simp only [Sem.run_bind, run_underlying Tryz.under252 w, Result.andThen_ok]
  rfl
set_option maxRecDepth 100000 in
set_option maxHeartbeats 8000000 in
theorem qpush_walk {w : World} {c bx n : Nat} {v u0 : Value} {xs : List Value} (hne : bx ≠ c) (c1 : w.cell? ⟨c, 5, none⟩ = some v) (c2 : w.frozen? ⟨c, 5, none⟩ = false) (hown : w.ownsRow 0 252 1 v n xs) (hvc : v.ownBlock ≠ some c) (hvx : v.ownBlock ≠ some bx) (hn : n < 1000000) (x4 : w.cell? ⟨bx, 5, none⟩ = some u0) (x5 : w.frozen? ⟨bx, 5, none⟩ = false) :
    Calls Tryz.prog 434 #[.pointer (some ⟨c, 5, none⟩), .iface 252 (.pointer (some ⟨bx, 0, none⟩))] w fun e w' => e = .returned (.tuple #[]) ∧ ∃ v', w'.cell? ⟨c, 5, none⟩ = some v' ∧ w'.ownsRow 0 252 1 v' (n + 1) (xs ++ [.pointer (some ⟨bx, 0, none⟩)]) ∧ (v'.ownBlock = v.ownBlock ∨ ∃ g, v'.ownBlock = some g ∧ w.heap.size ≤ g) ∧ w'.cell? ⟨bx, 5, none⟩ = some (.int .i64 n) ∧ Mod (fun b k => (b = c ∧ k = 5) ∨ (b = bx ∧ k = 5) ∨ some b = v.ownBlock) w w' := by
  obtain ⟨i0, hi, hz0, hz1, hz2⟩ := info_parts Tryz.info252
  have hne' : ¬ c = bx := fun e => hne e.symm
  go_enter Tryz.func434, Tryz.ntmps434
  go_wp2_with fail
  rw [ta252]
  simp only [Result.andThen]
  have hlen : ∃ a cap, v = .slice a n cap := by
    rcases hown.2 with ⟨rfl, rfl⟩ | ⟨g, cap, cur, rfl, _⟩ <;> exact ⟨_, _, rfl⟩
  obtain ⟨a0, cap0, hv⟩ := hlen
  subst hv
  have hown2 : (w.setCell ⟨bx, 5, none⟩ (.int .i64 n)).ownsRow 0 252 1 (.slice a0 n cap0) n xs := by
    refine ⟨hown.1, ?_⟩
    rcases hown.2 with h | ⟨g, cap, cur, h1, h2, h3, h4⟩
    · exact .inl h
    · refine .inr ⟨g, cap, cur, h1, h2, ?_, h4⟩
      rw [heap_setCell, if_neg]
      · exact h3
      · rintro rfl
        apply hvx
        rw [h1]; rfl
  have hsz : (w.setCell ⟨bx, 5, none⟩ (.int .i64 n)).heap.size = w.heap.size := by simp [World.setCell]
  have c3 : (w.setCell ⟨bx, 5, none⟩ (.int .i64 n)).cell? ⟨c, 5, none⟩ = some (.slice a0 n cap0) := by rw [cell_set, if_neg (fun e => hne e.1)]; exact c1
  have c4 : (w.setCell ⟨bx, 5, none⟩ (.int .i64 n)).frozen? ⟨c, 5, none⟩ = false := by rw [frozen_set]; exact c2
  have x6 : (w.setCell ⟨bx, 5, none⟩ (.int .i64 n)).cell? ⟨bx, 5, none⟩ = some (.int .i64 n) := by rw [cell_set, if_pos ⟨rfl, rfl, by rw [x4]; rfl⟩]
  have hM : Mod (fun b k => (b = c ∧ k = 5) ∨ (b = bx ∧ k = 5) ∨ some b = (Value.slice a0 n cap0).ownBlock) w (w.setCell ⟨bx, 5, none⟩ (.int .i64 n)) := Mod.setCell _ (.inr (.inl ⟨rfl, rfl⟩)) _
  go_wp2_with (at_builtin; refine stopHere ?_)
  refine Lib.hid ?_
  refine wpList_append_own_at _ rfl _ _ 273 rfl 0 252 i0 (.pointer none) 1 8 Tryz.under273 hi hz0 hz1 hz2 rfl (by decide) _ _ _ rfl (hown2.alloc _) ⟨w.heap.size, 0, none⟩ 1 1 [.pointer (some ⟨bx, 0, none⟩)] rfl rfl (fun j u hj => by have h9 := cell_one_new (w.setCell ⟨bx, 5, none⟩ (.int .i64 n)) (.pointer (some ⟨bx, 0, none⟩)) 252 j u hj; rw [hsz] at h9; exact h9) (fun x hx => by simp at hx; subst hx; rfl) (by unfold maxLen; omega) (by omega) (by omega) ?_
  intro v' w3 hown' hgrow3 hnil3 hat3
  replace hgrow3 : ((w.setCell ⟨bx, 5, none⟩ (.int .i64 n)).alloc (.cells #[.pointer (some ⟨bx, 0, none⟩)] 252)).grownBy w3 (Value.slice a0 n cap0).ownBlock := hgrow3
  replace hat3 : v'.ownBlock = (Value.slice a0 n cap0).ownBlock ∨ v'.ownBlock = some ((w.setCell ⟨bx, 5, none⟩ (.int .i64 n)).alloc (.cells #[.pointer (some ⟨bx, 0, none⟩)] 252)).heap.size := hat3
  have hclt : c < (w.setCell ⟨bx, 5, none⟩ (.int .i64 n)).heap.size := by
    unfold World.cell? at c3
    split at c3
    · exact (Array.getElem?_eq_some_iff.1 ‹_›).1
    · cases c3
  have hxlt : bx < (w.setCell ⟨bx, 5, none⟩ (.int .i64 n)).heap.size := by
    unfold World.cell? at x6
    split at x6
    · exact (Array.getElem?_eq_some_iff.1 ‹_›).1
    · cases x6
  have bel : ∀ b, b < (w.setCell ⟨bx, 5, none⟩ (.int .i64 n)).heap.size → (Value.slice a0 n cap0).ownBlock ≠ some b → w3.heap[b]? = (w.setCell ⟨bx, 5, none⟩ (.int .i64 n)).heap[b]? := fun b hb hne => by
    rw [hgrow3.block b (by simp; omega) (fun e => hne e.symm), heap_alloc_old _ _ hb]
  have d1 : w3.cell? ⟨c, 5, none⟩ = some (.slice a0 n cap0) := by
    rw [World.cell?_of_block (w := w.setCell ⟨bx, 5, none⟩ (.int .i64 n)) (bel c hclt hvc)]; exact c3
  have d2 : w3.frozen? ⟨c, 5, none⟩ = false := by
    rw [World.frozen?_of_block (w := w.setCell ⟨bx, 5, none⟩ (.int .i64 n)) (bel c hclt hvc)]; exact c4
  have d3 : w3.cell? ⟨bx, 5, none⟩ = some (.int .i64 n) := by
    rw [World.cell?_of_block (w := w.setCell ⟨bx, 5, none⟩ (.int .i64 n)) (bel bx hxlt hvx)]; exact x6
  have hM3 : Mod (fun b k => (b = c ∧ k = 5) ∨ (b = bx ∧ k = 5) ∨ some b = (Value.slice a0 n cap0).ownBlock) w w3 := by
    refine hM.trans ⟨?_, hgrow3.os, hgrow3.tape, hgrow3.output, fun b arr e fz hx hb => ?_, fun b hx hb _ => ?_⟩
    · have := hgrow3.size
      simp at this
      omega
    · have hlt := (Array.getElem?_eq_some_iff.1 hb).1
      obtain ⟨k, hk⟩ := hx
      exact ⟨arr, by rw [bel b hlt (fun e => hk (.inr (.inr e.symm)))]; exact hb, rfl, fun _ _ => rfl⟩
    · obtain ⟨k, hk⟩ := hx
      exact bel b hb fun e => hk (.inr (.inr e.symm))
  have hv'c : v'.ownBlock ≠ some c := by
    rcases hat3 with h | h
    · rw [h]; exact hvc
    · rw [h]
      intro e
      injection e with e
      simp at e
      omega
  have HAll := Lib.hid (And.intro hown' (And.intro hat3 (And.intro d3 (And.intro hM3 (And.intro hv'c d1)))))
  obtain ⟨g3, cap3, rfl⟩ : ∃ g3 cap3, v' = .slice (some ⟨g3, 0, none⟩) (n + 1) cap3 := by
    rcases hown'.2 with ⟨_, h⟩ | ⟨g, cap, cur, h, _⟩
    · omega
    · exact ⟨_, _, h⟩
  clear hown' hat3 hM3 hgrow3 bel hnil3 hown hown2 hM c1 c2 c3 c4 x4 x5 x6 hvc hvx hv'c
  go_wp2_with fail
  go_end0
  obtain ⟨hown', hat3, d3', hM3, hv'c, d1'⟩ := HAll.out
  have hMs : Mod (fun b k => (b = c ∧ k = 5) ∨ (b = bx ∧ k = 5) ∨ some b = (Value.slice a0 n cap0).ownBlock) w3 (w3.setCell ⟨c, 5, none⟩ (.slice (some ⟨g3, 0, none⟩) (n + 1) cap3)) := Mod.setCell _ (.inl ⟨rfl, rfl⟩) _
  refine ⟨rfl, _, by rw [cell_set, if_pos ⟨rfl, rfl, by rw [d1']; rfl⟩], ⟨hown'.1, ?_⟩, hat3.imp id fun h => ⟨_, h, by simp⟩, by rw [cell_set, if_neg (fun e => hne' e.1)]; exact d3', hM3.trans hMs⟩
  rcases hown'.2 with h | ⟨g, cap, cur, h1, h2, h3, h4⟩
  · exact .inl h
  · refine .inr ⟨g, cap, cur, h1, h2, ?_, h4⟩
    rw [heap_setCell, if_neg]
    · exact h3
    · rintro rfl
      apply hv'c
      rw [h1]; rfl
end Go.Proofs.YtfmjhleccnmhkaaGreat
namespace Go.Que
/-- a queue, or none yet. -/
def QS (pt : TypeId) (f : Nat → Nat) (w : World) (c : Nat) (L : List Nat) (o : Option (Nat × Nat)) : Prop := match o with
  | none => w.cell? ⟨c, 5, none⟩ = some (.slice none 0 0) ∧ w.frozen? ⟨c, 5, none⟩ = false ∧ L = []
  | some x => Q pt f w c L x.1 x.2
/-- what may change. -/
def TS (f : Nat → Nat) (L : List Nat) (c : Nat) (o : Option (Nat × Nat)) (b k : Nat) : Prop := (b = c ∧ k = 5) ∨ (∃ y ∈ L, b = f y ∧ k = 5) ∨ ∃ cap, o = some (b, cap)
theorem Mod.old {T S : Nat → Nat → Prop} {w w' : World} (h : Mod T w w') (hs : ∀ b k, T b k → S b k ∨ w.heap.size ≤ b) : Mod S w w' :=
  ⟨h.size, h.os, h.tape, h.output, fun b arr e fz ⟨k, hk⟩ hb => by
    have hlt := (Array.getElem?_eq_some_iff.1 hb).1
    have hn : ∀ k, ¬ S b k → ¬ T b k := fun k hk ht => (hs b k ht).elim hk fun h => by omega
    obtain ⟨arr', h1, h2, h3⟩ := h.cells b arr e fz ⟨k, hn k hk⟩ hb
    exact ⟨arr', h1, h2, fun k hk => h3 k (hn k hk)⟩, fun b ⟨k, hk⟩ hb => h.other b ⟨k, fun ht => (hs b k ht).elim hk fun h => by omega⟩ hb⟩
theorem Q.own {pt : TypeId} {f : Nat → Nat} {w : World} {c bq cap : Nat} {L : List Nat} (q : Q pt f w c L bq cap) : w.ownsRow 0 pt 1 (.slice (some ⟨bq, 0, none⟩) L.length cap) L.length (L.map fun y => .pointer (some ⟨f y, 0, none⟩)) := by
  obtain ⟨cur, r1, r2, r3⟩ := q.room
  refine ⟨by simp, .inr ⟨bq, cap, cur, rfl, Nat.zero_le _, r1, q.len, r3, by omega, ?_⟩⟩
  apply List.ext_getElem?
  intro k
  rw [List.getElem?_take]
  by_cases hk : k < L.length
  · rw [if_pos (by omega), List.getElem?_map, List.getElem?_eq_getElem hk]
    have := q.row k L[k] (List.getElem?_eq_getElem hk)
    unfold World.cell? at this
    rw [r1] at this
    simpa using this
  · rw [if_neg (by omega), List.getElem?_eq_none (by simp; omega)]
/-- a queue with one more behind. -/
theorem Q.more {pt : TypeId} {f : Nat → Nat} {w w' : World} {c x : Nat} {L : List Nat} {o : Option (Nat × Nat)} {u : Int} {v' : Value} (q : QS pt f w c L o) (hfit : L.length + 1 < 1000000) (hxc : f x ≠ c) (hxq : ∀ cap, o ≠ some (f x, cap)) (hxL : ∀ y ∈ L, f y ≠ f x) (x3 : w.cell? ⟨f x, 4, none⟩ = some (.int .i64 u)) (x5 : w.frozen? ⟨f x, 5, none⟩ = false) (x4 : ∃ u0, w.cell? ⟨f x, 5, none⟩ = some u0)
    (h1 : w'.cell? ⟨c, 5, none⟩ = some v') (h2 : w'.ownsRow 0 pt 1 v' (L.length + 1) ((L.map fun y => .pointer (some ⟨f y, 0, none⟩)) ++ [.pointer (some ⟨f x, 0, none⟩)])) (h3 : (∃ cap, v'.ownBlock.bind (fun b => some (b, cap)) = o) ∨ ∃ g, v'.ownBlock = some g ∧ w.heap.size ≤ g) (h4 : w'.cell? ⟨f x, 5, none⟩ = some (.int .i64 L.length))
    (hm : Mod (fun b k => (b = c ∧ k = 5) ∨ (b = f x ∧ k = 5) ∨ ∃ cap, o = some (b, cap)) w w') : ∃ bq cap, Q pt f w' c (L ++ [x]) bq cap ∧ v' = .slice (some ⟨bq, 0, none⟩) (L.length + 1) cap ∧ ((∃ cap, o = some (bq, cap)) ∨ w.heap.size ≤ bq) := by
  obtain ⟨g, cap, cur, rfl, k1, k2, k3, k4, k5, k6⟩ : ∃ g cap cur, v' = .slice (some ⟨g, 0, none⟩) (L.length + 1) cap ∧ 0 ≤ g ∧ w'.heap[g]? = some (.cells cur pt (0, 0)) ∧ L.length + 1 ≤ cap ∧ cap ≤ maxLen ∧ cur.size = cap * 1 ∧ cur.toList.take ((L.length + 1) * 1) = ((L.map fun y => .pointer (some ⟨f y, 0, none⟩)) ++ [.pointer (some ⟨f x, 0, none⟩)]) := by
    rcases h2.2 with ⟨_, h⟩ | h
    · omega
    · exact h
  have hg : (∃ cap, o = some (g, cap)) ∨ w.heap.size ≤ g := by
    rcases h3 with ⟨cap', h⟩ | ⟨g', h, hle⟩
    · exact .inl ⟨cap', h.symm⟩
    · injection h with h
      exact .inr (by rw [← h] at hle; exact hle)
  have alive : ∀ {b k v}, w.cell? ⟨b, k, none⟩ = some v → b < w.heap.size := fun {b k v} h => by
    unfold World.cell? at h
    split at h
    · exact (Array.getElem?_eq_some_iff.1 ‹_›).1
    · cases h
  have hcell : ∃ v0, w.cell? ⟨c, 5, none⟩ = some v0 ∧ w.frozen? ⟨c, 5, none⟩ = false := by
    cases o with
    | none => exact ⟨_, q.1, q.2.1⟩
    | some y => exact ⟨_, Q.free q, Q.freef q⟩
  obtain ⟨v0, c0, c1⟩ := hcell
  have hoc : ∀ cap, o ≠ some (c, cap) := fun cap e => by
    subst e
    exact Q.apart q rfl
  have hgc : c ≠ g := by
    rcases hg with ⟨cap', h⟩ | h
    · rintro rfl; exact hoc _ h
    · have := alive c0; omega
  have hrow : ∀ k y, (L ++ [x])[k]? = some y → w'.cell? ⟨g, k, none⟩ = some (.pointer (some ⟨f y, 0, none⟩)) := fun k y hy => by
    have hk : k < L.length + 1 := by have := (List.getElem?_eq_some_iff.1 hy).1; simpa using this
    have e1 : (cur.toList.take ((L.length + 1) * 1))[k]? = some (.pointer (some ⟨f y, 0, none⟩)) := by
      rw [k6]
      have e2 : (L.map (fun y => Value.pointer (some ⟨f y, 0, none⟩)) ++ [Value.pointer (some ⟨f x, 0, none⟩)]) = (L ++ [x]).map fun y => Value.pointer (some ⟨f y, 0, none⟩) := by simp
      rw [e2, List.getElem?_map, hy]; rfl
    rw [List.getElem?_take, if_pos (by omega)] at e1
    unfold World.cell?
    rw [k2]
    simpa using e1
  refine ⟨g, cap, ⟨by simp; exact k3, by simp; omega, by simpa using h1, ?_, hrow, ⟨cur, k2, by omega, k4⟩, hgc, fun k y hy => ?_⟩, rfl, hg⟩
  · have hm2 : Mod (fun b k => (b = c ∧ k = 5) ∨ (b = f x ∧ k = 5) ∨ ∃ cap, o = some (b, cap)) w w' := hm
    have hb := alive c0
    unfold World.frozen? at c1 ⊢
    unfold World.cell? at c0
    split at c0
    · rename_i arr e fz hc
      obtain ⟨arr', m1, _⟩ := hm.cells c arr e fz ⟨0, fun e => by
        rcases e with ⟨_, e⟩ | ⟨_, e⟩ | ⟨cap, e⟩
        · cases e
        · cases e
        · exact hoc _ e⟩ hc
      rw [m1]
      rw [hc] at c1
      exact c1
    · cases c0
  · by_cases hk : k < L.length
    · rw [List.getElem?_append_left hk] at hy
      cases o with
      | none =>
        have := q.2.2
        subst this
        cases hy
      | some z =>
        obtain ⟨z1, z2, ⟨uz, z3⟩, z4, z5⟩ := Q.bufs q k y hy
        have hyx := hxL y (List.mem_of_getElem? hy)
        have hny : ∀ j, ¬ ((f y = c ∧ j = 5) ∨ (f y = f x ∧ j = 5) ∨ ∃ cap, some z = some (f y, cap)) := fun j e => by
          rcases e with ⟨e, _⟩ | ⟨e, _⟩ | ⟨cap, e⟩
          · exact z1 e
          · exact hyx e
          · injection e with e
            exact z2 (by rw [e])
        refine ⟨z1, ?_, ⟨uz, hm.cell z3 (hny 4)⟩, hm.cell z4 (hny 5), by rw [hm.froz z4 (hny 5)]; exact z5⟩
        rcases hg with ⟨cap', h⟩ | h
        · injection h with h
          rw [h] at z2
          exact z2
        · have := alive z4; omega
    · have hk2 : k = L.length := by have := (List.getElem?_eq_some_iff.1 hy).1; simp at this; omega
      subst hk2
      have : y = x := by simpa using hy.symm
      subst this
      obtain ⟨u0, x4⟩ := x4
      refine ⟨hxc, ?_, ⟨u, hm.cell x3 fun e => ?_⟩, h4, ?_⟩
      · rcases hg with ⟨cap', h⟩ | h
        · rintro e; rw [← e] at h; exact hxq _ h
        · have := alive x4; omega
      · rcases e with ⟨_, e⟩ | ⟨_, e⟩ | ⟨cap, e⟩
        · cases e
        · cases e
        · exact hxq _ e
      · unfold World.frozen? at x5 ⊢
        unfold World.cell? at x4
        split at x4
        · rename_i arr e fz hc
          obtain ⟨arr', m1, _⟩ := hm.cells (f y) arr e fz ⟨0, fun e => by
            rcases e with ⟨_, e⟩ | ⟨_, e⟩ | ⟨cap, e⟩
            · cases e
            · cases e
            · exact hxq _ e⟩ hc
          rw [m1]
          rw [hc] at x5
          exact x5
        · cases x4
end Go.Que
namespace Go.Proofs.YtfmjhleccnmhkaaGreat
open Go.RowKit Go.Que
set_option maxRecDepth 100000 in
set_option maxHeartbeats 8000000 in
theorem fix_walk {f : Nat → Nat} {w : World} {c bq cap : Nat} {L : List Nat} (q : Q 252 f w c L bq cap) {i : Nat} (hi : i < L.length) : Calls Tryz.prog 236 #[qI c, .int .i64 i] w fun e w' => e = .returned (.tuple #[]) ∧ ∃ L', L'.Perm L ∧ Q 252 f w' c L' bq cap ∧ Mod (TQ f L bq) w w' := by
  have Q0 := Lib.hid q
  have hfit := q.fit
  clear q
  unfold qI
  go_enter Tryz.func236, Tryz.ntmps236
  go_wp2_with fail
  rw [meth_any Tryz.mLen (.inr ⟨rfl, Q0.out.free⟩) 631]
  simp only [Result.andThen]
  rw [enter_run Tryz.func429 rfl rfl]
  refine (qlen_walk _ _ _ _).mono ?_
  rintro e w1 ⟨rfl, hb⟩
  have Q1 := Lib.hid (Q_below Q0.out hb)
  go_wp2_with fail
  refine (down_walk Q1.out hi (Nat.le_refl _)).mono ?_
  rintro e w2 ⟨⟨t, rfl⟩, L2, hp2, hst2, hQ2, hM2⟩
  have Q2 := Lib.hid hQ2
  have hM := (Mod.below hb).trans hM2
  have tq : ∀ L' : List Nat, L'.Perm L → ∀ b k, TQ f L' bq b k → TQ f L bq b k := fun L' hp b k h => h.elim .inl fun ⟨z, h1, h2⟩ => .inr ⟨z, hp.mem_iff.1 h1, h2⟩
  clear hQ2 hst2
  cases t
  · go_wp2_with fail
    refine (up_walk Q2.out (by rw [hp2.length_eq]; exact hi)).mono ?_
    rintro e w3 ⟨rfl, L3, hp3, _, hQ3, hM3⟩
    have Q3 := Lib.hid hQ3
    clear hQ3
    go_wp2_with fail
    go_end0
    exact ⟨rfl, L3, hp3.trans hp2, Q3.out, hM.trans (hM3.mono (tq L2 hp2))⟩
  · go_wp2_with fail
    go_end0
    exact ⟨rfl, L2, hp2, Q2.out, hM⟩
set_option maxRecDepth 100000 in
set_option maxHeartbeats 8000000 in
theorem remove_walk {f : Nat → Nat} {w : World} {c bq cap : Nat} {L : List Nat} (q : Q 252 f w c L bq cap) {i x : Nat} (hi : L[i]? = some x) : Calls Tryz.prog 232 #[qI c, .int .i64 i] w fun e w' => (∃ v, e = .returned v) ∧ ∃ L', (x :: L').Perm L ∧ Q 252 f w' c L' bq cap ∧ w'.cell? ⟨f x, 5, none⟩ = some (.int .i64 (-1)) ∧ Mod (TS f L c (some (bq, cap))) w w' := by
  have Q0 := Lib.hid q
  have hfit := q.fit
  clear q
  unfold qI
  go_enter Tryz.func232, Tryz.ntmps232
  go_wp2_with fail
  have hil := (List.getElem?_eq_some_iff.1 hi).1
  rw [meth_any Tryz.mLen (.inr ⟨rfl, Q0.out.free⟩) 631]
  simp only [Result.andThen]
  rw [enter_run Tryz.func429 rfl rfl]
  refine (qlen_walk _ _ _ _).mono ?_
  rintro e w1 ⟨rfl, hb⟩
  have Q1 := Lib.hid (Q_below Q0.out hb)
  have hM1 : Mod (TS f L c (some (bq, cap))) w w1 := Mod.below hb
  have tq : ∀ L' : List Nat, L'.Perm L → ∀ b k, TQ f L' bq b k → TS f L c (some (bq, cap)) b k := fun L' hp b k h => h.elim (fun h => .inr (.inr ⟨cap, by rw [h]⟩)) fun ⟨z, h1, h2, h3⟩ => .inr (.inl ⟨z, hp.mem_iff.1 h1, h2, h3⟩)
  have tp : ∀ L' : List Nat, L'.Perm L → ∀ b k, TP f L' c bq x b k → TS f L c (some (bq, cap)) b k := fun L' hp b k h => by
    rcases h with h | h | h
    · exact .inl h
    · exact .inr (.inl ⟨x, List.mem_of_getElem? hi, h⟩)
    · exact tq L' hp b k h
  obtain ⟨n, hn⟩ : ∃ n : Nat, L.length = n + 1 := ⟨L.length - 1, by omega⟩
  have g1 : wrap64 ((L.length : Int) - 1) = (n : Int) := by unfold wrap64; omega
  have g2 : IntKind.i64.wrap ((L.length : Int) - 1) = (n : Int) := by rw [IntKind.wrap_i64]; omega
  -- the last one is taken
  have last : ∀ (L2 : List Nat) (w2 : World), L2.Perm L → L2[n]? = some x → Q 252 f w2 c L2 bq cap → ∀ {R : Ending → World → Prop}, (∀ v w', (∃ L', (x :: L').Perm L ∧ Q 252 f w' c L' bq cap ∧ w'.cell? ⟨f x, 5, none⟩ = some (.int .i64 (-1)) ∧ Mod (TS f L c (some (bq, cap))) w2 w') → R (.returned v) w') → Calls Tryz.prog 433 #[.pointer (some ⟨c, 5, none⟩)] w2 R := fun L2 w2 hp hx hQ {R} hR => by
    refine (qpop_walk hQ (by rw [hp.length_eq]; exact hn) hx).mono ?_
    rintro e w3 ⟨⟨v, rfl⟩, h1, h2, h3⟩
    refine hR v w3 ⟨L2.take n, ?_, h2, h1, h3.mono (tp L2 hp)⟩
    have e1 : L2 = L2.take n ++ [x] := by
      have e2 := List.take_append_drop n L2
      have hl : n < L2.length := by rw [hp.length_eq]; omega
      have e3 : L2.drop n = [x] := by
        rw [List.drop_eq_getElem_cons hl]
        have e4 : L2[n] = x := by
          rw [List.getElem?_eq_getElem hl] at hx
          injection hx
        rw [e4, List.drop_eq_nil_of_le (by rw [hp.length_eq]; omega)]
      rw [e3] at e2
      exact e2.symm
    have e5 : (x :: L2.take n).Perm L2 := by
      conv => rhs; rw [e1]
      exact (List.perm_append_singleton x (L2.take n)).symm
    exact e5.trans hp
  have LAST := Lib.hid last
  have HN := Lib.hid hn
  have TQ0 := Lib.hid tq
  have HI := Lib.hid hi
  have hin : i ≤ n := by omega
  have hnf : n < 1000000 := by omega
  clear last hn tq tp hi
  by_cases heq : n = i
  · subst heq
    go_wp2_with fail
    rw [meth_any Tryz.mPop (.inl ⟨rfl, rfl⟩) 631]
    simp only [Result.andThen]
    rw [enter_run Tryz.func433 rfl rfl]
    refine LAST.out L w1 (.refl _) HI.out Q1.out ?_
    rintro v w2 ⟨L', h1, h2, h3, h4⟩
    have HE := Lib.hid (And.intro h1 (And.intro h2 (And.intro h3 (hM1.trans h4))))
    clear h1 h2 h3 h4
    go_wp2_with fail
    go_ret
    exact ⟨⟨_, rfl⟩, L', HE.out⟩
  · have hlt : i < n := by omega
    have heq2 : ((n : Int) == (i : Int)) = false := by simp; omega
    obtain ⟨y, hy⟩ : ∃ y, L[n]? = some y := ⟨_, List.getElem?_eq_getElem (by rw [HN.out]; omega)⟩
    have HY := Lib.hid hy
    have HNE := Lib.hid heq
    clear hy heq
    go_wp2_with fail
    rw [meth_any Tryz.mSwap (.inr ⟨rfl, Q1.out.free⟩) 631]
    simp only [Result.andThen]
    rw [enter_run Tryz.func431 rfl rfl]
    refine (qswap_walk Q1.out HI.out HY.out (fun e => HNE.out e.symm)).mono ?_
    rintro e w2 ⟨rfl, hQ2, hM2⟩
    have hp2 := swap_perm HI.out HY.out (fun e => HNE.out e.symm)
    have hx2 : (swapL L i n x y)[n]? = some x := by rw [swap_get HI.out HY.out, if_pos rfl]
    have hl2 : (swapL L i n x y).length = n + 1 := by rw [swap_len]; exact HN.out
    have hMa := hM1.trans (hM2.mono (TQ0.out L (.refl _)))
    generalize swapL L i n x y = L2 at hQ2 hp2 hx2 hl2
    have Q2 := Lib.hid hQ2
    have H2 := Lib.hid (And.intro hp2 (And.intro hx2 hl2))
    clear hQ2 hM2 hp2 hx2 hl2 hM1
    go_wp2_with fail
    refine (down_walk (n := n) Q2.out (by rw [H2.out.2.2]; omega) (by rw [H2.out.2.2]; omega)).mono ?_
    rintro e w3 ⟨⟨t, rfl⟩, L3, hp3, hst3, hQ3, hM3⟩
    have H3 := Lib.hid (And.intro (hp3.trans H2.out.1) (And.intro ((hst3 n (Nat.le_refl _)).trans H2.out.2.1) (hp3.length_eq.trans H2.out.2.2)))
    have hMb := hMa.trans (hM3.mono (TQ0.out L2 H2.out.1))
    have Q3 := Lib.hid hQ3
    clear hQ3 hM3 hp3 hst3 hMa
    cases t
    · go_wp2_with fail
      refine (up_walk (j := i) Q3.out (by rw [H3.out.2.2]; omega)).mono ?_
      rintro e w4 ⟨rfl, L4, hp4, hst4, hQ4, hM4⟩
      have H4 := Lib.hid (And.intro (hp4.trans H3.out.1) ((hst4 n hlt).trans H3.out.2.1))
      have hMc := hMb.trans (hM4.mono (TQ0.out L3 H3.out.1))
      have Q4 := Lib.hid hQ4
      clear hQ4 hM4 hp4 hst4 hMb
      go_wp2_with fail
      rw [meth_any Tryz.mPop (.inl ⟨rfl, rfl⟩) 631]
      simp only [Result.andThen]
      rw [enter_run Tryz.func433 rfl rfl]
      refine LAST.out L4 w4 H4.out.1 H4.out.2 Q4.out ?_
      rintro v w5 ⟨L', h1, h2, h3, h4⟩
      have HE := Lib.hid (And.intro h1 (And.intro h2 (And.intro h3 (hMc.trans h4))))
      clear h1 h2 h3 h4
      go_wp2_with fail
      go_ret
      exact ⟨⟨_, rfl⟩, L', HE.out⟩
    · go_wp2_with fail
      rw [meth_any Tryz.mPop (.inl ⟨rfl, rfl⟩) 631]
      simp only [Result.andThen]
      rw [enter_run Tryz.func433 rfl rfl]
      refine LAST.out L3 w3 H3.out.1 H3.out.2.1 Q3.out ?_
      rintro v w5 ⟨L', h1, h2, h3, h4⟩
      have HE := Lib.hid (And.intro h1 (And.intro h2 (And.intro h3 (hMb.trans h4))))
      clear h1 h2 h3 h4
      go_wp2_with fail
      go_ret
      exact ⟨⟨_, rfl⟩, L', HE.out⟩
set_option maxRecDepth 100000 in
set_option maxHeartbeats 8000000 in
theorem hpush_walk {f : Nat → Nat} {w : World} {c : Nat} {L : List Nat} {o : Option (Nat × Nat)} {x : Nat} {u : Int} (q : QS 252 f w c L o) (hfit : L.length + 1 < 1000000) (hxc : f x ≠ c) (hxq : ∀ cap, o ≠ some (f x, cap)) (hxL : ∀ y ∈ L, f y ≠ f x) (x3 : w.cell? ⟨f x, 4, none⟩ = some (.int .i64 u)) (x5 : w.frozen? ⟨f x, 5, none⟩ = false) (x4 : ∃ u0, w.cell? ⟨f x, 5, none⟩ = some u0) :
    Calls Tryz.prog 247 #[qI c, .iface 252 (.pointer (some ⟨f x, 0, none⟩))] w fun e w' => e = .returned (.tuple #[]) ∧ ∃ bq cap L', L'.Perm (x :: L) ∧ Q 252 f w' c L' bq cap ∧ ((∃ cap, o = some (bq, cap)) ∨ w.heap.size ≤ bq) ∧ Mod (TS f (x :: L) c o) w w' := by
  unfold qI
  go_enter Tryz.func247, Tryz.ntmps247
  go_wp2_with fail
  rw [meth_any Tryz.mPush (.inl ⟨rfl, rfl⟩) 631]
  simp only [Result.andThen]
  rw [enter_run Tryz.func434 rfl rfl]
  obtain ⟨v, c1, c2, hown, hob⟩ : ∃ v, w.cell? ⟨c, 5, none⟩ = some v ∧ w.frozen? ⟨c, 5, none⟩ = false ∧ w.ownsRow 0 252 1 v L.length (L.map fun y => .pointer (some ⟨f y, 0, none⟩)) ∧ v.ownBlock = o.map (·.1) := by
    cases o with
    | none =>
      obtain ⟨h1, h2, rfl⟩ := q
      exact ⟨_, h1, h2, World.ownsRow_nil _ _ _ _, rfl⟩
    | some z => exact ⟨_, Q.free q, Q.freef q, Q.own q, rfl⟩
  have hvc : v.ownBlock ≠ some c := by
    rw [hob]
    cases o with
    | none => simp
    | some z => intro e; injection e with e; exact Q.apart q e.symm
  have hvx : v.ownBlock ≠ some (f x) := by
    rw [hob]
    cases o with
    | none => simp
    | some z => intro e; injection e with e; exact hxq z.2 (by rw [← e])
  obtain ⟨u0, x40⟩ := x4
  refine (qpush_walk (n := L.length) hxc c1 c2 hown hvc hvx (by omega) x40 x5).mono ?_
  rintro e w1 ⟨rfl, v', k1, k2, k3, k4, hm⟩
  have hob2 : ∀ b, some b = v.ownBlock ↔ ∃ cap, o = some (b, cap) := fun b => by
    rw [hob]
    cases o with
    | none => simp
    | some z => exact ⟨fun e => by injection e with e; exact ⟨z.2, by rw [e]⟩, fun ⟨cap, e⟩ => by injection e with e; rw [e]; rfl⟩
  have hm' : Mod (fun b k => (b = c ∧ k = 5) ∨ (b = f x ∧ k = 5) ∨ ∃ cap, o = some (b, cap)) w w1 := hm.mono fun b k h => h.imp id fun h => h.imp id fun h => (hob2 b).1 h
  obtain ⟨bq, cap, hQ1, rfl, hbq⟩ := Q.more q hfit hxc hxq hxL x3 x5 ⟨u0, x40⟩ k1 k2 (k3.elim (fun h => by
    cases o with
    | none => exact .inl ⟨0, by rw [h, hob]; rfl⟩
    | some z => exact .inl ⟨z.2, by rw [h, hob]; rfl⟩) .inr) k4 hm'
  have HB := Lib.hid hbq
  have Q1 := Lib.hid hQ1
  have hM1 : Mod (TS f (x :: L) c o) w w1 := hm'.mono fun b k h => h.imp id fun h => h.imp (fun h => ⟨x, List.mem_cons_self .., h⟩) id
  have hl1 : (L ++ [x]).length = L.length + 1 := by simp
  have hw := hM1.size
  clear q c1 c2 hown hob hvc hvx x40 k1 k2 k3 k4 hm hm' hob2 hQ1 hbq x3 x5 hxc hxq hxL
  go_wp2_with fail
  rw [meth_any Tryz.mLen (.inr ⟨rfl, Q1.out.free⟩) 631]
  simp only [Result.andThen]
  rw [enter_run Tryz.func429 rfl rfl]
  refine (qlen_walk _ _ _ _).mono ?_
  rintro e w2 ⟨rfl, hb2⟩
  have Q2 := Lib.hid (Q_below Q1.out hb2)
  have hM2 := hM1.trans (Mod.below hb2)
  rw [hl1]
  have g1 : wrap64 (((L.length + 1 : Nat) : Int) - 1) = (L.length : Int) := by unfold wrap64; omega
  have g2 : IntKind.i64.wrap (((L.length + 1 : Nat) : Int) - 1) = (L.length : Int) := by rw [IntKind.wrap_i64]; omega
  have HL := Lib.hid hl1
  clear hb2 hl1
  generalize hn : L.length + 1 = n at *
  have hnl : L.length < n := by omega
  generalize L.length = m at *
  clear hn
  go_wp2_with fail
  refine (up_walk (j := m) Q2.out (by rw [HL.out]; exact hnl)).mono ?_
  rintro e w3 ⟨rfl, L3, hp3, _, hQ3, hM3⟩
  have Q3 := Lib.hid hQ3
  have hM4 : Mod (fun b k => TS f (x :: L) c o b k ∨ b = bq) w w3 := (hM2.mono fun b k h => .inl h).trans (hM3.mono fun b k h => h.elim .inr fun ⟨z, h1, h2, h3⟩ => .inl (.inr (.inl ⟨z, (List.perm_append_singleton x L).mem_iff.1 h1, h2, h3⟩)))
  have hM5 : Mod (TS f (x :: L) c o) w w3 := hM4.old fun b k h => h.elim .inl fun h => HB.out.elim (fun ⟨cap, e⟩ => .inl (.inr (.inr ⟨cap, by rw [h]; exact e⟩))) fun e => .inr (by rw [h]; exact e)
  clear hQ3 hM3 hM4 hM2
  go_wp2_with fail
  go_end0
  exact ⟨rfl, bq, cap, L3, hp3.trans (List.perm_append_singleton x L), Q3.out, HB.out, hM5⟩
end Go.Proofs.YtfmjhleccnmhkaaGreat
namespace Go.Que
/-- is a buffer in the queue, or out of it? -/
def At (f : Nat → Nat) (w : World) (L : List Nat) (x : Nat) : Prop := (∃ k : Nat, L[k]? = some x) ∨ (x ∉ L ∧ w.cell? ⟨f x, 5, none⟩ = some (.int .i64 (-1)))
/-- what becomes of a queue where a buffer is pinned, or not. -/
def PinL (p : Bool) (x : Nat) (L L' : List Nat) : Prop := L'.Perm (if p then L.filter (fun y => y ≠ x) else x :: L.filter (fun y => y ≠ x))
theorem nodup_of {L : List Nat} (h : ∀ (i j x : Nat), L[i]? = some x → L[j]? = some x → i = j) : L.Nodup := by
  induction L with
  | nil => exact List.nodup_nil
  | cons a r ih =>
    refine List.nodup_cons.2 ⟨fun ha => ?_, ih fun i j x hi hj => ?_⟩
    · obtain ⟨k, hk⟩ := List.getElem?_of_mem ha
      have := h 0 (k + 1) a rfl (by simpa using hk)
      omega
    · have := h (i + 1) (j + 1) x (by simpa using hi) (by simpa using hj)
      omega
theorem Q.nodup {pt : TypeId} {f : Nat → Nat} {w : World} {c bq cap : Nat} {L : List Nat} (q : Q pt f w c L bq cap) : L.Nodup := nodup_of fun _ _ _ hi hj => q.inj hi hj rfl
theorem QS.nodup {pt : TypeId} {f : Nat → Nat} {w : World} {c : Nat} {L : List Nat} {o : Option (Nat × Nat)} (q : QS pt f w c L o) : L.Nodup := by
  cases o with
  | none => rw [q.2.2]; exact List.nodup_nil
  | some z => exact Q.nodup q
theorem filter_out {x : Nat} {L : List Nat} (h : x ∉ L) : L.filter (fun y => y ≠ x) = L := by
  rw [List.filter_eq_self]
  intro y hy
  simp
  rintro rfl
  exact h hy
theorem filter_in {x : Nat} {L : List Nat} (hn : L.Nodup) (h : x ∈ L) : (x :: L.filter (fun y => y ≠ x)).Perm L := by
  induction L with
  | nil => cases h
  | cons a r ih =>
    obtain ⟨h1, h2⟩ := List.nodup_cons.1 hn
    by_cases hax : a = x
    · subst hax
      rw [List.filter_cons, if_neg (by simp), filter_out h1]
    · rw [List.filter_cons, if_pos (by simpa using hax)]
      have hx : x ∈ r := by
        rcases List.mem_cons.1 h with h | h
        · exact absurd h.symm hax
        · exact h
      exact (List.Perm.swap a x _).trans ((ih h2 hx).cons a)
theorem pin_removed {x : Nat} {L L' : List Nat} (hn : L.Nodup) (h : (x :: L').Perm L) : PinL true x L L' := by
  have hx : x ∈ L := h.mem_iff.1 (List.mem_cons_self ..)
  exact List.Perm.cons_inv (h.trans (filter_in hn hx).symm)
theorem pin_kept {x : Nat} {L : List Nat} (hn : L.Nodup) (h : x ∈ L) : PinL false x L L := (filter_in hn h).symm
theorem pin_out {x : Nat} {L : List Nat} (h : x ∉ L) : PinL true x L L := by
  unfold PinL
  rw [if_pos rfl, filter_out h]
theorem pin_pushed {x : Nat} {L L' : List Nat} (hx : x ∉ L) (h : L'.Perm (x :: L)) : PinL false x L L' := by
  unfold PinL
  rw [if_neg (by simp), filter_out hx]
  exact h
/-- what may change. -/
def TM (f : Nat → Nat) (L : List Nat) (c : Nat) (o : Option (Nat × Nat)) (x : Nat) (b k : Nat) : Prop := TS f (x :: L) c o b k ∨ (b = f x ∧ k = 3)
def TN (f : Nat → Nat) (L : List Nat) (c : Nat) (o : Option (Nat × Nat)) (x : Nat) (b k : Nat) : Prop := TM f L c o x b k ∨ (b = f x ∧ k = 4) ∨ (b = c ∧ k = 2)
/-- the row is an old one, or new. -/
def Row (w : World) (o o' : Option (Nat × Nat)) : Prop := o' = o ∨ ∃ bq cap, o' = some (bq, cap) ∧ ((∃ cap, o = some (bq, cap)) ∨ w.heap.size ≤ bq)
theorem QS.keep {pt : TypeId} {f : Nat → Nat} {T : Nat → Nat → Prop} {w w' : World} {c : Nat} {L : List Nat} {o : Option (Nat × Nat)} (q : QS pt f w c L o) (h : Mod T w w') (h1 : ¬ T c 5) (h2 : ∀ bq cap k, o = some (bq, cap) → ¬ T bq k) (h3 : ∀ x ∈ L, ¬ T (f x) 5) (h4 : ∀ x ∈ L, ∀ u, w.cell? ⟨f x, 4, none⟩ = some (.int .i64 u) → ∃ u', w'.cell? ⟨f x, 4, none⟩ = some (.int .i64 u')) : QS pt f w' c L o := by
  cases o with
  | none => exact ⟨h.cell q.1 h1, by rw [h.froz q.1 h1]; exact q.2.1, q.2.2⟩
  | some z => exact Q.keep q h h1 (fun k => h2 z.1 z.2 k rfl) h3 h4
theorem QS.below {pt : TypeId} {f : Nat → Nat} {w w' : World} {c : Nat} {L : List Nat} {o : Option (Nat × Nat)} (q : QS pt f w c L o) (h : RowKit.Below w.heap.size w w') : QS pt f w' c L o :=
  q.keep (T := fun _ _ => False) (Mod.below h) (fun e => e) (fun _ _ _ _ e => e) (fun _ _ e => e) fun _ _ u hu => ⟨u, (Mod.below (T := fun _ _ => False) h).cell hu fun e => e⟩
theorem below_drew (w : World) : RowKit.Below w.heap.size w w.drew := ⟨rfl, rfl, rfl, Nat.le_refl _, fun _ _ => rfl⟩
/-- a cell of a buffer that is none of the queue's is written. -/
theorem QS.setp {pt : TypeId} {f : Nat → Nat} {w : World} {c b j : Nat} {L : List Nat} {o : Option (Nat × Nat)} (q : QS pt f w c L o) (hj : j ≠ 5) (h4 : j ≠ 4) (hb : ∀ cap, o ≠ some (b, cap)) (v : Value) : QS pt f (w.setCell ⟨b, j, none⟩ v) c L o :=
  q.keep (T := fun q k => q = b ∧ k = j) (Mod.setCell _ ⟨rfl, rfl⟩ _) (fun e => hj e.2.symm) (fun bq cap _ e h => hb cap (by rw [e, h.1])) (fun _ _ e => hj e.2.symm) fun x _ u hu => ⟨u, by rw [cell_set, if_neg (fun e => h4 e.2.1)]; exact hu⟩
/-- when a buffer was used: any number does. -/
theorem QS.set4 {pt : TypeId} {f : Nat → Nat} {w : World} {c b : Nat} {L : List Nat} {o : Option (Nat × Nat)} (q : QS pt f w c L o) (hb : ∀ cap, o ≠ some (b, cap)) (m : Int) : QS pt f (w.setCell ⟨b, 4, none⟩ (.int .i64 m)) c L o :=
  q.keep (T := fun q k => q = b ∧ k = 4) (Mod.setCell _ ⟨rfl, rfl⟩ _) (fun e => absurd e.2 (by decide)) (fun bq cap _ e h => hb cap (by rw [e, h.1])) (fun _ _ e => absurd e.2 (by decide)) fun x _ u hu => by
    rw [cell_set]
    split
    · exact ⟨m, rfl⟩
    · exact ⟨u, hu⟩
end Go.Que
namespace Go.Proofs.YtfmjhleccnmhkaaGreat
open Go.RowKit Go.Que
set_option maxRecDepth 100000 in
set_option maxHeartbeats 8000000 in
theorem pin_walk {f : Nat → Nat} {w : World} {c : Nat} {L : List Nat} {o : Option (Nat × Nat)} {x : Nat} {u : Int} {p : Bool} (q : QS 252 f w c L o) (hat : At f w L x) (hfit : L.length + 1 < 1000000) (hxc : f x ≠ c) (hxq : ∀ cap, o ≠ some (f x, cap)) (hxL : ∀ y ∈ L, y ≠ x → f y ≠ f x) (x3 : w.cell? ⟨f x, 4, none⟩ = some (.int .i64 u)) (x5 : w.frozen? ⟨f x, 5, none⟩ = false) (y3 : ∃ v, w.cell? ⟨f x, 3, none⟩ = some v) (y4 : w.frozen? ⟨f x, 3, none⟩ = false) :
    Calls Tryz.prog 166 #[.pointer (some ⟨c, 0, none⟩), .pointer (some ⟨f x, 0, none⟩), .bool p] w fun e w' => e = .returned (.tuple #[]) ∧ ∃ L' o', QS 252 f w' c L' o' ∧ PinL p x L L' ∧ Row w o o' ∧ w'.cell? ⟨f x, 3, none⟩ = some (.bool p) ∧ At f w' L' x ∧ (p = true → w'.cell? ⟨f x, 5, none⟩ = some (.int .i64 (-1))) ∧ ((p = true ∨ x ∈ L) → o' = o) ∧ Mod (TM f L c o x) w w' := by
  rcases hat with ⟨k, hk⟩ | ⟨hxn, hx5⟩
  · have hkl := (List.getElem?_eq_some_iff.1 hk).1
    have hmem := List.mem_of_getElem? hk
    have hnd := q.nodup
    obtain ⟨z, rfl⟩ : ∃ z, o = some z := by
      cases o with
      | none => rw [q.2.2] at hk; cases hk
      | some z => exact ⟨z, rfl⟩
    obtain ⟨z1, z2, ⟨uz, z3⟩, z4, z5⟩ := Q.bufs q k x hk
    obtain ⟨v3, y3⟩ := y3
    have Q0 := Lib.hid q
    clear q
    have HK := Lib.hid hk
    have hkf : k < 1000000 := by omega
    clear hk
    cases p
    · go_enter Tryz.func166, Tryz.ntmps166
      go_wp2_with fail
      go_end0
      have hx3 : (w.setCell ⟨f x, 3, none⟩ (.bool false)).cell? ⟨f x, 3, none⟩ = some (.bool false) := by rw [cell_set, if_pos ⟨rfl, rfl, by rw [y3]; rfl⟩]
      exact ⟨rfl, L, some z, QS.setp Q0.out (by decide) (by decide) hxq _, pin_kept hnd hmem, .inl rfl, hx3, .inl ⟨k, HK.out⟩, fun e => (by cases e), fun _ => rfl, Mod.setCell _ (.inr ⟨rfl, rfl⟩) _⟩
    · go_enter Tryz.func166, Tryz.ntmps166
      go_wp2_with fail
      go_still_tail 8, (by kernel_rfl)
      change wpList _ _ _ _ _ w.drew
      have Q1 := Lib.hid (Q0.out.below (below_drew w))
      have M1 := Lib.hid (Mod.below (T := TM f L c (some z) x) (below_drew w))
      have y31 : w.drew.cell? ⟨f x, 3, none⟩ = some v3 := y3
      have y41 : w.drew.frozen? ⟨f x, 3, none⟩ = false := y4
      have z41 : w.drew.cell? ⟨f x, 5, none⟩ = some (.int .i64 k) := z4
      clear z4 y3 y4 Q0
      generalize w.drew = w1 at *
      go_wp2_with fail
      refine (remove_walk Q1.out HK.out).mono ?_
      rintro e w2 ⟨⟨v, rfl⟩, L2, hp2, hQ2, hx2, hM2⟩
      have hn3 : ¬ TS f L c (some z) (f x) 3 := fun e => by
        rcases e with ⟨_, e⟩ | ⟨_, _, _, e⟩ | ⟨cap, e⟩
        · cases e
        · cases e
        · exact hxq cap e
      have y32 := hM2.cell y31 hn3
      have y42 := (hM2.froz y31 hn3).trans y41
      have H2 := Lib.hid (And.intro hp2 (And.intro (show QS 252 f w2 c L2 (some z) from hQ2) (And.intro hx2 (M1.out.trans (hM2.mono fun b k h => (.inl (h.imp id fun h => h.imp (fun ⟨y, h1, h2⟩ => ⟨y, List.mem_cons_of_mem _ h1, h2⟩) id) : TM f L c (some z) x b k))))))
      clear hp2 hQ2 hx2 hM2 hn3 y31 y41 z41 Q1 M1 x3 x5 z3 z5
      go_wp2_with fail
      go_end0
      obtain ⟨hp2, hQ2, hx2, hM2⟩ := H2.out
      have hn2 : x ∉ L2 := (List.nodup_cons.1 (hp2.nodup_iff.2 hnd)).1
      have e5 : (w2.setCell ⟨f x, 3, none⟩ (.bool true)).cell? ⟨f x, 5, none⟩ = some (.int .i64 (-1)) := by rw [cell_set, if_neg (fun e => absurd e.2.1 (by decide))]; exact hx2
      exact ⟨rfl, L2, some z, hQ2.setp (by decide) (by decide) hxq _, pin_removed hnd hp2, .inl rfl, by rw [cell_set, if_pos ⟨rfl, rfl, by rw [y32]; rfl⟩], .inr ⟨hn2, e5⟩, fun _ => e5, fun _ => rfl, hM2.trans (Mod.setCell _ (.inr ⟨rfl, rfl⟩) _)⟩
  · obtain ⟨v3, y3⟩ := y3
    have Q0 := Lib.hid q
    have HXL := Lib.hid hxL
    clear q hxL
    cases p
    · go_enter Tryz.func166, Tryz.ntmps166
      go_wp2_with fail
      refine (hpush_walk Q0.out hfit hxc hxq (fun y hy e => HXL.out y hy (by rintro rfl; exact hxn hy) e) x3 x5 ⟨_, hx5⟩).mono ?_
      rintro e w2 ⟨rfl, bq, cap, L2, hp2, hQ2, hr2, hM2⟩
      have hn3 : ¬ TS f (x :: L) c o (f x) 3 := fun e => by
        rcases e with ⟨_, e⟩ | ⟨_, _, _, e⟩ | ⟨cap, e⟩
        · cases e
        · cases e
        · exact hxq cap e
      have y32 := hM2.cell y3 hn3
      have y42 := (hM2.froz y3 hn3).trans y4
      have H2 := Lib.hid (And.intro hp2 (And.intro hQ2 (And.intro hr2 hM2)))
      clear hp2 hQ2 hr2 hM2 hn3 x3 x5 y3 y4 hx5
      go_wp2_with fail
      go_end0
      obtain ⟨hp2, hQ2, hr2, hM2⟩ := H2.out
      have hx2 : x ∈ L2 := hp2.mem_iff.2 (List.mem_cons_self ..)
      obtain ⟨k, hk⟩ := List.getElem?_of_mem hx2
      have hne := (hQ2.bufs k x hk).2.1
      have hQ3 : QS 252 f w2 c L2 (some (bq, cap)) := hQ2
      exact ⟨rfl, L2, some (bq, cap), hQ3.setp (by decide) (by decide) (fun cap' e => by injection e with e; injection e with e _; exact hne e.symm) _, pin_pushed hxn hp2, .inr ⟨bq, cap, rfl, hr2⟩, by rw [cell_set, if_pos ⟨rfl, rfl, by rw [y32]; rfl⟩], .inl ⟨k, hk⟩, fun e => (by cases e), fun e => e.elim (fun e => (by cases e)) fun e => absurd e hxn, (hM2.mono fun b k h => .inl h).trans (Mod.setCell _ (.inr ⟨rfl, rfl⟩) _)⟩
    · go_enter Tryz.func166, Tryz.ntmps166
      go_wp2_with fail
      go_end0
      have e5 : (w.setCell ⟨f x, 3, none⟩ (.bool true)).cell? ⟨f x, 5, none⟩ = some (.int .i64 (-1)) := by rw [cell_set, if_neg (fun e => absurd e.2.1 (by decide))]; exact hx5
      exact ⟨rfl, L, o, QS.setp Q0.out (by decide) (by decide) hxq _, pin_out hxn, .inl rfl, by rw [cell_set, if_pos ⟨rfl, rfl, by rw [y3]; rfl⟩], .inr ⟨hxn, e5⟩, fun _ => e5, fun _ => rfl, Mod.setCell _ (.inr ⟨rfl, rfl⟩) _⟩
end Go.Proofs.YtfmjhleccnmhkaaGreat
namespace Go.Proofs.YtfmjhleccnmhkaaGreat
open Go.RowKit Go.Que
set_option maxRecDepth 100000 in
set_option maxHeartbeats 8000000 in
theorem use_walk {f : Nat → Nat} {w : World} {c m : Nat} {L : List Nat} {o : Option (Nat × Nat)} {x : Nat} {u : Int} {p : Bool} (q : QS 252 f w c L o) (hat : At f w L x) (hfit : L.length + 1 < 1000000) (hxc : f x ≠ c) (hxq : ∀ cap, o ≠ some (f x, cap)) (hcq : ∀ cap, o ≠ some (c, cap)) (hxL : ∀ y ∈ L, y ≠ x → f y ≠ f x) (x3 : w.cell? ⟨f x, 4, none⟩ = some (.int .i64 u)) (x4 : w.frozen? ⟨f x, 4, none⟩ = false) (x5 : w.frozen? ⟨f x, 5, none⟩ = false) (y3 : ∃ v, w.cell? ⟨f x, 3, none⟩ = some v) (y4 : w.frozen? ⟨f x, 3, none⟩ = false)
    (hm : m < 4611686018427387904) (c2 : w.cell? ⟨c, 2, none⟩ = some (.int .i64 m)) (c3 : w.frozen? ⟨c, 2, none⟩ = false) :
    Calls Tryz.prog 157 #[.pointer (some ⟨c, 0, none⟩), .pointer (some ⟨f x, 0, none⟩), .bool p] w fun e w' => e = .returned (.tuple #[]) ∧ ∃ L' o', QS 252 f w' c L' o' ∧ PinL p x L L' ∧ Row w o o' ∧ w'.cell? ⟨f x, 3, none⟩ = some (.bool p) ∧ At f w' L' x ∧ (p = true → w'.cell? ⟨f x, 5, none⟩ = some (.int .i64 (-1))) ∧ ((p = true ∨ x ∈ L) → o' = o) ∧ w'.cell? ⟨c, 2, none⟩ = some (.int .i64 (m + 1 : Nat)) ∧ (∃ u, w'.cell? ⟨f x, 4, none⟩ = some (.int .i64 u)) ∧ Mod (TN f L c o x) w w' := by
  have Q0 := Lib.hid q
  have HA := Lib.hid hat
  have HXL := Lib.hid hxL
  have HXQ := Lib.hid (And.intro hxq hcq)
  obtain ⟨v3, y3⟩ := y3
  have hxc' : ¬ c = f x := fun e => hxc e.symm
  obtain ⟨m1, hm1⟩ : ∃ m1 : Nat, m1 = m + 1 := ⟨_, rfl⟩
  have g1 : wrap64 ((m : Int) + 1) = (m1 : Int) := by unfold wrap64; omega
  have g2 : IntKind.i64.wrap ((m : Int) + 1) = (m1 : Int) := by rw [IntKind.wrap_i64]; omega
  rw [← hm1]
  have HM1 := Lib.hid hm1
  have alive : ∀ {b k : Nat} {v : Value}, w.cell? ⟨b, k, none⟩ = some v → b < w.heap.size := fun {b k v} h => by
    unfold World.cell? at h
    split at h
    · exact (Array.getElem?_eq_some_iff.1 ‹_›).1
    · cases h
  have hax := alive x3
  have hac := alive c2
  clear q hat hxL hxq hcq hm1 alive
  go_enter Tryz.func157, Tryz.ntmps157
  go_wp2_with fail
  have hw1 : Mod (TN f L c o x) w ((w.setCell ⟨c, 2, none⟩ (.int .i64 m1)).setCell ⟨f x, 4, none⟩ (.int .i64 m1)) := (Mod.setCell _ (.inr (.inr ⟨rfl, rfl⟩)) _).trans (Mod.setCell _ (.inr (.inl ⟨rfl, rfl⟩)) _)
  have Q1 := (QS.setp Q0.out (j := 2) (by decide) (by decide) HXQ.out.2 (.int .i64 m1)).set4 HXQ.out.1 m1
  have a1 : At f ((w.setCell ⟨c, 2, none⟩ (.int .i64 m1)).setCell ⟨f x, 4, none⟩ (.int .i64 m1)) L x := HA.out.imp id fun ⟨h1, h2⟩ => ⟨h1, by rw [cell_set, if_neg (fun e => absurd e.2.1 (by decide)), cell_set, if_neg (fun e => absurd e.2.1 (by decide))]; exact h2⟩
  have b3 : ((w.setCell ⟨c, 2, none⟩ (.int .i64 m1)).setCell ⟨f x, 4, none⟩ (.int .i64 m1)).cell? ⟨f x, 4, none⟩ = some (.int .i64 m1) := by
    rw [cell_set, if_pos ⟨rfl, rfl, by rw [cell_set, if_neg (fun e => absurd e.2.1 (by decide)), x3]; rfl⟩]
  have b5 : ((w.setCell ⟨c, 2, none⟩ (.int .i64 m1)).setCell ⟨f x, 4, none⟩ (.int .i64 m1)).frozen? ⟨f x, 5, none⟩ = false := by rw [frozen_set, frozen_set]; exact x5
  have e3 : ((w.setCell ⟨c, 2, none⟩ (.int .i64 m1)).setCell ⟨f x, 4, none⟩ (.int .i64 m1)).cell? ⟨f x, 3, none⟩ = some v3 := by rw [cell_set, if_neg (fun e => absurd e.2.1 (by decide)), cell_set, if_neg (fun e => absurd e.2.1 (by decide))]; exact y3
  have e4 : ((w.setCell ⟨c, 2, none⟩ (.int .i64 m1)).setCell ⟨f x, 4, none⟩ (.int .i64 m1)).frozen? ⟨f x, 3, none⟩ = false := by rw [frozen_set, frozen_set]; exact y4
  have c21 : ((w.setCell ⟨c, 2, none⟩ (.int .i64 m1)).setCell ⟨f x, 4, none⟩ (.int .i64 m1)).cell? ⟨c, 2, none⟩ = some (.int .i64 m1) := by
    rw [cell_set, if_neg (fun e => hxc e.1), cell_set, if_pos ⟨rfl, rfl, by rw [c2]; rfl⟩]
  have hsz : ((w.setCell ⟨c, 2, none⟩ (.int .i64 m1)).setCell ⟨f x, 4, none⟩ (.int .i64 m1)).heap.size = w.heap.size := by simp [World.setCell]
  generalize ((w.setCell ⟨c, 2, none⟩ (.int .i64 m1)).setCell ⟨f x, 4, none⟩ (.int .i64 m1)) = W1 at *
  clear x3 x4 x5 y3 y4 c2 c3 Q0 HA
  refine (pin_walk Q1 a1 hfit hxc HXQ.out.1 HXL.out b3 b5 ⟨v3, e3⟩ e4).mono ?_
  rintro e w2 ⟨rfl, L2, o2, hQ2, hp2, hr2, hx3, hat2, hm5, hoo, hM2⟩
  have hc2 : ¬ TM f L c o x c 2 := fun e => by
    rcases e with (⟨_, e⟩ | ⟨_, _, _, e⟩ | ⟨cap, e⟩) | ⟨_, e⟩
    · cases e
    · cases e
    · exact HXQ.out.2 cap e
    · cases e
  have hx4n : ¬ TM f L c o x (f x) 4 := fun e => by
    rcases e with (⟨_, e⟩ | ⟨_, _, _, e⟩ | ⟨cap, e⟩) | ⟨_, e⟩
    · cases e
    · cases e
    · exact HXQ.out.1 cap e
    · cases e
  have c22 := hM2.cell c21 hc2
  have b32 := hM2.cell b3 hx4n
  have hr3 : Row w o o2 := hr2.imp id fun ⟨bq, cap, h1, h2⟩ => ⟨bq, cap, h1, h2.imp id fun h => by rw [← hsz]; exact h⟩
  have hMa := hw1.trans (hM2.mono fun b k h => (.inl h : TN f L c o x b k))
  have HP := Lib.hid (And.intro hp2 (And.intro hr3 (And.intro hMa hm5)))
  have HR := Lib.hid hr3
  have HOO := Lib.hid hoo
  have Q2 := Lib.hid hQ2
  clear hp2 hr2 hr3 hM2 hMa hm5 hoo hQ2 Q1 a1 b3 b5 e3 e4 c21 hc2 hx4n hw1
  rcases hat2 with ⟨k, hk⟩ | ⟨hn2, hx5⟩
  · obtain ⟨z, rfl⟩ : ∃ z, o2 = some z := by
      cases o2 with
      | none => rw [Q2.out.2.2] at hk; cases hk
      | some z => exact ⟨z, rfl⟩
    obtain ⟨z1, z2, ⟨uz, z3⟩, z4, z5⟩ := Q.bufs Q2.out k x hk
    have hkl := (List.getElem?_eq_some_iff.1 hk).1
    have hkf : k < 1000000 := Nat.lt_trans hkl (Q.fit Q2.out)
    have HK := Lib.hid hk
    clear hk
    go_wp2_with fail
    go_still_tail 8, (by kernel_rfl)
    change wpList _ _ _ _ _ w2.drew
    have Q3 := Lib.hid (Q2.out.below (below_drew w2))
    have M3 := Lib.hid (HP.out.2.2.1.trans (Mod.below (T := TN f L c o x) (below_drew w2)))
    have hx3' : w2.drew.cell? ⟨f x, 3, none⟩ = some (.bool p) := hx3
    have c22' : w2.drew.cell? ⟨c, 2, none⟩ = some (.int .i64 m1) := c22
    have b32' : w2.drew.cell? ⟨f x, 4, none⟩ = some (.int .i64 m1) := b32
    have z4' : w2.drew.cell? ⟨f x, 5, none⟩ = some (.int .i64 k) := z4
    have hm5' : p = true → w2.drew.cell? ⟨f x, 5, none⟩ = some (.int .i64 (-1)) := HP.out.2.2.2
    have HM5 := Lib.hid hm5'
    have HPL := Lib.hid HP.out.1
    clear hx3 c22 b32 z3 z4 z5 Q2 HP hm5'
    generalize w2.drew = w3 at *
    go_wp2_with fail
    refine (fix_walk Q3.out hkl).mono ?_
    rintro e w4 ⟨rfl, L4, hp4, hQ4, hM4⟩
    have old : ∀ b j, b < w.heap.size → (∀ cap, o ≠ some (b, cap)) → j ≠ 5 → ¬ TQ f L2 z.1 b j := fun b j hlt hb hj e => by
      rcases e with e | ⟨_, _, _, e⟩
      · rcases HR.out with h | ⟨bq, cap, h, h2⟩
        · exact hb z.2 (by rw [← h, e])
        · injection h with h
          rcases h2 with ⟨cap', h2⟩ | h2
          · exact hb cap' (by rw [h2, e, h])
          · rw [e, h] at hlt
            exact absurd hlt (by omega)
      · exact hj e
    have k3 := hM4.cell hx3' (old (f x) 3 hax HXQ.out.1 (by decide))
    have k4 := hM4.cell c22' (old c 2 hac HXQ.out.2 (by decide))
    have k5 := hM4.cell b32' (old (f x) 4 hax HXQ.out.1 (by decide))
    have hsub : ∀ y ∈ L2, y ∈ x :: L := fun y hy => by
      have h := HPL.out.mem_iff.1 hy
      cases p
      · rw [if_neg (by simp)] at h
        rcases List.mem_cons.1 h with h | h
        · rw [h]; exact List.mem_cons_self ..
        · exact List.mem_cons_of_mem _ (List.mem_filter.1 h).1
      · rw [if_pos rfl] at h
        exact List.mem_cons_of_mem _ (List.mem_filter.1 h).1
    have hMf : Mod (fun b k => TN f L c o x b k ∨ b = z.1) w w4 := (M3.out.mono fun b k h => .inl h).trans (hM4.mono fun b k h => h.elim .inr fun ⟨y, h1, h2, h3⟩ => .inl (.inl (.inl (.inr (.inl ⟨y, hsub y h1, h2, h3⟩)))))
    have hMg : Mod (TN f L c o x) w w4 := hMf.old fun b k h => h.elim .inl fun h => by
      rcases HR.out with h1 | ⟨bq, cap, h1, h2⟩
      · exact .inl (.inl (.inl (.inr (.inr ⟨z.2, by rw [← h1, h]⟩))))
      · injection h1 with h1
        rcases h2 with ⟨cap', h2⟩ | h2
        · exact .inl (.inl (.inl (.inr (.inr ⟨cap', by rw [h2, h, h1]⟩))))
        · exact .inr (by rw [h, h1]; exact h2)
    have hpf : p = true → False := fun e => by
      have h := HM5.out e
      rw [z4'] at h
      injection h with h
      injection h with _ h
      omega
    have HF := Lib.hid (show (w4.cell? ⟨f x, 3, none⟩ = some (.bool p) ∧ w4.cell? ⟨c, 2, none⟩ = some (.int .i64 m1) ∧ w4.cell? ⟨f x, 4, none⟩ = some (.int .i64 m1)) ∧ (L4.Perm L2 ∧ QS 252 f w4 c L4 (some z)) ∧ Mod (TN f L c o x) w w4 from ⟨⟨k3, k4, k5⟩, ⟨hp4, hQ4⟩, hMg⟩)
    have HPF := Lib.hid hpf
    clear k3 k4 k5 hp4 hQ4 hMg hMf hM4 hx3' c22' b32' z4' old hsub hpf
    go_wp2_with fail
    go_end0
    obtain ⟨⟨k3, k4, k5⟩, ⟨hp4, hQ4⟩, hMg⟩ := HF.out
    have hx4 : x ∈ L4 := hp4.mem_iff.2 (List.mem_of_getElem? HK.out)
    obtain ⟨k', hk'⟩ := List.getElem?_of_mem hx4
    exact ⟨rfl, L4, some z, hQ4, hp4.trans HPL.out, HR.out, k3, .inl ⟨k', hk'⟩, fun e => (HPF.out e).elim, HOO.out, k4, ⟨_, k5⟩, hMg⟩
  · go_wp2_with fail
    go_end0
    exact ⟨rfl, L2, o2, Q2.out, HP.out.1, HR.out, hx3, .inr ⟨hn2, hx5⟩, HP.out.2.2.2, HOO.out, c22, ⟨_, b32⟩, HP.out.2.2.1⟩
end Go.Proofs.YtfmjhleccnmhkaaGreat
