/- Walks: the reference's put and Moved. -/
import Derived.Test.YtkifpnhijdcjlaaL1
namespace Go.Proofs.Ytkifpnhijdcjlaa
open Go.RowKit

theorem Runs.take {w : World} {B n k : Nat} {A : Option Addr} {xs : RunL} (h : Runs w B A n xs) (hk : k ≤ n) : Runs w B A k (xs.take k) :=
  ⟨by rw [List.length_take]; have := h.1; omega, fun i x hx => by
    rw [List.getElem?_take] at hx
    split at hx
    · exact h.2 i x hx
    · cases hx⟩
theorem Runs.drop {w : World} {B n k c : Nat} {A : Option Addr} {xs : RunL} (h : Runs w B A n xs) (hk : k ≤ n) (hc : n ≤ c) : Runs w B (if c = k then A else A.map (·.add (k * 2))) (n - k) (xs.drop k) :=
  ⟨by rw [List.length_drop]; have := h.1; omega, fun i x hx => by
    have hi := (List.getElem?_eq_some_iff.1 hx).1
    rw [List.length_drop] at hi
    rw [List.getElem?_drop] at hx
    obtain ⟨h1, h2, b, o, e, hb, c0, c1⟩ := h.2 (k + i) x hx
    rw [if_neg (by have := h.1; omega), e]
    refine ⟨h1, h2, b, o + k * 2, ?_, hb, ?_, ?_⟩
    · simp only [Option.map_some, Option.some.injEq]
      unfold Addr.add
      split
      · rename_i h0; rw [h0]; simp
      · rfl
    · rw [← c0]; congr 2; omega
    · rw [← c1]; congr 2; omega⟩
theorem ins_cut {r : Int × Int} : ∀ {l : RunL} {k : Nat}, k ≤ l.length → (∀ (j : Nat) (x : Int × Int), l[j]? = some x → j < k → x.1 ≤ r.1) → (∀ (j : Nat) (x : Int × Int), l[j]? = some x → k ≤ j → r.1 < x.1) → ins r l = l.take k ++ r :: l.drop k := by
  intro l
  induction l with
  | nil => intro k hk _ _; simp [ins]
  | cons y l ih =>
    intro k hk h1 h2
    cases k with
    | zero =>
      have := h2 0 y rfl (Nat.le_refl _)
      rw [ins, if_neg (by omega)]; rfl
    | succ k =>
      have := h1 0 y rfl (by omega)
      rw [ins, if_pos this, ih (k := k) (by simpa using hk) (fun j x hx hj => h1 (j + 1) x (by simpa using hx) (by omega)) (fun j x hx hj => h2 (j + 1) x (by simpa using hx) (by omega))]
      rfl

theorem wpList_app2 {w : World} {ops : Array Oper} {rest : List Oper} {o : Oper} {a : Act} {Q : Exit → Act → World → Prop} (hgd : o.guard = none) (s x : Operand)
    (ho : o.op = .call { callee := .builtin .append, args := #[s, x], argTypes := #[22, 22] }) (base : Nat) (A0 : Option Addr) (n c0 : Nat) (xs : RunL) (hs : a.eval s = .slice A0 n c0) (hown : Own w base (.slice A0 n c0) xs)
    (A : Option Addr) (m c : Nat) (ys : RunL) (hx : a.eval x = .slice A m c) (hr : Runs w w.heap.size A m ys) (hlen : n + m ≤ 1048576) (hbase : base ≤ w.heap.size)
    (h : ∀ A' c' w', Own w' base (.slice A' (n + m) c') (xs ++ ys) → w.grownBy w' (Value.slice A0 n c0).ownBlock → ((Value.slice A' (n + m) c').ownBlock = (Value.slice A0 n c0).ownBlock ∨ (Value.slice A' (n + m) c').ownBlock = some w.heap.size) → wpList Try.prog ops Q rest (a.put o.dst (.slice A' (n + m) c')) w') :
    wpList Try.prog ops Q (o :: rest) a w := by
  have hn : n = xs.length := hown.runs.1
  subst hn
  exact wpList_app_runs hgd s x ho base _ xs hs hown A m c ys hx hr hlen hbase h

set_option maxHeartbeats 2000000 in
theorem put_any (A : Option Addr) (m c : Nat) (xs : RunL) (r1 r2 : Int) (w : World) (hr : Runs w w.heap.size A m xs) (hmc : m ≤ c) (hm : m ≤ 1000000) (hu : Up xs) (h1 : I64 r1) (h2 : I64 r2) :
    Calls Try.prog 30 #[.slice A m c, .agg #[.int .i64 r1, .int .i64 r2]] w fun e w' => ∃ A' m' c', e = .returned (.slice A' m' c') ∧ Own w' w.heap.size (.slice A' m' c') (ins (r1, r2) xs) ∧ Below w.heap.size w w' := by
  have Hu := Lib.hid hu
  unfold I64 at h1 h2
  obtain ⟨h11, h12⟩ := h1
  obtain ⟨h21, h22⟩ := h2
  have hb0 : Below w.heap.size w (w.alloc (.cells #[.int .i64 r1, .int .i64 r2] 39)) := (Below.refl _ _).alloc (Nat.le_refl _) _
  have hx0 : (w.alloc (.cells #[.int .i64 r1, .int .i64 r2] 39)).cell? ⟨w.heap.size, 0, none⟩ = some (.int .i64 r1) := by go_simp
  have hx1 : (w.alloc (.cells #[.int .i64 r1, .int .i64 r2] 39)).cell? ⟨w.heap.size, 1, none⟩ = some (.int .i64 r2) := by go_simp
  have hr0 := (hr.below hb0 (Nat.le_refl _)).more hb0.size
  go_enter Try.func30, Try.ntmps30
  go_wp2_with fail
  generalize w.alloc (.cells #[.int .i64 r1, .int .i64 r2] 39) = wx at *
  go_loopw [5] (fun i wr => ∃ k : Nat, k ≤ m ∧ i = .int .i64 k ∧ Hid (∀ (j : Nat) (x : Int × Int), xs[j]? = some x → k ≤ j → r1 < x.1) ∧ ∃ q, wr = wx.drewN q) (fun i _ => (intOf i).toNat)
  case atStart => exact ⟨m, by omega, rfl, fun j x hx hj => by have := (List.getElem?_eq_some_iff.1 hx).1; have := hr.1; omega, 0, rfl⟩
  case round =>
    obtain ⟨k, hk, rfl, Hk, q, rfl⟩ := hrel
    have hmore : k = 0 ∨ ∃ (p : Nat) (x1 x2 : Int), k = p + 1 ∧ xs[p]? = some (x1, x2) := by
      cases k with
      | zero => exact .inl rfl
      | succ p => obtain ⟨x1, x2, _, _, hx, _⟩ := hr0.at_ (k := p) (by omega); exact .inr ⟨p, x1, x2, rfl, hx⟩
    by_cases hgo : ∃ (p : Nat) (x1 x2 : Int), k = p + 1 ∧ xs[p]? = some (x1, x2) ∧ r1 < x1
    · obtain ⟨p, x1, x2, rfl, hx, hlt⟩ := hgo
      obtain ⟨y1, y2, b, o, hy, v1, v2, v3, v4, rfl, hbB, e0, e1⟩ := hr0.at_ (k := p) (by omega)
      rw [hx] at hy
      injection hy with hy
      injection hy with hy1 hy2
      subst hy1 hy2
      have Hn : Hid (∀ (j : Nat) (x : Int × Int), xs[j]? = some x → p ≤ j → r1 < x.1) := fun j x hj hpj => by
        rcases Nat.lt_or_eq_of_le hpj with h | rfl
        · exact Hk.out j x hj h
        · rw [hx] at hj; injection hj with hj; subst hj; exact hlt
      have hpm : p < m := by omega
      have hz1 : decide ((0 : Int) < (p : Int) + 1) = true := decide_eq_true (by omega)
      clear hx hmore
      go_wp2_with fail
      go_quiet (fail)
      go_wp2
      go_roundw
      case rel => exact ⟨p, by omega, by go_num, Hn, q + nq, by go_simp⟩
      case measure => simp [intOf]
    · have Hfin : Hid (ins (r1, r2) xs = xs.take k ++ (r1, r2) :: xs.drop k) := ins_cut (by have := hr.1; omega) (fun j x hx hj => by
        rcases hmore with h0 | ⟨p, x1, x2, hp, hpx⟩
        · omega
        · have h3 := up_sub Hu.out (i := j) (j := p) (by omega) hx hpx
          have h4 : ¬ r1 < x1 := fun h => hgo ⟨p, x1, x2, hp, hpx, h⟩
          dsimp only at h3 ⊢; omega) Hk.out
      rcases Nat.lt_or_ge 0 k with h0 | h0
      · obtain ⟨p, x1, x2, hp, hpx⟩ : ∃ (p : Nat) (x1 x2 : Int), k = p + 1 ∧ xs[p]? = some (x1, x2) := by
          rcases hmore with h | h
          · omega
          · exact h
        subst hp
        obtain ⟨y1, y2, b, o, hy, v1, v2, v3, v4, rfl, hbB, e0, e1⟩ := hr0.at_ (k := p) (by omega)
        rw [hpx] at hy
        injection hy with hy
        injection hy with hy1 hy2
        subst hy1 hy2
        have hle : ¬ r1 < x1 := fun h => hgo ⟨p, x1, x2, rfl, hpx, h⟩
        have hleb := decide_eq_false hle
        have hpm : p < m := by omega
        have hz1 : decide ((0 : Int) < (p : Int) + 1) = true := decide_eq_true (by omega)
        have Hle := Lib.hid hle
        go_wp2_with fail
        go_quiet (fail)
        obtain ⟨A, hA⟩ : ∃ A : Option Addr, A = some ⟨b, o, none⟩ := ⟨_, rfl⟩
        rw [← hA] at hr0 ⊢
        clear hA e0 e1 hr
        obtain ⟨k, hkp⟩ : ∃ k, k = p + 1 := ⟨_, rfl⟩
        have hk' : k ≤ m := by omega
        have hkint : (p : Int) + 1 = (k : Int) := by omega
        have Hfin : Hid (ins (r1, r2) xs = xs.take k ++ (r1, r2) :: xs.drop k) := by rw [hkp]; exact Hfin.out
        have Hkp := Lib.hid hkp
        clear hgo hmore h0 hpx hkp hk hz1
        have hk := hk'
        obtain ⟨W, hW⟩ : ∃ W, W = wx.drewN (q + nq) := ⟨_, rfl⟩
        have hbW : Below wx.heap.size wx W := by rw [hW]; exact ⟨rfl, rfl, rfl, Nat.le_refl _, fun _ _ => rfl⟩
        have hrW := (hr0.below hbW (Nat.le_refl _)).more hbW.size
        have hx0W : W.cell? ⟨w.heap.size, 0, none⟩ = some (.int .i64 r1) := by rw [hW]; exact hx0
        have hx1W : W.cell? ⟨w.heap.size, 1, none⟩ = some (.int .i64 r2) := by rw [hW]; exact hx1
        have hwW : w.heap.size < W.heap.size := World.block_lt_of_cell? W _ hx0W
        have hbwW := hb0.trans (hbW.mono hb0.size)
        have hWh : (wx.drewN q).drewN nq = W := by rw [hW]; go_simp
        have hrt := hrW.take (k := k) hk
        have hkc : k ≤ c := by omega
        rw [hWh]
        clear hW hWh hx0 hx1
        go_wp2_with (first
          | (at_builtin; refine wpList_app_runs rfl _ _ rfl W.heap.size (.slice none 0 0) [] (by rfl) (Own.nil _ _) A k c (xs.take k) (by rfl) hrt (by simp; omega) (Nat.le_refl _) ?_; intro A3 c3 w3 k1 k2 k3; simp only [List.length_nil, Nat.zero_add, List.nil_append] at k1 k3; have s0 := k2.cell hx0W (by simp [Value.ownBlock]); have s1 := k2.cell hx1W (by simp [Value.ownBlock]); have hb3 : Below W.heap.size W w3 := (Below.refl _ _).grown k2 (Nat.le_refl _) (by simp [Value.ownBlock]); have ho3 := k1.alloc (.cells #[.int .i64 r1, .int .i64 r2] 39); have hlaid := Runs.lay (w := w3) (H := w3.heap.size) (a := r1) (b := r2) rfl (by omega) (by omega) (by omega) (by omega); have hz3 := hb3.size)
          | (at_builtin; refine wpList_app2 rfl _ _ rfl W.heap.size A3 k c3 (xs.take k) (by rfl) ho3 (some ⟨w3.heap.size, 0, none⟩) 1 1 [(r1, r2)] (by rfl) hlaid (by omega) (by simp; omega) ?_; intro A5 c5 w5 p1 p2 p3; have hb5 : Below W.heap.size W w5 := (hb3.alloc hz3 _).grown p2 (by simp; omega) (fun g hg => (ho3.1.lt g hg).1); have hrd := ((hrW.below hb5 (Nat.le_refl _)).drop (k := k) hk hmc).more hb5.size)
          | (at_builtin; refine wpList_app2 rfl _ _ rfl W.heap.size A5 (k + 1) c5 (xs.take k ++ [(r1, r2)]) (by rfl) p1 _ _ _ (xs.drop k) (by rfl) hrd (by omega) hb5.size ?_; intro A7 c7 w7 t1 t2 t3))
        all_goals
          go_ret
          refine ⟨A7, _, c7, rfl, ?_, hbwW.trans ((hb5.grown t2 hb5.size (fun g hg => (p1.1.lt g hg).1)).mono hbwW.size)⟩
          have t4 := t1.lower hbwW.size
          rw [Hfin.out]
          simpa using t4
      · have hz1 : decide ((0 : Int) < (k : Int)) = false := decide_eq_false (by omega)
        have hz2 : decide (0 < k) = false := decide_eq_false (by omega)
        have hz3 : ¬ 0 < k := by omega
        have H0 := Lib.hid h0
        clear hgo hmore h0
        go_wp2_with fail
        go_quiet (fail)
        obtain ⟨W, hW⟩ : ∃ W, W = wx.drewN (q + nq) := ⟨_, rfl⟩
        have hbW : Below wx.heap.size wx W := by rw [hW]; exact ⟨rfl, rfl, rfl, Nat.le_refl _, fun _ _ => rfl⟩
        have hrW := (hr0.below hbW (Nat.le_refl _)).more hbW.size
        have hx0W : W.cell? ⟨w.heap.size, 0, none⟩ = some (.int .i64 r1) := by rw [hW]; exact hx0
        have hx1W : W.cell? ⟨w.heap.size, 1, none⟩ = some (.int .i64 r2) := by rw [hW]; exact hx1
        have hwW : w.heap.size < W.heap.size := World.block_lt_of_cell? W _ hx0W
        have hbwW := hb0.trans (hbW.mono hb0.size)
        have hWh : (wx.drewN q).drewN nq = W := by rw [hW]; go_simp
        have hrt := hrW.take (k := k) hk
        have hkc : k ≤ c := by omega
        rw [hWh]
        clear hW hWh hx0 hx1
        go_wp2_with (first
          | (at_builtin; refine wpList_app_runs rfl _ _ rfl W.heap.size (.slice none 0 0) [] (by rfl) (Own.nil _ _) A k c (xs.take k) (by rfl) hrt (by simp; omega) (Nat.le_refl _) ?_; intro A3 c3 w3 k1 k2 k3; simp only [List.length_nil, Nat.zero_add, List.nil_append] at k1 k3; have s0 := k2.cell hx0W (by simp [Value.ownBlock]); have s1 := k2.cell hx1W (by simp [Value.ownBlock]); have hb3 : Below W.heap.size W w3 := (Below.refl _ _).grown k2 (Nat.le_refl _) (by simp [Value.ownBlock]); have ho3 := k1.alloc (.cells #[.int .i64 r1, .int .i64 r2] 39); have hlaid := Runs.lay (w := w3) (H := w3.heap.size) (a := r1) (b := r2) rfl (by omega) (by omega) (by omega) (by omega); have hz3 := hb3.size)
          | (at_builtin; refine wpList_app2 rfl _ _ rfl W.heap.size A3 k c3 (xs.take k) (by rfl) ho3 (some ⟨w3.heap.size, 0, none⟩) 1 1 [(r1, r2)] (by rfl) hlaid (by omega) (by simp; omega) ?_; intro A5 c5 w5 p1 p2 p3; have hb5 : Below W.heap.size W w5 := (hb3.alloc hz3 _).grown p2 (by simp; omega) (fun g hg => (ho3.1.lt g hg).1); have hrd := ((hrW.below hb5 (Nat.le_refl _)).drop (k := k) hk hmc).more hb5.size)
          | (at_builtin; refine wpList_app2 rfl _ _ rfl W.heap.size A5 (k + 1) c5 (xs.take k ++ [(r1, r2)]) (by rfl) p1 _ _ _ (xs.drop k) (by rfl) hrd (by omega) hb5.size ?_; intro A7 c7 w7 t1 t2 t3))
        all_goals
          go_ret
          refine ⟨A7, _, c7, rfl, ?_, hbwW.trans ((hb5.grown t2 hb5.size (fun g hg => (p1.1.lt g hg).1)).mono hbwW.size)⟩
          have t4 := t1.lower hbwW.size
          rw [Hfin.out]
          simpa using t4
end Go.Proofs.Ytkifpnhijdcjlaa
