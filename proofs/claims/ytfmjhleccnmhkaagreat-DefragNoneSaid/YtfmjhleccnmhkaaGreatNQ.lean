/- The queue of a cache of buffers: a new buffer is hidden. -/
import Derived.Test.YtfmjhleccnmhkaaGreatEf
import Derived.Test.YtfmjhleccnmhkaaGreatHA
namespace Go.Ex
theorem half_odd (x : Nat) : (2 * x + 1) / 2 = x := by omega
theorem half_even (x : Nat) : (2 * x) / 2 = x := by omega
/-- a new buffer is one that is pinned. -/
theorem RW.hideB {r : Ren} {h : CH} {w : World} (hw : RW r h w) {ic ix z : Nat} {patc : Array Value} {csc : Tr Value} {ec : TypeId} (hc : h.t.get ic = some (.row 5 patc csc ec (some (hid + 1 + z)))) {pat : Array Value} {cs : Tr Value} {e : TypeId} (hi : h.t.get ix = some (.row 6 pat cs e none)) (hc9 : ic < 2 ^ 39) (hi9 : ix < 2 ^ 39) {u : Int} (h4 : CObj.at pat cs 4 = some (.int .i64 u)) (h5 : CObj.at pat cs 5 = some (.int .i64 (-1))) (hlen : (qEnt z).length < 400) :
    Nx r h w r ⟨(h.t.set ix (.row 4 pat cs e (some hid))).set ic (.row 5 patc csc ec (some (hid + 1 + enc (qRow z) ((2 * ix + 1) :: qEnt z)))), h.n⟩ w := by
  generalize hz' : enc (qRow z) ((2 * ix + 1) :: qEnt z) = z'
  have hent : qEnt z' = (2 * ix + 1) :: qEnt z := by
    rw [← hz']
    exact enc_ent (row_lt z) (fun d hd => by
      rcases List.mem_cons.1 hd with rfl | hd
      · omega
      · exact ent_lt z d hd) (by simp only [List.length_cons]; omega)
  have hrow : qRow z' = qRow z := by rw [← hz']; exact enc_row (row_lt z)
  clear hz'
  have hne : ic ≠ ix := by rintro rfl; rw [hc] at hi; injection hi with hi; injection hi with hi; cases hi
  have hg : ∀ j, ((h.t.set ix (.row 4 pat cs e (some hid))).set ic (.row 5 patc csc ec (some (hid + 1 + z')))).get j = if ic = j then some (.row 5 patc csc ec (some (hid + 1 + z'))) else if ix = j then some (.row 4 pat cs e (some hid)) else h.t.get j := fun j => by rw [Tr.get_set hc9, Tr.get_set hi9]
  generalize hH : (⟨(h.t.set ix (.row 4 pat cs e (some hid))).set ic (.row 5 patc csc ec (some (hid + 1 + z'))), h.n⟩ : CH) = H
  have hHt : ∀ j, H.t.get j = if ic = j then some (.row 5 patc csc ec (some (hid + 1 + z'))) else if ix = j then some (.row 4 pat cs e (some hid)) else h.t.get j := fun j => by rw [← hH]; exact hg j
  have hHn : H.n = h.n := by rw [← hH]
  clear hH hg
  have hcic : h.hc ic = some (5, hid + 1 + z) := by rw [CH.hc_at hc]; exact code_hid (by omega)
  have hcix : h.hc ix = none := CH.hc_at hi
  have hcn : H.hc ic = some (5, hid + 1 + z') := by
    rw [CH.hc_at (o := .row 5 patc csc ec (some (hid + 1 + z'))) (by rw [hHt, if_pos rfl])]
    exact code_hid (by omega)
  have hxn : H.hc ix = some (4, hid) := by
    rw [CH.hc_at (o := .row 4 pat cs e (some hid)) (by rw [hHt, if_neg hne, if_pos rfl])]
    exact code_hid (Nat.le_refl _)
  have hco : ∀ j, ic ≠ j → ix ≠ j → H.hc j = h.hc j := fun j h1 h2 => CH.hc_eq (by rw [hHt, if_neg h1, if_neg h2])
  have old : ∀ {j : Nat} {o : CObj}, H.t.get j = some o → ∃ o', h.t.get j = some o' := fun {j o} hj => by
    rw [hHt] at hj
    by_cases h1 : ic = j
    · subst h1; exact ⟨_, hc⟩
    · rw [if_neg h1] at hj
      by_cases h2 : ix = j
      · subst h2; exact ⟨_, hi⟩
      · rw [if_neg h2] at hj; exact ⟨_, hj⟩
  obtain ⟨g1, g2, g3, L, g4⟩ := hw.que.is ic z hcic
  have xout : ∀ d ∈ qEnt z, d / 2 ≠ ix := fun d hd e => by have := g1 d hd; rw [e, hcix] at this; cases this
  have cout : ∀ d ∈ qEnt z, d / 2 ≠ ic := fun d hd e => by
    have := g1 d hd
    rw [e, hcic] at this
    injection this with this
    injection this with this _
    omega
  obtain ⟨b, c, x, k1, k2, arr, fz, hz, rfl, k3, k4, k5⟩ := hw.obj ix _ hi
  have k4 : arr.size = 6 := k4
  refine ⟨r.le_refl, ⟨fun j o hj => ?_, fun j k o p b1 c1 d1 hj hk => ?_, by rw [hHn]; exact hw.top, hw.low, hw.pin, hw.que.change ic r.le_refl (fun j y hne' hj => ?_) (fun j y hne' hj k s hk hs => ?_) (fun y hy => ?_) (fun _ _ _ _ _ _ _ _ _ _ _ _ => .of rfl) (fun y j hy hj => ?_)⟩, Nat.le_refl _, rfl, rfl, rfl, fun _ _ _ => rfl, fun j o b1 c1 hj hr1 => ?_, by rw [hHn]; exact Nat.le_refl _, fun _ _ hx => .inl hx⟩
  · rw [hHt] at hj
    by_cases h1 : ic = j
    · rw [if_pos h1] at hj
      injection hj with hj
      subst hj h1
      obtain ⟨b1, c1, x1, m1, m2, arr1, fz1, m3, m4, m5, m6, m7⟩ := hw.obj ic _ hc
      exact ⟨b1, c1, x1, m1, m2, arr1, fz1, m3, m4, m5, .inr (by omega), m7⟩
    · rw [if_neg h1] at hj
      by_cases h2 : ix = j
      · rw [if_pos h2] at hj
        injection hj with hj
        subst hj h2
        exact ⟨b, c, _, k1, k2, arr, fz, hz, rfl, by omega, .inr (Nat.le_refl _), fun k hk => k5 k (by omega)⟩
      · rw [if_neg h2] at hj; exact hw.obj j o hj
  · obtain ⟨o1, h1⟩ := old hj
    obtain ⟨p1, h2⟩ := old hk
    exact hw.one j k o1 p1 b1 c1 d1 h1 h2
  · have h2 : ix ≠ j := by
      rintro rfl
      rw [hxn] at hj
      injection hj with hj
      injection hj with hj _
      omega
    rw [hco j (Ne.symm hne') h2] at hj
    exact hj
  · rw [hco k (by rintro rfl; rw [hcic] at hs; injection hs with hs; injection hs with _ hs; omega) (by rintro rfl; rw [hcix] at hs; cases hs)]; exact hs
  · rw [hcn] at hy
    injection hy with hy
    injection hy with _ hy
    have : z' = y := by omega
    subst this
    have hkeep : ∀ j s, h.hc j = some (s, hid) → j ≠ ic → H.hc j = some (s, hid) := fun j s hj hjc => by
      rw [hco j (Ne.symm hjc) (by rintro rfl; rw [hcix] at hj; cases hj)]; exact hj
    refine ⟨fun d hd => ?_, ?_, fun iq hq => ?_, L, ?_⟩
    · rw [hent] at hd
      rcases List.mem_cons.1 hd with rfl | hd
      · rw [half_odd]; exact hxn
      · exact hkeep _ _ (g1 d hd) (cout d hd)
    · rw [hent, List.map_cons, half_odd]
      refine List.nodup_cons.2 ⟨fun hm => ?_, g2⟩
      obtain ⟨d, hd, he⟩ := List.mem_map.1 hm
      exact xout d hd he
    · rw [hrow] at hq
      exact hkeep _ _ (g3 iq hq) (by
        rintro rfl
        have := g3 iq hq
        rw [hcic] at this
        injection this with this
        injection this with this _
        omega)
    · refine ⟨?_, ?_, fun d hd => ?_⟩
      · rw [hent, List.filter_cons, if_neg (by simp)]
        exact g4.perm
      · obtain ⟨b1, c1, arr1, e1, fz1, m1, m2, m3, m4⟩ := g4.cache
        refine ⟨b1, c1, arr1, e1, fz1, m1, m2, m3, ?_⟩
        rw [hrow]
        exact m4
      · rw [hent] at hd
        rcases List.mem_cons.1 hd with rfl | hd
        · obtain ⟨a4, v4, p1, p2, p3⟩ := k5 4 (by omega)
          rw [h4] at p1
          injection p1 with p1
          subst p1
          cases p3
          obtain ⟨a5, v5, q1, q2, q3⟩ := k5 5 (by omega)
          rw [h5] at q1
          injection q1 with q1
          subst q1
          cases q3
          exact ⟨b, c, arr, e, fz, u, -1, by rw [half_odd]; exact k1, k2, k4, p2, q2, fun _ => rfl, fun h => by omega⟩
        · exact g4.bufs d hd
  · rw [hcn] at hy
    injection hy with hy
    injection hy with _ hy
    have : z' = y := by omega
    subst this
    rcases hj with ⟨d, hd, rfl⟩ | hj
    · rw [hent] at hd
      rcases List.mem_cons.1 hd with rfl | hd
      · exact .inr (by rw [half_odd]; exact hcix)
      · exact .inl ⟨z, hcic, .inl ⟨d, hd, rfl⟩⟩
    · rw [hrow] at hj
      exact .inl ⟨z, hcic, .inr hj⟩
  · obtain ⟨o1, h1⟩ := old hj
    exact .inr ⟨j, o1, c1, h1, hr1⟩
end Go.Ex
namespace Go.Ex
open Go.Que
/-- an id's block. -/
def blk (r : Ren) (i : Nat) : Nat := ((r i).map (·.1)).getD 0
theorem blk_eq {r : Ren} {i b c : Nat} (h : r i = some (b, c)) : blk r i = b := by unfold blk; rw [h]; rfl
theorem cellW {w : World} {b k : Nat} {arr : Array Value} {e : TypeId} {fz : Nat × Nat} {v : Value} (h : w.heap[b]? = some (.cells arr e fz)) (hv : arr[k]? = some v) : w.cell? ⟨b, k, none⟩ = some v := by
  unfold World.cell?; rw [h]; simpa using hv
theorem of_cell {w : World} {b k : Nat} {v : Value} (h : w.cell? ⟨b, k, none⟩ = some v) : ∃ arr e fz, w.heap[b]? = some (.cells arr e fz) ∧ arr[k]? = some v := by
  unfold World.cell? at h
  dsimp only at h
  split at h
  · rename_i arr e fz hb
    exact ⟨arr, e, fz, hb, by simpa using h⟩
  · cases h
theorem fzW {w : World} {b k : Nat} {arr : Array Value} {e : TypeId} {fz : Nat × Nat} (h : w.heap[b]? = some (.cells arr e fz)) (hz : FzOK arr.size fz) (hk : k < arr.size) : w.frozen? ⟨b, k, none⟩ = false := by
  unfold World.frozen?
  rw [h]
  have := hz k hk
  simpa using this
/-- a hidden row of a size, in the world. -/
theorem RW.hidRow {r : Ren} {h : CH} {w : World} (hw : RW r h w) {j s x b c : Nat} (hj : h.hc j = some (s, x)) (hr : r j = some (b, c)) {arr : Array Value} {e : TypeId} {fz : Nat × Nat} (hb : w.heap[b]? = some (.cells arr e fz)) : FzOK arr.size fz := by
  obtain ⟨o, ho, hcd⟩ := CH.hc_some hj
  cases o with
  | row size pat cs el tail =>
    obtain ⟨b', c', y, k1, k2, arr', fz', k3, rfl, _⟩ := hw.obj j _ ho
    rw [hr] at k1
    injection k1 with k1
    injection k1 with k1 _
    subst k1
    rw [hb] at k2
    injection k2 with k2
    injection k2 with k2 _ k4
    rw [k2, k4]
    exact k3
  | _ => cases hcd
theorem ents_perm_len {z : Nat} {L : List Nat} (h : L.Perm (((qEnt z).filter fun d => d % 2 == 0).map (· / 2))) : L.length ≤ 400 := by
  rw [h.length_eq, List.length_map]
  exact Nat.le_trans (List.length_filter_le _ _) (ent_len z)
/-- two hidden ids of one code have two blocks. -/
theorem RW.hidNe {r : Ren} {h : CH} {w : World} (hw : RW r h w) {i j : Nat} {x y : Nat × Nat} (hi : h.hc i = some x) (hj : h.hc j = some y) (hne : i ≠ j) {b c d e : Nat} (h1 : r i = some (b, c)) (h2 : r j = some (d, e)) : b ≠ d := by
  rintro rfl
  obtain ⟨o, ho, _⟩ := CH.hc_some hi
  obtain ⟨p, hp, _⟩ := CH.hc_some hj
  exact hne (hw.one i j o p b c e ho hp h1 h2)
theorem toQS {r : Ren} {h : CH} {w : World} (hw : RW r h w) {ic z : Nat} {L : List Nat} (hic : h.hc ic = some (5, hid + 1 + z)) (hpt : ∀ iq, qRow z = iq + 1 → ∃ pat cs, h.t.get iq = some (.row 0 pat cs 252 (some hid))) (qi : QIs r h w ic z) (q : QW r w ic z L) :
    ∃ o, QS 252 (blk r) w (blk r ic) L o ∧ (o = none → qRow z = 0) ∧ (∀ b cap, o = some (b, cap) → ∃ iq cq, qRow z = iq + 1 ∧ r iq = some (b, cq)) := by
  obtain ⟨b, c, arr, e, fz, h1, h2, h3, h4⟩ := q.cache
  have hfz := hw.hidRow hic h1 h2
  have hbc := blk_eq h1
  rcases h4 with ⟨g1, g2, g3⟩ | ⟨iq, bq, cq, arrq, eq, cap, g1, g2, g3, g4, g5, g6, g7, g8⟩
  · subst g2
    exact ⟨none, ⟨by rw [hbc]; exact cellW h2 g3, by rw [hbc]; exact fzW h2 hfz (by omega), rfl⟩, fun _ => g1, fun b cap e => (by cases e)⟩
  · obtain ⟨patq, csq, hq⟩ := hpt iq g1
    have heq : eq = 252 := by
      obtain ⟨b', c', y, k1, k2, arr', fz', k3, rfl, _⟩ := hw.obj iq _ hq
      rw [g2] at k1
      injection k1 with k1
      injection k1 with k1 _
      subst k1
      rw [g3] at k2
      injection k2 with k2
      injection k2 with _ k2 _
    subst heq
    have hqh : h.hc iq = some (0, hid) := qi.row iq g1
    have hqc : iq ≠ ic := by rintro rfl; rw [hic] at hqh; injection hqh with hqh; injection hqh with hqh _; omega
    have hnd : L.Nodup := by
      rw [q.perm.nodup_iff]
      exact List.Nodup.sublist (List.Sublist.map _ List.filter_sublist) qi.once
    have mem : ∀ x ∈ L, ∃ d ∈ qEnt z, d / 2 = x ∧ d % 2 = 0 := fun x hx => by
      obtain ⟨d, hd, he⟩ := List.mem_map.1 (q.perm.mem_iff.1 hx)
      obtain ⟨hd1, hd2⟩ := List.mem_filter.1 hd
      exact ⟨d, hd1, he, by simpa using hd2⟩
    refine ⟨some (bq, cap), ⟨g5, by have := ents_perm_len q.perm; omega, by rw [hbc]; exact cellW h2 g4, by rw [hbc]; exact fzW h2 hfz (by omega), fun k x hx => ?_, ⟨arrq, g3, g6, g7⟩, by rw [hbc]; exact hw.hidNe hic hqh (Ne.symm hqc) h1 g2, fun k x hx => ?_⟩, fun e => (by cases e), fun b' cap' e => by injection e with e; injection e with e _; exact ⟨iq, cq, g1, by rw [← e]; exact g2⟩⟩
    · obtain ⟨bx, cx, m1, m2⟩ := g8 k x hx
      rw [blk_eq m1]
      exact cellW g3 m2
    · obtain ⟨d, hd, rfl, hev⟩ := mem x (List.mem_of_getElem? hx)
      obtain ⟨bx, cx, arrx, ex, fx, u, a, m1, m2, m3, m4, m5, _, m7⟩ := q.bufs d hd
      obtain ⟨k', m8, m9⟩ := m7 hev
      have hkk : k' = k := by
        have l1 := (List.getElem?_eq_some_iff.1 m8)
        have l2 := (List.getElem?_eq_some_iff.1 hx)
        obtain ⟨p1, p2⟩ := l1
        obtain ⟨p3, p4⟩ := l2
        exact (List.getElem_inj hnd).1 (p2.trans p4.symm)
      subst hkk
      have hxh := qi.ents d hd
      have hxc : d / 2 ≠ ic := by intro e; rw [e, hic] at hxh; injection hxh with hxh; injection hxh with hxh _; omega
      have hxq : d / 2 ≠ iq := by intro e; rw [e, hqh] at hxh; injection hxh with hxh; injection hxh with hxh _; omega
      have hfx := hw.hidRow hxh m1 m2
      rw [blk_eq m1]
      exact ⟨by rw [hbc]; exact hw.hidNe hxh hic hxc m1 h1, hw.hidNe hxh hqh hxq m1 g2, ⟨u, cellW m2 m4⟩, by rw [m9] at m5; exact cellW m2 m5, fzW m2 hfx (by omega)⟩
end Go.Ex
namespace Go.Ex
open Go.Que
/-! entries -/
def setE (ix : Nat) (p : Bool) (d : Nat) : Nat := if d / 2 = ix then 2 * ix + (if p then 1 else 0) else d
def evL (E : List Nat) : List Nat := (E.filter fun d => d % 2 == 0).map (· / 2)
theorem setE_half (ix : Nat) (p : Bool) (d : Nat) : setE ix p d / 2 = d / 2 := by
  unfold setE
  split
  · cases p <;> simp <;> omega
  · rfl
theorem setE_ids (ix : Nat) (p : Bool) (E : List Nat) : (E.map (setE ix p)).map (· / 2) = E.map (· / 2) := by
  rw [List.map_map]
  exact List.map_congr_left fun d _ => setE_half ix p d
theorem evL_even {d : Nat} {r : List Nat} (h : d % 2 = 0) : evL (d :: r) = d / 2 :: evL r := by
  unfold evL
  rw [List.filter_cons, if_pos (by simpa using h), List.map_cons]
theorem evL_odd {d : Nat} {r : List Nat} (h : ¬ d % 2 = 0) : evL (d :: r) = evL r := by
  unfold evL
  rw [List.filter_cons, if_neg (by simpa using h)]
theorem setE_hit {ix : Nat} {p : Bool} {d : Nat} (h : d / 2 = ix) : setE ix p d = 2 * ix + (if p then 1 else 0) := by unfold setE; rw [if_pos h]
theorem setE_miss {ix : Nat} {p : Bool} {d : Nat} (h : ¬ d / 2 = ix) : setE ix p d = d := by unfold setE; rw [if_neg h]
theorem ne_true {d ix : Nat} (h : ¬ d = ix) : decide (d ≠ ix) = true := by simpa using h
theorem ne_false {d ix : Nat} (h : d = ix) : ¬ decide (d ≠ ix) = true := by simpa using h
theorem evL_true (ix : Nat) (E : List Nat) : evL (E.map (setE ix true)) = (evL E).filter fun y => y ≠ ix := by
  induction E with
  | nil => rfl
  | cons d r ih =>
    rw [List.map_cons]
    by_cases hd : d / 2 = ix
    · rw [setE_hit hd, evL_odd (by simp), ih]
      by_cases he : d % 2 = 0
      · rw [evL_even he, List.filter_cons, if_neg (ne_false hd)]
      · rw [evL_odd he]
    · rw [setE_miss hd]
      by_cases he : d % 2 = 0
      · rw [evL_even he, evL_even he, List.filter_cons, if_pos (ne_true hd), ih]
      · rw [evL_odd he, evL_odd he, ih]
theorem evL_out {ix : Nat} {E : List Nat} (h : ix ∉ E.map (· / 2)) (p : Bool) : E.map (setE ix p) = E ∧ ix ∉ evL E := by
  refine ⟨?_, fun hm => ?_⟩
  · conv => rhs; rw [← List.map_id E]
    refine List.map_congr_left fun d hd => ?_
    unfold setE
    rw [if_neg fun e => h (List.mem_map.2 ⟨d, hd, e⟩)]
    rfl
  · obtain ⟨d, hd, he⟩ := List.mem_map.1 hm
    exact h (List.mem_map.2 ⟨d, (List.mem_filter.1 hd).1, he⟩)
theorem evL_false {ix : Nat} {E : List Nat} (hn : (E.map (· / 2)).Nodup) (h : ix ∈ E.map (· / 2)) : (evL (E.map (setE ix false))).Perm (ix :: (evL E).filter fun y => y ≠ ix) := by
  induction E with
  | nil => cases h
  | cons d r ih =>
    rw [List.map_cons] at hn h
    obtain ⟨h1, h2⟩ := List.nodup_cons.1 hn
    by_cases hd : d / 2 = ix
    · obtain ⟨e1, e2⟩ := evL_out (E := r) (ix := ix) (by rw [← hd]; exact h1) false
      have e5 : (evL r).filter (fun y => y ≠ ix) = evL r := filter_out e2
      have e4 : (evL (d :: r)).filter (fun y => y ≠ ix) = evL r := by
        by_cases he : d % 2 = 0
        · rw [evL_even he, List.filter_cons, if_neg (ne_false hd)]; exact e5
        · rw [evL_odd he]; exact e5
      rw [e4, List.map_cons, e1, setE_hit hd, evL_even (by simp)]
      simp
    · have hr : ix ∈ r.map (· / 2) := by
        rcases List.mem_cons.1 h with h | h
        · exact absurd h.symm hd
        · exact h
      have := ih h2 hr
      rw [List.map_cons, setE_miss hd]
      by_cases he : d % 2 = 0
      · rw [evL_even he, evL_even he, List.filter_cons, if_pos (ne_true hd)]
        exact (this.cons _).trans (.swap _ _ _)
      · rw [evL_odd he, evL_odd he]
        exact this
theorem pin_ents {ix : Nat} {p : Bool} {E L L' : List Nat} (hn : (E.map (· / 2)).Nodup) (h : ix ∈ E.map (· / 2)) (hL : L.Perm (evL E)) (hP : PinL p ix L L') : L'.Perm (evL (E.map (setE ix p))) := by
  have hf : (L.filter fun y => y ≠ ix).Perm ((evL E).filter fun y => y ≠ ix) := hL.filter _
  cases p with
  | true =>
    unfold PinL at hP
    rw [if_pos rfl] at hP
    rw [evL_true]
    exact hP.trans hf
  | false =>
    unfold PinL at hP
    rw [if_neg (by simp)] at hP
    exact (hP.trans (hf.cons ix)).trans (evL_false hn h).symm
/-! what may change, by ids -/
theorem _root_.Go.Que.Mod.same {T : Nat → Nat → Prop} {w w' : World} (h : Mod T w w') {b : Nat} (hb : b < w.heap.size) (hn : ∀ k, ¬ T b k) : w'.heap[b]? = w.heap[b]? := by
  cases hx : w.heap[b]? with
  | none => rw [Array.getElem?_eq_none_iff] at hx; omega
  | some x =>
    cases x with
    | cells arr e fz =>
      obtain ⟨arr', h1, h2, h3⟩ := h.cells b arr e fz ⟨0, hn 0⟩ hx
      rw [h1]
      have : arr' = arr := Array.ext_getElem? fun k => h3 k (hn k)
      rw [this]
    | _ => rw [h.other b ⟨0, hn 0⟩ hb (by rw [hx]; intro a e f he; cases he)]; exact hx
theorem RO_mod {T : Nat → Nat → Prop} {w w' : World} (hm : Mod T w w') {r : Ren} {c b : Nat} {o : CObj} {x : Obj} (hx : w.heap[b]? = some x) (ho : RO r c o x) (hrow : ∀ size pat cs e t, o = .row size pat cs e t → (∃ k, ¬ T b k) ∧ ∀ k, k < size → ¬ T b k) (hoth : (∀ size pat cs e t, o ≠ .row size pat cs e t) → ∀ k, ¬ T b k) : ∃ x', w'.heap[b]? = some x' ∧ RO r c o x' := by
  cases o with
  | row size pat cs e t =>
    obtain ⟨arr, fz, h1, rfl, h2, h3, h4⟩ := ho
    obtain ⟨g1, g2⟩ := hrow _ _ _ _ _ rfl
    obtain ⟨arr', k1, k2, k3⟩ := hm.cells b arr e fz g1 hx
    exact ⟨_, k1, arr', fz, by rw [k2]; exact h1, rfl, by rw [k2]; exact h2, by rw [k2]; exact h3, fun i hi => by rw [k3 i (g2 i hi)]; exact h4 i hi⟩
  | _ => exact ⟨x, by rw [hm.same (Array.getElem?_eq_some_iff.1 hx).1 (hoth (by intro _ _ _ _ _ he; cases he))]; exact hx, ho⟩
theorem TailEq_same {w w' : World} {b s : Nat} (h : w'.heap[b]? = w.heap[b]?) : TailEq w w' b s := .of h
end Go.Ex
namespace Go.Ex
open Go.Que
theorem pin_nx {r : Ren} {h : CH} {w w' : World} (hw : RW r h w) {ic ix z : Nat} {patc pat : Array Value} {csc cs : Tr Value} {ec e : TypeId}
    (hc : h.t.get ic = some (.row 5 patc csc ec (some (hid + 1 + z)))) (hx : h.t.get ix = some (.row 4 pat cs e (some hid))) (hin : ix ∈ (qEnt z).map (· / 2)) (hn : h.n + 1 < 2 ^ 39) (hpt : ∀ iq, qRow z = iq + 1 → ∃ pat cs, h.t.get iq = some (.row 0 pat cs 252 (some hid)))
    {p : Bool} {L L' : List Nat} {o o' : Option (Nat × Nat)} (qi : QIs r h w ic z) (qw : QW r w ic z L) (ho1 : o = none → qRow z = 0) (ho2 : ∀ b cap, o = some (b, cap) → ∃ iq cq, qRow z = iq + 1 ∧ r iq = some (b, cq))
    (hQ : QS 252 (blk r) w' (blk r ic) L' o') (hP : PinL p ix L L') (hR : Row w o o') (hx3 : w'.cell? ⟨blk r ix, 3, none⟩ = some (.bool p)) (hm1 : p = true → w'.cell? ⟨blk r ix, 5, none⟩ = some (.int .i64 (-1))) (hoo : (p = true ∨ ix ∈ L) → o' = o)
    {a2 v2 : Value} (hc2 : w'.cell? ⟨blk r ic, 2, none⟩ = some v2) (hv2 : RV r a2 v2) (hx4 : ∃ u, w'.cell? ⟨blk r ix, 4, none⟩ = some (.int .i64 u)) (hM : Mod (TN (blk r) L (blk r ic) o ix) w w')
    {H : CH} {push : Bool} (hpush : push = (!p && decide (2 * ix + 1 ∈ qEnt z))) (hHn : H.n = if push = true then h.n + 1 else h.n)
    (hH : ∀ j, H.t.get j = if j = ic then some (.row 5 patc (csc.set 2 a2) ec (some (hid + 1 + enc (if push = true then h.n + 1 else qRow z) ((qEnt z).map (setE ix p))))) else if j = ix then some (.row 4 pat (cs.set 3 (.bool p)) e (some hid)) else if push = true ∧ j = h.n then some (.row 0 #[] .lf 252 (some hid)) else if push = true ∧ qRow z = j + 1 then none else h.t.get j) :
    ∃ r', Nx r h w r' H w' := by
  have hcic : h.hc ic = some (5, hid + 1 + z) := by rw [CH.hc_at hc]; exact code_hid (by omega)
  have hcix : h.hc ix = some (4, hid) := by rw [CH.hc_at hx]; exact code_hid (Nat.le_refl _)
  have hcx : ic ≠ ix := by rintro rfl; rw [hcic] at hcix; injection hcix with hcix; injection hcix with hcix _; omega
  obtain ⟨bc, cc, xc, c1, c2, arrc, fzc, c3, rfl, c4, c5, c6⟩ := hw.obj ic _ hc
  obtain ⟨bx, cx, xx, x1, x2, arrx, fzx, x3, rfl, x4, x5, x6⟩ := hw.obj ix _ hx
  have ebc := blk_eq c1
  have ebx := blk_eq x1
  rw [ebc] at hQ hc2
  rw [ebx] at hx3 hm1 hx4
  -- the ids of the buffers
  have hnd := qi.once
  have Lmem : ∀ y ∈ L, ∃ d ∈ qEnt z, d / 2 = y ∧ d % 2 = 0 := fun y hy => by
    obtain ⟨d, hd, he⟩ := List.mem_map.1 (qw.perm.mem_iff.1 hy)
    obtain ⟨hd1, hd2⟩ := List.mem_filter.1 hd
    exact ⟨d, hd1, he, by simpa using hd2⟩
  have Lhc : ∀ y ∈ L, h.hc y = some (4, hid) := fun y hy => by
    obtain ⟨d, hd, he, _⟩ := Lmem y hy
    rw [← he]; exact qi.ents d hd
  have inj : ∀ d ∈ qEnt z, ∀ d' ∈ qEnt z, d / 2 = d' / 2 → d = d' := by
    have : ∀ E : List Nat, (E.map (· / 2)).Nodup → ∀ d ∈ E, ∀ d' ∈ E, d / 2 = d' / 2 → d = d' := fun E => by
      induction E with
      | nil => intro _ d hd; cases hd
      | cons a r ih =>
        intro hnd d hd d' hd' he
        rw [List.map_cons] at hnd
        obtain ⟨h1, h2⟩ := List.nodup_cons.1 hnd
        rcases List.mem_cons.1 hd with hk | hk
        · rcases List.mem_cons.1 hd' with hk' | hk'
          · rw [hk, hk']
          · exact absurd (List.mem_map.2 ⟨d', hk', by rw [← he, hk]⟩) h1
        · rcases List.mem_cons.1 hd' with hk' | hk'
          · exact absurd (List.mem_map.2 ⟨d, hk, by rw [he, hk']⟩) h1
          · exact ih h2 d hk d' hk' he
    exact this _ hnd
  have oddL : ∀ d ∈ qEnt z, d % 2 = 1 → d / 2 ∉ L := fun d hd ho hm => by
    obtain ⟨d', hd', he, hev⟩ := Lmem _ hm
    have := inj d hd d' hd' he.symm
    omega
  have evenL : ∀ d ∈ qEnt z, d % 2 = 0 → d / 2 ∈ L := fun d hd he => qw.perm.mem_iff.2 (List.mem_map.2 ⟨d, List.mem_filter.2 ⟨hd, by simpa using he⟩, rfl⟩)
  have hperm' := pin_ents hnd hin qw.perm hP
  -- what may change
  have touch : ∀ j b c k, (∃ q, h.t.get j = some q) → r j = some (b, c) → TN (blk r) L (blk r ic) o ix b k → (j = ic ∧ (k = 5 ∨ k = 2)) ∨ (j = ix ∧ (k = 3 ∨ k = 4 ∨ k = 5)) ∨ (j ∈ L ∧ k = 5) ∨ qRow z = j + 1 := fun j b c k ⟨q, hj⟩ hb ht => by
    have cid : b = blk r ic → j = ic := fun e => by rw [ebc] at e; subst e; exact hw.one j ic q _ _ _ _ hj hc hb c1
    have xid : b = blk r ix → j = ix := fun e => by rw [ebx] at e; subst e; exact hw.one j ix q _ _ _ _ hj hx hb x1
    rcases ht with ((⟨e, hk⟩ | ⟨y, hy, e, hk⟩ | ⟨cap, ho⟩) | ⟨e, hk⟩) | ⟨e, hk⟩ | ⟨e, hk⟩
    · exact .inl ⟨cid e, .inl hk⟩
    · rcases List.mem_cons.1 hy with rfl | hy
      · exact .inr (.inl ⟨xid e, .inr (.inr hk)⟩)
      · obtain ⟨oy, gy, _⟩ := CH.hc_some (Lhc y hy)
        obtain ⟨by', cy, _, y1, _⟩ := hw.obj y oy gy
        rw [blk_eq y1] at e
        subst e
        have := hw.one j y q oy _ _ _ hj gy hb y1
        subst this
        exact .inr (.inr (.inl ⟨hy, hk⟩))
    · obtain ⟨iq, cq, g1, g2⟩ := ho2 b cap ho
      obtain ⟨oq, gq, _⟩ := CH.hc_some (qi.row iq g1)
      have := hw.one j iq q oq _ _ _ hj gq hb g2
      subst this
      exact .inr (.inr (.inr g1))
    · exact .inr (.inl ⟨xid e, .inl hk⟩)
    · exact .inr (.inl ⟨xid e, .inr (.inl hk)⟩)
    · exact .inl ⟨cid e, .inr hk⟩
  have still : ∀ b, b < w.heap.size → (∀ i q c, h.t.get i = some q → r i ≠ some (b, c)) → w'.heap[b]? = w.heap[b]? := fun b hb hno => hM.same hb fun k ht => by
    rcases ht with ((⟨e, _⟩ | ⟨y, hy, e, _⟩ | ⟨cap, ho⟩) | ⟨e, _⟩) | ⟨e, _⟩ | ⟨e, _⟩
    · exact hno ic _ cc hc (by rw [c1, e, ebc])
    · rcases List.mem_cons.1 hy with rfl | hy
      · exact hno _ _ cx hx (by rw [x1, e, ebx])
      · obtain ⟨oy, gy, _⟩ := CH.hc_some (Lhc y hy)
        obtain ⟨by', cy, _, y1, _⟩ := hw.obj y oy gy
        exact hno y oy cy gy (by rw [y1, e, blk_eq y1])
    · obtain ⟨iq, cq, g1, g2⟩ := ho2 b cap ho
      obtain ⟨oq, gq, _⟩ := CH.hc_some (qi.row iq g1)
      exact hno iq oq cq gq g2
    · exact hno ix _ cx hx (by rw [x1, e, ebx])
    · exact hno ix _ cx hx (by rw [x1, e, ebx])
    · exact hno ic _ cc hc (by rw [c1, e, ebc])
  have hqne : ∀ iq, qRow z = iq + 1 → iq ≠ ic ∧ iq ≠ ix ∧ iq ∉ L := fun iq hq => by
    have h0 := qi.row iq hq
    refine ⟨?_, ?_, fun hm => ?_⟩
    · rintro rfl; rw [hcic] at h0; injection h0 with h0; injection h0 with h0 _; omega
    · rintro rfl; rw [hcix] at h0; injection h0 with h0; injection h0 with h0 _; omega
    · rw [Lhc iq hm] at h0; injection h0 with h0; injection h0 with h0 _; omega
  have hnone : h.t.get h.n = none := by
    cases hg : h.t.get h.n with
    | none => rfl
    | some q =>
      obtain ⟨b, c, _, k1, _⟩ := hw.obj _ q hg
      have := hw.top _ _ k1
      omega
  have hicn : ic ≠ h.n := by rintro e; rw [e, hnone] at hc; cases hc
  have hixn : ix ≠ h.n := by rintro e; rw [e, hnone] at hx; cases hx
  -- the row
  have hrowN : push = true → ∃ bq cap, o' = some (bq, cap) ∧ ((∃ cap, o = some (bq, cap)) ∨ w.heap.size ≤ bq) := fun hp => by
    rw [hp] at hpush
    have hpf : p = false := by
      cases p with
      | false => rfl
      | true => exact absurd (show true = false from hpush) (by decide)
    have hix' : ix ∈ L' := by
      unfold PinL at hP
      rw [hpf, if_neg (by simp)] at hP
      exact hP.mem_iff.2 (List.mem_cons_self ..)
    rcases hR with h1 | h1
    · cases o with
      | none =>
        subst h1
        rw [hQ.2.2] at hix'
        cases hix'
      | some y => exact ⟨y.1, y.2, h1, .inl ⟨y.2, rfl⟩⟩
    · exact h1
  have hrowO : ¬ push = true → o' = o := fun hp => hoo (by
    cases p with
    | true => exact .inl rfl
    | false =>
      obtain ⟨d, hd, he⟩ := List.mem_map.1 hin
      refine .inr ?_
      by_cases hev : d % 2 = 0
      · rw [← he]; exact evenL d hd hev
      · exfalso
        apply hp
        rw [hpush]
        have : d = 2 * ix + 1 := by omega
        rw [this] at hd
        simp [hd])
  obtain ⟨r', hle, rold, rnew⟩ : ∃ r' : Ren, r.le r' ∧ (∀ j x, r' j = some x → r j = some x ∨ (push = true ∧ j = h.n ∧ ∃ cap, o' = some (x.1, cap))) ∧ (push = true → ∃ b cap, o' = some (b, cap) ∧ r' h.n = some (b, cap)) := by
    by_cases hp : push = true
    · obtain ⟨bq, cap, h1, _⟩ := hrowN hp
      refine ⟨r.put h.n (bq, cap), Ren.put_le hw.fresh, fun j x hj => ?_, fun _ => ⟨bq, cap, h1, Ren.put_at⟩⟩
      unfold Ren.put at hj
      by_cases hjn : j = h.n
      · rw [if_pos hjn] at hj
        injection hj with hj
        exact .inr ⟨hp, hjn, cap, by rw [← hj]; exact h1⟩
      · rw [if_neg hjn] at hj; exact .inl hj
    · exact ⟨r, r.le_refl, fun j x hj => .inl hj, fun h => absurd h hp⟩
  have rblk : ∀ j x, r j = some x → blk r j = blk r' j := fun j x hj => by unfold blk; rw [hj, hle _ _ hj]
  -- objects of the end
  have Hget : ∀ j q, H.t.get j = some q → (j = ic ∧ q = .row 5 patc (csc.set 2 a2) ec (some (hid + 1 + enc (if push = true then h.n + 1 else qRow z) ((qEnt z).map (setE ix p))))) ∨ (j = ix ∧ q = .row 4 pat (cs.set 3 (.bool p)) e (some hid)) ∨ (push = true ∧ j = h.n ∧ q = .row 0 #[] .lf 252 (some hid)) ∨ (j ≠ ic ∧ j ≠ ix ∧ (push = true → qRow z ≠ j + 1) ∧ h.t.get j = some q) := fun j q hj => by
    rw [hH] at hj
    by_cases h1 : j = ic
    · rw [if_pos h1] at hj; injection hj with hj; exact .inl ⟨h1, hj.symm⟩
    · rw [if_neg h1] at hj
      by_cases h2 : j = ix
      · rw [if_pos h2] at hj; injection hj with hj; exact .inr (.inl ⟨h2, hj.symm⟩)
      · rw [if_neg h2] at hj
        by_cases h3 : push = true ∧ j = h.n
        · rw [if_pos h3] at hj; injection hj with hj; exact .inr (.inr (.inl ⟨h3.1, h3.2, hj.symm⟩))
        · rw [if_neg h3] at hj
          by_cases h4 : push = true ∧ qRow z = j + 1
          · rw [if_pos h4] at hj; cases hj
          · rw [if_neg h4] at hj; exact .inr (.inr (.inr ⟨h1, h2, fun hp hq => h4 ⟨hp, hq⟩, hj⟩))
  have hbq : ∀ b cap, o' = some (b, cap) → push = true → (∃ iq cq, qRow z = iq + 1 ∧ r iq = some (b, cq)) ∨ w.heap.size ≤ b := fun b cap ho hp => by
    obtain ⟨bq, cap', h1, h2⟩ := hrowN hp
    rw [ho] at h1
    injection h1 with h1
    injection h1 with h1 _
    subst h1
    exact h2.imp (fun ⟨cap, h3⟩ => ho2 b cap h3) id
  have Qrow : ∀ b cap, o' = some (b, cap) → Q 252 (blk r) w' bc L' b cap := fun b cap ho => by rw [ho] at hQ; exact hQ
  have objOK : ∀ j q, H.t.get j = some q → ∃ b c x, r' j = some (b, c) ∧ w'.heap[b]? = some x ∧ RO r' c q x := fun j q hj => by
    rcases Hget j q hj with ⟨rfl, rfl⟩ | ⟨rfl, rfl⟩ | ⟨hp, rfl, rfl⟩ | ⟨h1, h2, h3, h4⟩
    · obtain ⟨arr', m1, m2, m3⟩ := hM.cells bc arrc ec fzc ⟨0, fun ht => by
        rcases touch j bc cc 0 ⟨_, hc⟩ c1 ht with ⟨_, h⟩ | ⟨h, _⟩ | ⟨h, _⟩ | h
        · omega
        · exact hcx h
        · have := Lhc _ h; rw [hcic] at this; injection this with this; injection this with this _; omega
        · exact (hqne j h).1 rfl⟩ c2
      refine ⟨bc, cc, _, hle _ _ c1, m1, arr', fzc, by rw [m2]; exact c3, rfl, by rw [m2]; exact c4, .inr (by omega), fun k hk => ?_⟩
      rw [CObj.at_set (by decide)]
      by_cases hk2 : 2 = k
      · subst hk2
        rw [if_pos rfl]
        obtain ⟨arr2, e2, fz2, n1, n2⟩ := of_cell hc2
        rw [m1] at n1
        injection n1 with n1
        injection n1 with n1 _ _
        exact ⟨a2, v2, rfl, by rw [n1]; exact n2, hv2.mono hle⟩
      · rw [if_neg hk2, m3 k fun ht => by
          rcases touch j bc cc k ⟨_, hc⟩ c1 ht with ⟨_, h⟩ | ⟨h, _⟩ | ⟨h, _⟩ | h
          · omega
          · exact hcx h
          · have := Lhc _ h; rw [hcic] at this; injection this with this; injection this with this _; omega
          · exact (hqne j h).1 rfl]
        obtain ⟨a, b, n1, n2, n3⟩ := c6 k hk
        exact ⟨a, b, n1, n2, n3.mono hle⟩
    · obtain ⟨arr', m1, m2, m3⟩ := hM.cells bx arrx e fzx ⟨0, fun ht => by
        rcases touch j bx cx 0 ⟨_, hx⟩ x1 ht with ⟨h, _⟩ | ⟨_, h⟩ | ⟨_, h⟩ | h
        · exact hcx h.symm
        · omega
        · omega
        · exact (hqne j h).2.1 rfl⟩ x2
      refine ⟨bx, cx, _, hle _ _ x1, m1, arr', fzx, by rw [m2]; exact x3, rfl, by rw [m2]; exact x4, .inr (Nat.le_refl _), fun k hk => ?_⟩
      rw [CObj.at_set (by decide)]
      by_cases hk3 : 3 = k
      · subst hk3
        rw [if_pos rfl]
        obtain ⟨arr2, e2, fz2, n1, n2⟩ := of_cell hx3
        rw [m1] at n1
        injection n1 with n1
        injection n1 with n1 _ _
        exact ⟨_, _, rfl, by rw [n1]; exact n2, .bool p⟩
      · rw [if_neg hk3, m3 k fun ht => by
          rcases touch j bx cx k ⟨_, hx⟩ x1 ht with ⟨h, _⟩ | ⟨_, h⟩ | ⟨_, h⟩ | h
          · exact hcx h.symm
          · omega
          · omega
          · exact (hqne j h).2.1 rfl]
        obtain ⟨a, b, n1, n2, n3⟩ := x6 k hk
        exact ⟨a, b, n1, n2, n3.mono hle⟩
    · obtain ⟨b, cap, h1, h2⟩ := rnew hp
      obtain ⟨cur, g1, g2, g3⟩ := (Qrow b cap h1).room
      exact ⟨b, cap, _, h2, g1, cur, (0, 0), FzOK.none _, rfl, Nat.zero_le _, .inr (Nat.le_refl _), fun i hi => absurd hi (Nat.not_lt_zero _)⟩
    · obtain ⟨b, c, x, k1, k2, k3⟩ := hw.obj j q h4
      have hnq : qRow z ≠ j + 1 ∨ ¬ push = true := by
        by_cases hp : push = true
        · exact .inl (h3 hp)
        · exact .inr hp
      by_cases hjq : qRow z = j + 1
      · -- the row, where nothing new comes in
        have hp : ¬ push = true := hnq.elim (fun h => absurd hjq h) id
        have ho := hrowO hp
        obtain ⟨pq, csq, hq'⟩ := hpt j hjq
        rw [hq'] at h4
        injection h4 with h4
        subst h4
        cases ho' : o' with
        | none =>
          have := ho1 (by rw [← ho]; exact ho')
          omega
        | some y =>
          obtain ⟨iq, cq, g1, g2⟩ := ho2 y.1 y.2 (by rw [← ho, ho'])
          have : iq = j := by omega
          subst this
          rw [k1] at g2
          injection g2 with g2
          injection g2 with g2 _
          obtain ⟨cur, n1, n2, n3⟩ := (Qrow y.1 y.2 ho').room
          exact ⟨b, c, _, hle _ _ k1, by rw [g2]; exact n1, cur, (0, 0), FzOK.none _, rfl, Nat.zero_le _, .inr (Nat.le_refl _), fun i hi => absurd hi (Nat.not_lt_zero _)⟩
      · obtain ⟨x', m1, m2⟩ := RO_mod hM k2 k3 (fun size pat1 cs1 e1 t1 hq => by
          subst hq
          refine ⟨⟨0, fun ht => ?_⟩, fun k hk ht => ?_⟩
          · rcases touch j b c 0 ⟨_, h4⟩ k1 ht with ⟨h, _⟩ | ⟨h, _⟩ | ⟨_, h⟩ | h
            · exact h1 h
            · exact h2 h
            · omega
            · exact hjq h
          · rcases touch j b c k ⟨_, h4⟩ k1 ht with ⟨h, _⟩ | ⟨h, _⟩ | ⟨hm, h⟩ | h
            · exact h1 h
            · exact h2 h
            · have := Lhc j hm
              rw [CH.hc_at h4] at this
              have := code_size this
              omega
            · exact hjq h) (fun hno k ht => by
          rcases touch j b c k ⟨_, h4⟩ k1 ht with ⟨h, _⟩ | ⟨h, _⟩ | ⟨hm, _⟩ | h
          · exact h1 h
          · exact h2 h
          · have := Lhc j hm
            rw [CH.hc_at h4] at this
            cases q with
            | row size pat1 cs1 e1 t1 => exact hno _ _ _ _ _ rfl
            | _ => cases this
          · exact hjq h)
        exact ⟨b, c, x', hle _ _ k1, m1, m2.mono hle⟩
  have oldH : ∀ j q, H.t.get j = some q → ((∃ q', h.t.get j = some q') ∧ (push = true → qRow z ≠ j + 1)) ∨ (push = true ∧ j = h.n) := fun j q hj => by
    rcases Hget j q hj with ⟨rfl, _⟩ | ⟨rfl, _⟩ | ⟨hp, h1, _⟩ | ⟨_, _, h3, h4⟩
    · exact .inl ⟨⟨_, hc⟩, fun _ hq => (hqne j hq).1 rfl⟩
    · exact .inl ⟨⟨_, hx⟩, fun _ hq => (hqne j hq).2.1 rfl⟩
    · exact .inr ⟨hp, h1⟩
    · exact .inl ⟨⟨_, h4⟩, h3⟩
  have rback : ∀ j x q', h.t.get j = some q' → r' j = some x → r j = some x := fun j x q' hj hr => (rold j x hr).elim id fun ⟨_, h2, _⟩ => by rw [h2, hnone] at hj; cases hj
  have newB : push = true → ∀ b d, r' h.n = some (b, d) → ∃ cap, o' = some (b, cap) := fun hp b d hr => by
    rcases rold h.n (b, d) hr with h1 | ⟨_, _, h3⟩
    · have := hw.top _ _ h1; omega
    · exact h3
  have mixed : ∀ j q' b c d, push = true → h.t.get j = some q' → qRow z ≠ j + 1 → r' j = some (b, c) → r' h.n = some (b, d) → False := fun j q' b c d hp hj hq h1 h2 => by
    have h3 := rback j _ q' hj h1
    obtain ⟨cap, h4⟩ := newB hp b d h2
    rcases hbq b cap h4 hp with ⟨iq, cq, g1, g2⟩ | h5
    · obtain ⟨oq, gq, _⟩ := CH.hc_some (qi.row iq g1)
      have := hw.one j iq q' oq _ _ _ hj gq h3 g2
      exact hq (by rw [this]; exact g1)
    · have := hw.low j b c h3
      omega
  have one : ∀ i j q s b c d, H.t.get i = some q → H.t.get j = some s → r' i = some (b, c) → r' j = some (b, d) → i = j := fun i j q s b c d hi hj h1 h2 => by
    rcases oldH i q hi with ⟨⟨qi', gi⟩, ni⟩ | ⟨hp, e1⟩
    · rcases oldH j s hj with ⟨⟨qj', gj⟩, nj⟩ | ⟨hp, e2⟩
      · exact hw.one i j qi' qj' b c d gi gj (rback i _ _ gi h1) (rback j _ _ gj h2)
      · subst e2; exact (mixed i qi' b c d hp gi (ni hp) h1 h2).elim
    · rcases oldH j s hj with ⟨⟨qj', gj⟩, nj⟩ | ⟨_, e2⟩
      · subst e1; exact (mixed j qj' b d c hp gj (nj hp) h2 h1).elim
      · rw [e1, e2]
  have alive : ∀ b cap, o' = some (b, cap) → b < w'.heap.size := fun b cap ho => by
    obtain ⟨cur, g1, _⟩ := (Qrow b cap ho).room
    exact (Array.getElem?_eq_some_iff.1 g1).1
  have hpin : PinOK r' w' := fun y hy => by
    obtain ⟨⟨cs1, t1, fz1, h1, h2⟩, h3⟩ := hw.pin y hy
    have hlt := (Array.getElem?_eq_some_iff.1 h1).1
    refine ⟨⟨cs1, t1, fz1, by rw [still y.1 hlt fun i q c _ => h3 i c]; exact h1, h2⟩, fun i c hi => ?_⟩
    rcases rold i _ hi with h4 | ⟨hp, _, cap, h4⟩
    · exact h3 i c h4
    · rcases hbq _ cap h4 hp with ⟨iq, cq, _, g2⟩ | h5
      · exact h3 iq cq g2
      · dsimp only at h5; omega
  -- codes
  have hents : ∀ d ∈ (qEnt z).map (setE ix p), d + 1 < 2 ^ 42 := fun d hd => by
    obtain ⟨d0, hd0, rfl⟩ := List.mem_map.1 hd
    have := ent_lt z d0 hd0
    unfold setE
    split
    · have h9 := hw.top ix _ x1
      cases p <;> simp <;> omega
    · exact this
  have hqn : (if push = true then h.n + 1 else qRow z) < 2 ^ 41 := by
    split
    · omega
    · exact row_lt z
  generalize hz' : enc (if push = true then h.n + 1 else qRow z) ((qEnt z).map (setE ix p)) = z' at Hget
  have eEnt : qEnt z' = (qEnt z).map (setE ix p) := by rw [← hz']; exact enc_ent hqn hents (by rw [List.length_map]; exact ent_len z)
  have eRow : qRow z' = if push = true then h.n + 1 else qRow z := by rw [← hz']; exact enc_row hqn
  have Hcic : H.hc ic = some (5, hid + 1 + z') := by
    have := hH ic
    rw [if_pos rfl, hz'] at this
    rw [CH.hc_at this]
    exact code_hid (by omega)
  have Hcix : H.hc ix = some (4, hid) := by
    have := hH ix
    rw [if_neg (Ne.symm hcx), if_pos rfl] at this
    rw [CH.hc_at this]
    exact code_hid (Nat.le_refl _)
  have Hco : ∀ j, j ≠ ic → j ≠ ix → j ≠ h.n → qRow z ≠ j + 1 → H.hc j = h.hc j := fun j h1 h2 h3 h4 => CH.hc_eq (by rw [hH, if_neg h1, if_neg h2, if_neg (fun e => h3 e.2), if_neg (fun e => h4 e.2)])
  have Hrow : ∀ iq, qRow z' = iq + 1 → H.hc iq = some (0, hid) ∧ ∀ b cap, o' = some (b, cap) → ∃ cq, r' iq = some (b, cq) := fun iq hq => by
    rw [eRow] at hq
    by_cases hp : push = true
    · rw [if_pos hp] at hq
      have : iq = h.n := by omega
      subst this
      have h1 := hH h.n
      rw [if_neg (Ne.symm hicn), if_neg (Ne.symm hixn), if_pos ⟨hp, rfl⟩] at h1
      refine ⟨by rw [CH.hc_at h1]; exact code_hid (Nat.le_refl _), fun b cap ho => ?_⟩
      obtain ⟨b1, cap1, g1, g2⟩ := rnew hp
      rw [ho] at g1
      injection g1 with g1
      injection g1 with g1 _
      exact ⟨cap1, by rw [g1]; exact g2⟩
    · rw [if_neg hp] at hq
      obtain ⟨n1, n2, _⟩ := hqne iq hq
      have h1 := hH iq
      rw [if_neg n1, if_neg n2, if_neg (fun e => hp e.1), if_neg (fun e => hp e.1)] at h1
      refine ⟨by rw [CH.hc_eq h1]; exact qi.row iq hq, fun b cap ho => ?_⟩
      rw [hrowO hp] at ho
      obtain ⟨iq', cq, g1, g2⟩ := ho2 b cap ho
      have : iq' = iq := by omega
      subst this
      exact ⟨cq, hle _ _ g2⟩
  have idsIn : ∀ y ∈ L', ∃ d ∈ qEnt z, d / 2 = y := fun y hy => by
    obtain ⟨d, hd, he⟩ := List.mem_map.1 (hperm'.mem_iff.1 hy)
    obtain ⟨d0, hd0, rfl⟩ := List.mem_map.1 (List.mem_filter.1 hd).1
    exact ⟨d0, hd0, by rw [← he, setE_half]⟩
  have idBlk : ∀ d ∈ qEnt z, ∃ b c, r (d / 2) = some (b, c) := fun d hd => by
    obtain ⟨b, c, _, _, _, _, _, h1, _⟩ := qw.bufs d hd
    exact ⟨b, c, h1⟩
  refine ⟨r', hle, ⟨objOK, one, fun i x hi => ?_, fun i b c hi => ?_, hpin, hw.que.change ic hle (fun i y hne hi => ?_) (fun i y hne hi j s hj hs => ?_) (fun y hy => ?_) (fun i y hne hi j s x b c hj hs hb => ?_) (fun y j hy hj => ?_)⟩, hM.size, hM.os, hM.tape, hM.output, still, fun j q b c hj hr => ?_, ?_, fun j x hj => ?_⟩
  · rw [hHn]
    rcases rold i x hi with h1 | ⟨hp, h2, _⟩
    · have := hw.top i x h1
      split <;> omega
    · rw [if_pos hp]; omega
  · rcases rold i _ hi with h1 | ⟨_, _, cap, h3⟩
    · exact Nat.lt_of_lt_of_le (hw.low i b c h1) hM.size
    · exact alive b cap h3
  · have h1 : i ≠ ix := by rintro rfl; rw [Hcix] at hi; injection hi with hi; injection hi with hi _; omega
    by_cases h3 : i = h.n
    · subst h3
      by_cases hp : push = true
      · have h9 := hH h.n
        rw [if_neg (Ne.symm hicn), if_neg (Ne.symm hixn), if_pos ⟨hp, rfl⟩] at h9
        rw [CH.hc_at h9] at hi
        have := code_size hi
        omega
      · have h9 := hH h.n
        rw [if_neg (Ne.symm hicn), if_neg (Ne.symm hixn), if_neg (fun e => hp e.1), if_neg (fun e => hp e.1), hnone] at h9
        rw [CH.hc_no h9] at hi
        cases hi
    · by_cases h4 : qRow z = i + 1
      · exfalso
        by_cases hp : push = true
        · have h9 := hH i
          rw [if_neg hne, if_neg h1, if_neg (fun e => h3 e.2), if_pos ⟨hp, h4⟩] at h9
          rw [CH.hc_no h9] at hi
          cases hi
        · have h9 := hH i
          rw [if_neg hne, if_neg h1, if_neg (fun e => hp e.1), if_neg (fun e => hp e.1)] at h9
          rw [CH.hc_eq h9, qi.row i h4] at hi
          injection hi with hi
          injection hi with hi _
          omega
      · rw [Hco i hne h1 h3 h4] at hi
        exact hi
  · have two := fun (h1 : qIn z j) => hne (hw.que.two i y ic z j hi hcic hj h1)
    have h1 : j ≠ ic := by rintro rfl; rw [hcic] at hs; injection hs with hs; injection hs with _ hs; omega
    have h2 : j ≠ ix := by
      rintro rfl
      obtain ⟨d, hd, he⟩ := List.mem_map.1 hin
      exact two (.inl ⟨d, hd, he⟩)
    have h3 : j ≠ h.n := by rintro rfl; rw [CH.hc_no hnone] at hs; cases hs
    rw [Hco j h1 h2 h3 fun e => two (.inr e)]
    exact hs
  · rw [Hcic] at hy
    injection hy with hy
    injection hy with _ hy
    have : z' = y := by omega
    subst this
    refine ⟨fun d hd => ?_, by rw [eEnt, setE_ids]; exact hnd, fun iq hq => (Hrow iq hq).1, L', ?_⟩
    · rw [eEnt] at hd
      obtain ⟨d0, hd0, rfl⟩ := List.mem_map.1 hd
      rw [setE_half]
      by_cases h2 : d0 / 2 = ix
      · rw [h2]; exact Hcix
      · have h0 := qi.ents d0 hd0
        rw [Hco _ (by intro e; rw [e, hcic] at h0; injection h0 with h0; injection h0 with h0 _; omega) h2 (by intro e; rw [e, CH.hc_no hnone] at h0; cases h0) fun e => by rw [qi.row _ e] at h0; injection h0 with h0; injection h0 with h0 _; omega]
        exact h0
    · refine ⟨by rw [eEnt]; exact hperm', ?_, fun d hd => ?_⟩
      · obtain ⟨b1, c1', xo, o1, o2, arr', fz', o3, o4, o5, o6, _⟩ := objOK ic _ (by have := hH ic; rw [if_pos rfl] at this; exact this)
        rw [hle _ _ c1] at o1
        injection o1 with o1
        injection o1 with o1 o1'
        subst o1 o1' o4
        have hsz : arr'.size = 6 := by
          obtain ⟨b2, c2', arr2, e2, fz2, m1, m2, m3, _⟩ := qw.cache
          rw [c1] at m1
          injection m1 with m1
          injection m1 with m1 _
          subst m1
          obtain ⟨arr3, n1, n2, _⟩ := hM.cells bc arr2 e2 fz2 ⟨0, fun ht => by
            rcases touch ic bc cc 0 ⟨_, hc⟩ c1 ht with ⟨_, h⟩ | ⟨h, _⟩ | ⟨h, _⟩ | h
            · omega
            · exact hcx h
            · have := Lhc _ h; rw [hcic] at this; injection this with this; injection this with this _; omega
            · exact (hqne ic h).1 rfl⟩ m2
          rw [o2] at n1
          injection n1 with n1
          injection n1 with n1 _ _
          rw [n1, n2, m3]
        refine ⟨bc, cc, arr', ec, fz', hle _ _ c1, o2, hsz, ?_⟩
        cases ho' : o' with
        | none =>
          rw [ho'] at hQ
          obtain ⟨q1, _, q3⟩ := hQ
          refine .inl ⟨?_, q3, ?_⟩
          · have hp : ¬ push = true := fun hp => by
              obtain ⟨bq, cap, e, _⟩ := hrowN hp
              rw [ho'] at e
              cases e
            rw [eRow, if_neg hp]
            exact ho1 (by rw [← hrowO hp]; exact ho')
          · obtain ⟨arr2, e2, fz2, n1, n2⟩ := of_cell q1
            rw [o2] at n1
            injection n1 with n1
            injection n1 with n1 _ _
            rw [n1]; exact n2
        | some y =>
          have hq := Qrow y.1 y.2 ho'
          obtain ⟨cur, g1, g2, g3⟩ := hq.room
          obtain ⟨iq, hiq⟩ : ∃ iq, qRow z' = iq + 1 := by
            rw [eRow]
            by_cases hp : push = true
            · rw [if_pos hp]; exact ⟨_, rfl⟩
            · rw [if_neg hp]
              obtain ⟨iq, _, g, _⟩ := ho2 y.1 y.2 (by rw [← hrowO hp]; exact ho')
              exact ⟨iq, g⟩
          obtain ⟨cq, hrq⟩ := (Hrow iq hiq).2 y.1 y.2 ho'
          refine .inr ⟨iq, y.1, cq, cur, 252, y.2, hiq, hrq, g1, ?_, hq.len, g2, g3, fun k x hk => ?_⟩
          · obtain ⟨arr2, e2, fz2, n1, n2⟩ := of_cell hq.free
            rw [o2] at n1
            injection n1 with n1
            injection n1 with n1 _ _
            rw [n1]; exact n2
          · obtain ⟨d, hd, rfl⟩ := idsIn x (List.mem_of_getElem? hk)
            obtain ⟨b, c, hb⟩ := idBlk d hd
            refine ⟨b, c, hle _ _ hb, ?_⟩
            have := hq.row k _ hk
            rw [blk_eq hb] at this
            obtain ⟨arr2, e2, fz2, n1, n2⟩ := of_cell this
            rw [g1] at n1
            injection n1 with n1
            injection n1 with n1 _ _
            rw [n1]; exact n2
      · rw [eEnt] at hd
        obtain ⟨d0, hd0, rfl⟩ := List.mem_map.1 hd
        obtain ⟨b, c, arr, e1, fz, u, a, m1, m2, m3, m4, m5, m6, m7⟩ := qw.bufs d0 hd0
        have hobj : ∃ q, h.t.get (d0 / 2) = some q := by
          obtain ⟨q, hq, _⟩ := CH.hc_some (qi.ents d0 hd0)
          exact ⟨q, hq⟩
        have hdc : d0 / 2 ≠ ic := fun e => by have h0 := qi.ents d0 hd0; rw [e, hcic] at h0; injection h0 with h0; injection h0 with h0 _; omega
        have hdq : qRow z ≠ d0 / 2 + 1 := fun e => by have h0 := qi.ents d0 hd0; rw [qi.row _ e] at h0; injection h0 with h0; injection h0 with h0 _; omega
        obtain ⟨arr', n1, n2, n3⟩ := hM.cells b arr e1 fz ⟨0, fun ht => by
          rcases touch _ b c 0 hobj m1 ht with ⟨h, _⟩ | ⟨_, h⟩ | ⟨_, h⟩ | h
          · exact hdc h
          · omega
          · omega
          · exact hdq h⟩ m2
        have inQ : ∀ y, y ∈ L' → y = d0 / 2 → ∃ k, L'[k]? = some (d0 / 2) ∧ arr'[5]? = some (.int .i64 ((k : Nat) : Int)) ∧ ∃ u, arr'[4]? = some (.int .i64 u) := fun y hy e => by
          subst e
          obtain ⟨k, hk⟩ := List.getElem?_of_mem hy
          cases ho' : o' with
          | none => rw [ho'] at hQ; rw [hQ.2.2] at hy; cases hy
          | some y' =>
            obtain ⟨_, _, ⟨u', z3⟩, z4, _⟩ := (Qrow y'.1 y'.2 ho').bufs k _ hk
            rw [blk_eq m1] at z3 z4
            obtain ⟨arr2, e2, fz2, p1, p2⟩ := of_cell z4
            obtain ⟨arr3, e3, fz3, p3, p4⟩ := of_cell z3
            rw [n1] at p1 p3
            injection p1 with p1
            injection p1 with p1 _ _
            injection p3 with p3
            injection p3 with p3 _ _
            exact ⟨k, hk, by rw [p1]; exact p2, u', by rw [p3]; exact p4⟩
        rw [setE_half]
        by_cases h2 : d0 / 2 = ix
        · have hbx : b = bx := by
            rw [h2, x1] at m1
            injection m1 with m1
            injection m1 with m1 _
            exact m1.symm
          subst hbx
          obtain ⟨u', hu'⟩ := hx4
          obtain ⟨arr2, e2, fz2, p1, p2⟩ := of_cell hu'
          rw [n1] at p1
          injection p1 with p1
          injection p1 with p1 _ _
          rw [setE_hit h2]
          cases hp' : p with
          | true =>
            obtain ⟨arr3, e3, fz3, p3, p4⟩ := of_cell (hm1 hp')
            rw [n1] at p3
            injection p3 with p3
            injection p3 with p3 _ _
            exact ⟨b, c, arr', e1, fz, u', -1, hle _ _ m1, n1, by rw [n2]; exact m3, by rw [p1]; exact p2, by rw [p3]; exact p4, fun _ => rfl, fun h => by simp at h⟩
          | false =>
            have hixL : ix ∈ L' := by
              unfold PinL at hP
              rw [hp', if_neg (by simp)] at hP
              exact hP.mem_iff.2 (List.mem_cons_self ..)
            obtain ⟨k, k1, k2, _⟩ := inQ ix hixL h2.symm
            exact ⟨b, c, arr', e1, fz, u', k, hle _ _ m1, n1, by rw [n2]; exact m3, by rw [p1]; exact p2, k2, fun h => by simp at h, fun _ => ⟨k, k1, rfl⟩⟩
        · rw [setE_miss h2]
          by_cases hev : d0 % 2 = 0
          · have hmL := evenL d0 hd0 hev
            have hmL' : d0 / 2 ∈ L' := hperm'.mem_iff.2 (List.mem_map.2 ⟨d0, List.mem_filter.2 ⟨List.mem_map.2 ⟨d0, hd0, setE_miss h2⟩, by simpa using hev⟩, rfl⟩)
            obtain ⟨k, k1, k2, u', k3⟩ := inQ _ hmL' rfl
            exact ⟨b, c, arr', e1, fz, u', k, hle _ _ m1, n1, by rw [n2]; exact m3, k3, k2, fun h => by omega, fun _ => ⟨k, k1, rfl⟩⟩
          · have hmL := oddL d0 hd0 (by omega)
            have same : ∀ k, arr'[k]? = arr[k]? := fun k => n3 k fun ht => by
              rcases touch _ b c k hobj m1 ht with ⟨h, _⟩ | ⟨h, _⟩ | ⟨h, _⟩ | h
              · exact hdc h
              · exact h2 h
              · exact hmL h
              · exact hdq h
            exact ⟨b, c, arr', e1, fz, u, a, hle _ _ m1, n1, by rw [n2]; exact m3, by rw [same]; exact m4, by rw [same]; exact m5, m6, fun h => absurd h hev⟩
  · have two := fun (k : Nat) (h0 : qIn y k) (h1 : qIn z k) => hne (hw.que.two i y ic z k hi hcic h0 h1)
    obtain ⟨q, gq, _⟩ := CH.hc_some hs
    refine .of (hM.same (hw.low j b c hb) fun k ht => ?_)
    have hji : j ≠ ic := by
      rcases hj with rfl | hj
      · exact hne
      · rintro rfl
        obtain ⟨s', h0⟩ := (hw.que.is i y hi).in hj
        rw [hcic] at h0
        injection h0 with h0
        injection h0 with _ h0
        omega
    have nin : ∀ s', h.hc j = some (s', hid) → qIn z j → False := fun s' h0 h1 => by
      rcases hj with rfl | hj
      · rw [hi] at h0
        injection h0 with h0
        injection h0 with _ h0
        omega
      · exact two j hj h1
    rcases touch j b c k ⟨q, gq⟩ hb ht with ⟨h, _⟩ | ⟨h, _⟩ | ⟨h, _⟩ | h
    · exact hji h
    · obtain ⟨d, hd, he⟩ := List.mem_map.1 hin
      exact nin 4 (by rw [h]; exact hcix) (.inl ⟨d, hd, by rw [h]; exact he⟩)
    · obtain ⟨d, hd, he, _⟩ := Lmem j h
      exact nin 4 (Lhc j h) (.inl ⟨d, hd, he⟩)
    · exact nin 0 (qi.row j h) (.inr h)
  · rw [Hcic] at hy
    injection hy with hy
    injection hy with _ hy
    have : z' = y := by omega
    subst this
    rcases hj with ⟨d, hd, rfl⟩ | hj
    · rw [eEnt] at hd
      obtain ⟨d0, hd0, rfl⟩ := List.mem_map.1 hd
      exact .inl ⟨z, hcic, .inl ⟨d0, hd0, by rw [setE_half]⟩⟩
    · rw [eRow] at hj
      by_cases hp : push = true
      · rw [if_pos hp] at hj
        have : j = h.n := by omega
        exact .inr (by rw [this]; exact CH.hc_no hnone)
      · rw [if_neg hp] at hj
        exact .inl ⟨z, hcic, .inr hj⟩
  · rcases oldH j q hj with ⟨⟨q', gq⟩, _⟩ | ⟨hp, e1⟩
    · exact .inr ⟨j, q', c, gq, rback j _ _ gq hr⟩
    · subst e1
      obtain ⟨cap, h4⟩ := newB hp b c hr
      rcases hbq b cap h4 hp with ⟨iq, cq, g1, g2⟩ | h5
      · obtain ⟨oq, gq, _⟩ := CH.hc_some (qi.row iq g1)
        exact .inr ⟨iq, oq, cq, gq, g2⟩
      · exact .inl h5
  · rw [hHn]; split <;> omega
  · rcases rold j x hj with h1 | ⟨_, h2, _⟩
    · exact .inl h1
    · exact .inr (by omega)
end Go.Ex
namespace Go.Ex
open Go.Que
variable {ρ : Env}
noncomputable section
def forceN (z : Nat) (k : Nat → Bool) : Bool := Nat.rec (motive := fun _ => Bool) (k 0) (fun n _ => k (Nat.succ n)) z
def rowK (o : O) (k : Nat → N (N V) → TypeId → Option Nat → Bool) : Bool := O.rec (motive := fun _ => Bool) false (fun _ _ => false) k (fun _ _ _ _ _ _ => false) (fun _ _ _ _ => false) (fun _ _ => false) (fun _ _ _ _ => false) (fun _ _ _ => false) o
def num64 (v : V) : Bool := V.onI v (fun k _ => kindE k .i64) (fun k _ => kindE k .i64)
/-- the cache's row is hidden, if it isn't yet. -/
def hideCK (ic : Id) (l : H) (k : Nat → H → Bool) : Bool := rowK (HT.at l.t ic) fun s c e t => Option.rec (motive := fun _ => Bool)
  (Bool.rec (motive := fun _ => Bool) false (HT.putK l.t ic (.row 5 c e (some 4611686018427387905)) fun t => k 0 ⟨t, l.n⟩) (Bool.and (Nat.beq s 6) (V.alike (O.get (HT.at l.t ic) 5) .nslc)))
  (fun z => Bool.rec (motive := fun _ => Bool) false (forceN (Nat.sub z 4611686018427387905) fun z => k z l) (Bool.and (Nat.beq s 5) (Nat.blt 4611686018427387904 z))) t
/-- the buffer's row is hidden, if it isn't yet. -/
def hideBK (ic ix : Id) (z : Nat) (l : H) (k : Nat → H → Bool) : Bool := rowK (HT.at l.t ix) fun s c e t => Option.rec (motive := fun _ => Bool)
  (Bool.rec (motive := fun _ => Bool) false (rowK (HT.at l.t ic) fun _ c2 e2 _ => forceN (enc (qRow z) ((2 * ix.nat + 1) :: qEnt z)) fun z1 => forceN (Nat.add 4611686018427387905 z1) fun zz =>
      HT.putK l.t ix (.row 4 c e (some 4611686018427387904)) fun t => HT.putK t ic (.row 5 c2 e2 (some zz)) fun t => k z1 ⟨t, l.n⟩)
    (Bool.and (Bool.and (Nat.beq s 6) (Nat.blt (qEnt z).length 390)) (Bool.and (V.alike (O.get (HT.at l.t ix) 5) (.neg .i64 0)) (num64 (O.get (HT.at l.t ix) 4)))))
  (fun zb => Bool.rec (motive := fun _ => Bool) false (k z l) (Bool.and (Nat.beq s 4) (Nat.beq zb 4611686018427387904))) t
end
theorem forceN_eq (z : Nat) (k : Nat → Bool) : forceN z k = k z := by cases z <;> rfl
theorem rowK_ok {o : O} {k : Nat → N (N V) → TypeId → Option Nat → Bool} (h : rowK o k = true) : ∃ s c e t, o = .row s c e t ∧ k s c e t = true := by
  cases o <;> first | exact ⟨_, _, _, _, rfl, h⟩ | cases h
theorem num64_ok {v : V} (h : num64 v = true) : ∃ n, v.val ρ = .int .i64 n := by
  rcases V.onI_ok h with ⟨k, n, rfl, h1⟩ | ⟨k, n, rfl, h1⟩
  · rw [kindBeq k .i64 (kindE_eq h1)]; exact ⟨_, rfl⟩
  · rw [kindBeq k .i64 (kindE_eq h1)]; exact ⟨_, rfl⟩
/-- a cache's row. -/
def IsC (h : CH) (ic z : Nat) : Prop := ∃ pat cs e, h.t.get ic = some (.row 5 pat cs e (some (hid + 1 + z)))
def IsB (h : CH) (ix : Nat) : Prop := ∃ pat cs e, h.t.get ix = some (.row 4 pat cs e (some hid))
theorem id9 (i : Id) : i.nat < 2 ^ 39 := Nat.lt_trans i.nat_lt (by decide)
theorem hideCK_ok {ic : Id} {l : H} {k : Nat → H → Bool} (h : hideCK ic l k = true) : ∃ z l1, k z l1 = true ∧ ∀ hh, HR ρ l hh → ∃ h1, HR ρ l1 h1 ∧ IsC h1 ic.nat z ∧ h1.n = hh.n ∧ ∀ r w, RW r hh w → Nx r hh w r h1 w := by
  obtain ⟨s, c, e, t, ho, h⟩ := rowK_ok h
  have ho : l.t.at ic = .row s c e t := ho
  cases t with
  | none =>
    obtain ⟨h1, h2⟩ := brec_if h
    obtain ⟨h3, h4⟩ := andB_ok h1
    have h3 := beq_ok h3
    subst h3
    have h4 : (l.t.at ic).get 5 = .nslc := V.alike_ok h4
    rw [HT.putK_eq] at h2
    refine ⟨0, _, h2, fun hh hr => ?_⟩
    obtain ⟨pat, cs, g1, g2⟩ := hr.row (i := ic) (by rw [ho]; rfl)
    rw [ho] at g1
    have g5 := g2 5 (by rw [ho]; show 5 < 6; omega)
    rw [h4] at g5
    have hor : OR ρ (.row 5 c e (some 4611686018427387905)) (.row 5 pat cs e (some (hid + 1 + 0))) := ⟨rfl, pat, cs, rfl, fun i hi => by
      have hi : i < 5 := hi
      have := g2 i (by rw [ho]; show i < 6; omega)
      rw [ho] at this
      exact this⟩
    refine ⟨_, hr.put hor, ⟨pat, cs, e, by dsimp only; rw [Tr.get_set (id9 ic), if_pos rfl]⟩, rfl, fun r w hW => hW.hideC g1 (id9 ic) g5⟩
  | some z =>
    obtain ⟨h1, h2⟩ := brec_if h
    obtain ⟨h3, h4⟩ := andB_ok h1
    have h3 := beq_ok h3
    subst h3
    rw [Nat.blt_eq] at h4
    rw [forceN_eq] at h2
    refine ⟨_, l, h2, fun hh hr => ?_⟩
    obtain ⟨pat, cs, g1, g2⟩ := hr.row (i := ic) (by rw [ho]; rfl)
    rw [ho] at g1
    have e1 : hid + 1 + Nat.sub z 4611686018427387905 = z := by
      have h9 : hid = 4611686018427387904 := rfl
      have h8 : Nat.sub z 4611686018427387905 = z - 4611686018427387905 := rfl
      rw [h8]
      omega
    exact ⟨hh, hr, ⟨pat, cs, e, by rw [e1]; exact g1⟩, rfl, fun r w hW => Nx.refl hW⟩
theorem hideBK_ok {ic ix : Id} {z : Nat} {l : H} {k : Nat → H → Bool} (h : hideBK ic ix z l k = true) : ∃ z1 l1, k z1 l1 = true ∧ ∀ hh, HR ρ l hh → IsC hh ic.nat z → ∃ h1, HR ρ l1 h1 ∧ IsC h1 ic.nat z1 ∧ IsB h1 ix.nat ∧ h1.n = hh.n ∧ ∀ r w, RW r hh w → Nx r hh w r h1 w := by
  obtain ⟨s, c, e, t, ho, h⟩ := rowK_ok h
  have ho : l.t.at ix = .row s c e t := ho
  cases t with
  | none =>
    obtain ⟨h1, h2⟩ := brec_if h
    obtain ⟨h3, h4⟩ := andB_ok h1
    obtain ⟨h5, h6⟩ := andB_ok h3
    obtain ⟨h7, h8⟩ := andB_ok h4
    have h5 := beq_ok h5
    subst h5
    rw [Nat.blt_eq] at h6
    have h7 : (l.t.at ix).get 5 = .neg .i64 0 := V.alike_ok h7
    obtain ⟨s2, c2, e2, t2, hoc, h2⟩ := rowK_ok h2
    have hoc : l.t.at ic = .row s2 c2 e2 t2 := hoc
    rw [forceN_eq, forceN_eq, HT.putK_eq, HT.putK_eq] at h2
    refine ⟨_, _, h2, fun hh hr ⟨patc, csc, ec, hc⟩ => ?_⟩
    obtain ⟨pat, cs, g1, g2⟩ := hr.row (i := ix) (by rw [ho]; rfl)
    rw [ho] at g1
    have g5 := g2 5 (by rw [ho]; show 5 < 6; omega)
    rw [h7] at g5
    obtain ⟨u, hu⟩ := num64_ok (ρ := ρ) h8
    have g4 := g2 4 (by rw [ho]; show 4 < 6; omega)
    have hu : ((l.t.at ix).get 4).val ρ = .int .i64 u := hu
    rw [hu] at g4
    have hor : OR ρ (.row 4 c e (some 4611686018427387904)) (.row 4 pat cs e (some hid)) := ⟨rfl, pat, cs, rfl, fun i hi => by
      have hi : i < 4 := hi
      have := g2 i (by rw [ho]; show i < 6; omega)
      rw [ho] at this
      exact this⟩
    obtain ⟨patc2, csc2, f1, f2⟩ := hr.row (i := ic) (by rw [hoc]; rfl)
    rw [hc] at f1
    injection f1 with f1
    rw [hoc] at f1
    injection f1 with f1 f3 f4 f5 f6
    have f1 : 5 = s2 := f1
    have f5 : ec = e2 := f5
    subst f1 f3 f4 f5
    have horc : OR ρ (.row 5 c2 ec (some (Nat.add 4611686018427387905 (enc (qRow z) ((2 * ix.nat + 1) :: qEnt z))))) (.row 5 patc csc ec (some (hid + 1 + enc (qRow z) ((2 * ix.nat + 1) :: qEnt z)))) := ⟨rfl, patc, csc, rfl, fun i hi => by
      have hi : i < 5 := hi
      have := f2 i (by rw [hoc]; show i < 5; omega)
      rw [hoc] at this
      exact this⟩
    have hne : ic.nat ≠ ix.nat := by
      intro e
      rw [e, g1] at hc
      injection hc with hc
      injection hc with hc
      cases hc
    refine ⟨_, (hr.put hor).put horc, ⟨patc, csc, ec, by dsimp only; rw [Tr.get_set (id9 ic), if_pos rfl]⟩, ⟨pat, cs, e, by dsimp only; rw [Tr.get_set (id9 ic), if_neg hne, Tr.get_set (id9 ix), if_pos rfl]⟩, rfl, fun r w hW => hW.hideB hc g1 (id9 ic) (id9 ix) g4 g5 (by omega)⟩
  | some zb =>
    obtain ⟨h1, h2⟩ := brec_if h
    obtain ⟨h3, h4⟩ := andB_ok h1
    have h3 := beq_ok h3
    have h4 := beq_ok h4
    subst h3 h4
    refine ⟨_, l, h2, fun hh hr hc => ?_⟩
    obtain ⟨pat, cs, g1, g2⟩ := hr.row (i := ix) (by rw [ho]; rfl)
    rw [ho] at g1
    exact ⟨hh, hr, hc, ⟨pat, cs, e, g1⟩, rfl, fun r w hW => Nx.refl hW⟩
end Go.Ex
namespace Go.Ex
open Go.Que Go.Proofs Go.Proofs.YtfmjhleccnmhkaaGreat
variable {ρ : Env}
noncomputable section
def tickK (clk : Bool) (v : V) (k : V → Bool) : Bool := Bool.rec (motive := fun _ => Bool) (k v) (V.onI v (fun kd m => Bool.rec (motive := fun _ => Bool) false (forceN (Nat.succ m) fun m => k (.int .i64 m)) (Bool.and (kindE kd .i64) (Nat.blt m 4611686018427387904))) (fun _ _ => false)) clk
def rowB (z : Nat) (t : HT) : Bool := Bool.or (Nat.beq (qRow z) 0) (Bool.and (Nat.beq (q (Nat.sub (qRow z) 1)).nat (Nat.sub (qRow z) 1)) (Nat.beq (O.elem (HT.at t (q (Nat.sub (qRow z) 1)))) 252))
def delRow (z : Nat) (t : HT) (k : HT → Bool) : Bool := Bool.rec (motive := fun _ => Bool) (HT.putK t (q (Nat.sub (qRow z) 1)) .no k) (k t) (Nat.beq (qRow z) 0)
def pushB (pb : Bool) (ix z : Nat) : Bool := Bool.and (Bool.not pb) ((qEnt z).any fun d => Nat.beq d (2 * ix + 1))
def qmain (clk pb : Bool) (ic ix : Id) (z : Nat) (l : H) (k : H → Bool) : Bool :=
  rowK (HT.at l.t ic) fun _ c2 e2 _ => rowK (HT.at l.t ix) fun _ c1 e1 _ => Bool.rec (motive := fun _ => Bool) false
    (tickK clk (O.get (HT.at l.t ic) 2) fun a2 => forceN (Nat.add 4611686018427387905 (enc (Bool.rec (motive := fun _ => Nat) (qRow z) (Nat.succ l.n.nat) (pushB pb ix.nat z)) ((qEnt z).map (setE ix.nat pb)))) fun zz =>
      O.setK (.row 5 c2 e2 (some zz)) 2 a2 fun oc => O.setK (.row 4 c1 e1 (some 4611686018427387904)) 3 (.bool pb) fun ox => Bool.rec (motive := fun _ => Bool)
        (HT.putK l.t ic oc fun t => HT.putK t ix ox fun t => k ⟨t, l.n⟩)
        (delRow z l.t fun t => HT.putK t ic oc fun t => HT.putK t ix ox fun t => newK ⟨t, l.n⟩ (rowOf 0 .nil 252 (some 4611686018427387904)) fun _ l => k l)
        (pushB pb ix.nat z))
    (Bool.and (rowB z l.t) ((qEnt z).any fun d => Nat.beq (d / 2) ix.nat))
def qC (clk : Bool) : CF := ⟨fun _ _ args l k => V.onCo args (fun a r => V.onCo r (fun b r => V.onCo r (fun p r => V.onCo r (fun _ _ => false) (V.onP a fun ic oc => V.onP b fun ix ox => V.onB p fun pb => Bool.rec (motive := fun _ => Bool) false
  (hideCK ic l fun z l => hideBK ic ix z l fun z l => qmain clk pb ic ix z l fun l => k (.tup .nil) l) (Bool.and (Nat.beq oc 0) (Nat.beq ox 0)))) false) false) false⟩
end
theorem tickK_ok {clk : Bool} {v : V} {k : V → Bool} (h : tickK clk v k = true) : ∃ a, k a = true ∧ ((clk = false ∧ a = v) ∨ (clk = true ∧ ∃ m, m < 4611686018427387904 ∧ v = .int .i64 m ∧ a = .int .i64 (m + 1))) := by
  cases clk with
  | false => exact ⟨v, h, .inl ⟨rfl, rfl⟩⟩
  | true =>
    rcases V.onI_ok h with ⟨kd, m, rfl, h1⟩ | ⟨_, _, _, h1⟩
    · obtain ⟨h2, h3⟩ := brec_if h1
      obtain ⟨h4, h5⟩ := andB_ok h2
      rw [Nat.blt_eq] at h5
      rw [forceN_eq] at h3
      exact ⟨_, h3, .inr ⟨rfl, m, h5, by rw [kindBeq kd .i64 (kindE_eq h4)], rfl⟩⟩
    · cases h1
/-- what a walk of use, or of pin, says. -/
def QWalk (fn : FuncId) (clk : Bool) : Prop := ∀ {f : Nat → Nat} {w : World} {c : Nat} {L : List Nat} {o : Option (Nat × Nat)} {x : Nat} {u : Int} {p : Bool} {v2 : Value}, QS 252 f w c L o → At f w L x → L.length + 1 < 1000000 → f x ≠ c → (∀ cap, o ≠ some (f x, cap)) → (∀ cap, o ≠ some (c, cap)) → (∀ y ∈ L, y ≠ x → f y ≠ f x) →
  w.cell? ⟨f x, 4, none⟩ = some (.int .i64 u) → w.frozen? ⟨f x, 4, none⟩ = false → w.frozen? ⟨f x, 5, none⟩ = false → (∃ v, w.cell? ⟨f x, 3, none⟩ = some v) → w.frozen? ⟨f x, 3, none⟩ = false → w.cell? ⟨c, 2, none⟩ = some v2 → w.frozen? ⟨c, 2, none⟩ = false → (clk = true → ∃ m : Nat, m < 4611686018427387904 ∧ v2 = .int .i64 m) →
  Calls Tryz.prog fn #[.pointer (some ⟨c, 0, none⟩), .pointer (some ⟨f x, 0, none⟩), .bool p] w fun e w' => e = .returned (.tuple #[]) ∧ ∃ L' o', QS 252 f w' c L' o' ∧ PinL p x L L' ∧ Row w o o' ∧ w'.cell? ⟨f x, 3, none⟩ = some (.bool p) ∧ (p = true → w'.cell? ⟨f x, 5, none⟩ = some (.int .i64 (-1))) ∧ ((p = true ∨ x ∈ L) → o' = o) ∧
    (∃ v, w'.cell? ⟨c, 2, none⟩ = some v ∧ (clk = false → v = v2) ∧ (∀ m : Nat, clk = true → v2 = .int .i64 m → v = .int .i64 (m + 1 : Nat))) ∧ (∃ u, w'.cell? ⟨f x, 4, none⟩ = some (.int .i64 u)) ∧ Mod (TN f L c o x) w w'
theorem use_q : QWalk 157 true := fun {f w c L o x u p v2} h1 h2 h3 h4 h5 h6 h7 h8 h9 h10 h11 h12 h13 h14 h15 => by
  obtain ⟨m, hm, rfl⟩ := h15 rfl
  refine (use_walk h1 h2 h3 h4 h5 h6 h7 h8 h9 h10 h11 h12 hm h13 h14).mono ?_
  rintro e w' ⟨rfl, L', o', k1, k2, k3, k4, _, k6, k7, k8, k9, k10⟩
  have hmm : ∀ m' : Nat, true = true → Value.int .i64 (m : Int) = .int .i64 (m' : Int) → Value.int .i64 ((m + 1 : Nat) : Int) = .int .i64 ((m' + 1 : Nat) : Int) := fun m' _ e => by
    injection e with _ e
    have : m = m' := by omega
    rw [this]
  exact ⟨rfl, L', o', k1, k2, k3, k4, k6, k7, ⟨_, k8, fun e => (by cases e), hmm⟩, k9, k10⟩
theorem pin_q : QWalk 166 false := fun {f w c L o x u p v2} h1 h2 h3 h4 h5 h6 h7 h8 h9 h10 h11 h12 h13 h14 _ => by
  refine (pin_walk h1 h2 h3 h4 h5 h7 h8 h10 h11 h12).mono ?_
  rintro e w' ⟨rfl, L', o', k1, k2, k3, k4, _, k6, k7, k8⟩
  have hc2 : ¬ TM f L c o x c 2 := fun e => by
    rcases e with (⟨_, e⟩ | ⟨_, _, _, e⟩ | ⟨cap, e⟩) | ⟨_, e⟩
    · cases e
    · cases e
    · exact h6 cap e
    · cases e
  have hx4 : ¬ TM f L c o x (f x) 4 := fun e => by
    rcases e with (⟨_, e⟩ | ⟨_, _, _, e⟩ | ⟨cap, e⟩) | ⟨_, e⟩
    · cases e
    · cases e
    · exact h5 cap e
    · cases e
  exact ⟨rfl, L', o', k1, k2, k3, k4, k6, k7, ⟨_, k8.cell h13 hc2, fun _ => rfl, fun m e => (by cases e)⟩, ⟨u, k8.cell h8 hx4⟩, k8.mono fun b k h => .inl h⟩
/-- where a cache and a buffer are hidden: the walk, in memory's words. -/
theorem q_step {fn : FuncId} {clk : Bool} (hwalk : QWalk fn clk) {h : CH} {ic ix z : Nat} {patc pat : Array Value} {csc cs : Tr Value} {ec e : TypeId} (hc : h.t.get ic = some (.row 5 patc csc ec (some (hid + 1 + z)))) (hx : h.t.get ix = some (.row 4 pat cs e (some hid))) (hin : ix ∈ (qEnt z).map (· / 2)) (hn : h.n + 1 < 2 ^ 39)
    (hpt : ∀ iq, qRow z = iq + 1 → ∃ pat cs, h.t.get iq = some (.row 0 pat cs 252 (some hid))) {p : Bool} {a b : Value} (ha : CObj.at patc csc 2 = some a) (hab : (clk = false ∧ b = a) ∨ (clk = true ∧ ∃ m : Nat, m < 4611686018427387904 ∧ a = .int .i64 m ∧ b = .int .i64 (m + 1 : Nat)))
    {H : CH} {push : Bool} (hpush : push = (!p && decide (2 * ix + 1 ∈ qEnt z))) (hHn : H.n = if push = true then h.n + 1 else h.n)
    (hH : ∀ j, H.t.get j = if j = ic then some (.row 5 patc (csc.set 2 b) ec (some (hid + 1 + enc (if push = true then h.n + 1 else qRow z) ((qEnt z).map (setE ix p))))) else if j = ix then some (.row 4 pat (cs.set 3 (.bool p)) e (some hid)) else if push = true ∧ j = h.n then some (.row 0 #[] .lf 252 (some hid)) else if push = true ∧ qRow z = j + 1 then none else h.t.get j)
    {r : Ren} {w : World} (hw : RW r h w) {bc cc bx cx : Nat} (hrc : r ic = some (bc, cc)) (hrx : r ix = some (bx, cx)) :
    Calls Tryz.prog fn #[.pointer (some ⟨bc, 0, none⟩), .pointer (some ⟨bx, 0, none⟩), .bool p] w fun e w' => e = .returned (.tuple #[]) ∧ ∃ r', Nx r h w r' H w' := by
  have hcic : h.hc ic = some (5, hid + 1 + z) := by rw [CH.hc_at hc]; exact code_hid (by omega)
  have hcix : h.hc ix = some (4, hid) := by rw [CH.hc_at hx]; exact code_hid (Nat.le_refl _)
  have hcx : ix ≠ ic := by rintro rfl; rw [hcic] at hcix; injection hcix with hcix; injection hcix with hcix _; omega
  have qi := hw.que.is ic z hcic
  obtain ⟨L, qw⟩ := qi.world
  obtain ⟨o, hQ, ho1, ho2⟩ := toQS hw hcic hpt qi qw
  have ebc := blk_eq hrc
  have ebx := blk_eq hrx
  obtain ⟨d, hd, rfl⟩ := List.mem_map.1 hin
  obtain ⟨bx', cx', arr, e1, fz, u, a5, m1, m2, m3, m4, m5, m6, m7⟩ := qw.bufs d hd
  rw [hrx] at m1
  injection m1 with m1
  injection m1 with m1 _
  subst m1
  have hfz := hw.hidRow hcix hrx m2
  obtain ⟨bc', cc', arrc, e2, fz2, n1, n2, n3, _⟩ := qw.cache
  rw [hrc] at n1
  injection n1 with n1
  injection n1 with n1 _
  subst n1
  have hfz2 := hw.hidRow hcic hrc n2
  obtain ⟨v2, hv2⟩ : ∃ v, arrc[2]? = some v := ⟨arrc[2]'(by omega), Array.getElem?_eq_getElem _⟩
  have hrv : RV r a v2 := by
    obtain ⟨b1, c1, x1, k1, k2, arr1, fz1, k3, rfl, k4, k5, k6⟩ := hw.obj ic _ hc
    rw [hrc] at k1
    injection k1 with k1
    injection k1 with k1 _
    subst k1
    rw [n2] at k2
    injection k2 with k2
    injection k2 with k2 _ _
    obtain ⟨a', b', g1, g2, g3⟩ := k6 2 (by omega)
    rw [ha] at g1
    injection g1 with g1
    subst g1
    rw [← k2, hv2] at g2
    injection g2 with g2
    rw [g2]; exact g3
  obtain ⟨v3, hv3⟩ : ∃ v, arr[3]? = some v := ⟨arr[3]'(by omega), Array.getElem?_eq_getElem _⟩
  have Lh : ∀ y ∈ L, ∃ d' ∈ qEnt z, d' / 2 = y ∧ d' % 2 = 0 := fun y hy => by
    obtain ⟨d', hd', he⟩ := List.mem_map.1 (qw.perm.mem_iff.1 hy)
    obtain ⟨hd1, hd2⟩ := List.mem_filter.1 hd'
    exact ⟨d', hd1, he, by simpa using hd2⟩
  have hat : At (blk r) w L (d / 2) := by
    by_cases hev : d % 2 = 0
    · obtain ⟨k, hk, _⟩ := m7 hev
      exact .inl ⟨k, hk⟩
    · refine .inr ⟨fun hm => ?_, by rw [ebx, ← m6 (by omega)]; exact cellW m2 m5⟩
      obtain ⟨d', hd', he, hev'⟩ := Lh _ hm
      have : ∀ E : List Nat, (E.map (· / 2)).Nodup → d ∈ E → d' ∈ E → d' = d := fun E => by
        induction E with
        | nil => intro _ h1; cases h1
        | cons y rr ih =>
          intro hnd h1 h2
          rw [List.map_cons] at hnd
          obtain ⟨q1, q2⟩ := List.nodup_cons.1 hnd
          rcases List.mem_cons.1 h1 with hk | hk
          · rcases List.mem_cons.1 h2 with hk' | hk'
            · rw [hk, hk']
            · exact absurd (List.mem_map.2 ⟨d', hk', by rw [he, hk]⟩) q1
          · rcases List.mem_cons.1 h2 with hk' | hk'
            · exact absurd (List.mem_map.2 ⟨d, hk, by rw [← he, hk']⟩) q1
            · exact ih q2 hk hk'
      have := this _ qi.once hd hd'
      omega
  have hoq : ∀ (j : Nat) (s : Nat × Nat) (b c cap : Nat), h.hc j = some s → s.1 ≠ 0 → r j = some (b, c) → o ≠ some (b, cap) := fun j s b c cap hj hs hb e => by
    obtain ⟨iq, cq, g1, g2⟩ := ho2 b cap e
    have hq := qi.row iq g1
    have hne : j ≠ iq := by rintro rfl; rw [hj] at hq; injection hq with hq; rw [hq] at hs; exact hs rfl
    exact hw.hidNe hj hq hne hb g2 rfl
  have hwk := hwalk (p := p) hQ hat (by have := ents_perm_len qw.perm; omega) (by rw [ebx, ebc]; exact hw.hidNe hcix hcic hcx hrx hrc) (fun cap => by rw [ebx]; exact hoq _ _ bx cx cap hcix (by simp) hrx) (fun cap => by rw [ebc]; exact hoq _ _ bc cc cap hcic (by simp) hrc)
    (fun y hy hne => by
      obtain ⟨d', hd', rfl, _⟩ := Lh y hy
      obtain ⟨b', c', _, _, _, _, _, g1, _⟩ := qw.bufs d' hd'
      rw [blk_eq g1, ebx]
      exact hw.hidNe (qi.ents d' hd') hcix hne g1 hrx) (by rw [ebx]; exact cellW m2 m4) (by rw [ebx]; exact fzW m2 hfz (by omega)) (by rw [ebx]; exact fzW m2 hfz (by omega)) ⟨v3, by rw [ebx]; exact cellW m2 hv3⟩ (by rw [ebx]; exact fzW m2 hfz (by omega)) (by rw [ebc]; exact cellW n2 hv2) (by rw [ebc]; exact fzW n2 hfz2 (by omega))
    (fun hclk => by
      rcases hab with ⟨h1, _⟩ | ⟨_, m, h2, rfl, _⟩
      · rw [h1] at hclk; cases hclk
      · cases hrv; exact ⟨m, h2, rfl⟩)
  rw [ebc, ebx] at hwk
  refine hwk.mono ?_
  rintro e' w' ⟨rfl, L', o', k1, k2, k3, k4, k5, k6, ⟨v, k7, k8, k9⟩, k10, k11⟩
  refine ⟨rfl, ?_⟩
  have hbv : RV r b v := by
    rcases hab with ⟨h1, rfl⟩ | ⟨h1, m, _, rfl, rfl⟩
    · rw [k8 h1]; exact hrv
    · cases hrv
      rw [k9 m h1 rfl]; exact .int _ _
  exact pin_nx hw hc hx hin hn hpt qi qw ho1 ho2 (by rw [ebc]; exact k1) k2 k3 (by rw [ebx]; exact k4) (fun hp => by rw [ebx]; exact k5 hp) k6 (by rw [ebc]; exact k7) hbv (by rw [ebx]; exact k10) (by rw [ebc]; exact k11) hpush hHn hH
end Go.Ex
namespace Go.Ex
open Go.Que Go.Proofs Go.Proofs.YtfmjhleccnmhkaaGreat
variable {ρ : Env}
theorem OR_set {o o' : O} {off : Nat} {v : Value} (hs : OSame ρ o o' off [v]) (_ho : off < o.size) (h9 : off < 2 ^ 39) {pat : Array Value} {cs : Tr Value} (h : ∀ i, i < o.size → CObj.at pat cs i = some ((o.get i).val ρ)) : OR ρ o' (.row o.size pat (cs.set off v) o.elem o.tail) := by
  refine ⟨hs.is', pat, cs.set off v, by rw [hs.size, hs.elem, hs.tail], fun i hi => ?_⟩
  rw [hs.size] at hi
  rw [CObj.at_set h9, hs.get i hi]
  by_cases hoi : off = i
  · subst hoi
    rw [if_pos rfl, if_pos ⟨Nat.le_refl _, by simp⟩, Nat.sub_self]
    rfl
  · rw [if_neg hoi, if_neg (by simp; omega)]
    exact h i hi
theorem push_eq (pb : Bool) (ix z : Nat) : pushB pb ix z = (!pb && decide (2 * ix + 1 ∈ qEnt z)) := by
  unfold pushB
  have : ((qEnt z).any fun d => Nat.beq d (2 * ix + 1)) = decide (2 * ix + 1 ∈ qEnt z) := by
    rw [Bool.eq_iff_iff, List.any_eq_true, decide_eq_true_eq]
    constructor
    · rintro ⟨d, h1, h2⟩
      rw [← beq_ok h2]; exact h1
    · exact fun h => ⟨_, h, Nat.beq_refl _⟩
  rw [this]
theorem qmain_ok {fn : FuncId} {clk pb : Bool} (hwalk : QWalk fn clk) {ic ix : Id} {z : Nat} {l : H} {k : H → Bool} (h : qmain clk pb ic ix z l k = true) : ∃ l', k l' = true ∧ ∀ hh, HR ρ l hh → IsC hh ic.nat z → IsB hh ix.nat → ∃ H, HR ρ l' H ∧ ∀ r w, RW r hh w → ∀ bc cc bx cx, r ic.nat = some (bc, cc) → r ix.nat = some (bx, cx) →
    Calls Tryz.prog fn #[.pointer (some ⟨bc, 0, none⟩), .pointer (some ⟨bx, 0, none⟩), .bool pb] w fun e w' => e = .returned (.tuple #[]) ∧ ∃ r', Nx r hh w r' H w' := by
  unfold qmain at h
  obtain ⟨s2, c2, e2, t2, hoc, h⟩ := rowK_ok h
  obtain ⟨s1, c1, e1, t1, hox, h⟩ := rowK_ok h
  have hoc : l.t.at ic = .row s2 c2 e2 t2 := hoc
  have hox : l.t.at ix = .row s1 c1 e1 t1 := hox
  obtain ⟨hb, h⟩ := brec_if h
  obtain ⟨hrow, hany⟩ := andB_ok hb
  have hin : ix.nat ∈ (qEnt z).map (· / 2) := by
    obtain ⟨d, hd, he⟩ := List.any_eq_true.1 hany
    exact List.mem_map.2 ⟨d, hd, beq_ok he⟩
  obtain ⟨a2, h, ha2⟩ := tickK_ok h
  rw [forceN_eq] at h
  obtain ⟨oc, h, k1, k2, _⟩ := O.setK_ok (ρ := ρ) h
  obtain ⟨ox, h, k3, k4, _⟩ := O.setK_ok (ρ := ρ) h
  have rowOK : ∀ hh : CH, HR ρ l hh → ∀ iq, qRow z = iq + 1 → hh.hc iq = some (0, hid) → ∃ pat cs, hh.t.get iq = some (.row 0 pat cs 252 (some hid)) := fun hh hr iq hq h0 => by
    rcases (Bool.or_eq_true _ _).mp hrow with h1 | h1
    · have := beq_ok h1; omega
    · obtain ⟨h2, h3⟩ := andB_ok h1
      have h2 := beq_ok h2
      have h3 : (l.t.at (q (Nat.sub (qRow z) 1))).elem = 252 := beq_ok h3
      have e9 : Nat.sub (qRow z) 1 = iq := by show qRow z - 1 = iq; omega
      rw [e9] at h2 h3
      have h4 := hr.hc (q iq)
      rw [h2, h0] at h4
      have his : (l.t.at (q iq)).is = true := by
        cases hi : (l.t.at (q iq)).is with
        | true => rfl
        | false => unfold O.code at h4; rw [if_neg (by rw [hi]; simp)] at h4; cases h4
      obtain ⟨pat, cs, g1, _⟩ := hr.row his
      rw [h2] at g1
      have h5 : hh.hc iq = (CObj.row (l.t.at (q iq)).size pat cs (l.t.at (q iq)).elem (l.t.at (q iq)).tail).code := CH.hc_at g1
      rw [h0] at h5
      have h6 := code_size h5.symm
      rw [h6, h3] at g1
      have h7 : (l.t.at (q iq)).tail = some hid := by
        generalize (l.t.at (q iq)).tail = t at h5
        cases t with
        | none => cases h5
        | some zz =>
          unfold CObj.code at h5
          dsimp only at h5
          split at h5
          · injection h5 with h5
            injection h5 with _ h5
            rw [h5]
          · cases h5
      rw [h7] at g1
      exact ⟨pat, cs, g1⟩
  -- the two rows
  have rows : ∀ hh, HR ρ l hh → IsC hh ic.nat z → IsB hh ix.nat → ∃ patc csc pat cs, hh.t.get ic.nat = some (.row 5 patc csc e2 (some (hid + 1 + z))) ∧ hh.t.get ix.nat = some (.row 4 pat cs e1 (some hid)) ∧ CObj.at patc csc 2 = some (((l.t.at ic).get 2).val ρ) ∧
      OR ρ oc (.row 5 patc (csc.set 2 (a2.val ρ)) e2 (some (hid + 1 + enc (Bool.rec (motive := fun _ => Nat) (qRow z) (Nat.succ l.n.nat) (pushB pb ix.nat z)) ((qEnt z).map (setE ix.nat pb))))) ∧ OR ρ ox (.row 4 pat (cs.set 3 (.bool pb)) e1 (some hid)) := fun hh hr ⟨patc, csc, ec, hc⟩ ⟨pat, cs, e, hx⟩ => by
    obtain ⟨patc2, csc2, f1, f2⟩ := hr.row (i := ic) (by rw [hoc]; rfl)
    obtain ⟨pat2, cs2, f3, f4⟩ := hr.row (i := ix) (by rw [hox]; rfl)
    rw [hc] at f1
    rw [hx] at f3
    injection f1 with f1
    injection f3 with f3
    rw [hoc] at f1
    rw [hox] at f3
    injection f1 with a1 a2' a3 a4 a5
    injection f3 with b1 b2 b3 b4 b5
    have a1 : 5 = s2 := a1
    have a4 : ec = e2 := a4
    have b1 : 4 = s1 := b1
    have b4 : e = e1 := b4
    subst a1 a2' a3 a4 b1 b2 b3 b4
    refine ⟨patc, csc, pat, cs, hc, hx, f2 2 (by rw [hoc]; show 2 < 5; omega), OR_set k2 (by show 2 < 5; omega) (by decide) fun i hi => ?_, OR_set k4 (by show 3 < 4; omega) (by decide) fun i hi => ?_⟩
    · have := f2 i (by rw [hoc]; exact hi)
      rw [hoc] at this
      exact this
    · have := f4 i (by rw [hox]; exact hi)
      rw [hox] at this
      exact this
  have hab : (clk = false ∧ a2.val ρ = ((l.t.at ic).get 2).val ρ) ∨ (clk = true ∧ ∃ m : Nat, m < 4611686018427387904 ∧ ((l.t.at ic).get 2).val ρ = .int .i64 m ∧ a2.val ρ = .int .i64 (m + 1 : Nat)) := by
    rcases ha2 with ⟨h1, rfl⟩ | ⟨h1, m, h2, h3, rfl⟩
    · exact .inl ⟨h1, rfl⟩
    · have h3 : (l.t.at ic).get 2 = .int .i64 m := h3
      exact .inr ⟨h1, m, h2, by rw [h3]; rfl, rfl⟩
  have fin : ∀ hh, HR ρ l hh → IsC hh ic.nat z → IsB hh ix.nat → ∀ H : CH, (H.n = if pushB pb ix.nat z = true then hh.n + 1 else hh.n) → (∀ patc csc pat cs, hh.t.get ic.nat = some (.row 5 patc csc e2 (some (hid + 1 + z))) → hh.t.get ix.nat = some (.row 4 pat cs e1 (some hid)) → ic.nat ≠ hh.n → ix.nat ≠ hh.n → ∀ j, H.t.get j = if j = ic.nat then some (.row 5 patc (csc.set 2 (a2.val ρ)) e2 (some (hid + 1 + enc (if pushB pb ix.nat z = true then hh.n + 1 else qRow z) ((qEnt z).map (setE ix.nat pb))))) else if j = ix.nat then some (.row 4 pat (cs.set 3 (.bool pb)) e1 (some hid)) else if pushB pb ix.nat z = true ∧ j = hh.n then some (.row 0 #[] .lf 252 (some hid)) else if pushB pb ix.nat z = true ∧ qRow z = j + 1 then none else hh.t.get j) →
      ∀ r w, RW r hh w → ∀ bc cc bx cx, r ic.nat = some (bc, cc) → r ix.nat = some (bx, cx) → Calls Tryz.prog fn #[.pointer (some ⟨bc, 0, none⟩), .pointer (some ⟨bx, 0, none⟩), .bool pb] w fun e w' => e = .returned (.tuple #[]) ∧ ∃ r', Nx r hh w r' H w' := fun hh hr hC hB H hHn hH r w hw bc cc bx cx hrc hrx => by
    obtain ⟨patc, csc, pat, cs, g1, g2, g3, _, _⟩ := rows hh hr hC hB
    have hcic : hh.hc ic.nat = some (5, hid + 1 + z) := by rw [CH.hc_at g1]; exact code_hid (by omega)
    have t1 := hw.top _ _ hrc
    have t2 := hw.top _ _ hrx
    exact q_step hwalk g1 g2 hin (by have := hr.lt; omega) (fun iq hq => rowOK hh hr iq hq ((hw.que.is _ _ hcic).row iq hq)) g3 hab (push_eq pb ix.nat z) hHn (hH patc csc pat cs g1 g2 (by omega) (by omega)) hw hrc hrx
  cases hp : pushB pb ix.nat z with
  | false =>
    rw [hp] at h
    have h : HT.putK l.t ic oc (fun t => HT.putK t ix ox fun t => k ⟨t, l.n⟩) = true := h
    rw [HT.putK_eq, HT.putK_eq] at h
    refine ⟨_, h, fun hh hr hC hB => ?_⟩
    obtain ⟨patc, csc, pat, cs, g1, g2, g3, g4, g5⟩ := rows hh hr hC hB
    rw [hp] at g4
    refine ⟨_, (hr.put g4).put g5, fin hh hr hC hB _ (by rw [hp]; rfl) fun patc2 csc2 pat2 cs2 f1 f2 _ _ j => ?_⟩
    rw [g1] at f1
    injection f1 with f1
    injection f1 with _ f1 f3
    rw [g2] at f2
    injection f2 with f2
    injection f2 with _ f2 f4
    subst f1 f3 f2 f4
    dsimp only
    rw [hp, Tr.get_set (id9 ix), Tr.get_set (id9 ic)]
    simp only [Bool.false_eq_true, if_false, false_and]
    by_cases h1 : j = ic.nat
    · subst h1
      have hne : ¬ ix.nat = ic.nat := by
        intro e
        rw [e, g1] at g2
        injection g2 with g2
        injection g2 with g2
        cases g2
      rw [if_neg hne, if_pos rfl, if_pos rfl]
    · rw [if_neg h1]
      by_cases h2 : j = ix.nat
      · rw [if_pos h2.symm, if_pos h2]
      · rw [if_neg (Ne.symm h2), if_neg (Ne.symm h1), if_neg h2]
  | true =>
    rw [hp] at h
    have h : delRow z l.t (fun t => HT.putK t ic oc fun t => HT.putK t ix ox fun t => newK ⟨t, l.n⟩ (rowOf 0 .nil 252 (some 4611686018427387904)) fun _ l => k l) = true := h
    -- the old row goes
    obtain ⟨t0, h, ht0⟩ : ∃ t0, HT.putK t0 ic oc (fun t => HT.putK t ix ox fun t => newK ⟨t, l.n⟩ (rowOf 0 .nil 252 (some 4611686018427387904)) fun _ l => k l) = true ∧ ∀ hh, HR ρ l hh → ∃ h0, HR ρ ⟨t0, l.n⟩ h0 ∧ h0.n = hh.n ∧ ∀ j, h0.t.get j = if qRow z = j + 1 then none else hh.t.get j := by
      unfold delRow at h
      rcases brec_ok h with ⟨h1, h2⟩ | ⟨h1, h2⟩
      · refine ⟨l.t, h2, fun hh hr => ⟨hh, hr, rfl, fun j => ?_⟩⟩
        have := beq_ok h1
        rw [if_neg (by omega)]
      · rw [HT.putK_eq] at h2
        refine ⟨_, h2, fun hh hr => ⟨_, hr.del, rfl, fun j => ?_⟩⟩
        have hne : qRow z ≠ 0 := fun e => by rw [e] at h1; cases h1
        have hid' : (q (Nat.sub (qRow z) 1)).nat = qRow z - 1 := by
          rcases (Bool.or_eq_true _ _).mp hrow with h3 | h3
          · exact absurd (beq_ok h3) hne
          · exact beq_ok (andB_ok h3).1
        dsimp only
        rw [Tr.get_del, hid']
        by_cases hj : qRow z = j + 1
        · rw [if_pos (by omega), if_pos hj]
        · rw [if_neg (by omega), if_neg hj]
    rw [HT.putK_eq, HT.putK_eq] at h
    obtain ⟨m, hm, h⟩ := newK_ok h
    refine ⟨_, h, fun hh hr hC hB => ?_⟩
    obtain ⟨patc, csc, pat, cs, g1, g2, g3, g4, g5⟩ := rows hh hr hC hB
    rw [hp] at g4
    obtain ⟨h0, hr0, hn0, hg0⟩ := ht0 hh hr
    have hnew : OR ρ (rowOf 0 .nil 252 (some 4611686018427387904)) (.row 0 #[] .lf 252 (some hid)) := by
      obtain ⟨q1, q2, q3, q4, _⟩ := rowOf_ok (ρ := ρ) (size := 0) (l := .nil) (e := 252) (t := some 4611686018427387904) rfl
      exact ⟨q1, #[], .lf, by rw [q2, q3, q4]; rfl, fun i hi => by rw [q2] at hi; exact absurd hi (Nat.not_lt_zero _)⟩
    refine ⟨_, ((hr0.put g4).put g5).new hm hnew, fin hh hr hC hB _ (by rw [hp, if_pos rfl]; show h0.n + 1 = _; rw [hn0]) fun patc2 csc2 pat2 cs2 f1 f2 n1 n2 j => ?_⟩
    rw [g1] at f1
    injection f1 with f1
    injection f1 with _ f1 f3
    rw [g2] at f2
    injection f2 with f2
    injection f2 with _ f2 f4
    subst f1 f3 f2 f4
    have hln : l.n.nat = hh.n := hr.n.symm
    have hlt : h0.n < 2 ^ 39 := by rw [hn0]; have := hr.lt; omega
    dsimp only
    rw [hp, Tr.get_set hlt, Tr.get_set (id9 ix), Tr.get_set (id9 ic), hg0, hn0]
    simp only [if_true, true_and]
    have hne : ¬ ix.nat = ic.nat := by
      intro e
      rw [e, g1] at g2
      injection g2 with g2
      injection g2 with g2
      cases g2
    by_cases h1 : j = ic.nat
    · subst h1
      rw [if_neg (Ne.symm n1), if_neg hne, if_pos rfl, if_pos rfl]
      show some (CObj.row 5 patc (csc.set 2 (a2.val ρ)) e2 (some (hid + 1 + enc (Nat.succ l.n.nat) _))) = _
      rw [hln]
    · rw [if_neg h1]
      by_cases h2 : j = ix.nat
      · subst h2
        rw [if_neg (Ne.symm n2), if_pos rfl, if_pos rfl]
      · rw [if_neg h2]
        by_cases h3 : j = hh.n
        · rw [if_pos h3.symm, if_pos h3]
        · rw [if_neg (Ne.symm h3), if_neg (Ne.symm h2), if_neg (Ne.symm h1), if_neg h3]
theorem rvs_three {r : Ren} {a b c : Value} {cargs : Array Value} (h : RVs r ⟨[a, b, c]⟩ cargs) : ∃ x y z, cargs = #[x, y, z] ∧ RV r a x ∧ RV r b y ∧ RV r c z := by
  obtain ⟨h1, h2⟩ := h
  have hs : cargs.size = 3 := h1.symm
  refine ⟨cargs[0], cargs[1], cargs[2], ?_, h2 0 a _ rfl (Array.getElem?_eq_getElem (by omega)), h2 1 b _ rfl (Array.getElem?_eq_getElem (by omega)), h2 2 c _ rfl (Array.getElem?_eq_getElem (by omega))⟩
  apply Array.ext
  · exact hs
  · intro i hi _
    have : i = 0 ∨ i = 1 ∨ i = 2 := by omega
    rcases this with rfl | rfl | rfl <;> rfl
theorem q_native {fn : FuncId} {clk : Bool} (hf : Nonext Tryz.prog fn) (hwalk : QWalk fn clk) : CfOK Tryz.prog ρ fn (qC clk) := ⟨.inl hf, fun _ _ _ _ args l k h0 => by
  rcases V.onCo_ok h0 with ⟨a, r1, ea, h1⟩ | ⟨_, h1⟩
  case inr => cases h1
  rcases V.onCo_ok h1 with ⟨b, r2, eb, h2⟩ | ⟨_, h2⟩
  case inr => cases h2
  rcases V.onCo_ok h2 with ⟨p, r3, ep, h3⟩ | ⟨_, h3⟩
  case inr => cases h3
  rcases V.onCo_ok h3 with ⟨_, _, _, h4⟩ | ⟨en, h4⟩
  case inl => cases h4
  obtain ⟨ic, oc, eic, h5⟩ := V.onP_ok h4
  obtain ⟨ix, ox, eix, h6⟩ := V.onP_ok h5
  obtain ⟨pb, epb, h7⟩ := V.onB_ok h6
  obtain ⟨hb, h8⟩ := brec_if h7
  obtain ⟨e1, e2⟩ := andB_ok hb
  have e1 := beq_ok e1
  have e2 := beq_ok e2
  subst e1 e2
  clear h0 h1 h2 h3 h4 h5 h6 h7
  obtain ⟨z0, l1, h9, hC⟩ := hideCK_ok (ρ := ρ) h8
  obtain ⟨z1, l2, h10, hB⟩ := hideBK_ok (ρ := ρ) h9
  obtain ⟨l3, h, hM⟩ := qmain_ok (ρ := ρ) hwalk h10
  subst ea eb ep en eic eix epb
  refine ⟨_, l3, h, fun hh hr => ?_⟩
  obtain ⟨g1, hr1, c1, n1, x1⟩ := hC hh hr
  obtain ⟨g2, hr2, c2, b2, n2, x2⟩ := hB g1 hr1 c1
  obtain ⟨H, hr3, x3⟩ := hM g2 hr2 c2 b2
  refine ⟨H, hr3, fun r cargs w hv hW => ?_⟩
  obtain ⟨x, y, u, rfl, v1, v2, v3⟩ := rvs_three (a := .pointer (some ⟨ic.nat, 0, none⟩)) (b := .pointer (some ⟨ix.nat, 0, none⟩)) (c := .bool pb) hv
  cases v1 with
  | @ptr _ bc cc _ hrc =>
  cases v2 with
  | @ptr _ bx cx _ hrx =>
  cases v3
  have y1 := x1 r w hW
  have y2 := y1.trans (x2 r w y1.rw)
  refine .inl ⟨hf, (x3 r w y2.rw bc cc bx cx hrc hrx).mono ?_⟩
  rintro e w' ⟨rfl, r', hN⟩
  exact ⟨r', _, rfl, y2.trans hN, .tuple rfl fun i a b h => by cases h⟩⟩
end Go.Ex
namespace Go.Ex
variable {P : Program} {T : Tr Ty} {F : Tr Func} {ρ : Env}
def mapI (v : V) : List Id := match v with
  | .map i => [i]
  | _ => []
noncomputable section
/-- run.data and run.freed of a transaction: cells 13 and 14. -/
def clT (a : V) : Clo := match a with
  | .cons (.ptr i _) _ => (closeC 13 i).seq (closeC 14 i)
  | _ => .no
def selT (a : V) (t : HT) : List Id := match a with
  | .cons (.ptr i _) _ => mapI (O.get (HT.at t i) 13) ++ mapI (O.get (HT.at t i) 14)
  | _ => []
/-- maps.Copy: what it writes to has no order behind it. -/
def clD (a : V) : Clo := match a with
  | .cons (.map i) _ => closeAt i
  | _ => .no
def selD (a : V) (_t : HT) : List Id := match a with
  | .cons (.map i) _ => [i]
  | _ => []
def fnU (sel : V → HT → List Id) (cl : V → Clo) (T : Tr Ty) (F : Tr Func) (f : FuncId) : CF := match F.get f with
  | some fn => umC sel cl (funTc cl (fun _ => false) T (brC T) fn)
  | none => failCF
/-- one of two ways, by what comes in. -/
def pickC (p : V → H → Bool) (a b : CF) : CF := ⟨fun cK m x l k => match p x l with
  | false => a.f cK m x l k
  | true => b.f cK m x l k⟩
/-- what comes in with an order keeps it. -/
def fnV (sel : V → HT → List Id) (cl : V → Clo) (T : Tr Ty) (F : Tr Func) (f : FuncId) : CF := pickC (fun a l => looseB (sel a l.t) l.t) (fnT T F f) (fnU sel cl T F f)
end
theorem pick_ok {f : FuncId} {p : V → H → Bool} {a b : CF} (ha : CfOK P ρ f a) (hb : CfOK P ρ f b) : CfOK P ρ f (pickC p a b) := ⟨ha.1, fun cK hC hE m x l k h => by
  unfold pickC at h
  dsimp only at h
  split at h
  · exact ha.2 cK hC hE m x l k h
  · exact hb.2 cK hC hE m x l k h⟩
theorem clT_ok (a : V) : CloOK (clT a) := by
  unfold clT
  split
  · exact Clo.seq_ok (closeC_ok _ _) (closeC_ok _ _)
  · exact Clo.no_ok
theorem clD_ok (a : V) : CloOK (clD a) := by
  unfold clD
  split
  · exact closeAt_ok _
  · exact Clo.no_ok
theorem fnU_ok (hm : P.follows .mixedOrders = true) (hT : TabOK P T) (hF : FnsOK P F) {f : FuncId} (hf : (F.get f).isSome = true) (sel : V → HT → List Id) {cl : V → Clo} (hcl : ∀ a, CloOK (cl a)) : CfOK P ρ f (fnU sel cl T F f) := by
  unfold fnU
  split
  · rename_i fn hfn
    exact um_ok (fun b => funTc_ok hcl hT hF (fun b' => brC_ok hm hT) hfn) hcl sel
  · rename_i hfn
    rw [hfn] at hf
    cases hf
theorem fnV_ok (hm : P.follows .mixedOrders = true) (hT : TabOK P T) (hF : FnsOK P F) {f : FuncId} (hf : (F.get f).isSome = true) (sel : V → HT → List Id) {cl : V → Clo} (hcl : ∀ a, CloOK (cl a)) : CfOK P ρ f (fnV sel cl T F f) :=
  pick_ok (fnT_ok hm hT hF hf) (fnU_ok hm hT hF hf sel hcl)
end Go.Ex
