/- Trees in memory of the call's own whose inputs have spare cells; slices.Clone of a tree. -/
import Derived.Test.YtiocgmioijcjhaaGateLaw
import Derived.Test.YtiocgmioijcjhaaCutsYes
import Derived.Test.YtiocgmioijcjhaaAmple
namespace Go.Proofs.Ytiocgmioijcjhaa
open Go.ChangeShapes Go.WideShapes Go.ChangeAt Go.RowKit
set_option linter.unusedVariables false

theorem gv_one (xs : List GateV) (h : ∀ x ∈ xs, ∃ a l c, x.2 = .slice a l c) : ∀ u ∈ xs.flatMap gvLay, u.oneCell' = true := by
  intro u hu
  obtain ⟨x, hx, hm⟩ := List.mem_flatMap.1 hu
  obtain ⟨a, l, c, e⟩ := h x hx
  simp only [gvLay, List.mem_cons, List.not_mem_nil, or_false] at hm
  rcases hm with rfl | rfl | rfl
  · rfl
  · rfl
  · rw [e]; rfl
/-- the gates of a tree with the slices of their inputs, and what an append reads of it -/
theorem gates_src {w : World} {v : Value} {ts : List GateR} (h : GatesAt w v ts) : ∃ gs : List GateV, gs.map (·.1) = ts ∧ (∀ x ∈ gs, IntsAt .i64 w x.2 x.1.2.2) ∧ SrcAt w v 3 ts.length (gs.flatMap gvLay) := by
  rcases h with ⟨rfl, rfl | ⟨a, c, rfl⟩⟩ | ⟨h0, b, off, cap, rfl, h1, h2, h3⟩
  · exact ⟨[], rfl, by simp, .inl ⟨0, rfl, rfl, rfl, rfl⟩⟩
  · exact ⟨[], rfl, by simp, .inr ⟨a, c, rfl, rfl, by simp⟩⟩
  · have hs : ∀ i : Nat, ∃ s : Value, ∀ g, ts[i]? = some g → w.cell? ⟨b, off + i * 3 + 2, none⟩ = some s ∧ IntsAt .i64 w s g.2.2 := fun i => by
      cases hi : ts[i]? with
      | none => exact ⟨.bool true, fun g hg => by cases hg⟩
      | some g =>
        obtain ⟨-, -, s, c2, hi2, -⟩ := h3 i g hi
        exact ⟨s, fun g' hg => by cases hg; exact ⟨c2, hi2⟩⟩
    obtain ⟨f, hf⟩ := Classical.axiomOfChoice hs
    have hl : (ts.mapIdx fun i g => ((g, f i) : GateV)).length = ts.length := by simp
    have hat : ∀ i x, (ts.mapIdx fun i g => ((g, f i) : GateV))[i]? = some x → ∃ g, ts[i]? = some g ∧ x = (g, f i) := fun i x hx => by
      rw [List.getElem?_mapIdx] at hx
      obtain ⟨g, hg, rfl⟩ := Option.map_eq_some_iff.1 hx
      exact ⟨g, hg, rfl⟩
    refine ⟨ts.mapIdx fun i g => ((g, f i) : GateV), ?_, fun x hx => ?_, .inr ⟨⟨b, off, none⟩, cap, rfl, by rw [gv_len, hl], fun j u hj => ?_⟩⟩
    · apply List.ext_getElem?
      intro i
      rw [List.getElem?_map, List.getElem?_mapIdx]
      cases ts[i]? <;> rfl
    · obtain ⟨i, hi⟩ := List.getElem?_of_mem hx
      obtain ⟨g, hg, rfl⟩ := hat i x hi
      exact (hf i g hg).2
    · have hjl : j < ts.length * 3 := by
        have := (List.getElem?_eq_some_iff.1 hj).1
        rw [gv_len, hl] at this; exact this
      obtain ⟨x, hx⟩ : ∃ x, (ts.mapIdx fun i g => ((g, f i) : GateV))[j / 3]? = some x := ⟨_, List.getElem?_eq_getElem (by rw [hl]; omega)⟩
      obtain ⟨g, hg, rfl⟩ := hat _ _ hx
      obtain ⟨c0, c1, -⟩ := h3 _ g hg
      have c2 := (hf _ g hg).1
      have e := flatMap_at gvLay_len hx (Nat.mod_lt j (show 0 < 3 by decide))
      rw [show j / 3 * 3 + j % 3 = j by omega, hj] at e
      have ha : (⟨b, off, none⟩ : Addr).add j = ⟨b, off + j, none⟩ := by unfold Addr.add; split <;> simp_all
      rw [ha, e]
      rcases (by omega : j % 3 = 0 ∨ j % 3 = 1 ∨ j % 3 = 2) with h3 | h3 | h3
      · rw [h3, show off + j = off + j / 3 * 3 by omega]; exact c0
      · rw [h3, show off + j = off + j / 3 * 3 + 1 by omega]; exact c1
      · rw [h3, show off + j = off + j / 3 * 3 + 2 by omega]; exact c2
set_option maxHeartbeats 2000000 in
theorem clone_gate (m : Nat) (news : List Value) (v : Value) (w : World) (hv : SrcAt w v 3 m news) (ho : ∀ u ∈ news, u.oneCell' = true) (hx : m * 40 ≤ 140737488351232) :
    Calls Try.prog 21 #[v] w (CatPost w TGate 3 m news) := by
  obtain ⟨i0, hi, hz0, hz1, hz2⟩ := info_parts infoG
  have hnil := @Lib.run_eql_slice_nil Try.prog
  have hw0 : w.heap.size ≤ (w.alloc (.cells #[] TGate)).heap.size := by simp
  have how := own_empty w TGate 3
  have HS := Lib.hid (hv.below ((Below.refl w.heap.size w).alloc (Nat.le_refl _) (.cells #[] TGate)) (Nat.le_refl _))
  have HO := Lib.hid ho
  rcases hv with ⟨c, rfl, rfl, rfl, rfl⟩ | ⟨ad, c, rfl, -⟩
  · go_enter Try.func21, Try.ntmps21
    go_wp2
    go_ret
    exact ⟨_, rfl, World.ownsRow_nil _ _ _ _, Below.refl _ _⟩
  · clear ho
    go_enter Try.func21, Try.ntmps21
    go_wp2_with (at_builtin; refine wpList_append_src rfl _ _ 22 rfl w.heap.size TGate i0 (.agg #[.int .i64 0, .int .i64 0, .slice none 0 0]) 3 40 Try.underlying22 hi hz0 hz1 hz2 rfl (by decide) _ _ _ rfl how _ m news rfl HS.out HO.out (by unfold maxLen; omega) (by omega) hw0 ?_; intro v' w1 hown' hgrow)
    go_ret
    rw [Nat.zero_add, List.nil_append] at hown'
    exact ⟨_, rfl, hown', ((Below.refl _ _).alloc (Nat.le_refl _) _).grown hgrow hw0 (fun k e => by cases e; exact Nat.le_refl _)⟩
theorem own_setG {w : World} {base g n cap j k : Nat} {e : TypeId} {xs : List Value} (h : w.ownsRow base e k (.slice (some ⟨g, 0, none⟩) n cap) n xs) (u : Value) : (w.setCell ⟨g, j, none⟩ u).ownsRow base e k (.slice (some ⟨g, 0, none⟩) n cap) n (xs.set j u) := (h.stored j u).1
theorem gv_set {gs : List GateV} {i : Nat} {x : GateV} (hx : gs[i]? = some x) (u : Value) : (gs.flatMap gvLay).set (i * 3 + 2) u = (gs.set i (x.1, u)).flatMap gvLay := by
  have hi : i < gs.length := (List.getElem?_eq_some_iff.1 hx).1
  apply List.ext_getElem?
  intro j
  by_cases hj : j < gs.length * 3
  · obtain ⟨y, hy⟩ : ∃ y, gs[j / 3]? = some y := ⟨_, List.getElem?_eq_getElem (by omega)⟩
    have e := flatMap_at gvLay_len hy (Nat.mod_lt j (show 0 < 3 by decide))
    rw [show j / 3 * 3 + j % 3 = j by omega] at e
    by_cases hij : j / 3 = i
    · subst hij
      rw [hx] at hy; cases hy
      have hy2 : (gs.set (j / 3) (x.1, u))[j / 3]? = some (x.1, u) := by rw [List.getElem?_set, if_pos rfl, if_pos hi]
      have e2 := flatMap_at gvLay_len hy2 (Nat.mod_lt j (show 0 < 3 by decide))
      rw [show j / 3 * 3 + j % 3 = j by omega] at e2
      rw [e2, List.getElem?_set]
      by_cases h2 : j % 3 = 2
      · rw [if_pos (by omega), if_pos (by rw [gv_len]; omega), h2]; rfl
      · rw [if_neg (by omega), e]
        rcases (by omega : j % 3 = 0 ∨ j % 3 = 1) with h3 | h3 <;> rw [h3] <;> rfl
    · have hy2 : (gs.set i (x.1, u))[j / 3]? = some y := by rw [List.getElem?_set, if_neg (fun e => hij e.symm)]; exact hy
      have e2 := flatMap_at gvLay_len hy2 (Nat.mod_lt j (show 0 < 3 by decide))
      rw [show j / 3 * 3 + j % 3 = j by omega] at e2
      rw [e2, List.getElem?_set, if_neg (by omega), e]
  · rw [List.getElem?_eq_none (by rw [List.length_set, gv_len]; omega), List.getElem?_eq_none (by rw [gv_len, List.length_set]; omega)]
/-- the inputs of a gate lie in a row of the call's own with two cells more -/
def AmpRow (w : World) (C : Nat) (x : GateV) (g : Nat) : Prop :=
  C ≤ g ∧ x.2 = .slice (some ⟨g, 0, none⟩) x.1.2.2.length (x.1.2.2.length + 3) ∧
    w.ownsRow C TInt 1 (.slice (some ⟨g, 0, none⟩) (x.1.2.2.length + 2) (x.1.2.2.length + 3)) (x.1.2.2.length + 2) (x.1.2.2.map (.int .i64) ++ [.int .i64 77, .int .i64 77])
theorem AmpRow.later {w w' : World} {C g : Nat} {x : GateV} (h : AmpRow w C x g) (hb : Below w.heap.size w w') : AmpRow w' C x g := ⟨h.1, h.2.1, own_later h.2.2 hb (Nat.le_refl _)⟩
theorem AmpRow.lt {w : World} {C g : Nat} {x : GateV} (h : AmpRow w C x g) : g < w.heap.size := (h.2.2.lt g rfl).2
theorem AmpRow.far {w w' : World} {C g b : Nat} {x : GateV} (h : AmpRow w C x g) (hg : w.grownBy w' (some b)) (hne : g ≠ b) : AmpRow w' C x g := ⟨h.1, h.2.1, own_far h.2.2 hg (fun e => hne (by injection e))⟩
theorem AmpRow.ints {w : World} {C g : Nat} {x : GateV} (h : AmpRow w C x g) (hm : x.1.2.2.length ≤ 281474976710656) : IntsAt .i64 w x.2 x.1.2.2 := by
  rw [h.2.1]
  by_cases h0 : x.1.2.2 = []
  · rw [h0]; exact .inl ⟨rfl, .inr ⟨_, _, rfl⟩⟩
  · refine .inr ⟨List.length_pos_iff.2 h0, g, 0, _, rfl, by omega, by omega, fun i hi => ?_⟩
    rw [Nat.zero_add, h.2.2.cellAt i (by omega), List.getElem?_append_left (by simpa using hi), List.getElem?_map, List.getD_eq_getElem?_getD, List.getElem?_eq_getElem hi]; rfl
theorem AmpRow.spare {w : World} {C g : Nat} {x : GateV} (h : AmpRow w C x g) : w.cell? ⟨g, x.1.2.2.length, none⟩ = some (.int .i64 77) ∧ w.cell? ⟨g, x.1.2.2.length + 1, none⟩ = some (.int .i64 77) := by
  constructor
  · rw [h.2.2.cellAt _ (by omega), List.getElem?_append_right (by simp)]; simp
  · rw [h.2.2.cellAt _ (by omega), List.getElem?_append_right (by simp)]; simp
theorem AmpRow.blk {w : World} {C g : Nat} {x : GateV} (h : AmpRow w C x g) : BlkOf w g TInt ((x.1.2.2.length + 3) * 1) := (own_blk h.2.2).1
/-- a tree of the call's own: the inputs of the first k gates lie in rows of their own with spare cells, those of the others where they lay -/
structure AmpTree (w : World) (B C : Nat) (v : Value) (gs : List GateV) (G : Nat → Nat) (k : Nat) : Prop where
  O : w.ownsRow B TGate 3 v gs.length (gs.flatMap gvLay)
  low : ∀ b, v.ownBlock = some b → b < C
  amp : ∀ i x, i < k → gs[i]? = some x → AmpRow w C x (G i)
  rest : ∀ i x, k ≤ i → gs[i]? = some x → IntsAt .i64 w x.2 x.1.2.2
  inj : ∀ i j, i < j → j < k → G i < G j
theorem AmpTree.later {w w' : World} {B C k : Nat} {v : Value} {gs : List GateV} {G : Nat → Nat} (h : AmpTree w B C v gs G k) (hb : Below w.heap.size w w') : AmpTree w' B C v gs G k :=
  ⟨own_later h.O hb (Nat.le_refl _), h.low, fun i x hi hx => (h.amp i x hi hx).later hb, fun i x hi hx => (h.rest i x hi hx).later hb (Nat.le_refl _), h.inj⟩
theorem AmpTree.gates {w : World} {B C k : Nat} {v : Value} {gs : List GateV} {G : Nat → Nat} (h : AmpTree w B C v gs G k) (hl : ∀ x ∈ gs, x.1.2.2.length ≤ 281474976710656) (hm : gs.length ≤ 281474976710656) : GatesAt w v (gs.map (·.1)) := by
  by_cases h0 : gs = []
  · subst h0
    rcases h.O.2 with ⟨rfl, -⟩ | ⟨g, cap, cur, rfl, -⟩
    · exact .inl ⟨rfl, .inl rfl⟩
    · exact .inl ⟨rfl, .inr ⟨_, _, rfl⟩⟩
  · rcases h.O.2 with ⟨-, h1⟩ | ⟨g, cap, cur, rfl, h1, h2, h3, h4, h5⟩
    · exact absurd (List.eq_nil_of_length_eq_zero h1) h0
    · unfold maxLen at h4
      refine .inr ⟨by rw [List.length_map]; exact List.length_pos_iff.2 h0, g, 0, cap, by rw [List.length_map], by rw [List.length_map]; exact h3, by omega, fun i x hx => ?_⟩
      rw [List.getElem?_map] at hx
      obtain ⟨y, hy, rfl⟩ := Option.map_eq_some_iff.1 hx
      have hi : i < gs.length := (List.getElem?_eq_some_iff.1 hy).1
      have hc : ∀ j, j < 3 → w.cell? ⟨g, 0 + (i * 3 + j), none⟩ = (gvLay y)[j]? := fun j hj => by
        have e := flatMap_at gvLay_len hy hj
        rw [Nat.zero_add, h.O.cellAt (i * 3 + j) (by omega), e]
      have hm := hl y (List.mem_of_getElem? hy)
      refine ⟨hc 0 (by decide), hc 1 (by decide), y.2, hc 2 (by decide), ?_, hm⟩
      by_cases hk : i < k
      · exact (h.amp i y hk hy).ints hm
      · exact h.rest i y (by omega) hy
theorem AmpTree.cellOf {w : World} {B C k b cap n : Nat} {gs : List GateV} {G : Nat → Nat} (h : AmpTree w B C (.slice (some ⟨b, 0, none⟩) n cap) gs G k) (hn : n = gs.length) {i : Nat} {x : GateV} (hx : gs[i]? = some x) : w.cell? ⟨b, i * 3 + 2, none⟩ = some x.2 ∧ w.frozen? ⟨b, i * 3 + 2, none⟩ = false ∧ b < w.heap.size := by
  subst hn
  have hi : i < gs.length := (List.getElem?_eq_some_iff.1 hx).1
  have e := flatMap_at gvLay_len hx (show 2 < 3 by decide)
  exact ⟨by rw [h.O.cellAt (i * 3 + 2) (by omega), e]; rfl, h.O.frozenAt _, (h.O.lt b rfl).2⟩
/-- the inputs of gate k turn to a row of the call's own -/
theorem AmpTree.step {w w1 : World} {B C k b cap g : Nat} {gs : List GateV} {G : Nat → Nat} {x : GateV} (h : AmpTree w B C (.slice (some ⟨b, 0, none⟩) gs.length cap) gs G k) (hk : gs[k]? = some x) (hb : Below w.heap.size w w1) (hC : C ≤ w.heap.size)
    (hr : w1.ownsRow w.heap.size TInt 1 (.slice (some ⟨g, 0, none⟩) (x.1.2.2.length + 2) (x.1.2.2.length + 3)) (x.1.2.2.length + 2) (x.1.2.2.map (.int .i64) ++ [.int .i64 77, .int .i64 77])) :
    AmpTree (w1.setCell ⟨b, k * 3 + 2, none⟩ (.slice (some ⟨g, 0, none⟩) x.1.2.2.length (x.1.2.2.length + 3))) B C (.slice (some ⟨b, 0, none⟩) gs.length cap) (gs.set k (x.1, .slice (some ⟨g, 0, none⟩) x.1.2.2.length (x.1.2.2.length + 3))) (fun i => if i = k then g else G i) (k + 1) := by
  have hi : k < gs.length := (List.getElem?_eq_some_iff.1 hk).1
  have h1 := h.later hb
  have hg := hr.lt g rfl
  have hbC := h.low b rfl
  have G1 := grown_setB w1 b (k * 3 + 2) (.slice (some ⟨g, 0, none⟩) x.1.2.2.length (x.1.2.2.length + 3))
  have hlen : (gs.set k (x.1, Value.slice (some ⟨g, 0, none⟩) x.1.2.2.length (x.1.2.2.length + 3))).length = gs.length := List.length_set ..
  refine ⟨?_, h.low, fun i y hik hy => ?_, fun i y hik hy => ?_, fun i j hij hj => ?_⟩
  · rw [hlen, ← gv_set hk]; exact own_setG h1.O _
  · by_cases e : i = k
    · subst e
      rw [List.getElem?_set, if_pos rfl, if_pos hi] at hy
      cases hy
      rw [if_pos rfl]
      exact ⟨by omega, rfl, own_far (own_monoA hr hC) G1 (fun e => by have e2 : some g = some b := e; injection e2; omega)⟩
    · rw [List.getElem?_set, if_neg (fun h => e h.symm)] at hy
      rw [if_neg e]
      have h2 := h1.amp i y (by omega) hy
      exact h2.far G1 (by have := h2.1; omega)
  · rw [List.getElem?_set, if_neg (by omega)] at hy
    have c2 := (h1.cellOf rfl hk).1
    have hxi := h1.rest k x (Nat.le_refl _) hk
    obtain ⟨a, c, e⟩ := hxi.len
    rw [e] at c2
    exact ints_set (h1.rest i y (by omega) hy) c2
  · have hj2 : j < k ∨ j = k := by omega
    rcases hj2 with hj2 | rfl
    · rw [if_neg (by omega), if_neg (by omega)]; exact h.inj i j hij hj2
    · rw [if_neg (by omega), if_pos rfl]
      have hil : i < gs.length := by omega
      have := (h.amp i _ hij (List.getElem?_eq_getElem hil)).lt
      omega
/-- what lies in no block that turns -/
theorem ints_low {K : IntKind} {w w' : World} {v : Value} {xs : List Int} {M b : Nat} (h : IntsAt K w v xs) (hn : NewV M v) (hg : w.grownBy w' (some b)) (hb : b < M) : IntsAt K w' v xs := by
  rcases h with h | ⟨h0, b', off, cap, rfl, hl, hm, hx⟩
  · exact .inl h
  · refine .inr ⟨h0, b', off, cap, rfl, hl, hm, fun i hi => ?_⟩
    have h1 := hx i hi
    have h2 := hn b' off none _ _ rfl
    rw [World.cell?_of_block (a := ⟨b', off + i, none⟩) (hg.block b' (World.block_lt_of_cell? _ _ h1) (by intro e; injection e; omega))]
    exact h1
theorem OwnTree.low {W W' : World} {base b : Nat} {v : Value} {gs : List GateV} (h : OwnTree W base v gs) (hg : W.grownBy W' (some b)) (hb : b < base) : OwnTree W' base v gs :=
  ⟨own_far h.O hg (fun e => by have := (h.O.lt b e).1; omega), fun x hx => own_far (h.I x hx) hg (fun e => by have := ((h.I x hx).lt b e).1; omega)⟩

end Go.Proofs.Ytiocgmioijcjhaa
