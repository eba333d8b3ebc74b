/- Three calls that make memory beside three allocations, in any order (WatchBounds' region 10). -/
import Derived.Test.YtijoalaijkobpaaWatch
import Derived.RegionTactic
import Derived.Deep.RegionHeld3
import Derived.WalkLawsBesides
namespace Go.Proofs.Ytijoalaijkobpaa
open Go.ChangeShapes Go.WideShapes Go.ChangeAt Go.RowKit
set_option linter.unusedVariables false

section
variable {P : Program} {ops : Array Oper} {Q : Exit → Act → World → Prop} {md : Region.Mode}
theorem count_set_true : ∀ (l : List Bool) (i : Nat), l[i]? = some false → (l.set i true).countP (!·) + 1 = l.countP (!·)
  | [], i, h => by simp at h
  | b :: l, 0, h => by simp at h; subst h; simp
  | b :: l, i + 1, h => by
    have := count_set_true l i (by simpa using h)
    simp only [List.set_cons_succ, List.countP_cons]; omega
/-- A region in any order, by what holds of the operations already done. -/
theorem wpAny_inv (I : Array Bool → Act → World → Prop)
    (hstep : ∀ (listed : Array Bool) (a : Act) (w : World) (i : Nat), listed.size = ops.size → I listed a w → i ∈ Region.ready md ops listed → wpOp P ops Q i (I (listed.setIfInBounds i true)) a w)
    (hend : ∀ (listed : Array Bool) (a : Act) (w : World), listed.size = ops.size → Region.ready md ops listed = [] → I listed a w → Q .normal a w) :
    ∀ (fuel : Nat) (listed : Array Bool) (a : Act) (w : World), listed.size = ops.size → listed.toList.countP (!·) ≤ fuel → I listed a w → wpAny P md ops Q fuel listed a w := by
  intro fuel
  induction fuel with
  | zero =>
    intro listed a w hs hc hI
    have hr : Region.ready md ops listed = [] := by
      rw [List.eq_nil_iff_forall_not_mem]
      intro i hi
      have h0 := (mem_ready.1 hi).1
      have hlt : i < listed.size := by
        rcases Nat.lt_or_ge i listed.size with h | h
        · exact h
        · simp [Array.getElem?_eq_none h] at h0
      have hm : listed[i] = false := by simpa [hlt] using h0
      have : 0 < listed.toList.countP (!·) := List.countP_pos_iff.2 ⟨listed[i], by simp, by simp [hm]⟩
      omega
    exact ⟨hr, hend listed a w hs hr hI⟩
  | succ fuel ih =>
    intro listed a w hs hc hI
    refine ⟨fun hr => hend listed a w hs hr hI, fun i hi => wpOp_mono (fun a' w' h => ih _ a' w' (by simp [hs]) ?_ h) (hstep listed a w i hs hI hi)⟩
    have h0 := (mem_ready.1 hi).1
    have hlt : i < listed.size := by
      rcases Nat.lt_or_ge i listed.size with h | h
      · exact h
      · simp [Array.getElem?_eq_none h] at h0
    have hm : listed.toList[i]? = some false := by simpa [hlt] using h0
    have := count_set_true listed.toList i hm
    simp only [Array.toList_setIfInBounds]
    omega
end
theorem all_listed {ops : Array Oper} {md : Region.Mode} {listed : Array Bool} (hlow : ((List.range ops.size).all fun i => match ops[i]? with | some o => o.after.all (fun e => decide (e.on < i)) | none => true) = true)
    (hs : listed.size = ops.size) (hr : Region.ready md ops listed = []) : ∀ i, i < ops.size → listed.getD i false = true := by
  intro i
  induction i using Nat.strongRecOn with
  | _ i ih =>
    intro hi
    cases hl : listed.getD i false with
    | true => rfl
    | false =>
      exfalso
      have hmem : i ∈ Region.ready md ops listed := by
        refine mem_ready.2 ⟨by simpa [hs, hi] using hl, ops[i], by simp [hi], fun e he hb => ?_⟩
        have h1 := List.all_eq_true.1 hlow i (List.mem_range.2 hi)
        simp only [hi, getElem?_pos] at h1
        have h2 := Array.all_eq_true_iff_forall_mem.1 h1 e he
        have h3 : e.on < i := by simpa using h2
        exact ih e.on h3 (by omega)
      rw [hr] at hmem; cases hmem
theorem listed_no {listed : Array Bool} {j : Nat} (h1 : listed.getD j true = false) (h2 : listed.getD j false = true) : False := by
  rcases Nat.lt_or_ge j listed.size with h | h
  · simp [h] at h1 h2; rw [h1] at h2; cases h2
  · simp [Array.getElem?_eq_none h] at h1
theorem listed_set {listed : Array Bool} {j k : Nat} (h : j < listed.size) : (listed.setIfInBounds j true).getD k false = if k = j then true else listed.getD k false := by
  by_cases hk : k = j
  · subst hk; simp [h]
  · simp [hk, Array.getElem?_setIfInBounds_ne (Ne.symm hk)]
/-- A region in any order up to operation number n0, from where on one goes on by hand. -/
theorem wpAny_front {P : Program} {ops : Array Oper} {Q : Exit → Act → World → Prop} {md : Region.Mode} (n0 : Nat) (I : Act → Array Bool → Act → World → Prop) {a0 : Act} {w0 : World} {fuel : Nat} {listed0 : Array Bool}
    (hstep : ∀ (listed : Array Bool) (a : Act) (w : World) (i : Nat), listed.size = ops.size → I a0 listed a w → i ∈ Region.ready md ops listed → i < n0 → wpOp P ops Q i (I a0 (listed.setIfInBounds i true)) a w)
    (hlast : ∀ (fuel : Nat) (listed : Array Bool) (a : Act) (w : World) (i : Nat), listed.size = ops.size → listed.toList.countP (!·) ≤ fuel → I a0 listed a w → i ∈ Region.ready md ops listed → n0 ≤ i → wpAny P md ops Q fuel listed a w)
    (hend : ∀ (listed : Array Bool) (a : Act) (w : World), listed.size = ops.size → Region.ready md ops listed = [] → I a0 listed a w → Q .normal a w)
    (hs : listed0.size = ops.size) (hc : listed0.toList.countP (!·) ≤ fuel) (h : I a0 listed0 a0 w0) : wpAny P md ops Q fuel listed0 a0 w0 := by
  have main : ∀ (fuel : Nat) (listed : Array Bool) (a : Act) (w : World), listed.size = ops.size → listed.toList.countP (!·) ≤ fuel → I a0 listed a w → wpAny P md ops Q fuel listed a w := by
    intro fuel
    induction fuel with
    | zero =>
      intro listed a w hs hc hI
      have hr : Region.ready md ops listed = [] := by
        rw [List.eq_nil_iff_forall_not_mem]
        intro i hi
        have h0 := (mem_ready.1 hi).1
        have hlt : i < listed.size := by
          rcases Nat.lt_or_ge i listed.size with h | h
          · exact h
          · simp [Array.getElem?_eq_none h] at h0
        have hm : listed[i] = false := by simpa [hlt] using h0
        have : 0 < listed.toList.countP (!·) := List.countP_pos_iff.2 ⟨listed[i], by simp, by simp [hm]⟩
        omega
      exact ⟨hr, hend listed a w hs hr hI⟩
    | succ fuel ih =>
      intro listed a w hs hc hI
      by_cases hb : ∃ i, i ∈ Region.ready md ops listed ∧ n0 ≤ i
      · obtain ⟨i, hi, hge⟩ := hb
        exact hlast _ listed a w i hs hc hI hi hge
      · refine ⟨fun hr => hend listed a w hs hr hI, fun i hi => wpOp_mono (fun a' w' h => ih _ a' w' (by simp [hs]) ?_ h) (hstep listed a w i hs hI hi (Nat.lt_of_not_le fun h => hb ⟨i, hi, h⟩))⟩
        have h0 := (mem_ready.1 hi).1
        have hlt : i < listed.size := by
          rcases Nat.lt_or_ge i listed.size with h | h
          · exact h
          · simp [Array.getElem?_eq_none h] at h0
        have hm : listed.toList[i]? = some false := by simpa [hlt] using h0
        have := count_set_true listed.toList i hm
        simp only [Array.toList_setIfInBounds]
        omega
  exact main fuel listed0 a0 w0 hs hc h
theorem listed_is {listed : Array Bool} (hs : listed.size = 15) (h : ∀ j, j < 15 → listed.getD j false = decide (j < 12)) : listed = #[true, true, true, true, true, true, true, true, true, true, true, true, false, false, false] := by
  apply Array.ext
  · rw [hs]; rfl
  · intro j h1 h2
    have h3 := h j (by omega)
    have e : listed[j] = listed.getD j false := by simp [h1]
    rw [e, h3]
    rcases (by omega : j = 0 ∨ j = 1 ∨ j = 2 ∨ j = 3 ∨ j = 4 ∨ j = 5 ∨ j = 6 ∨ j = 7 ∨ j = 8 ∨ j = 9 ∨ j = 10 ∨ j = 11 ∨ j = 12 ∨ j = 13 ∨ j = 14) with rfl | rfl | rfl | rfl | rfl | rfl | rfl | rfl | rfl | rfl | rfl | rfl | rfl | rfl | rfl <;> rfl
theorem up_listed {listed : Array Bool} {i k : Nat} (hs : i < listed.size) (h : listed.getD k false = true) : (listed.setIfInBounds i true).getD k false = true := by
  rw [listed_set hs]; split <;> first | rfl | exact h
theorem ne_listed {listed : Array Bool} {i k : Nat} (hs : i < listed.size) (hne : k ≠ i) (h : listed.getD k false = false) : (listed.setIfInBounds i true).getD k false = false := by
  rw [listed_set hs, if_neg hne]; exact h
/-- the frame within the region -/
def fill3 (a0 : Act) (z37 z38 z39 z40 z41 z42 z43 z44 z45 x10 x11 x12 : Value) : Act := ⟨((((((((((((a0.tmps.setIfInBounds 37 z37).setIfInBounds 38 z38).setIfInBounds 39 z39).setIfInBounds 40 z40).setIfInBounds 41 z41).setIfInBounds 42 z42).setIfInBounds 43 z43).setIfInBounds 44 z44).setIfInBounds 45 z45).setIfInBounds 10 x10).setIfInBounds 11 x11).setIfInBounds 12 x12), a0.defers⟩
def Room (w : World) (p : Nat) : Prop := (∃ r0 r1 r2 r3 r4, FiveAt w p r0 r1 r2 r3 r4) ∧ ∀ o, w.frozen? ⟨p, o, none⟩ = false
def FiveIs (w : World) (p : Nat) (R : Nat → Bool) : Prop := FiveAt w p (R 0) (R 1) (R 2) (R 3) (R 4)
def ThreeI (H : World → Prop) (B : Nat) (w0 : World) (W V U L : Value) (RA RB RC : Nat → Bool) (a0 : Act) (l : Array Bool) (a : Act) (w : World) : Prop :=
  H w ∧ Below w0.heap.size w0 w ∧ B ≤ w.heap.size ∧ ∃ z37 z38 z39 z40 z41 z42 z43 z44 z45 x10 x11 x12, a = fill3 a0 z37 z38 z39 z40 z41 z42 z43 z44 z45 x10 x11 x12 ∧
  (l.getD 0 false = true → z37 = W) ∧ (l.getD 1 false = true → z38 = L) ∧ (l.getD 2 false = true → z39 = .agg #[.bool (RA 0), .bool (RA 1), .bool (RA 2), .bool (RA 3), .bool (RA 4)]) ∧
  (l.getD 3 false = true → z40 = V) ∧ (l.getD 4 false = true → z41 = L) ∧ (l.getD 5 false = true → z42 = .agg #[.bool (RB 0), .bool (RB 1), .bool (RB 2), .bool (RB 3), .bool (RB 4)]) ∧
  (l.getD 6 false = true → z43 = U) ∧ (l.getD 7 false = true → z44 = L) ∧ (l.getD 8 false = true → z45 = .agg #[.bool (RC 0), .bool (RC 1), .bool (RC 2), .bool (RC 3), .bool (RC 4)]) ∧
  ∃ p q r : Nat, (l.getD 9 false = true → x10 = .pointer (some ⟨p, 0, none⟩) ∧ B ≤ p ∧ p < w.heap.size ∧ Room w p) ∧ (l.getD 10 false = true → x11 = .pointer (some ⟨q, 0, none⟩) ∧ B ≤ q ∧ q < w.heap.size ∧ Room w q) ∧ (l.getD 11 false = true → x12 = .pointer (some ⟨r, 0, none⟩) ∧ B ≤ r ∧ r < w.heap.size ∧ Room w r) ∧
  (l.getD 9 false = true → l.getD 10 false = true → p ≠ q) ∧ (l.getD 9 false = true → l.getD 11 false = true → p ≠ r) ∧ (l.getD 10 false = true → l.getD 11 false = true → q ≠ r) ∧
  l.getD 12 false = false ∧ l.getD 13 false = false ∧ l.getD 14 false = false ∧
  (l.getD 8 false = true → l.getD 5 false = true ∧ l.getD 6 false = true ∧ l.getD 7 false = true) ∧ (l.getD 5 false = true → l.getD 3 false = true ∧ l.getD 4 false = true)
theorem room_later {w w' : World} {p B : Nat} (h : Room w p) (hb : Below B w w') (hp : p < B) : Room w' p := by
  obtain ⟨⟨r0, r1, r2, r3, r4, h0, h1, h2, h3, h4⟩, hf⟩ := h
  exact ⟨⟨r0, r1, r2, r3, r4, (hb.cell hp).trans h0, (hb.cell hp).trans h1, (hb.cell hp).trans h2, (hb.cell hp).trans h3, (hb.cell hp).trans h4⟩, fun o => (hb.frozen hp).trans (hf o)⟩
theorem five_later {w w' : World} {p B : Nat} {R : Nat → Bool} (h : FiveIs w p R) (hb : Below B w w') (hp : p < B) : FiveIs w' p R := by
  obtain ⟨h0, h1, h2, h3, h4⟩ := h
  exact ⟨(hb.cell hp).trans h0, (hb.cell hp).trans h1, (hb.cell hp).trans h2, (hb.cell hp).trans h3, (hb.cell hp).trans h4⟩
abbrev five (w : World) (q : Nat) (R : Nat → Bool) : World := ((((w.setCell ⟨q, 0, none⟩ (.bool (R 0))).setCell ⟨q, 1, none⟩ (.bool (R 1))).setCell ⟨q, 2, none⟩ (.bool (R 2))).setCell ⟨q, 3, none⟩ (.bool (R 3))).setCell ⟨q, 4, none⟩ (.bool (R 4))
theorem five_cell {w : World} {p q k : Nat} {R : Nat → Bool} (hne : p ≠ q) : (five w q R).cell? ⟨p, k, none⟩ = w.cell? ⟨p, k, none⟩ := by
  have nb : ∀ (y : Nat), (⟨q, y, none⟩ : Addr) ≠ ⟨p, k, none⟩ := fun y e => hne (congrArg Addr.block e).symm
  unfold five
  rw [World.cell?_setCell_other _ _ _ _ (nb _), World.cell?_setCell_other _ _ _ _ (nb _), World.cell?_setCell_other _ _ _ _ (nb _), World.cell?_setCell_other _ _ _ _ (nb _), World.cell?_setCell_other _ _ _ _ (nb _)]
theorem five_frozen {w : World} {q : Nat} {R : Nat → Bool} (a : Addr) : (five w q R).frozen? a = w.frozen? a := by simp only [five, World.frozen?_setCell]
theorem room_other {w : World} {p q : Nat} {R : Nat → Bool} (h : Room w p) (hne : p ≠ q) : Room (five w q R) p := by
  obtain ⟨⟨r0, r1, r2, r3, r4, h0, h1, h2, h3, h4⟩, hf⟩ := h
  exact ⟨⟨r0, r1, r2, r3, r4, (five_cell hne).trans h0, (five_cell hne).trans h1, (five_cell hne).trans h2, (five_cell hne).trans h3, (five_cell hne).trans h4⟩, fun o => (five_frozen _).trans (hf o)⟩
theorem five_other {w : World} {p q : Nat} {R R' : Nat → Bool} (h : FiveIs w p R') (hne : p ≠ q) : FiveIs (five w q R) p R' := by
  obtain ⟨h0, h1, h2, h3, h4⟩ := h
  exact ⟨(five_cell hne).trans h0, (five_cell hne).trans h1, (five_cell hne).trans h2, (five_cell hne).trans h3, (five_cell hne).trans h4⟩
theorem five_same {w : World} {p : Nat} {R : Nat → Bool} (h : Room w p) : FiveIs (five w p R) p R ∧ Room (five w p R) p := by
  obtain ⟨⟨r0, r1, r2, r3, r4, h⟩, hf⟩ := h
  have := five_write h (R 0) (R 1) (R 2) (R 3) (R 4)
  exact ⟨this, ⟨_, _, _, _, _, this⟩, fun o => (five_frozen _).trans (hf o)⟩
theorem five_size {w : World} {q : Nat} {R : Nat → Bool} : (five w q R).heap.size = w.heap.size := by simp [five]
theorem room_new (w : World) : Room (w.alloc (.cells #[.bool false, .bool false, .bool false, .bool false, .bool false] 41)) w.heap.size :=
  ⟨⟨false, false, false, false, false, by go_simp, by go_simp, by go_simp, by go_simp, by go_simp⟩, fun o => by go_simp⟩
section
variable {P : Program} {ops : Array Oper} {Q : Exit → Act → World → Prop}
theorem wpAny_from {md : Region.Mode} (I : Act → Array Bool → Act → World → Prop) {a0 : Act} {w0 : World} {fuel : Nat} {listed0 : Array Bool}
    (hstep : ∀ (listed : Array Bool) (a : Act) (w : World) (i : Nat), listed.size = ops.size → I a0 listed a w → i ∈ Region.ready md ops listed → wpOp P ops Q i (I a0 (listed.setIfInBounds i true)) a w)
    (hend : ∀ (listed : Array Bool) (a : Act) (w : World), listed.size = ops.size → Region.ready md ops listed = [] → I a0 listed a w → Q .normal a w)
    (hs : listed0.size = ops.size) (hc : listed0.toList.countP (!·) ≤ fuel) (h : I a0 listed0 a0 w0) : wpAny P md ops Q fuel listed0 a0 w0 :=
  wpAny_inv (I a0) hstep hend fuel listed0 a0 w0 hs hc h
theorem listed_up {listed : Array Bool} {i k : Nat} (hs : i < listed.size) (hne : k ≠ i) (h : (listed.setIfInBounds i true).getD k false = true) : listed.getD k false = true := by
  rw [listed_set hs, if_neg hne] at h; exact h
theorem wpOp_of {i : Nat} {o : Oper} {I : Act → World → Prop} {a : Act} {w : World} (hi : ops[i]? = some o) (hw : Region.wanted o (yielded ops a.tmps) = true) (h : ∀ K : Act → World → Prop, (∀ a w, I a w → K a w) → o.wp P a w K Q) : wpOp P ops Q i I a w := by
  unfold wpOp
  simp only [hi, hw, if_true]
  exact .inl (h I fun _ _ h => h)
end

end Go.Proofs.Ytijoalaijkobpaa
