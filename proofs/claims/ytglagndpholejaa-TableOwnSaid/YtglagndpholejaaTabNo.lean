/- table.Turn where there is no answer; a turned table tells what the table told of the number with its sign turned. -/
import Derived.Test.YtglagndpholejaaTabTurn
import Derived.Test.YtglagndpholejaaSlc
import Derived.Test.YtglagndpholejaaCut
namespace Go.Proofs.Ytglagndpholejaa
open Go.ChangeShapes Go.WideShapes Go.ChangeAt Go.RowKit Go.Proofs.Ytglagndpholejaa.Open
set_option linter.unusedVariables false

def TurnNone (w : World) (e : Ending) (w' : World) : Prop := (∃ r : Int, r ≠ 0 ∧ e = .returned (.tuple #[.agg #[.slice none 0 0, .slice none 0 0], .int .i64 r])) ∧ Below w.heap.size w w'
set_option maxHeartbeats 4000000 in
set_option maxRecDepth 100000 in
theorem turn_no (ax : Option Addr) (lx cx : Nat) (xs : List Int) (ay : Option Addr) (ly cy : Nat) (w : World) (hx : RowL .i32 w ax lx cx xs) (hl : ly ≤ cy ∧ cy ≤ 9223372036854775807) (e : Int) (he : tabChk lx ly xs = e) (h0 : e ≠ 0) :
    Calls Try.prog 10 #[.agg #[.slice ax lx cx, .slice ay ly cy]] w (TurnNone w) := by
  have HX := Lib.hid hx; have HE := Lib.hid he; have H0 := Lib.hid h0
  have d0 : (e != 0) = true := by simpa using h0
  have HB0 : Hid (Below w.heap.size w ((w.alloc (.cells #[.slice ax lx cx, .slice ay ly cy] TTab)).alloc (.cells #[.slice none 0 0, .slice none 0 0] TTab))) := ((Below.refl w.heap.size w).alloc (Nat.le_refl _) _).alloc (by simp) _
  have HR0 : Hid (CellsAt ((w.alloc (.cells #[.slice ax lx cx, .slice ay ly cy] TTab)).alloc (.cells #[.slice none 0 0, .slice none 0 0] TTab)) (w.heap.size + 1) [.slice none 0 0, .slice none 0 0]) := CellsAt.new' (by simp) rfl
  clear hx he h0
  go_enter Try.func10, Try.ntmps10
  go_wp2_with fail
  refine (tabCheck_any _ _ _ _ _ _ _ _ (HX.out.later HB0.out) hl e HE.out).mono ?_
  rintro e1 w1 ⟨rfl, hb1⟩
  have B1 := Lib.hid (HB0.out.trans (hb1.mono HB0.out.size))
  have R1 := Lib.hid (HR0.out.call hb1)
  have r0 := R1.out.at_ 0 rfl; have r1 := R1.out.at_ 1 rfl; have rz := R1.out.lt; have f0 := R1.out.2.1 0; have f1 := R1.out.2.1 1
  clear hb1 HB0 HR0
  go_wp2
  have R2 := (R1.out.set2_0 (v0 := .slice none 0 0)).set2_1 (v1 := .slice none 0 0)
  have c0 := R2.at_ 0 rfl; have c1 := R2.at_ 1 rfl
  refine bodyPost_ret (v := .tuple #[.agg #[.slice none 0 0, .slice none 0 0], .int .i64 e]) (by simp [results, Try.results10, go_sem, c0, c1]) rfl ⟨⟨_, H0.out, rfl⟩, ?_⟩
  exact (B1.out.setCell (p := ⟨w.heap.size + 1, 0, none⟩) (by show w.heap.size ≤ w.heap.size + 1; omega) _).setCell (p := ⟨w.heap.size + 1, 1, none⟩) (by show w.heap.size ≤ w.heap.size + 1; omega) _
set_option maxHeartbeats 4000000 in
set_option maxRecDepth 100000 in
theorem turn_least (ax : Option Addr) (lx cx : Nat) (xs : List Int) (ay : Option Addr) (ly cy : Nat) (w : World) (hx : RowL .i32 w ax lx cx xs) (hl : ly ≤ cy ∧ cy ≤ 9223372036854775807) (hok : TabOk lx ly xs) (h0 : xs.getD 0 0 = -2147483648) :
    Calls Try.prog 10 #[.agg #[.slice ax lx cx, .slice ay ly cy]] w (TurnNone w) := by
  have HE := Lib.hid (tabChk_ok.2 hok)
  obtain ⟨b, off, rfl, hlx, -, -, hcx, -⟩ := hx.pos (by have := hok.1; omega)
  have hc0 := hcx 0 (by have := hok.1; omega)
  rw [h0, Nat.add_zero] at hc0
  have k1 := hok.1
  have HX := Lib.hid hx; have HC := Lib.hid hc0
  have HB0 : Hid (Below w.heap.size w ((w.alloc (.cells #[.slice (some ⟨b, off, none⟩) lx cx, .slice ay ly cy] TTab)).alloc (.cells #[.slice none 0 0, .slice none 0 0] TTab))) := ((Below.refl w.heap.size w).alloc (Nat.le_refl _) _).alloc (by simp) _
  have HR0 : Hid (CellsAt ((w.alloc (.cells #[.slice (some ⟨b, off, none⟩) lx cx, .slice ay ly cy] TTab)).alloc (.cells #[.slice none 0 0, .slice none 0 0] TTab)) (w.heap.size + 1) [.slice none 0 0, .slice none 0 0]) := CellsAt.new' (by simp) rfl
  have HT0 : Hid (CellsAt ((w.alloc (.cells #[.slice (some ⟨b, off, none⟩) lx cx, .slice ay ly cy] TTab)).alloc (.cells #[.slice none 0 0, .slice none 0 0] TTab)) w.heap.size [.slice (some ⟨b, off, none⟩) lx cx, .slice ay ly cy]) := (CellsAt.new w _ _ _ rfl).alloc _
  clear hx hok h0 hcx hc0
  go_enter Try.func10, Try.ntmps10
  go_wp2_with fail
  refine (tabCheck_any _ _ _ _ _ _ _ _ (HX.out.later HB0.out) hl 0 HE.out).mono ?_
  rintro e1 w1 ⟨rfl, hb1⟩
  have B1 := Lib.hid (HB0.out.trans (hb1.mono HB0.out.size))
  have R1 := Lib.hid (HR0.out.call hb1); have T1 := Lib.hid (HT0.out.call hb1)
  have r0 := R1.out.at_ 0 rfl; have r1 := R1.out.at_ 1 rfl; have rz := R1.out.lt; have f0 := R1.out.2.1 0; have f1 := R1.out.2.1 1
  have t0 := T1.out.at_ 0 rfl; have tz := T1.out.lt
  have x0 := cell_later B1.out HC.out
  clear hb1 HB0 HR0 HT0
  go_wp2
  have R2 := (R1.out.set2_0 (v0 := .slice none 0 0)).set2_1 (v1 := .slice none 0 0)
  have c0 := R2.at_ 0 rfl; have c1 := R2.at_ 1 rfl
  refine bodyPost_ret (v := .tuple #[.agg #[.slice none 0 0, .slice none 0 0], .int .i64 1]) (by simp [results, Try.results10, go_sem, c0, c1]) rfl ⟨⟨_, by decide, rfl⟩, ?_⟩
  exact (B1.out.setCell (p := ⟨w.heap.size + 1, 0, none⟩) (by show w.heap.size ≤ w.heap.size + 1; omega) _).setCell (p := ⟨w.heap.size + 1, 1, none⟩) (by show w.heap.size ≤ w.heap.size + 1; omega) _
/-! The plain law. -/
def negL (n : Nat) (xs : List Int) : List Int := (downL n n).map fun k => -(xs.getD k 0)
def revL (n : Nat) (xs : List Int) : List Int := (downL n n).map fun k => xs.getD k 0
theorem downD (n i : Nat) (h : i < n) : (downL n n)[i]? = some (n - 1 - i) := by
  unfold downL; rw [List.getElem?_map, List.getElem?_range h]; rfl
theorem negL_at {n i : Nat} {xs : List Int} (h : i < n) : (negL n xs).getD i 0 = -(xs.getD (n - 1 - i) 0) := by
  rw [List.getD_eq_getElem?_getD, negL, List.getElem?_map, downD n i h]; rfl
theorem revL_at {n i : Nat} {xs : List Int} (h : i < n) : (revL n xs).getD i 0 = xs.getD (n - 1 - i) 0 := by
  rw [List.getD_eq_getElem?_getD, revL, List.getElem?_map, downD n i h]; rfl
theorem negL_len (n : Nat) (xs : List Int) : (negL n xs).length = n := by simp [negL, downL]
theorem revL_len (n : Nat) (xs : List Int) : (revL n xs).length = n := by simp [revL, downL]
theorem negL_cells (n : Nat) (xs : List Int) : ((downL n n).map fun k => Value.int .i32 (-(xs.getD k 0))) = (negL n xs).map (.int .i32) := by simp [negL]
theorem revL_cells (n : Nat) (xs : List Int) : ((downL n n).map fun k => Value.int .i32 (xs.getD k 0)) = (revL n xs).map (.int .i32) := by simp [revL]
theorem neg_neg {n : Nat} {xs : List Int} (h : xs.length = n) : negL n (negL n xs) = xs := by
  apply List.ext_getElem?
  intro i
  by_cases hi : i < n
  · have h1 := negL_at (n := n) (xs := negL n xs) hi
    rw [negL_at (show n - 1 - i < n by omega), show n - 1 - (n - 1 - i) = i by omega, Int.neg_neg] at h1
    rw [List.getD_eq_getElem?_getD, List.getD_eq_getElem?_getD, List.getElem?_eq_getElem (by rw [negL_len]; exact hi), List.getElem?_eq_getElem (by omega)] at h1
    rw [List.getElem?_eq_getElem (by rw [negL_len]; exact hi), List.getElem?_eq_getElem (by omega)]
    simpa using h1
  · rw [List.getElem?_eq_none (by rw [negL_len]; omega), List.getElem?_eq_none (by omega)]
theorem rev_rev {n : Nat} {xs : List Int} (h : xs.length = n) : revL n (revL n xs) = xs := by
  apply List.ext_getElem?
  intro i
  by_cases hi : i < n
  · have h1 := revL_at (n := n) (xs := revL n xs) hi
    rw [revL_at (show n - 1 - i < n by omega), show n - 1 - (n - 1 - i) = i by omega] at h1
    rw [List.getD_eq_getElem?_getD, List.getD_eq_getElem?_getD, List.getElem?_eq_getElem (by rw [revL_len]; exact hi), List.getElem?_eq_getElem (by omega)] at h1
    rw [List.getElem?_eq_getElem (by rw [revL_len]; exact hi), List.getElem?_eq_getElem (by omega)]
    simpa using h1
  · rw [List.getElem?_eq_none (by rw [revL_len]; omega), List.getElem?_eq_none (by omega)]
theorem rising_neg {n : Nat} {xs : List Int} (h : Rising n xs) : Rising n (negL n xs) := fun i hi => by
  rw [negL_at (by omega), negL_at (by omega)]
  have := h (n - 1 - (i + 1)) (by omega)
  rw [show n - 1 - (i + 1) + 1 = n - 1 - i by omega] at this
  omega
/-- a turned table tells the same of the number with its sign turned -/
theorem at_turn {n : Nat} {xs ys : List Int} (h : Rising n xs) (h0 : 0 < n) (x : Int) : atI (negL n xs) (revL n ys) n (-x) = atI xs ys n x := by
  have hr := rising_neg h
  rcases seg_cases h h0 x with h1 | h1 | ⟨i, hi, h1, h2⟩
  · rw [at_low h h0 x h1, at_high hr h0 (-x) (by rw [negL_at (by omega), show n - 1 - (n - 1) = 0 by omega]; omega), revL_at (by omega), show n - 1 - (n - 1) = 0 by omega]
  · rw [at_high h h0 x h1]
    by_cases he : x = xs.getD (n - 1) 0
    · have e1 : -x = (negL n xs).getD 0 0 := by rw [negL_at h0, he]; simp
      rw [e1, at_knot hr 0 h0, revL_at h0]; simp
    · rw [at_low hr h0 (-x) (by rw [negL_at h0, Nat.sub_zero]; omega), revL_at h0, Nat.sub_zero]
  · by_cases he : x = xs.getD i 0
    · have e1 : -x = (negL n xs).getD (n - 1 - i) 0 := by rw [negL_at (by omega), he, show n - 1 - (n - 1 - i) = i by omega]
      rw [e1, at_knot hr (n - 1 - i) (by omega), revL_at (by omega), show n - 1 - (n - 1 - i) = i by omega, he, at_knot h i (by omega)]
    · rw [at_seg h x i hi h1 h2, at_seg hr (-x) (n - 2 - i) (by omega) (by rw [negL_at (by omega), show n - 1 - (n - 2 - i) = i + 1 by omega]; omega) (by rw [negL_at (by omega), show n - 1 - (n - 2 - i + 1) = i by omega]; omega)]
      rw [negL_at (by omega), negL_at (by omega), revL_at (by omega), revL_at (by omega), show n - 1 - (n - 2 - i) = i + 1 by omega, show n - 1 - (n - 2 - i + 1) = i by omega]
      generalize xs.getD i 0 = a at *
      generalize xs.getD (i + 1) 0 = b at *
      generalize ys.getD i 0 = c at *
      generalize ys.getD (i + 1) 0 = d at *
      unfold partI
      have e2 : (-x - -b) * (c - d) = (x - a) * (d - c) + (c - d) * (b - a) := by
        rw [show -x - -b = (b - a) - (x - a) by omega, Int.sub_mul, show c - d = -(d - c) by omega, Int.mul_neg, Int.mul_neg, Int.neg_mul, Int.mul_comm (d - c) (b - a)]
        omega
      rw [show -a - -b = b - a by omega, e2, Int.add_mul_ediv_right _ _ (by omega)]
      omega
theorem own_low {w : World} {base : Nat} {v : Value} {zs : List Int} (h : w.ownsRow base TI32 1 v zs.length (zs.map (.int .i32))) (hw : ∀ j, -2147483648 ≤ zs.getD j 0 ∧ zs.getD j 0 ≤ 2147483647) : ∃ a c, v = .slice a zs.length c ∧ RowL .i32 w a zs.length c zs := by
  have wf : ∀ i, (Lit.int .i32 (zs.getD i 0)).wf = true := fun i => by
    have h1 := hw i
    have h2 : IntKind.i32.min = -2147483648 := rfl
    have h3 : IntKind.i32.max = 2147483647 := rfl
    show (decide (IntKind.i32.min ≤ zs.getD i 0) && decide (zs.getD i 0 ≤ IntKind.i32.max)) = true
    rw [h2, h3, decide_eq_true h1.1, decide_eq_true h1.2]; rfl
  rcases h.2 with ⟨rfl, h0⟩ | ⟨g, cap, cur, rfl, hb, hg, hc, hm, hs, ht⟩
  · have : zs = [] := List.eq_nil_of_length_eq_zero h0
    subst this
    exact ⟨none, 0, rfl, Nat.le_refl _, Nat.zero_le _, fun h => absurd h (by decide), wf⟩
  · refine ⟨_, _, rfl, hc, hm, fun h0 => ⟨g, 0, rfl, fun i hi => ?_⟩, wf⟩
    rw [Nat.zero_add, h.cellAt i (by omega), List.getElem?_map, List.getD_eq_getElem?_getD, List.getElem?_eq_getElem hi]; rfl
theorem low_ints {w : World} {a : Option Addr} {c : Nat} {zs : List Int} (h : RowL .i32 w a zs.length c zs) (h0 : 0 < zs.length) : IntsAt .i32 w (.slice a zs.length c) zs := by
  obtain ⟨b, off, rfl, h1, h2, -, h3, -⟩ := h.pos h0
  unfold Go.maxLen at h2
  exact .inr ⟨h0, b, off, c, rfl, h1, by omega, h3⟩

end Go.Proofs.Ytglagndpholejaa
