/- CountSoon: whatever the rule and the number of frames are, the law answers true and leaves memory as it was. -/
import Derived.Test.YtibbilncigmleaaCountRun
import Derived.Laws.MakeOwn
namespace Go.Proofs.Ytibbilncigmleaa.countSoon
open Go.ChangeShapes Go.WideShapes Go.ChangeAt Go.RowKit Go.Proofs.Ytibbilncigmleaa Go.Proofs.Ytibbilncigmleaa.Open
set_option linter.unusedVariables false
theorem need_le (most up j : Int) (hu : 1 ≤ up) : (most + up - 1) / up ≤ j ↔ most ≤ j * up := by
  have h : (most + up - 1) / up < j + 1 ↔ most + up - 1 < (j + 1) * up := Int.ediv_lt_iff_lt_mul (by omega)
  have e : (j + 1) * up = j * up + up := by rw [Int.add_mul]; omega
  rw [e] at h
  omega
/-- all bad: the count after k of them -/
theorem runs (up down most : Int) (m : Nat) (zs : List Bool) (hz : ∀ j, j < m → zs.getD j false = true) (h : CountOk up down most 0) (k : Nat) (hk : k ≤ m) :
    runTo up down most 0 false zs k = (min most (k * up), decide ((most + up - 1) / up ≤ k), if (most + up - 1) / up ≤ k then (most + up - 1) / up - 1 else -1) := by
  obtain ⟨h0, h1, h2, h3, h4, h5, h6, h7⟩ := h
  have hneed : 1 ≤ (most + up - 1) / up := (Int.le_ediv_iff_mul_le (by omega)).2 (by omega)
  induction k with
  | zero =>
    simp only [runTo, Prod.mk.injEq]
    refine ⟨by simp; omega, ?_, ?_⟩
    · exact (decide_eq_false (by omega)).symm
    · rw [if_neg (by omega)]
  | succ k ih =>
    have e : ((k + 1 : Nat) : Int) * up = k * up + up := by rw [Int.natCast_add, Int.add_mul]; simp
    have hk0 : 0 ≤ (k : Int) * up := Int.mul_nonneg (by omega) (by omega)
    have n1 := need_le most up k h0
    have n2 := need_le most up ((k + 1 : Nat) : Int) h0
    have n3 := need_le most up ((k : Int) - 1) h0
    simp only [runTo]
    rw [ih (by omega), hz k (by omega)]
    have hm : cntN up down most (min most (k * up)) true = min most (((k + 1 : Nat) : Int) * up) := by
      rw [e]; show min most (min most (k * up) + up) = _; omega
    simp only [cntS, hm, Prod.mk.injEq, true_and]
    rw [e] at n2 ⊢
    generalize (most + up - 1) / up = need at *
    generalize (k : Int) * up = U at *
    by_cases c1 : need ≤ k
    · have c2 : need ≤ ((k + 1 : Nat) : Int) := by omega
      rw [decide_eq_true c1, decide_eq_true c2, if_pos c1, if_pos c2]
      simp
    · rw [decide_eq_false c1, if_neg c1]
      by_cases c2 : need ≤ ((k + 1 : Nat) : Int)
      · rw [decide_eq_true c2, if_pos c2, show min most (U + up) = most from by omega]
        simp; omega
      · rw [decide_eq_false c2, if_neg c2]
        have : ¬ (min most (U + up) = most) := by omega
        simp [this]
theorem info : (Try.prog.info? 4).map (fun i => (i.zero, i.size, i.bytes)) = some (some (.bool false), 1, 1) := by kernel_rfl
theorem made_cell (m j : Nat) (h : j < m) : (madeCells #[Value.bool false] m)[j]? = some (.bool false) := by
  simp [madeCells, h, Nat.mod_one]
set_option maxHeartbeats 2000000 in
set_option maxRecDepth 100000 in
theorem yes (up down most : Int) (m : Nat) (w : World) (h : CountOk up down most 0) (hm : m ≤ 2000) :
    Calls Try.prog 8 #[.agg #[.int .i64 up, .int .i64 down, .int .i64 most], .int .i64 m] w
      fun e w' => e = .returned (.bool true) ∧ Below w.heap.size w w' := by
  have H := Lib.hid h
  have k1 : runTo 2 1 4 0 false [true, false, true, true] 4 = (4, true, 3) := by decide
  have k2 : CountOk 2 1 4 0 := by unfold CountOk; omega
  have K1 := Lib.hid k1; have K2 := Lib.hid k2
  obtain ⟨i0, hi, hz0, hz1, hz2⟩ := info_parts info
  have hmk : ∀ W, (Instr.makeSlice 60 (.int .i64 m) (.int .i64 m)).run Try.prog W = .ok (.slice (some ⟨W.heap.size, 0, none⟩) m m) (W.alloc (.cells (madeCells #[Value.bool false] m) 4)) := by
    intro W
    have := run_make (P := Try.prog) W 60 4 i0 (.bool false) Try.underlying60 hi hz0 .i64 .i64 m m (by omega) (by omega) (by rw [hz2]; omega) (by omega)
    rw [hz1] at this
    simpa [Value.cells] using this
  clear h k1 k2 hi hz0 hz1 hz2
  go_enter Try.func8, Try.ntmps8
  go_wp2_with fail
  refine (countRun_yes _ _ _ _ _ _ _ _ [true, false, true, true] _ K2.out ?_).mono ?_
  · refine .inr ⟨_, rfl, by omega, by unfold maxLen; omega, rfl, fun i hi => ?_⟩
    have : i = 0 ∨ i = 1 ∨ i = 2 ∨ i = 3 := by simp at hi; omega
    rcases this with rfl | rfl | rfl | rfl <;> simp [Addr.add]
  rw [K1.out]
  rintro e1 w1 ⟨rfl, hb1⟩
  have hz1 := hb1.size
  obtain ⟨hc1, hf1⟩ := bcell hb1
  simp at hz1
  have p0 : w1.cell? ⟨w.heap.size, 0, none⟩ = some (.int .i64 up) := by rw [hc1 _ _ (by simp; omega)]; go_simp
  have p1 : w1.cell? ⟨w.heap.size, 1, none⟩ = some (.int .i64 down) := by rw [hc1 _ _ (by simp; omega)]; go_simp
  have p2 : w1.cell? ⟨w.heap.size, 2, none⟩ = some (.int .i64 most) := by rw [hc1 _ _ (by simp; omega)]; go_simp
  have B1 : Below w.heap.size w w1 := by
    repeat (first | exact Below.refl _ _ | refine Below.setCell ?_ (by first | (simp; done) | omega | (simp; omega)) _ | refine Below.trans ?_ (Below.mono hb1 (by first | (simp; done) | omega | (simp; omega))) | refine Below.alloc ?_ (by first | (simp; done) | omega | (simp; omega)) _)
  have n0 : w.heap.size < w1.heap.size := by omega
  clear hb1 hc1 hf1
  go_wp2_with fail
  refine (countCheck_yes _ _ _ _ _ _ H.out).mono ?_
  rintro e2 w2 ⟨rfl, hb2⟩
  have hz2 := hb2.size
  simp at hz2
  have BA : Below w1.heap.size w1 w2 := by
    repeat (first | exact Below.refl _ _ | refine Below.trans ?_ (Below.mono hb2 (by first | (simp; done) | omega | (simp; omega))) | refine Below.alloc ?_ (by first | (simp; done) | omega | (simp; omega)) _)
  have B2 : Below w.heap.size w w2 := B1.trans (BA.mono (by omega))
  have q0 := cell_later BA p0
  have q1 := cell_later BA p1
  have q2 := cell_later BA p2
  have m0 : w.heap.size < w2.heap.size := by omega
  clear hb2 BA p0 p1 p2 B1 n0
  go_wp2_with fail
  go_loopw [49] (fun i wr => ∃ k : Nat, k ≤ m ∧ i = .int .i64 k ∧ Below w.heap.size w wr ∧ w2.heap.size < wr.heap.size ∧ wr.cell? ⟨w.heap.size, 0, none⟩ = some (.int .i64 up) ∧ wr.cell? ⟨w.heap.size, 1, none⟩ = some (.int .i64 down) ∧ wr.cell? ⟨w.heap.size, 2, none⟩ = some (.int .i64 most) ∧
      (∀ j, j < m → wr.cell? ⟨w2.heap.size, j, none⟩ = some (.bool (decide (j < k)))) ∧ ∀ o, wr.frozen? ⟨w2.heap.size, o, none⟩ = false) (fun i _ => m - (intOf i).toNat)
  case atStart =>
    refine ⟨0, Nat.zero_le _, rfl, ?_, by simp, ?_, ?_, ?_, ?_, ?_⟩
    · repeat (first | exact B2 | refine Below.alloc ?_ (by first | (simp; done) | omega | (simp; omega)) _)
    · go_simp
    · go_simp
    · go_simp
    · intro j hj
      have := made_cell m j hj
      rw [World.cell?_alloc_new, this]; simp
    · intro o; go_simp
  case round =>
    obtain ⟨k, hk, rfl, B3, hz3, r0, r1, r2, hcell, hfz⟩ := hrel
    by_cases hlt : k < m
    · have hx := hcell k hlt
      simp at hx
      have HC := Lib.hid hcell; have HF := Lib.hid hfz
      have hf0 := hfz k
      clear hcell hfz
      go_wp2
      go_roundw
      case rel =>
        refine ⟨k + 1, by omega, by go_num, ?_, by simp; omega, ?_, ?_, ?_, ?_, ?_⟩
        · repeat (first | exact B3 | refine Below.setCell ?_ (by first | (simp; done) | omega | (simp; omega)) _)
        · go_simp
        · go_simp
        · go_simp
        · intro j hj
          have h1 := HC.out j hj
          by_cases hjk : j = k
          · subst hjk
            rw [World.cell?_setCell_same (h := hx)]; simp
          · rw [World.cell?_setCell_other (h := by first | (simp; done) | (simp; omega)), h1]
            congr 2
            exact decide_eq_decide.2 (by omega)
        · intro o
          have h1 := HF.out o
          go_simp
      case measure => simp [intOf]; omega
    · obtain rfl : k = m := by omega
      have hrow : IsRowB wr (some ⟨w2.heap.size, 0, none⟩) k k (List.replicate k true) := by
        refine .inr ⟨_, rfl, by omega, by unfold maxLen; omega, by simp, fun i hi => ?_⟩
        simp at hi
        have h1 := hcell i hi
        have h2 : (List.replicate k true).getD i false = true := by simp [hi]
        rw [h2]
        by_cases h3 : i = 0
        · subst h3; simpa [Addr.add, hi] using h1
        · simpa [Addr.add, h3, hi] using h1
      have HROW := Lib.hid hrow
      have hruns := runs up down most k (List.replicate k true) (fun j hj => by simp [hj]) H.out k (Nat.le_refl _)
      have HRUNS := Lib.hid hruns
      clear hrow hruns hcell hfz
      go_wp2_with fail
      refine (countRun_yes _ _ _ _ _ _ _ _ (List.replicate k true) _ H.out HROW.out).mono ?_
      rw [HRUNS.out]
      rintro e3 w3 ⟨rfl, hb3⟩
      have hz4 := hb3.size
      have B4 : Below w.heap.size w w3 := B3.trans (hb3.mono (by omega))
      have s0 := cell_later hb3 r0
      have s2 := cell_later hb3 r2
      have m3 : w.heap.size < w3.heap.size := by omega
      obtain ⟨o0, o1, o2, o3, o4, o5, o6, o7⟩ := H.out
      have hU : 0 ≤ (k : Int) * up ∧ (k : Int) * up ≤ 2000 * 1000 := ⟨Int.mul_nonneg (by omega) (by omega), Int.mul_le_mul (by omega) o1 (by omega) (by omega)⟩
      have hneed : 1 ≤ (most + up - 1) / up ∧ (most + up - 1) / up ≤ most + up - 1 := ⟨(Int.le_ediv_iff_mul_le (by omega)).2 (by omega), Int.ediv_le_self _ (by omega)⟩
      clear hb3 B3 r0 r1 r2 hz3 hz4
      generalize hq : (most + up - 1) / up = need at *
      generalize hU0 : (k : Int) * up = U at *
      by_cases c1 : need ≤ k
      · rw [decide_eq_true c1, if_pos c1]
        rcases (by omega : most < U ∨ U < most ∨ U = most) with c2 | c2 | rfl
        · rw [Int.min_eq_left (by omega)]
          go_wp2
          all_goals
            go_ret
            refine ⟨ret_bool (by first | rfl | (simp; done) | (simp; omega)), ?_⟩
            repeat (first | exact B4 | refine Below.setCell ?_ (by first | (simp; done) | omega | (simp; omega)) _ | refine below_drewN ?_ _ | refine Below.alloc ?_ (by first | (simp; done) | omega | (simp; omega)) _)
        · rw [Int.min_eq_right (by omega)]
          go_wp2
          all_goals
            go_ret
            refine ⟨ret_bool (by first | rfl | (simp; done) | (simp; omega)), ?_⟩
            repeat (first | exact B4 | refine Below.setCell ?_ (by first | (simp; done) | omega | (simp; omega)) _ | refine below_drewN ?_ _ | refine Below.alloc ?_ (by first | (simp; done) | omega | (simp; omega)) _)
        · rw [Int.min_self]
          go_wp2
          all_goals
            go_ret
            refine ⟨ret_bool (by first | rfl | (simp; done) | (simp; omega)), ?_⟩
            repeat (first | exact B4 | refine Below.setCell ?_ (by first | (simp; done) | omega | (simp; omega)) _ | refine below_drewN ?_ _ | refine Below.alloc ?_ (by first | (simp; done) | omega | (simp; omega)) _)
      · rw [decide_eq_false c1, if_neg c1]
        have c1' : (k : Int) < need := by omega
        have c4 : ((-1 : Int) == need - 1) = false := by simp; omega
        rcases (by omega : most < U ∨ U < most ∨ U = most) with c2 | c2 | rfl
        · rw [Int.min_eq_left (by omega)]
          go_wp2
          all_goals
            go_ret
            refine ⟨ret_bool (by first | rfl | (simp; done) | (simp; omega)), ?_⟩
            repeat (first | exact B4 | refine Below.setCell ?_ (by first | (simp; done) | omega | (simp; omega)) _ | refine below_drewN ?_ _ | refine Below.alloc ?_ (by first | (simp; done) | omega | (simp; omega)) _)
        · rw [Int.min_eq_right (by omega)]
          go_wp2
          all_goals
            go_ret
            refine ⟨ret_bool (by first | rfl | (simp; done) | (simp; omega)), ?_⟩
            repeat (first | exact B4 | refine Below.setCell ?_ (by first | (simp; done) | omega | (simp; omega)) _ | refine below_drewN ?_ _ | refine Below.alloc ?_ (by first | (simp; done) | omega | (simp; omega)) _)
        · rw [Int.min_self]
          go_wp2
          all_goals
            go_ret
            refine ⟨ret_bool (by first | rfl | (simp; done) | (simp; omega)), ?_⟩
            repeat (first | exact B4 | refine Below.setCell ?_ (by first | (simp; done) | omega | (simp; omega)) _ | refine below_drewN ?_ _ | refine Below.alloc ?_ (by first | (simp; done) | omega | (simp; omega)) _)
set_option maxHeartbeats 2000000 in
set_option maxRecDepth 100000 in
theorem no (up down most n : Int) (w : World) (h : ¬ CountOk up down most 0 ∨ (CountOk up down most 0 ∧ (n < 0 ∨ (0 ≤ n ∧ 2000 < n)))) :
    Calls Try.prog 8 #[.agg #[.int .i64 up, .int .i64 down, .int .i64 most], .int .i64 n] w
      fun e w' => e = .returned (.bool true) ∧ Below w.heap.size w w' := by
  have H := Lib.hid h
  have k1 : runTo 2 1 4 0 false [true, false, true, true] 4 = (4, true, 3) := by decide
  have k2 : CountOk 2 1 4 0 := by unfold CountOk; omega
  have K1 := Lib.hid k1; have K2 := Lib.hid k2
  clear h k1 k2
  go_enter Try.func8, Try.ntmps8
  go_wp2_with fail
  refine (countRun_yes _ _ _ _ _ _ _ _ [true, false, true, true] _ K2.out ?_).mono ?_
  · refine .inr ⟨_, rfl, by omega, by unfold maxLen; omega, rfl, fun i hi => ?_⟩
    have : i = 0 ∨ i = 1 ∨ i = 2 ∨ i = 3 := by simp at hi; omega
    rcases this with rfl | rfl | rfl | rfl <;> simp [Addr.add]
  rw [K1.out]
  rintro e1 w1 ⟨rfl, hb1⟩
  have hz1 := hb1.size
  obtain ⟨hc1, hf1⟩ := bcell hb1
  simp at hz1
  have p0 : w1.cell? ⟨w.heap.size, 0, none⟩ = some (.int .i64 up) := by rw [hc1 _ _ (by simp; omega)]; go_simp
  have p1 : w1.cell? ⟨w.heap.size, 1, none⟩ = some (.int .i64 down) := by rw [hc1 _ _ (by simp; omega)]; go_simp
  have p2 : w1.cell? ⟨w.heap.size, 2, none⟩ = some (.int .i64 most) := by rw [hc1 _ _ (by simp; omega)]; go_simp
  have B1 : Below w.heap.size w w1 := by
    repeat (first | exact Below.refl _ _ | refine Below.setCell ?_ (by first | (simp; done) | omega | (simp; omega)) _ | refine Below.trans ?_ (Below.mono hb1 (by first | (simp; done) | omega | (simp; omega))) | refine Below.alloc ?_ (by first | (simp; done) | omega | (simp; omega)) _)
  have n0 : w.heap.size < w1.heap.size := by omega
  clear hb1 hc1 hf1
  go_wp2_with fail
  rcases H.out with h | ⟨h, h'⟩
  · have HN := Lib.hid h
    clear h
    refine (countCheck_no _ _ _ _ _ _ HN.out).mono ?_
    rintro e2 w2 ⟨rfl, hb2⟩
    have B2 : Below w.heap.size w w2 := by
      repeat (first | exact B1 | refine Below.trans ?_ (Below.mono hb2 (by first | (simp; done) | omega | (simp; omega))) | refine Below.alloc ?_ (by first | (simp; done) | omega | (simp; omega)) _)
    clear hb2 B1
    go_wp2
    go_ret
    exact ⟨ret_bool rfl, B2⟩
  · have HN := Lib.hid h
    clear h
    refine (countCheck_yes _ _ _ _ _ _ HN.out).mono ?_
    rintro e2 w2 ⟨rfl, hb2⟩
    have B2 : Below w.heap.size w w2 := by
      repeat (first | exact B1 | refine Below.trans ?_ (Below.mono hb2 (by first | (simp; done) | omega | (simp; omega))) | refine Below.alloc ?_ (by first | (simp; done) | omega | (simp; omega)) _)
    clear hb2 B1
    rcases h' with h' | ⟨h', h''⟩
    all_goals
      go_wp2
      go_ret
      exact ⟨ret_bool rfl, B2⟩
theorem law (up down most n : Int) (w : World) (hu : -9223372036854775808 ≤ up ∧ up ≤ 9223372036854775807) (hd : -9223372036854775808 ≤ down ∧ down ≤ 9223372036854775807) (hm : -9223372036854775808 ≤ most ∧ most ≤ 9223372036854775807)
    (hn : -9223372036854775808 ≤ n ∧ n ≤ 9223372036854775807) :
    Calls Try.prog 8 #[.agg #[.int .i64 up, .int .i64 down, .int .i64 most], .int .i64 n] w
      fun e w' => e = .returned (.bool true) ∧ Below w.heap.size w w' := by
  by_cases h : CountOk up down most 0
  · by_cases g : 0 ≤ n ∧ n ≤ 2000
    · obtain ⟨m, rfl⟩ := Int.eq_ofNat_of_zero_le g.1
      exact yes up down most m w h (by omega)
    · exact no up down most n w (.inr ⟨h, by omega⟩)
  · exact no up down most n w (.inl h)
set_option maxRecDepth 100000 in
theorem lifted (os : Os) (started : os.Started) (H : Type) (enc : TypeId × Value → H) :
    ReturnsInHanded {} Try.checked os 8 .any (Rows.countSoonSpec.pre6 enc Try.prog Try.f8 Rows.countSoonRow.domain false) (Rows.countSoonSpec.post enc Try.prog Try.f8 false true false false) := by
  refine returnsInHanded_of_change (C := Try.checked) own started (by kernel_rfl) Try.func8
    (ChangeSpec.witness6 (enc := enc) (C := Try.checked) false ⟨#[], #[.agg #[.int .i64 0, .int .i64 0, .int .i64 0], .int .i64 0], []⟩ 8 (by kernel_rfl) (by kernel_rfl) (by kernel_rfl) (by kernel_rfl)) ?_
  intro W base args ds gs before hval0 hW hcnd _
  have hval : ∀ (j : Nat) t v, Try.f8.params[j]? = some t → args[j]? = some v → Value.okWide Try.prog W .any base t v := hval0
  have hW' := hW
  obtain ⟨p, q, hA0, hV, rfl, hfz, hnd⟩ := hW
  have hA : DataW.TrodAll enc Try.prog W 0 (fun _ => true) true Try.f8.params.toList args.toList ds p := hA0
  rw [Try.params8] at hA hval
  obtain ⟨v0, vs0, d0, ds0, p0, q0, hargs, rfl, rfl, h0, r0⟩ := trodAll_cons hA
  obtain ⟨v1, vs1, d1, ds1, p1, q1, rfl, rfl, rfl, h1, r1⟩ := trodAll_cons r0
  obtain ⟨rfl, rfl, rfl⟩ := trodAll_nil r1
  obtain rfl : args = #[v0, v1] := by cases args; simp_all
  obtain ⟨rfl, rfl⟩ := trodVars_none hV
  have k0 := h0
  have lt0 : ∀ x ∈ p0, x.block < W.heap.size := by obtain ⟨m, hm⟩ := k0; exact DataW.trod_lt m _ _ _ hm
  have k1 := h1
  have lt1 : ∀ x ∈ p1, x.block < W.heap.size := by obtain ⟨m, hm⟩ := k1; exact DataW.trod_lt m _ _ _ hm
  obtain ⟨cs0, rfl, lf0_0⟩ := open_flat 12 [3, 3, 3] (by kernel_rfl) (by kernel_rfl) (by kernel_rfl) (hval 0 41 v0 rfl rfl) h0
  obtain ⟨c0_0, r0_0, rfl, y0_0, lf0_1⟩ := leafs_cons lf0_0
  obtain ⟨a0_0, rfl, w0_0⟩ := leaf_int Try.underlying3 y0_0
  obtain ⟨c0_1, r0_1, rfl, y0_1, lf0_2⟩ := leafs_cons lf0_1
  obtain ⟨a0_1, rfl, w0_1⟩ := leaf_int Try.underlying3 y0_1
  obtain ⟨c0_2, r0_2, rfl, y0_2, lf0_3⟩ := leafs_cons lf0_2
  obtain ⟨a0_2, rfl, w0_2⟩ := leaf_int Try.underlying3 y0_2
  obtain rfl := leafs_nil lf0_3
  obtain ⟨a1, rfl, rfl, rfl, w1⟩ := open_int Try.underlying3 (hval 1 3 v1 rfl rfl) h1
  clear hA0 hval0
  refine (law a0_0 a0_1 a0_2 a1 W (bounds_i64 w0_0) (bounds_i64 w0_1) (bounds_i64 w0_2) (bounds_i64 w1)).mono fun e W' ⟨he, bel⟩ => ?_
  subst he
  exact ⟨_, rfl, _, _, _, [], _, [], hW', trodAll_mk1 (shut_bool Try.underlying4 _), (trodAll_cons_mk (Below.trod laidOut (by kernel_rfl) (of_decide_eq_true (by kernel_rfl)) k0 bel lt0) (trodAll_cons_mk (Below.trod laidOut (by kernel_rfl) (of_decide_eq_true (by kernel_rfl)) k1 bel lt1) trodAll_mk0)), rfl, bel.frame _, fun h => by cases h⟩
theorem over : Rows.countSoonRow.holds Try.pinned (OpenSpec.ofChange Rows.countSoonSpec) :=
  OpenClaim.holds_of_wide 8 Try.f8 rfl rfl rfl rfl rfl rfl rfl ⟨rfl, rfl, rfl, rfl, rfl⟩ rfl rfl rfl rfl rfl (by kernel_rfl) Try.func8 (by kernel_rfl)
    (of_decide_eq_true (by kernel_rfl)) (by unfold Func.isWrapper; first | (rw [if_pos (by decide +kernel)]; kernel_rfl) | (rw [if_neg (by decide +kernel)]; exact ⟨rfl, rfl⟩))
    (fun os started H enc _ => lifted os started H enc)
theorem proved : Rows.CountSoonSaid := over
#print axioms proved

end Go.Proofs.Ytibbilncigmleaa.countSoon
