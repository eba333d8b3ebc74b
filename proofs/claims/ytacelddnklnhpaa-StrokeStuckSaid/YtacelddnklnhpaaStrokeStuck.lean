/- StrokeStuck: whatever the trial and the points are, the law answers true and leaves memory as it was. -/
import Derived.Test.YtacelddnklnhpaaIdxPoint
namespace Go.Proofs.Ytacelddnklnhpaa.strokeStuck
open Go.ChangeShapes Go.WideShapes Go.ChangeAt Go.RowKit Go.Proofs.Ytacelddnklnhpaa Go.Proofs.Ytacelddnklnhpaa.Open
set_option linter.unusedVariables false
def T0 : Trl := ⟨65536, 0, -9, 9, 9, 0, 65536, 0, 0, -9, 9, 65536, 0, false⟩
theorem t0_ok : TrlOk T0 := ⟨by decide, by decide, by decide, by decide, by decide, by decide, by decide, by decide, by decide, by decide, by decide⟩
theorem t0_pts : PointsOk [(5, 3, 0)] := by
  refine ⟨by decide, by decide, fun i x hx => ?_⟩
  match i, hx with
  | 0, hx => cases hx; exact ⟨by decide, by decide, by decide⟩
theorem t0_pos : (framesS T0 5 3 ⟨0, 0, 0, 0, 0, 0⟩).pos = 5 := by decide +kernel
theorem t0_told : ∃ v, testS T0 [(5, 3, 0)] 0 ⟨0, 0, 0, 0, 0, 0⟩ = (1, v) ∧ v.pos = 5 :=
  ⟨framesS T0 5 3 ⟨0, 0, 0, 0, 0, 0⟩, testS_one (by show ¬ offS (5, 3, 0) (framesS T0 5 3 ⟨0, 0, 0, 0, 0, 0⟩); unfold offS; rw [t0_pos]; decide), t0_pos⟩
set_option maxHeartbeats 8000000 in
set_option maxRecDepth 100000 in
theorem way (T : Trl) (p0 q0 : Int) (xs : List PointR) (u : Value) (w : World) (hT : TrlOk T) (hp : -2147483648 ≤ p0 ∧ p0 ≤ 2147483647) (hx : RecsAt 3 pointLay w u xs) (fx : ∀ y ∈ xs, pointFit y) (hn : xs.length ≤ 9223372036854775807) :
    Calls Try.prog 12 #[trialV T p0 q0, u] w fun e w' => e = .returned (.bool true) ∧ Below w.heap.size w w' := by
  obtain ⟨a1, cap1, rfl⟩ := hx.len
  obtain ⟨v0, hv0, hv1⟩ := t0_told
  have HX := Lib.hid hx; have FX := Lib.hid fx; have HT := Lib.hid hT
  have HCT : CellsAt (w.alloc (.cells #[.int .i32 T.gain, .int .i64 T.drag, .int .i32 T.low, .int .i32 T.high, .int .i32 p0, .int .i32 q0, .int .i32 T.rate, .int .i64 T.soft, .int .i32 T.P, .int .i32 T.I, .int .i32 T.D, .int .i32 T.lo, .int .i32 T.hi, .int .i32 T.oil, .int .i32 T.load, .bool T.stuck] 92)) w.heap.size (trialLay T p0 q0) := CellsAt.new w _ _ _ rfl
  have HV0 := Lib.hid hv0; have HV1 := Lib.hid hv1
  have HCT' := Lib.hid HCT
  clear hx fx hT HCT hv0 hv1
  go_enter Try.func12, Try.ntmps12
  go_wp2_with fail
  have F0 := recs_new (E := 97) ((w.alloc (.cells #[.int .i32 T.gain, .int .i64 T.drag, .int .i32 T.low, .int .i32 T.high, .int .i32 p0, .int .i32 q0, .int .i32 T.rate, .int .i64 T.soft, .int .i32 T.P, .int .i32 T.I, .int .i32 T.D, .int .i32 T.lo, .int .i32 T.hi, .int .i32 T.oil, .int .i32 T.load, .bool T.stuck] 92)).alloc (.cells #[.int .i32 65536, .int .i64 0, .int .i32 (-9), .int .i32 9, .int .i32 0, .int .i32 0, .int .i32 9, .int .i64 0, .int .i32 65536, .int .i32 0, .int .i32 0, .int .i32 (-9), .int .i32 9, .int .i32 65536, .int .i32 0, .bool false] 92)) [((5 : Int), (3 : Int), (0 : Int))] #[.int .i32 5, .int .i64 3, .int .i32 0] rfl pointLay_len rfl (by decide)
  simp only [World.size_alloc] at F0
  refine (strokeTest_yes T0 0 0 [(5, 3, 0)] _ _ t0_ok F0 (by intro y hy; simp at hy; subst hy; exact ⟨by decide, by decide⟩) t0_pts (by unfold ramBad; decide) (by unfold ServoOk pidBad; decide)).mono ?_
  rintro e w1 ⟨he, hb⟩
  rw [HV0.out] at he
  simp only [HV1.out] at he
  subst he
  have B1 : Below w.heap.size w w1 := by repeat (first | with_reducible exact Below.refl _ _ | ((with_reducible refine Below.setCell ?_ ?_ _); rotate_left; (· first | (simp; done) | omega | (simp; omega))) | with_reducible refine below_drewN ?_ _ | with_reducible refine Below.drew ?_ | ((with_reducible refine Below.trans ?_ (Below.mono hb ?_)); rotate_left; (· first | (simp; done) | omega | (simp; omega))) | ((with_reducible refine Below.alloc ?_ ?_ _); rotate_left; (· first | (simp; done) | omega | (simp; omega))) | exact Below.refl _ _ | refine Below.setCell ?_ (by first | (simp; done) | omega | (simp; omega)) _ | refine below_drewN ?_ _ | refine Below.drew ?_ | refine Below.trans ?_ (Below.mono hb (by first | (simp; done) | omega | (simp; omega))) | refine Below.alloc ?_ (by first | (simp; done) | omega | (simp; omega)) _)
  have T1 := Lib.hid (((HCT'.out.alloc _).alloc _).call hb)
  have z1 := B1.size
  have s1 : w.heap.size < w1.heap.size := T1.out.lt
  clear hb F0 HCT'
  generalize v0.vel = vv at *
  rw [show ((1 : Nat) : Int) = 1 from rfl]
  have c14 := T1.out.at_ 14 rfl
  have c15 := T1.out.at_ 15 rfl
  have cf := T1.out.2.1
  go_upto_region 6 with (fail)
  have T2 : CellsAt (((w1.setCell ⟨w.heap.size, 15, none⟩ (.bool true)).setCell ⟨w.heap.size, 14, none⟩ (.int .i32 0)).alloc (.cells #[.int .i32 5, .int .i32 vv] 59)) w.heap.size (trialLay { T with stuck := true, load := 0 } p0 q0) :=
    (((T1.out.set_ 15 (by simp [trialLay]) (.bool true)).set_ 14 (by simp [trialLay]) (.int .i32 0)).alloc _)
  have B2 : Below w.heap.size w (((w1.setCell ⟨w.heap.size, 15, none⟩ (.bool true)).setCell ⟨w.heap.size, 14, none⟩ (.int .i32 0)).alloc (.cells #[.int .i32 5, .int .i32 vv] 59)) := by repeat (first | with_reducible exact Below.refl _ _ | with_reducible exact B1 | ((with_reducible refine Below.setCell ?_ ?_ _); rotate_left; (· first | (simp; done) | omega | (simp; omega))) | with_reducible refine below_drewN ?_ _ | with_reducible refine Below.drew ?_ | ((with_reducible refine Below.alloc ?_ ?_ _); rotate_left; (· first | (simp; done) | omega | (simp; omega))) | exact Below.refl _ _ | exact B1 | refine Below.setCell ?_ (by first | (simp; done) | omega | (simp; omega)) _ | refine below_drewN ?_ _ | refine Below.drew ?_ | refine Below.alloc ?_ (by first | (simp; done) | omega | (simp; omega)) _)
  have HT2 := Lib.hid T2
  have HOKT : Hid (TrlOk { T with stuck := true, load := 0 }) := ⟨HT.out.gain, HT.out.low, HT.out.high, HT.out.rate, HT.out.P, HT.out.I, HT.out.D, HT.out.lo, HT.out.hi, HT.out.oil, by show (-2147483648 : Int) ≤ 0 ∧ (0 : Int) ≤ 2147483647; omega⟩
  clear c14 c15 cf T1 B1 z1 s1 T2
  generalize ((w1.setCell ⟨w.heap.size, 15, none⟩ (.bool true)).setCell ⟨w.heap.size, 14, none⟩ (.int .i32 0)).alloc (.cells #[.int .i32 5, .int .i32 vv] 59) = w2 at *
  have z2 := B2.size
  have c0 := HT2.out.at_ 0 rfl
  have c1 := HT2.out.at_ 1 rfl
  have c2 := HT2.out.at_ 2 rfl
  have c3 := HT2.out.at_ 3 rfl
  have c4 := HT2.out.at_ 4 rfl
  have c5 := HT2.out.at_ 5 rfl
  have c6 := HT2.out.at_ 6 rfl
  have c7 := HT2.out.at_ 7 rfl
  have c8 := HT2.out.at_ 8 rfl
  have c9 := HT2.out.at_ 9 rfl
  have c10 := HT2.out.at_ 10 rfl
  have c11 := HT2.out.at_ 11 rfl
  have c12 := HT2.out.at_ 12 rfl
  have c13 := HT2.out.at_ 13 rfl
  have c14 := HT2.out.at_ 14 rfl
  have c15 := HT2.out.at_ 15 rfl
  by_cases hok : TestOk { T with stuck := true, load := 0 } p0 xs
  · have hram : ¬ ramBad T.gain T.drag T.low T.high p0 := hok.2.1
    have hpp : T.low ≤ p0 ∧ p0 ≤ T.high := by unfold ramBad at hram; omega
    have hst := stuck_test { T with stuck := true, load := 0 } xs 0 ⟨p0, q0, p0, 0, 0, 0⟩ rfl rfl hpp hp
    rw [Nat.zero_add] at hst
    have HST := Lib.hid hst
    have HOK := Lib.hid hok
    clear hok hst hram hpp
    go_wp2_with fail
    refine (strokeTest_yes { T with stuck := true, load := 0 } p0 q0 xs _ _ HOKT.out (HX.out.later pointLay_len B2 (Nat.le_refl _)) FX.out HOK.out.1 HOK.out.2.1 HOK.out.2.2).mono ?_
    rintro e w3 ⟨he, hb3⟩
    rw [HST.out.1, HST.out.2] at he
    generalize (testS { T with stuck := true, load := 0 } xs 0 ⟨p0, q0, p0, 0, 0, 0⟩).2.vel = v3 at he
    subst he
    have T3 := Lib.hid (HT2.out.call hb3)
    have T3b := Lib.hid (T3.out.alloc (.cells #[.int .i32 p0, .int .i32 v3] 59))
    have B3 := B2.trans (hb3.mono z2)
    have B3b : Below w.heap.size w (w3.alloc (.cells #[.int .i32 p0, .int .i32 v3] 59)) := B3.alloc B3.size _
    have s3 : w.heap.size < w3.heap.size := T3.out.lt
    have c4' := T3.out.at_ 4 rfl
    clear c0 c1 c2 c3 c4 c5 c6 c7 c8 c9 c10 c11 c12 c13 c14 c15 hb3 HT2 HST
    cases hf : firstOff p0 xs with
    | none =>
      have HF := Lib.hid hf
      simp only [Option.getD_none]
      clear hf
      go_wp2_with fail
      refine (idxPoint_any { T with stuck := true, load := 0 } p0 q0 w.heap.size xs _ _ T3b.out hp (HX.out.later pointLay_len B3b (Nat.le_refl _)) FX.out hn).mono ?_
      rintro e w4 ⟨he, hb4⟩
      rw [HF.out] at he
      subst he
      have T4 := T3b.out.call hb4
      have B4 := B3b.trans (hb4.mono B3b.size)
      have d4 := T4.at_ 4 rfl
      have r4 : w4.cell? ⟨w3.heap.size, 0, none⟩ = some (.int .i32 p0) := cell_later hb4 (by go_simp)
      have r5 : w4.cell? ⟨w3.heap.size, 1, none⟩ = some (.int .i32 v3) := cell_later hb4 (by go_simp)
      have t1 : ((xs.length : Int) == (xs.length : Int)) = true := by simp
      have t2 : (p0 == p0) = true := by simp
      clear T4 hb4 c4'
      go_wp2
      go_ret
      exact ⟨rfl, B4⟩
    | some k =>
      have HF := Lib.hid hf
      simp only [Option.getD_some]
      clear hf
      go_wp2_with fail
      refine (idxPoint_any { T with stuck := true, load := 0 } p0 q0 w.heap.size xs _ _ T3b.out hp (HX.out.later pointLay_len B3b (Nat.le_refl _)) FX.out hn).mono ?_
      rintro e w4 ⟨he, hb4⟩
      rw [HF.out] at he
      subst he
      have T4 := T3b.out.call hb4
      have B4 := B3b.trans (hb4.mono B3b.size)
      have d4 := T4.at_ 4 rfl
      have r4 : w4.cell? ⟨w3.heap.size, 0, none⟩ = some (.int .i32 p0) := cell_later hb4 (by go_simp)
      have r5 : w4.cell? ⟨w3.heap.size, 1, none⟩ = some (.int .i32 v3) := cell_later hb4 (by go_simp)
      have t1 : ((k : Int) == (k : Int)) = true := by simp
      have t2 : (p0 == p0) = true := by simp
      have t3 : decide ((k : Int) < 0) = false := by first | (simp; done) | (simp; omega)
      clear T4 hb4 c4'
      go_wp2
      go_ret
      exact ⟨rfl, B4⟩
  · have HOK := Lib.hid hok
    have teq : ∀ w : World, (Op.equalIn 10000 59 (.agg #[.int .i32 0, .int .i32 0]) (.agg #[.int .i32 0, .int .i32 0])).run Try.prog w = .ok true w := fun _ => by kernel_rfl
    clear hok
    go_wp2_with fail
    refine (strokeTest_no { T with stuck := true, load := 0 } p0 q0 xs _ _ (HX.out.later pointLay_len B2 (Nat.le_refl _)) hn HOK.out).mono ?_
    rintro e w3 ⟨c, hc, rfl, hb3⟩
    have t1 : (c != 0) = true := by rw [bne_iff_ne]; exact hc
    have B3 := B2.trans (hb3.mono z2)
    have z3 := B3.size
    clear hc hb3 c0 c1 c2 c3 c4 c5 c6 c7 c8 c9 c10 c11 c12 c13 c14 c15
    go_wp2
    go_ret
    exact ⟨rfl, by repeat (first | with_reducible exact Below.refl _ _ | with_reducible exact B3 | ((with_reducible refine Below.setCell ?_ ?_ _); rotate_left; (· first | (simp; done) | omega | (simp; omega))) | with_reducible refine below_drewN ?_ _ | with_reducible refine Below.drew ?_ | ((with_reducible refine Below.alloc ?_ ?_ _); rotate_left; (· first | (simp; done) | omega | (simp; omega))) | exact Below.refl _ _ | exact B3 | refine Below.setCell ?_ (by first | (simp; done) | omega | (simp; omega)) _ | refine below_drewN ?_ _ | refine Below.drew ?_ | refine Below.alloc ?_ (by first | (simp; done) | omega | (simp; omega)) _)⟩
theorem law (gain drag low high pos vel rate soft P I D lo hi oil load : Int) (stuck : Bool) (a : Option Addr) (len cap : Nat) (xs : List PointR) (w : World)
    (hgain : -2147483648 ≤ gain ∧ gain ≤ 2147483647) (hdrag : -9223372036854775808 ≤ drag ∧ drag ≤ 9223372036854775807) (hlow : -2147483648 ≤ low ∧ low ≤ 2147483647) (hhigh : -2147483648 ≤ high ∧ high ≤ 2147483647) (hpos : -2147483648 ≤ pos ∧ pos ≤ 2147483647) (hvel : -2147483648 ≤ vel ∧ vel ≤ 2147483647) (hrate : -2147483648 ≤ rate ∧ rate ≤ 2147483647) (hsoft : -9223372036854775808 ≤ soft ∧ soft ≤ 9223372036854775807) (hP : -2147483648 ≤ P ∧ P ≤ 2147483647) (hI : -2147483648 ≤ I ∧ I ≤ 2147483647) (hD : -2147483648 ≤ D ∧ D ≤ 2147483647) (hlo : -2147483648 ≤ lo ∧ lo ≤ 2147483647) (hhi : -2147483648 ≤ hi ∧ hi ≤ 2147483647) (hoil : -2147483648 ≤ oil ∧ oil ≤ 2147483647) (hload : -2147483648 ≤ load ∧ load ≤ 2147483647)
    (h1 : IsRecs 3 pointLay pointFit w a len cap xs) (r1 : len ≤ cap ∧ cap * 24 ≤ 140737488351232) :
    Calls Try.prog 12 #[.agg #[.int .i32 gain, .int .i64 drag, .int .i32 low, .int .i32 high, .int .i32 pos, .int .i32 vel, .int .i32 rate, .int .i64 soft, .int .i32 P, .int .i32 I, .int .i32 D, .int .i32 lo, .int .i32 hi, .int .i32 oil, .int .i32 load, .bool stuck], .slice a len cap] w fun e w' => e = .returned (.bool true) ∧ Below w.heap.size w w' := by
  obtain ⟨g1, g2, g3⟩ := isRecs_recs h1 (by omega) pointLay_len
  exact way ⟨gain, drag, low, high, rate, soft, P, I, D, lo, hi, oil, load, stuck⟩ pos vel _ _ w ⟨hgain, hlow, hhigh, hrate, hP, hI, hD, hlo, hhi, hoil, hload⟩ hpos g1 g3 (by omega)
set_option maxRecDepth 100000 in
theorem lifted (os : Os) (started : os.Started) (H : Type) (enc : TypeId × Value → H) :
    ReturnsInHanded {} Try.checked os 12 .any (Rows.strokeStuckSpec.pre6 enc Try.prog Try.f12 Rows.strokeStuckRow.domain false) (Rows.strokeStuckSpec.post enc Try.prog Try.f12 false true false false) := by
  refine returnsInHanded_of_change_sized (C := Try.checked) own started (by kernel_rfl) Try.func12
    (ChangeSpec.witness6 (enc := enc) (C := Try.checked) false ⟨#[], #[.agg #[.int .i32 0, .int .i64 0, .int .i32 0, .int .i32 0, .int .i32 0, .int .i32 0, .int .i32 0, .int .i64 0, .int .i32 0, .int .i32 0, .int .i32 0, .int .i32 0, .int .i32 0, .int .i32 0, .int .i32 0, .bool false], .slice none 0 0], []⟩ 8 (by kernel_rfl) (by kernel_rfl) (by kernel_rfl) (by kernel_rfl)) ?_
  intro W base args ds gs before hval0 hW hcnd hsz0 _
  have hsz : (DataW.weightsEach Try.prog (Try.f12.params.toList ++ Rows.strokeStuckSpec.plain.varTypes Try.prog) (ds ++ gs)).all (· ≤ reachBytes) = true := hsz0
  have hval : ∀ (j : Nat) t v, Try.f12.params[j]? = some t → args[j]? = some v → Value.okWide Try.prog W .any base t v := hval0
  have hW' := hW
  obtain ⟨p, q, hA0, hV, rfl, hfz, hnd⟩ := hW
  have hA : DataW.TrodAll enc Try.prog W 0 (fun _ => true) true Try.f12.params.toList args.toList ds p := hA0
  rw [Try.params12] at hA hval hsz
  obtain ⟨v0, vs0, d0, ds0, p0, q0, hargs, rfl, rfl, h0, r0⟩ := trodAll_cons hA
  obtain ⟨v1, vs1, d1, ds1, p1, q1, rfl, rfl, rfl, h1, r1⟩ := trodAll_cons r0
  obtain ⟨rfl, rfl, rfl⟩ := trodAll_nil r1
  obtain rfl : args = #[v0, v1] := by cases args; simp_all
  obtain ⟨rfl, rfl⟩ := trodVars_none hV
  have k0 := h0
  have lt0 : ∀ x ∈ p0, x.block < W.heap.size := by obtain ⟨m, hm⟩ := k0; exact DataW.trod_lt m _ _ _ hm
  have k1 := h1
  have lt1 : ∀ x ∈ p1, x.block < W.heap.size := by obtain ⟨m, hm⟩ := k1; exact DataW.trod_lt m _ _ _ hm
  obtain ⟨cs0, rfl, lf0_0⟩ := open_flat 12 [21, 3, 21, 21, 21, 21, 21, 3, 21, 21, 21, 21, 21, 21, 21, 4] (by kernel_rfl) (by kernel_rfl) (by kernel_rfl) (hval 0 92 v0 rfl rfl) h0
  obtain ⟨c0_0, r0_0, rfl, y0_0, lf0_1⟩ := leafs_cons lf0_0
  obtain ⟨a0_0, rfl, w0_0⟩ := leaf_int Try.underlying21 y0_0
  obtain ⟨c0_1, r0_1, rfl, y0_1, lf0_2⟩ := leafs_cons lf0_1
  obtain ⟨a0_1, rfl, w0_1⟩ := leaf_int Try.underlying3 y0_1
  obtain ⟨c0_2, r0_2, rfl, y0_2, lf0_3⟩ := leafs_cons lf0_2
  obtain ⟨a0_2, rfl, w0_2⟩ := leaf_int Try.underlying21 y0_2
  obtain ⟨c0_3, r0_3, rfl, y0_3, lf0_4⟩ := leafs_cons lf0_3
  obtain ⟨a0_3, rfl, w0_3⟩ := leaf_int Try.underlying21 y0_3
  obtain ⟨c0_4, r0_4, rfl, y0_4, lf0_5⟩ := leafs_cons lf0_4
  obtain ⟨a0_4, rfl, w0_4⟩ := leaf_int Try.underlying21 y0_4
  obtain ⟨c0_5, r0_5, rfl, y0_5, lf0_6⟩ := leafs_cons lf0_5
  obtain ⟨a0_5, rfl, w0_5⟩ := leaf_int Try.underlying21 y0_5
  obtain ⟨c0_6, r0_6, rfl, y0_6, lf0_7⟩ := leafs_cons lf0_6
  obtain ⟨a0_6, rfl, w0_6⟩ := leaf_int Try.underlying21 y0_6
  obtain ⟨c0_7, r0_7, rfl, y0_7, lf0_8⟩ := leafs_cons lf0_7
  obtain ⟨a0_7, rfl, w0_7⟩ := leaf_int Try.underlying3 y0_7
  obtain ⟨c0_8, r0_8, rfl, y0_8, lf0_9⟩ := leafs_cons lf0_8
  obtain ⟨a0_8, rfl, w0_8⟩ := leaf_int Try.underlying21 y0_8
  obtain ⟨c0_9, r0_9, rfl, y0_9, lf0_10⟩ := leafs_cons lf0_9
  obtain ⟨a0_9, rfl, w0_9⟩ := leaf_int Try.underlying21 y0_9
  obtain ⟨c0_10, r0_10, rfl, y0_10, lf0_11⟩ := leafs_cons lf0_10
  obtain ⟨a0_10, rfl, w0_10⟩ := leaf_int Try.underlying21 y0_10
  obtain ⟨c0_11, r0_11, rfl, y0_11, lf0_12⟩ := leafs_cons lf0_11
  obtain ⟨a0_11, rfl, w0_11⟩ := leaf_int Try.underlying21 y0_11
  obtain ⟨c0_12, r0_12, rfl, y0_12, lf0_13⟩ := leafs_cons lf0_12
  obtain ⟨a0_12, rfl, w0_12⟩ := leaf_int Try.underlying21 y0_12
  obtain ⟨c0_13, r0_13, rfl, y0_13, lf0_14⟩ := leafs_cons lf0_13
  obtain ⟨a0_13, rfl, w0_13⟩ := leaf_int Try.underlying21 y0_13
  obtain ⟨c0_14, r0_14, rfl, y0_14, lf0_15⟩ := leafs_cons lf0_14
  obtain ⟨a0_14, rfl, w0_14⟩ := leaf_int Try.underlying21 y0_14
  obtain ⟨c0_15, r0_15, rfl, y0_15, lf0_16⟩ := leafs_cons lf0_15
  obtain ⟨a0_15, rfl⟩ := leaf_bool Try.underlying4 y0_15
  obtain rfl := leafs_nil lf0_16
  obtain ⟨sa1, sl1, sc1, rfl⟩ := okWide_slice Try.underlying93 (hval 1 93 v1 rfl rfl)
  obtain ⟨a1, len1, cap1, z1, e1, w1⟩ := leaf_recs (ts := [21, 3, 21]) 3 pointLay pointFit 12 (Try.underlying93) (by kernel_rfl) (by kernel_rfl) rfl point_dec (by obtain ⟨fuel, hf⟩ := h1; exact ⟨fuel, _, by simpa [Value.cells] using hf⟩)
  simp only [Value.slice.injEq] at e1
  obtain ⟨rfl, rfl, rfl⟩ := e1
  have R1 := cap_le (B := 24) Try.underlying93 k1 (fun elems spare hd => by have := sized_slice hsz (j := 1) (t := 93) (e := 97) (elems := elems) (spare := spare) rfl (by rw [← hd]; rfl) Try.underlying93; exact this)
  clear hA0 hval0
  refine (law a0_0 a0_1 a0_2 a0_3 a0_4 a0_5 a0_6 a0_7 a0_8 a0_9 a0_10 a0_11 a0_12 a0_13 a0_14 a0_15 sa1 sl1 sc1 z1 W (bounds_i32 w0_0) (bounds_i64 w0_1) (bounds_i32 w0_2) (bounds_i32 w0_3) (bounds_i32 w0_4) (bounds_i32 w0_5) (bounds_i32 w0_6) (bounds_i64 w0_7) (bounds_i32 w0_8) (bounds_i32 w0_9) (bounds_i32 w0_10) (bounds_i32 w0_11) (bounds_i32 w0_12) (bounds_i32 w0_13) (bounds_i32 w0_14) w1 R1).mono fun e W' ⟨he, bel⟩ => ?_
  subst he
  exact ⟨_, rfl, _, _, _, [], _, [], hW', trodAll_mk1 (shut_bool Try.underlying4 _), (trodAll_cons_mk (Below.trod laidOut (by kernel_rfl) (of_decide_eq_true (by kernel_rfl)) k0 bel lt0) (trodAll_cons_mk (Below.trod laidOut (by kernel_rfl) (of_decide_eq_true (by kernel_rfl)) k1 bel lt1) trodAll_mk0)), rfl, bel.frame _, fun h => by cases h⟩
theorem over : Rows.strokeStuckRow.holds Try.pinned (OpenSpec.ofChange Rows.strokeStuckSpec) :=
  OpenClaim.holds_of_wide 12 Try.f12 rfl rfl rfl rfl rfl rfl rfl ⟨rfl, rfl, rfl, rfl, rfl⟩ rfl rfl rfl rfl rfl (by kernel_rfl) Try.func12 (by kernel_rfl)
    (of_decide_eq_true (by kernel_rfl)) (by unfold Func.isWrapper; first | (rw [if_pos (by decide +kernel)]; kernel_rfl) | (rw [if_neg (by decide +kernel)]; exact ⟨rfl, rfl⟩))
    (fun os started H enc _ => lifted os started H enc)
theorem proved : Rows.StrokeStuckSaid := over
#print axioms proved

end Go.Proofs.Ytacelddnklnhpaa.strokeStuck
