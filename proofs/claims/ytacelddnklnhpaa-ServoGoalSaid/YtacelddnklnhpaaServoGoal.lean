/- ServoGoal: whatever the servo, the drive, the goal and the place are, the law answers true and leaves memory as it was. -/
import Derived.Test.YtacelddnklnhpaaServoStep
import Derived.Deep.DeepCutAuto
import Derived.Deep.QuietTactic
import Derived.BigQuiet
namespace Go.Proofs.Ytacelddnklnhpaa.servoGoal
open Go.ChangeShapes Go.WideShapes Go.ChangeAt Go.RowKit Go.Proofs.Ytacelddnklnhpaa Go.Proofs.Ytacelddnklnhpaa.Open
set_option linter.unusedVariables false
theorem goal_near (g x r : Int) (hr : 0 ≤ r ∧ r ≤ 2147483647) (hg : -2147483648 ≤ g ∧ g ≤ 2147483647) (hx : -2147483648 ≤ x ∧ x ≤ 2147483647) : apartI (rateI g x r) g ≤ r ∧ apartI (rateI g x r) x ≤ apartI g x ∧ (apartI g x ≤ r → rateI g x r = x) := by
  unfold rateI clampI sat32 apartI absI
  omega
theorem first_ok : Hid (ServoOk 2 0 (-9) 9 0) := (by unfold ServoOk pidBad; omega : ServoOk 2 0 (-9) 9 0)
theorem first_is : Hid (StepIs 2 0 65536 0 0 (-9) 9 0 0 0 0 5 0 2 0 2 2) := (by unfold StepIs; decide +kernel : StepIs 2 0 65536 0 0 (-9) 9 0 0 0 0 5 0 2 0 2 2)
set_option maxHeartbeats 4000000 in
set_option maxRecDepth 100000 in
theorem yes (r s P I D lo hi g sum last v want pos g' s' l' v' : Int) (w : World) (hr : -2147483648 ≤ r ∧ r ≤ 2147483647) (hP : -2147483648 ≤ P ∧ P ≤ 2147483647) (hI : -2147483648 ≤ I ∧ I ≤ 2147483647) (hD : -2147483648 ≤ D ∧ D ≤ 2147483647) (hlo : -2147483648 ≤ lo ∧ lo ≤ 2147483647) (hhi : -2147483648 ≤ hi ∧ hi ≤ 2147483647) (hg : -2147483648 ≤ g ∧ g ≤ 2147483647) (hsum : -2147483648 ≤ sum ∧ sum ≤ 2147483647) (hlast : -2147483648 ≤ last ∧ last ≤ 2147483647) (hv : -2147483648 ≤ v ∧ v ≤ 2147483647) (hwant : -2147483648 ≤ want ∧ want ≤ 2147483647) (hpos : -2147483648 ≤ pos ∧ pos ≤ 2147483647) (hg' : -2147483648 ≤ g' ∧ g' ≤ 2147483647) (hs' : -2147483648 ≤ s' ∧ s' ≤ 2147483647) (hl' : -2147483648 ≤ l' ∧ l' ≤ 2147483647) (hv' : -2147483648 ≤ v' ∧ v' ≤ 2147483647) (hs : -9223372036854775808 ≤ s ∧ s ≤ 9223372036854775807) (h : ServoOk r s lo hi sum) (hx : StepIs r s P I D lo hi g sum last v want pos g' s' l' v') (d1 : decide (apartI g' g ≤ r) = true) (d2 : decide (apartI g' want ≤ apartI g want) = true) (d3 : decide (r < apartI g want) = true ∨ (decide (r < apartI g want) = false ∧ (g' == want) = true)) (d4 : decide ((if v < lo then v else lo) ≤ v') = true) (d5 : decide (v' ≤ if hi < v then v else hi) = true) :
    Calls Try.prog 11 #[servoV r s P I D lo hi, driveV g sum last v, .int .i32 want, .int .i32 pos] w fun e w' => e = .returned (.bool true) ∧ Below w.heap.size w w' := by
  have H := Lib.hid h; have HX := Lib.hid hx; have D3 := Lib.hid d3
  clear h hx d3
  go_enter Try.func11, Try.ntmps11
  go_wp2_with fail
  refine (servoStep_yes 2 0 65536 0 0 (-9) 9 0 0 0 0 5 0 2 0 2 2 _ (by omega) (by omega) (by omega) (by omega) (by omega) (by omega) (by omega) (by omega) (by omega) (by omega) (by omega) (by omega) first_ok.out first_is.out).mono ?_
  rintro e1 w1 ⟨rfl, hb⟩
  have zb := hb.size
  try (simp at zb)
  have c0 : w1.cell? ⟨w.heap.size, 0, none⟩ = some (.int .i32 r) := cell_later hb (by go_simp)
  have c1 : w1.cell? ⟨w.heap.size, 1, none⟩ = some (.int .i64 s) := cell_later hb (by go_simp)
  have c2 : w1.cell? ⟨w.heap.size, 2, none⟩ = some (.int .i32 P) := cell_later hb (by go_simp)
  have c3 : w1.cell? ⟨w.heap.size, 3, none⟩ = some (.int .i32 I) := cell_later hb (by go_simp)
  have c4 : w1.cell? ⟨w.heap.size, 4, none⟩ = some (.int .i32 D) := cell_later hb (by go_simp)
  have c5 : w1.cell? ⟨w.heap.size, 5, none⟩ = some (.int .i32 lo) := cell_later hb (by go_simp)
  have c6 : w1.cell? ⟨w.heap.size, 6, none⟩ = some (.int .i32 hi) := cell_later hb (by go_simp)
  have s0 : w1.cell? ⟨w.heap.size + 1, 0, none⟩ = some (.int .i32 g) := cell_later hb (by go_simp)
  have s1 : w1.cell? ⟨w.heap.size + 1, 1, none⟩ = some (.int .i32 sum) := cell_later hb (by go_simp)
  have s2 : w1.cell? ⟨w.heap.size + 1, 2, none⟩ = some (.int .i32 last) := cell_later hb (by go_simp)
  have s3 : w1.cell? ⟨w.heap.size + 1, 3, none⟩ = some (.int .i32 v) := cell_later hb (by go_simp)
  have B1 : Below w.heap.size w w1 := by repeat (first | with_reducible exact Below.refl _ _ | ((with_reducible refine Below.setCell ?_ ?_ _); rotate_left; (· first | (simp; done) | omega | (simp; omega))) | with_reducible refine below_drewN ?_ _ | with_reducible refine Below.drew ?_ | ((with_reducible refine Below.trans ?_ (Below.mono hb ?_)); rotate_left; (· first | (simp; done) | omega | (simp; omega))) | ((with_reducible refine Below.alloc ?_ ?_ _); rotate_left; (· first | (simp; done) | omega | (simp; omega))) | exact Below.refl _ _ | refine Below.setCell ?_ (by first | (simp; done) | omega | (simp; omega)) _ | refine below_drewN ?_ _ | refine Below.drew ?_ | refine Below.trans ?_ (Below.mono hb (by first | (simp; done) | omega | (simp; omega))) | refine Below.alloc ?_ (by first | (simp; done) | omega | (simp; omega)) _)
  clear hb
  have sw1_0_0 : w.heap.size < w1.heap.size := by omega
  have sw1_1_0 : w.heap.size + 1 < w1.heap.size := by omega
  go_wp2_with fail
  refine (servoStep_yes r s P I D lo hi g sum last v want pos g' s' l' v' _ hr hP hI hD hlo hhi hg hsum hlast hv hwant hpos H.out HX.out).mono ?_
  rintro e2 w2 ⟨rfl, hb⟩
  have zb := hb.size
  try (simp at zb)
  have A2 : Below w1.heap.size w1 w2 := by repeat (first | with_reducible exact Below.refl _ _ | ((with_reducible refine Below.setCell ?_ ?_ _); rotate_left; (· first | (simp; done) | omega | (simp; omega))) | with_reducible refine below_drewN ?_ _ | with_reducible refine Below.drew ?_ | ((with_reducible refine Below.trans ?_ (Below.mono hb ?_)); rotate_left; (· first | (simp; done) | omega | (simp; omega))) | ((with_reducible refine Below.alloc ?_ ?_ _); rotate_left; (· first | (simp; done) | omega | (simp; omega))) | exact Below.refl _ _ | refine Below.setCell ?_ (by first | (simp; done) | omega | (simp; omega)) _ | refine below_drewN ?_ _ | refine Below.drew ?_ | refine Below.trans ?_ (Below.mono hb (by first | (simp; done) | omega | (simp; omega))) | refine Below.alloc ?_ (by first | (simp; done) | omega | (simp; omega)) _)
  have B2 : Below w.heap.size w w2 := by repeat (first | with_reducible exact Below.refl _ _ | with_reducible exact B1 | ((with_reducible refine Below.setCell ?_ ?_ _); rotate_left; (· first | (simp; done) | omega | (simp; omega))) | with_reducible refine below_drewN ?_ _ | with_reducible refine Below.drew ?_ | ((with_reducible refine Below.trans ?_ (Below.mono A2 ?_)); rotate_left; (· first | (simp; done) | omega | (simp; omega))) | ((with_reducible refine Below.alloc ?_ ?_ _); rotate_left; (· first | (simp; done) | omega | (simp; omega))) | exact Below.refl _ _ | exact B1 | refine Below.setCell ?_ (by first | (simp; done) | omega | (simp; omega)) _ | refine below_drewN ?_ _ | refine Below.drew ?_ | refine Below.trans ?_ (Below.mono A2 (by first | (simp; done) | omega | (simp; omega))) | refine Below.alloc ?_ (by first | (simp; done) | omega | (simp; omega)) _)
  replace c0 := cell_later A2 c0
  replace c5 := cell_later A2 c5
  replace c6 := cell_later A2 c6
  replace s0 := cell_later A2 s0
  replace s3 := cell_later A2 s3
  have sw2_0_0 : w.heap.size < w2.heap.size := by omega
  have sw2_1_0 : w.heap.size + 1 < w2.heap.size := by omega
  clear hb A2 B1 c1 c2 c3 c4 s1 s2
  go_upto_region 8 with fail
  have A := (Below.refl w2.heap.size w2).alloc (Nat.le_refl _) (.cells #[.int .i32 g', .int .i32 s', .int .i32 l', .int .i32 v'] 87)
  have D2 : DriveAt (w2.alloc (.cells #[.int .i32 g', .int .i32 s', .int .i32 l', .int .i32 v'] 87)) w2.heap.size g' s' l' v' := ⟨by go_simp, by go_simp, by go_simp, by go_simp, fun o => by go_simp⟩
  have BF : Hid (Below w.heap.size w (w2.alloc (.cells #[.int .i32 g', .int .i32 s', .int .i32 l', .int .i32 v'] 87))) := B2.alloc B2.size _
  replace c0 := (A.cell (p := ⟨w.heap.size, 0, none⟩) (by omega)).trans c0
  replace c5 := (A.cell (p := ⟨w.heap.size, 5, none⟩) (by omega)).trans c5
  replace c6 := (A.cell (p := ⟨w.heap.size, 6, none⟩) (by omega)).trans c6
  replace s0 := (A.cell (p := ⟨w.heap.size + 1, 0, none⟩) (by omega)).trans s0
  replace s3 := (A.cell (p := ⟨w.heap.size + 1, 3, none⟩) (by omega)).trans s3
  clear A B2
  generalize w2.alloc (.cells #[.int .i32 g', .int .i32 s', .int .i32 l', .int .i32 v'] 87) = w3 at *
  have z3 := D2.lt
  have z0 : w.heap.size < w3.heap.size := by omega
  have z1 : w.heap.size + 1 < w3.heap.size := by omega
  obtain ⟨n0, n1, n2, n3, nf⟩ := D2
  go_wp2_with fail
  refine (apart_any _ _ hg hwant _).mono ?_
  rintro e6 w6 ⟨rfl, rfl⟩
  generalize apartI g want = far at *
  go_upto_region 9 with fail
  rcases D3.out with d3 | ⟨d3, d3'⟩
  all_goals
    go_quiet ((go_at_call 24; exact quietL (apart_any _ _ (by omega) (by omega) _)))
    go_wp2_with fail
    go_quiet (fail)
    generalize (if v < lo then v else lo) = lw at *
    generalize (if hi < v then v else hi) = hw at *
    go_wp2
    go_ret
    exact ⟨rfl, below_drewN BF.out _⟩
set_option maxHeartbeats 4000000 in
set_option maxRecDepth 100000 in
theorem no (r s P I D lo hi g sum last v want pos : Int) (w : World) (h : ¬ ServoOk r s lo hi sum) :
    Calls Try.prog 11 #[servoV r s P I D lo hi, driveV g sum last v, .int .i32 want, .int .i32 pos] w fun e w' => e = .returned (.bool true) ∧ Below w.heap.size w w' := by
  have H : NotOk r s lo hi sum := h
  have q : ∀ w : World, (Op.equalIn 10000 87 (.agg #[.int .i32 0, .int .i32 0, .int .i32 0, .int .i32 0]) (.agg #[.int .i32 0, .int .i32 0, .int .i32 0, .int .i32 0])).run Try.prog w = .ok true w := fun _ => by kernel_rfl
  clear h
  go_enter Try.func11, Try.ntmps11
  go_wp2_with fail
  refine (servoStep_yes 2 0 65536 0 0 (-9) 9 0 0 0 0 5 0 2 0 2 2 _ (by omega) (by omega) (by omega) (by omega) (by omega) (by omega) (by omega) (by omega) (by omega) (by omega) (by omega) (by omega) first_ok.out first_is.out).mono ?_
  rintro e1 w1 ⟨rfl, hb⟩
  have zb := hb.size
  try (simp at zb)
  have c0 : w1.cell? ⟨w.heap.size, 0, none⟩ = some (.int .i32 r) := cell_later hb (by go_simp)
  have c1 : w1.cell? ⟨w.heap.size, 1, none⟩ = some (.int .i64 s) := cell_later hb (by go_simp)
  have c2 : w1.cell? ⟨w.heap.size, 2, none⟩ = some (.int .i32 P) := cell_later hb (by go_simp)
  have c3 : w1.cell? ⟨w.heap.size, 3, none⟩ = some (.int .i32 I) := cell_later hb (by go_simp)
  have c4 : w1.cell? ⟨w.heap.size, 4, none⟩ = some (.int .i32 D) := cell_later hb (by go_simp)
  have c5 : w1.cell? ⟨w.heap.size, 5, none⟩ = some (.int .i32 lo) := cell_later hb (by go_simp)
  have c6 : w1.cell? ⟨w.heap.size, 6, none⟩ = some (.int .i32 hi) := cell_later hb (by go_simp)
  have s0 : w1.cell? ⟨w.heap.size + 1, 0, none⟩ = some (.int .i32 g) := cell_later hb (by go_simp)
  have s1 : w1.cell? ⟨w.heap.size + 1, 1, none⟩ = some (.int .i32 sum) := cell_later hb (by go_simp)
  have s2 : w1.cell? ⟨w.heap.size + 1, 2, none⟩ = some (.int .i32 last) := cell_later hb (by go_simp)
  have s3 : w1.cell? ⟨w.heap.size + 1, 3, none⟩ = some (.int .i32 v) := cell_later hb (by go_simp)
  have B1 : Below w.heap.size w w1 := by repeat (first | with_reducible exact Below.refl _ _ | ((with_reducible refine Below.setCell ?_ ?_ _); rotate_left; (· first | (simp; done) | omega | (simp; omega))) | with_reducible refine below_drewN ?_ _ | with_reducible refine Below.drew ?_ | ((with_reducible refine Below.trans ?_ (Below.mono hb ?_)); rotate_left; (· first | (simp; done) | omega | (simp; omega))) | ((with_reducible refine Below.alloc ?_ ?_ _); rotate_left; (· first | (simp; done) | omega | (simp; omega))) | exact Below.refl _ _ | refine Below.setCell ?_ (by first | (simp; done) | omega | (simp; omega)) _ | refine below_drewN ?_ _ | refine Below.drew ?_ | refine Below.trans ?_ (Below.mono hb (by first | (simp; done) | omega | (simp; omega))) | refine Below.alloc ?_ (by first | (simp; done) | omega | (simp; omega)) _)
  clear hb
  have sw1_0_0 : w.heap.size < w1.heap.size := by omega
  have sw1_1_0 : w.heap.size + 1 < w1.heap.size := by omega
  go_wp2_with fail
  refine (servoStep_no r s P I D lo hi g sum last v want pos _ H).mono ?_
  rintro e2 w2 ⟨rfl, hb⟩
  have A2 : Below w1.heap.size w1 w2 := by repeat (first | with_reducible exact Below.refl _ _ | ((with_reducible refine Below.setCell ?_ ?_ _); rotate_left; (· first | (simp; done) | omega | (simp; omega))) | with_reducible refine below_drewN ?_ _ | with_reducible refine Below.drew ?_ | ((with_reducible refine Below.trans ?_ (Below.mono hb ?_)); rotate_left; (· first | (simp; done) | omega | (simp; omega))) | ((with_reducible refine Below.alloc ?_ ?_ _); rotate_left; (· first | (simp; done) | omega | (simp; omega))) | exact Below.refl _ _ | refine Below.setCell ?_ (by first | (simp; done) | omega | (simp; omega)) _ | refine below_drewN ?_ _ | refine Below.drew ?_ | refine Below.trans ?_ (Below.mono hb (by first | (simp; done) | omega | (simp; omega))) | refine Below.alloc ?_ (by first | (simp; done) | omega | (simp; omega)) _)
  have B2 : Below w.heap.size w w2 := by repeat (first | with_reducible exact Below.refl _ _ | with_reducible exact B1 | ((with_reducible refine Below.setCell ?_ ?_ _); rotate_left; (· first | (simp; done) | omega | (simp; omega))) | with_reducible refine below_drewN ?_ _ | with_reducible refine Below.drew ?_ | ((with_reducible refine Below.trans ?_ (Below.mono A2 ?_)); rotate_left; (· first | (simp; done) | omega | (simp; omega))) | ((with_reducible refine Below.alloc ?_ ?_ _); rotate_left; (· first | (simp; done) | omega | (simp; omega))) | exact Below.refl _ _ | exact B1 | refine Below.setCell ?_ (by first | (simp; done) | omega | (simp; omega)) _ | refine below_drewN ?_ _ | refine Below.drew ?_ | refine Below.trans ?_ (Below.mono A2 (by first | (simp; done) | omega | (simp; omega))) | refine Below.alloc ?_ (by first | (simp; done) | omega | (simp; omega)) _)
  go_wp2
  go_ret
  exact ⟨rfl, B2.alloc B2.size _⟩
theorem law (r s P I D lo hi g sum last v want pos : Int) (w : World) (hr : -2147483648 ≤ r ∧ r ≤ 2147483647) (hs : -9223372036854775808 ≤ s ∧ s ≤ 9223372036854775807) (hP : -2147483648 ≤ P ∧ P ≤ 2147483647) (hI : -2147483648 ≤ I ∧ I ≤ 2147483647) (hD : -2147483648 ≤ D ∧ D ≤ 2147483647) (hlo : -2147483648 ≤ lo ∧ lo ≤ 2147483647) (hhi : -2147483648 ≤ hi ∧ hi ≤ 2147483647) (hg : -2147483648 ≤ g ∧ g ≤ 2147483647) (hsum : -2147483648 ≤ sum ∧ sum ≤ 2147483647) (hlast : -2147483648 ≤ last ∧ last ≤ 2147483647) (hv : -2147483648 ≤ v ∧ v ≤ 2147483647) (hwant : -2147483648 ≤ want ∧ want ≤ 2147483647) (hpos : -2147483648 ≤ pos ∧ pos ≤ 2147483647) :
    Calls Try.prog 11 #[servoV r s P I D lo hi, driveV g sum last v, .int .i32 want, .int .i32 pos] w fun e w' => e = .returned (.bool true) ∧ Below w.heap.size w w' := by
  by_cases h : ServoOk r s lo hi sum
  · obtain ⟨n1, n2, n3⟩ := goal_near g want r ⟨h.1, hr.2⟩ hg hwant
    have gb := rateI_bd g want r hwant
    have lb := sat32_bd (rateI g want r - pos)
    have hok := h.2.2.2
    have sb := pidNext_bd P I D lo hi sum last (sat32 (rateI g want r - pos)) hok
    have tb := pidTold_bd P I D lo hi sum last (sat32 (rateI g want r - pos)) hok
    have wb := towardI_bd v (pidTold P I D lo hi sum last (sat32 (rateI g want r - pos))) (2 ^ s.toNat) (two_pow_bd s ⟨h.2.1, h.2.2.1⟩).1
    have hx : StepIs r s P I D lo hi g sum last v want pos (rateI g want r) (pidNext P I D lo hi sum last (sat32 (rateI g want r - pos))) (sat32 (rateI g want r - pos)) (towardI v (pidTold P I D lo hi sum last (sat32 (rateI g want r - pos))) (2 ^ s.toNat)) := ⟨rfl, rfl, rfl, rfl⟩
    generalize rateI g want r = g' at *
    generalize sat32 (g' - pos) = l' at *
    generalize pidNext P I D lo hi sum last l' = s' at *
    generalize pidTold P I D lo hi sum last l' = x at *
    generalize towardI v x (2 ^ s.toNat) = v' at *
    have hbad : lo ≤ hi := by unfold pidBad at hok; omega
    refine yes r s P I D lo hi g sum last v want pos g' s' l' v' w hr hP hI hD hlo hhi hg hsum hlast hv hwant hpos gb (by omega) lb (by omega) hs h hx (decide_eq_true n1) (decide_eq_true n2) ?_ (decide_eq_true ?_) (decide_eq_true ?_)
    · by_cases hf : r < apartI g want
      · exact .inl (decide_eq_true hf)
      · exact .inr ⟨decide_eq_false hf, by rw [n3 (by omega)]; simp⟩
    · split <;> omega
    · split <;> omega
  · exact no r s P I D lo hi g sum last v want pos w h
set_option maxRecDepth 100000 in
theorem lifted (os : Os) (started : os.Started) (H : Type) (enc : TypeId × Value → H) :
    ReturnsInHanded {} Try.checked os 11 .any (Rows.servoGoalSpec.pre6 enc Try.prog Try.f11 Rows.servoGoalRow.domain false) (Rows.servoGoalSpec.post enc Try.prog Try.f11 false true false false) := by
  refine returnsInHanded_of_change (C := Try.checked) own started (by kernel_rfl) Try.func11
    (ChangeSpec.witness6 (enc := enc) (C := Try.checked) false ⟨#[], #[.agg #[.int .i32 0, .int .i64 0, .int .i32 0, .int .i32 0, .int .i32 0, .int .i32 0, .int .i32 0], .agg #[.int .i32 0, .int .i32 0, .int .i32 0, .int .i32 0], .int .i32 0, .int .i32 0], []⟩ 8 (by kernel_rfl) (by kernel_rfl) (by kernel_rfl) (by kernel_rfl)) ?_
  intro W base args ds gs before hval0 hW hcnd _
  have hval : ∀ (j : Nat) t v, Try.f11.params[j]? = some t → args[j]? = some v → Value.okWide Try.prog W .any base t v := hval0
  have hW' := hW
  obtain ⟨p, q, hA0, hV, rfl, hfz, hnd⟩ := hW
  have hA : DataW.TrodAll enc Try.prog W 0 (fun _ => true) true Try.f11.params.toList args.toList ds p := hA0
  rw [Try.params11] at hA hval
  obtain ⟨v0, vs0, d0, ds0, p0, q0, hargs, rfl, rfl, h0, r0⟩ := trodAll_cons hA
  obtain ⟨v1, vs1, d1, ds1, p1, q1, rfl, rfl, rfl, h1, r1⟩ := trodAll_cons r0
  obtain ⟨v2, vs2, d2, ds2, p2, q2, rfl, rfl, rfl, h2, r2⟩ := trodAll_cons r1
  obtain ⟨v3, vs3, d3, ds3, p3, q3, rfl, rfl, rfl, h3, r3⟩ := trodAll_cons r2
  obtain ⟨rfl, rfl, rfl⟩ := trodAll_nil r3
  obtain rfl : args = #[v0, v1, v2, v3] := by cases args; simp_all
  obtain ⟨rfl, rfl⟩ := trodVars_none hV
  have k0 := h0
  have lt0 : ∀ x ∈ p0, x.block < W.heap.size := by obtain ⟨m, hm⟩ := k0; exact DataW.trod_lt m _ _ _ hm
  have k1 := h1
  have lt1 : ∀ x ∈ p1, x.block < W.heap.size := by obtain ⟨m, hm⟩ := k1; exact DataW.trod_lt m _ _ _ hm
  have k2 := h2
  have lt2 : ∀ x ∈ p2, x.block < W.heap.size := by obtain ⟨m, hm⟩ := k2; exact DataW.trod_lt m _ _ _ hm
  have k3 := h3
  have lt3 : ∀ x ∈ p3, x.block < W.heap.size := by obtain ⟨m, hm⟩ := k3; exact DataW.trod_lt m _ _ _ hm
  obtain ⟨cs0, rfl, lf0_0⟩ := open_flat 12 [21, 3, 21, 21, 21, 21, 21] (by kernel_rfl) (by kernel_rfl) (by kernel_rfl) (hval 0 85 v0 rfl rfl) h0
  obtain ⟨c0_0, r0_0, rfl, y0_0, lf0_1⟩ := leafs_cons lf0_0
  obtain ⟨a0_0, rfl, w0_0⟩ := leaf_int Try.underlying21 y0_0
  obtain ⟨c0_1, r0_1, rfl, y0_1, lf0_2⟩ := leafs_cons lf0_1
  obtain ⟨a0_1, rfl, w0_1⟩ := leaf_int Try.underlying3 y0_1
  obtain ⟨c0_2, r0_2, rfl, y0_2, lf0_3⟩ := leafs_cons lf0_2
  obtain ⟨a0_2, rfl, w0_2⟩ := leaf_int Try.underlying21 y0_2
  obtain ⟨c0_3, r0_3, rfl, y0_3, lf0_4⟩ := leafs_cons lf0_3
  obtain ⟨a0_3, rfl, w0_3⟩ := leaf_int Try.underlying21 y0_3
  obtain ⟨c0_4, r0_4, rfl, y0_4, lf0_5⟩ := leafs_cons lf0_4
  obtain ⟨a0_4, rfl, w0_4⟩ := leaf_int Try.underlying21 y0_4
  obtain ⟨c0_5, r0_5, rfl, y0_5, lf0_6⟩ := leafs_cons lf0_5
  obtain ⟨a0_5, rfl, w0_5⟩ := leaf_int Try.underlying21 y0_5
  obtain ⟨c0_6, r0_6, rfl, y0_6, lf0_7⟩ := leafs_cons lf0_6
  obtain ⟨a0_6, rfl, w0_6⟩ := leaf_int Try.underlying21 y0_6
  obtain rfl := leafs_nil lf0_7
  obtain ⟨cs1, rfl, lf1_0⟩ := open_flat 12 [21, 21, 21, 21] (by kernel_rfl) (by kernel_rfl) (by kernel_rfl) (hval 1 87 v1 rfl rfl) h1
  obtain ⟨c1_0, r1_0, rfl, y1_0, lf1_1⟩ := leafs_cons lf1_0
  obtain ⟨a1_0, rfl, w1_0⟩ := leaf_int Try.underlying21 y1_0
  obtain ⟨c1_1, r1_1, rfl, y1_1, lf1_2⟩ := leafs_cons lf1_1
  obtain ⟨a1_1, rfl, w1_1⟩ := leaf_int Try.underlying21 y1_1
  obtain ⟨c1_2, r1_2, rfl, y1_2, lf1_3⟩ := leafs_cons lf1_2
  obtain ⟨a1_2, rfl, w1_2⟩ := leaf_int Try.underlying21 y1_2
  obtain ⟨c1_3, r1_3, rfl, y1_3, lf1_4⟩ := leafs_cons lf1_3
  obtain ⟨a1_3, rfl, w1_3⟩ := leaf_int Try.underlying21 y1_3
  obtain rfl := leafs_nil lf1_4
  obtain ⟨a2, rfl, rfl, rfl, w2⟩ := open_int Try.underlying21 (hval 2 21 v2 rfl rfl) h2
  obtain ⟨a3, rfl, rfl, rfl, w3⟩ := open_int Try.underlying21 (hval 3 21 v3 rfl rfl) h3
  clear hA0 hval0
  refine (law a0_0 a0_1 a0_2 a0_3 a0_4 a0_5 a0_6 a1_0 a1_1 a1_2 a1_3 a2 a3 W (bounds_i32 w0_0) (bounds_i64 w0_1) (bounds_i32 w0_2) (bounds_i32 w0_3) (bounds_i32 w0_4) (bounds_i32 w0_5) (bounds_i32 w0_6) (bounds_i32 w1_0) (bounds_i32 w1_1) (bounds_i32 w1_2) (bounds_i32 w1_3) (bounds_i32 w2) (bounds_i32 w3)).mono fun e W' ⟨he, bel⟩ => ?_
  subst he
  exact ⟨_, rfl, _, _, _, [], _, [], hW', trodAll_mk1 (shut_bool Try.underlying4 _), (trodAll_cons_mk (Below.trod laidOut (by kernel_rfl) (of_decide_eq_true (by kernel_rfl)) k0 bel lt0) (trodAll_cons_mk (Below.trod laidOut (by kernel_rfl) (of_decide_eq_true (by kernel_rfl)) k1 bel lt1) (trodAll_cons_mk (Below.trod laidOut (by kernel_rfl) (of_decide_eq_true (by kernel_rfl)) k2 bel lt2) (trodAll_cons_mk (Below.trod laidOut (by kernel_rfl) (of_decide_eq_true (by kernel_rfl)) k3 bel lt3) trodAll_mk0)))), rfl, bel.frame _, fun h => by cases h⟩
theorem over : Rows.servoGoalRow.holds Try.pinned (OpenSpec.ofChange Rows.servoGoalSpec) :=
  OpenClaim.holds_of_wide 11 Try.f11 rfl rfl rfl rfl rfl rfl rfl ⟨rfl, rfl, rfl, rfl, rfl⟩ rfl rfl rfl rfl rfl (by kernel_rfl) Try.func11 (by kernel_rfl)
    (of_decide_eq_true (by kernel_rfl)) (by unfold Func.isWrapper; first | (rw [if_pos (by decide +kernel)]; kernel_rfl) | (rw [if_neg (by decide +kernel)]; exact ⟨rfl, rfl⟩))
    (fun os started H enc _ => lifted os started H enc)
theorem proved : Rows.ServoGoalSaid := over
#print axioms proved

end Go.Proofs.Ytacelddnklnhpaa.servoGoal
