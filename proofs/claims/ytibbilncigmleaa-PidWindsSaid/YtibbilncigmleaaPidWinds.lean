/- PidWinds: whatever the gains, the state and the error are, the law answers true and leaves memory as it was. -/
import Derived.Test.YtibbilncigmleaaPid
namespace Go.Proofs.Ytibbilncigmleaa.pidWinds
open Go.ChangeShapes Go.WideShapes Go.ChangeAt Go.RowKit Go.Proofs.Ytibbilncigmleaa Go.Proofs.Ytibbilncigmleaa.Open
set_option linter.unusedVariables false
set_option maxHeartbeats 2000000 in
set_option maxRecDepth 100000 in
theorem law (P I D low high sum last err : Int) (w : World) (hP : -2147483648 ≤ P ∧ P ≤ 2147483647) (hI : -2147483648 ≤ I ∧ I ≤ 2147483647) (hD : -2147483648 ≤ D ∧ D ≤ 2147483647)
    (hl : -2147483648 ≤ low ∧ low ≤ 2147483647) (hh : -2147483648 ≤ high ∧ high ≤ 2147483647) (hs : -2147483648 ≤ sum ∧ sum ≤ 2147483647) (hla : -2147483648 ≤ last ∧ last ≤ 2147483647) (he : -2147483648 ≤ err ∧ err ≤ 2147483647) :
    Calls Try.prog 11 #[.agg #[.int .i32 P, .int .i32 I, .int .i32 D, .int .i32 low, .int .i32 high], .agg #[.int .i32 sum, .int .i32 last], .int .i32 err] w
      fun e w' => e = .returned (.bool true) ∧ Below w.heap.size w w' := by
  have k1 : pidNext 65536 65536 0 (-5) 5 0 0 9 = 0 := by decide
  have k2 : pidTold 65536 65536 0 (-5) 5 0 0 9 = 5 := by decide
  have kb : ¬ pidBad (-5) 5 0 := by unfold pidBad; omega
  have KB := Lib.hid kb
  clear kb
  go_enter Try.func11, Try.ntmps11
  go_wp2_with fail
  refine (pidStep_yes _ _ _ _ _ _ _ _ _ (by omega) (by omega) (by omega) (by omega) (by omega) (by omega) (by omega) (by omega) KB.out).mono ?_
  rintro e1 w1 ⟨rfl, hb1⟩
  have hz1 := hb1.size
  obtain ⟨hc1, hf1⟩ := bcell hb1
  simp at hz1
  have g0 : w1.cell? ⟨w.heap.size, 0, none⟩ = some (.int .i32 P) := by rw [hc1 _ _ (by simp; omega)]; simp
  have g1 : w1.cell? ⟨w.heap.size, 1, none⟩ = some (.int .i32 I) := by rw [hc1 _ _ (by simp; omega)]; simp
  have g2 : w1.cell? ⟨w.heap.size, 2, none⟩ = some (.int .i32 D) := by rw [hc1 _ _ (by simp; omega)]; simp
  have g3 : w1.cell? ⟨w.heap.size, 3, none⟩ = some (.int .i32 low) := by rw [hc1 _ _ (by simp; omega)]; simp
  have g4 : w1.cell? ⟨w.heap.size, 4, none⟩ = some (.int .i32 high) := by rw [hc1 _ _ (by simp; omega)]; simp
  have g5 : w1.cell? ⟨w.heap.size + 1, 0, none⟩ = some (.int .i32 sum) := by rw [hc1 _ _ (by simp)]; simp
  have g6 : w1.cell? ⟨w.heap.size + 1, 1, none⟩ = some (.int .i32 last) := by rw [hc1 _ _ (by simp)]; simp
  have B1 : Below w.heap.size w w1 := by
    repeat (first | exact Below.refl _ _ | refine Below.setCell ?_ (by first | (simp; done) | omega | (simp; omega)) _ | refine Below.trans ?_ (Below.mono hb1 (by first | (simp; done) | omega | (simp; omega))) | refine Below.alloc ?_ (by first | (simp; done) | omega | (simp; omega)) _)
  clear hb1 hc1 hf1
  have n0 : w.heap.size < w1.heap.size := by omega
  have n1 : w.heap.size + 1 < w1.heap.size := by omega
  go_wp2_with fail
  by_cases hbad : pidBad low high sum
  · have HB := Lib.hid hbad
    clear hbad
    refine (pidStep_no _ _ _ _ _ _ _ _ _ HB.out).mono ?_
    rintro e2 w2 ⟨rfl, hb2⟩
    have hz2 := hb2.size
    simp at hz2
    go_wp2
    go_ret
    refine ⟨ret_bool rfl, ?_⟩
    repeat (first | exact B1 | refine Below.setCell ?_ (by first | (simp; done) | omega | (simp; omega)) _ | refine below_drewN ?_ _ | refine Below.trans ?_ (Below.mono hb2 (by first | (simp; done) | omega | (simp; omega))) | refine Below.alloc ?_ (by first | (simp; done) | omega | (simp; omega)) _)
  · have HB := Lib.hid hbad
    clear hbad
    refine (pidStep_yes _ _ _ _ _ _ _ _ _ (by omega) (by omega) (by omega) (by omega) (by omega) (by omega) (by omega) (by omega) HB.out).mono ?_
    rintro e2 w2 ⟨rfl, hb2⟩
    have hz2 := hb2.size
    simp at hz2
    have B2 : Below w1.heap.size w1 w2 := ((Below.refl _ _).alloc (Nat.le_refl _) _).trans (hb2.mono (by simp))
    have B3 : Below w.heap.size w w2 := B1.trans (B2.mono (by omega))
    have m1 := cell_later B2 g1
    have m3 := cell_later B2 g3
    have m4 := cell_later B2 g4
    have m5 := cell_later B2 g5
    have m0 : w.heap.size < w2.heap.size := by omega
    have m2 : w.heap.size + 1 < w2.heap.size := by omega
    clear hb2 B2 B1 g0 g1 g2 g3 g4 g5 g6 n0 n1 hz1 hz2 k1 k2 KB
    have b1 := mulI_bd I err
    have b2 := sat32_bd (sum + mulI I err)
    have e1 : clampI (sat32 (sum + mulI I err)) low high = pidSum I low high sum err := rfl
    have e2 : pidTold P I D low high sum last err = clampI (pidOut P I D low high sum last err) low high := rfl
    have hk : (pidKeeps P I D low high sum last err = false) ∨ (pidKeeps P I D low high sum last err = true ∧ high < pidOut P I D low high sum last err ∧ sum < pidSum I low high sum err) ∨
        (pidKeeps P I D low high sum last err = true ∧ pidOut P I D low high sum last err < low ∧ pidSum I low high sum err < sum) := by
      unfold pidKeeps
      by_cases q1 : high < pidOut P I D low high sum last err <;> by_cases q2 : sum < pidSum I low high sum err <;> by_cases q3 : pidOut P I D low high sum last err < low <;> by_cases q4 : pidSum I low high sum err < sum <;> simp [q1, q2, q3, q4]
    have hb : low ≤ high ∧ low ≤ sum ∧ sum ≤ high := by have := HB.out; unfold pidBad at this; omega
    have e4 : pidNext P I D low high sum last err = if pidKeeps P I D low high sum last err then sum else pidSum I low high sum err := rfl
    have E2 := Lib.hid e2; have E4 := Lib.hid e4; have HK := Lib.hid hk; have HB2 := Lib.hid hb
    clear e2 e4 hk hb
    generalize pidNext P I D low high sum last err = nx at E4 ⊢
    generalize pidKeeps P I D low high sum last err = kp at E4 HK
    generalize pidTold P I D low high sum last err = tl at E2 ⊢
    generalize pidOut P I D low high sum last err = ou at E2 HK
    generalize pidSum I low high sum err = su at e1 E4 HK
    go_wp2_with fail
    go_quiet ((first | (go_at_call 32; exact quietL (mul_any _ _ (by omega) (by omega) _)) | (go_at_call 25; exact quietL (add_any _ _ (by omega) (by omega) _)) | (go_at_call 26; exact quietL (clamp_any _ _ _ _))))
    rcases HK.out with rfl | ⟨rfl, h1, h2⟩ | ⟨rfl, h1, h2⟩
    · obtain rfl : nx = su := by simpa using E4.out
      go_wp2
      all_goals
        go_ret
        refine ⟨ret_bool (by first | rfl | simp), ?_⟩
        repeat (first | exact B3 | refine Below.setCell ?_ (by first | (simp; done) | omega | (simp; omega)) _ | refine below_drewN ?_ _ | refine Below.alloc ?_ (by first | (simp; done) | omega | (simp; omega)) _)
    · obtain rfl : nx = sum := by simpa using E4.out
      obtain rfl : tl = high := by have h3 := E2.out; have h4 := HB2.out; unfold clampI at h3; omega
      have d1 : (nx == su) = false := by simp; omega
      have d2 : (nx != su) = true := by simp; omega
      go_wp2
      all_goals
        go_ret
        refine ⟨ret_bool (by first | rfl | simp), ?_⟩
        repeat (first | exact B3 | refine Below.setCell ?_ (by first | (simp; done) | omega | (simp; omega)) _ | refine below_drewN ?_ _ | refine Below.alloc ?_ (by first | (simp; done) | omega | (simp; omega)) _)
    · obtain rfl : nx = sum := by simpa using E4.out
      obtain rfl : tl = low := by have h3 := E2.out; have h4 := HB2.out; unfold clampI at h3; omega
      have d1 : (nx == su) = false := by simp; omega
      have d2 : (nx != su) = true := by simp; omega
      have d3 : nx ≥ su := by omega
      go_wp2
      all_goals
        go_ret
        refine ⟨ret_bool (by first | rfl | simp), ?_⟩
        repeat (first | exact B3 | refine Below.setCell ?_ (by first | (simp; done) | omega | (simp; omega)) _ | refine below_drewN ?_ _ | refine Below.alloc ?_ (by first | (simp; done) | omega | (simp; omega)) _)
set_option maxRecDepth 100000 in
theorem lifted (os : Os) (started : os.Started) (H : Type) (enc : TypeId × Value → H) :
    ReturnsInHanded {} Try.checked os 11 .any (Rows.pidWindsSpec.pre6 enc Try.prog Try.f11 Rows.pidWindsRow.domain false) (Rows.pidWindsSpec.post enc Try.prog Try.f11 false true false false) := by
  refine returnsInHanded_of_change (C := Try.checked) own started (by kernel_rfl) Try.func11
    (ChangeSpec.witness6 (enc := enc) (C := Try.checked) false ⟨#[], #[.agg #[.int .i32 0, .int .i32 0, .int .i32 0, .int .i32 0, .int .i32 0], .agg #[.int .i32 0, .int .i32 0], .int .i32 0], []⟩ 8 (by kernel_rfl) (by kernel_rfl) (by kernel_rfl) (by kernel_rfl)) ?_
  intro W base args ds gs before hval0 hW hcnd _
  have hval : ∀ (j : Nat) t v, Try.f11.params[j]? = some t → args[j]? = some v → Value.okWide Try.prog W .any base t v := hval0
  have hW' := hW
  obtain ⟨p, q, hA0, hV, rfl, hfz, hnd⟩ := hW
  have hA : DataW.TrodAll enc Try.prog W 0 (fun _ => true) true Try.f11.params.toList args.toList ds p := hA0
  rw [Try.params11] at hA hval
  obtain ⟨v0, vs0, d0, ds0, p0, q0, hargs, rfl, rfl, h0, r0⟩ := trodAll_cons hA
  obtain ⟨v1, vs1, d1, ds1, p1, q1, rfl, rfl, rfl, h1, r1⟩ := trodAll_cons r0
  obtain ⟨v2, vs2, d2, ds2, p2, q2, rfl, rfl, rfl, h2, r2⟩ := trodAll_cons r1
  obtain ⟨rfl, rfl, rfl⟩ := trodAll_nil r2
  obtain rfl : args = #[v0, v1, v2] := by cases args; simp_all
  obtain ⟨rfl, rfl⟩ := trodVars_none hV
  have k0 := h0
  have lt0 : ∀ x ∈ p0, x.block < W.heap.size := by obtain ⟨m, hm⟩ := k0; exact DataW.trod_lt m _ _ _ hm
  have k1 := h1
  have lt1 : ∀ x ∈ p1, x.block < W.heap.size := by obtain ⟨m, hm⟩ := k1; exact DataW.trod_lt m _ _ _ hm
  have k2 := h2
  have lt2 : ∀ x ∈ p2, x.block < W.heap.size := by obtain ⟨m, hm⟩ := k2; exact DataW.trod_lt m _ _ _ hm
  obtain ⟨cs0, rfl, lf0_0⟩ := open_flat 12 [21, 21, 21, 21, 21] (by kernel_rfl) (by kernel_rfl) (by kernel_rfl) (hval 0 72 v0 rfl rfl) h0
  obtain ⟨c0_0, r0_0, rfl, y0_0, lf0_1⟩ := leafs_cons lf0_0
  obtain ⟨a0_0, rfl, w0_0⟩ := leaf_int Try.underlying21 y0_0
  obtain ⟨c0_1, r0_1, rfl, y0_1, lf0_2⟩ := leafs_cons lf0_1
  obtain ⟨a0_1, rfl, w0_1⟩ := leaf_int Try.underlying21 y0_1
  obtain ⟨c0_2, r0_2, rfl, y0_2, lf0_3⟩ := leafs_cons lf0_2
  obtain ⟨a0_2, rfl, w0_2⟩ := leaf_int Try.underlying21 y0_2
  obtain ⟨c0_3, r0_3, rfl, y0_3, lf0_4⟩ := leafs_cons lf0_3
  obtain ⟨a0_3, rfl, w0_3⟩ := leaf_int Try.underlying21 y0_3
  obtain ⟨c0_4, r0_4, rfl, y0_4, lf0_5⟩ := leafs_cons lf0_4
  obtain ⟨a0_4, rfl, w0_4⟩ := leaf_int Try.underlying21 y0_4
  obtain rfl := leafs_nil lf0_5
  obtain ⟨cs1, rfl, lf1_0⟩ := open_flat 12 [21, 21] (by kernel_rfl) (by kernel_rfl) (by kernel_rfl) (hval 1 74 v1 rfl rfl) h1
  obtain ⟨c1_0, r1_0, rfl, y1_0, lf1_1⟩ := leafs_cons lf1_0
  obtain ⟨a1_0, rfl, w1_0⟩ := leaf_int Try.underlying21 y1_0
  obtain ⟨c1_1, r1_1, rfl, y1_1, lf1_2⟩ := leafs_cons lf1_1
  obtain ⟨a1_1, rfl, w1_1⟩ := leaf_int Try.underlying21 y1_1
  obtain rfl := leafs_nil lf1_2
  obtain ⟨a2, rfl, rfl, rfl, w2⟩ := open_int Try.underlying21 (hval 2 21 v2 rfl rfl) h2
  clear hA0 hval0
  refine (law a0_0 a0_1 a0_2 a0_3 a0_4 a1_0 a1_1 a2 W (bounds_i32 w0_0) (bounds_i32 w0_1) (bounds_i32 w0_2) (bounds_i32 w0_3) (bounds_i32 w0_4) (bounds_i32 w1_0) (bounds_i32 w1_1) (bounds_i32 w2)).mono fun e W' ⟨he, bel⟩ => ?_
  subst he
  exact ⟨_, rfl, _, _, _, [], _, [], hW', trodAll_mk1 (shut_bool Try.underlying4 _), (trodAll_cons_mk (Below.trod laidOut (by kernel_rfl) (of_decide_eq_true (by kernel_rfl)) k0 bel lt0) (trodAll_cons_mk (Below.trod laidOut (by kernel_rfl) (of_decide_eq_true (by kernel_rfl)) k1 bel lt1) (trodAll_cons_mk (Below.trod laidOut (by kernel_rfl) (of_decide_eq_true (by kernel_rfl)) k2 bel lt2) trodAll_mk0))), rfl, bel.frame _, fun h => by cases h⟩
theorem over : Rows.pidWindsRow.holds Try.pinned (OpenSpec.ofChange Rows.pidWindsSpec) :=
  OpenClaim.holds_of_wide 11 Try.f11 rfl rfl rfl rfl rfl rfl rfl ⟨rfl, rfl, rfl, rfl, rfl⟩ rfl rfl rfl rfl rfl (by kernel_rfl) Try.func11 (by kernel_rfl)
    (of_decide_eq_true (by kernel_rfl)) (by unfold Func.isWrapper; first | (rw [if_pos (by decide +kernel)]; kernel_rfl) | (rw [if_neg (by decide +kernel)]; exact ⟨rfl, rfl⟩))
    (fun os started H enc _ => lifted os started H enc)
theorem proved : Rows.PidWindsSaid := over
#print axioms proved

end Go.Proofs.Ytibbilncigmleaa.pidWinds
