/- FiltRate: whatever the four numbers are, the law answers true and leaves memory as it was. -/
import Derived.Test.YtibbilncigmleaaFilt
import Derived.Deep.DeepCutAuto
namespace Go.Proofs.Ytibbilncigmleaa.filtRate
open Go.ChangeShapes Go.WideShapes Go.ChangeAt Go.RowKit Go.Proofs.Ytibbilncigmleaa Go.Proofs.Ytibbilncigmleaa.Open
set_option linter.unusedVariables false
theorem rateI_bd (y x m : Int) (hx : -2147483648 ≤ x ∧ x ≤ 2147483647) : -2147483648 ≤ rateI y x m ∧ rateI y x m ≤ 2147483647 := by
  have h1 := sat32_bd (y - sat32 (absI m)); have h2 := sat32_bd (y + sat32 (absI m)); unfold rateI clampI; omega
theorem deadI_bd (x m : Int) (hx : -2147483648 ≤ x ∧ x ≤ 2147483647) : -2147483648 ≤ deadI x m ∧ deadI x m ≤ 2147483647 := by
  have h : 0 ≤ sat32 (absI m) := by unfold absI sat32; omega
  unfold deadI; split <;> (try split) <;> omega
theorem dead_cases (m : Int) : ∃ r : Int, 0 ≤ r ∧ ∀ x, (r < x ∧ deadI x m = x - r) ∨ (x < -r ∧ deadI x m = x + r) ∨ (-r ≤ x ∧ x ≤ r ∧ deadI x m = 0) := by
  refine ⟨sat32 (absI m), by unfold absI sat32; omega, fun x => ?_⟩
  have hr : 0 ≤ sat32 (absI m) := by unfold absI sat32; omega
  unfold deadI
  split
  · omega
  · split <;> omega
theorem dead_mono (x z m : Int) (h : x ≤ z) : deadI x m ≤ deadI z m := by
  obtain ⟨r, hr, h1⟩ := dead_cases m
  have h2 := h1 x
  have h3 := h1 z
  omega
theorem dead_two (x z m : Int) : apartI (deadI x m) (deadI z m) ≤ apartI x z := by
  obtain ⟨r, hr, h1⟩ := dead_cases m
  have h2 := h1 x
  have h3 := h1 z
  have h4 : deadI x m - deadI z m ≤ max (x - z) (z - x) := by
    rcases h2 with h2 | h2 | h2 <;> rcases h3 with h3 | h3 | h3 <;> omega
  have h5 : deadI z m - deadI x m ≤ max (x - z) (z - x) := by
    rcases h2 with h2 | h2 | h2 <;> rcases h3 with h3 | h3 | h3 <;> omega
  clear h2 h3 h1
  unfold apartI absI
  omega
set_option maxHeartbeats 1000000 in
set_option maxRecDepth 100000 in
theorem way (y x z m w0 a b st : Int) (w : World) (hy : -2147483648 ≤ y ∧ y ≤ 2147483647) (hx : -2147483648 ≤ x ∧ x ≤ 2147483647) (hz : -2147483648 ≤ z ∧ z ≤ 2147483647) (hm : -2147483648 ≤ m ∧ m ≤ 2147483647)
    (hw : -2147483648 ≤ w0 ∧ w0 ≤ 2147483647) (ha : -2147483648 ≤ a ∧ a ≤ 2147483647) (hb : -2147483648 ≤ b ∧ b ≤ 2147483647)
    (k1 : rateI 0 9 4 = 4) (k2 : deadI 9 4 = 5) (k3 : rateI y x m = w0) (k4 : deadI x m = a) (k5 : deadI z m = b) (hst : Hid (st = min (apartI m 0) 2147483647))
    (d1 : decide (st < apartI w0 y) = false) (d2 : decide (apartI y x ≤ st) = false ∨ (decide (apartI y x ≤ st) = true ∧ (w0 != x) = false)) (d3 : decide (apartI y x < apartI w0 x) = false)
    (d4 : decide (apartI a 0 ≤ apartI x 0) = true) (d5 : decide (apartI a b ≤ apartI x z) = true) (d6 : decide (x ≤ z) = false ∨ (decide (x ≤ z) = true ∧ decide (a ≤ b) = true)) :
    Calls Try.prog 13 #[.int .i32 y, .int .i32 x, .int .i32 z, .int .i32 m] w fun e w' => e = .returned (.bool true) ∧ Below w.heap.size w w' := by
  go_enter Try.func13, Try.ntmps13
  go_upto_region 4 with (first | (go_at_call 34; refine (rate_any _ _ _ (by omega) (by omega) (by omega) _).mono ?_; rintro e w' ⟨rfl, rfl⟩) | (go_at_call 35; refine (dead_any _ _ (by omega) (by omega) _).mono ?_; rintro e w' ⟨rfl, rfl⟩))
  go_cut [10] (fun p wx => p = .int .i64 st ∧ w = wx)
  case first =>
    go_wp2_with (go_at_call 16; refine (apart_any _ _ (by omega) (by omega) _).mono ?_; rintro e w' ⟨rfl, rfl⟩)
    all_goals (go_meet; have h1 := hst.out; exact ⟨by go_num, rfl⟩)
  case rest =>
    obtain ⟨rfl, rfl⟩ := hcut
    rcases d2 with d2 | ⟨d2, d2'⟩ <;> rcases d6 with d6 | ⟨d6, d6'⟩
    all_goals
      go_wp2_with (first | (go_at_call 35; refine (dead_any _ _ (by omega) (by omega) _).mono ?_; rintro e w' ⟨rfl, rfl⟩) | (go_at_call 16; refine (apart_any _ _ (by omega) (by omega) _).mono ?_; rintro e w' ⟨rfl, rfl⟩))
      go_ret
      exact ⟨ret_bool (by first | rfl | simpa), Below.refl _ _⟩
theorem law (y x z m : Int) (w : World) (hy : -2147483648 ≤ y ∧ y ≤ 2147483647) (hx : -2147483648 ≤ x ∧ x ≤ 2147483647) (hz : -2147483648 ≤ z ∧ z ≤ 2147483647) (hm : -2147483648 ≤ m ∧ m ≤ 2147483647) :
    Calls Try.prog 13 #[.int .i32 y, .int .i32 x, .int .i32 z, .int .i32 m] w fun e w' => e = .returned (.bool true) ∧ Below w.heap.size w w' := by
  refine way y x z m _ _ _ _ w hy hx hz hm (rateI_bd y x m hx) (deadI_bd x m hx) (deadI_bd z m hz) (by decide) (by decide) rfl rfl rfl rfl ?_ ?_ ?_ ?_ ?_ ?_
  · exact decide_eq_false (by unfold rateI clampI sat32 apartI absI; omega)
  · by_cases h : apartI y x ≤ min (apartI m 0) 2147483647
    · refine .inr ⟨decide_eq_true h, ?_⟩
      have e : rateI y x m = x := by revert h; unfold rateI clampI sat32 apartI absI; omega
      simp [e]
    · exact .inl (decide_eq_false h)
  · exact decide_eq_false (by unfold rateI clampI sat32 apartI absI; omega)
  · obtain ⟨r, hr, h1⟩ := dead_cases m
    have h2 := h1 x
    exact decide_eq_true (by unfold apartI absI; omega)
  · exact decide_eq_true (dead_two x z m)
  · by_cases h : x ≤ z
    · exact .inr ⟨decide_eq_true h, decide_eq_true (dead_mono x z m h)⟩
    · exact .inl (decide_eq_false h)
set_option maxRecDepth 100000 in
theorem lifted (os : Os) (started : os.Started) (H : Type) (enc : TypeId × Value → H) :
    ReturnsInHanded {} Try.checked os 13 .any (Rows.filtRateSpec.pre6 enc Try.prog Try.f13 Rows.filtRateRow.domain false) (Rows.filtRateSpec.post enc Try.prog Try.f13 false true false false) := by
  refine returnsInHanded_of_change (C := Try.checked) own started (by kernel_rfl) Try.func13
    (ChangeSpec.witness6 (enc := enc) (C := Try.checked) false ⟨#[], #[.int .i32 0, .int .i32 0, .int .i32 0, .int .i32 0], []⟩ 8 (by kernel_rfl) (by kernel_rfl) (by kernel_rfl) (by kernel_rfl)) ?_
  intro W base args ds gs before hval0 hW hcnd _
  have hval : ∀ (j : Nat) t v, Try.f13.params[j]? = some t → args[j]? = some v → Value.okWide Try.prog W .any base t v := hval0
  have hW' := hW
  obtain ⟨p, q, hA0, hV, rfl, hfz, hnd⟩ := hW
  have hA : DataW.TrodAll enc Try.prog W 0 (fun _ => true) true Try.f13.params.toList args.toList ds p := hA0
  rw [Try.params13] at hA hval
  obtain ⟨v0, vs0, d0, ds0, p0, q0, hargs, rfl, rfl, h0, r0⟩ := trodAll_cons hA
  obtain ⟨v1, vs1, d1, ds1, p1, q1, rfl, rfl, rfl, h1, r1⟩ := trodAll_cons r0
  obtain ⟨v2, vs2, d2, ds2, p2, q2, rfl, rfl, rfl, h2, r2⟩ := trodAll_cons r1
  obtain ⟨v3, vs3, d3, ds3, p3, q3, rfl, rfl, rfl, h3, r3⟩ := trodAll_cons r2
  obtain ⟨rfl, rfl, rfl⟩ := trodAll_nil r3
  obtain rfl : args = #[v0, v1, v2, v3] := by cases args; simp_all
  obtain ⟨rfl, rfl⟩ := trodVars_none hV
  have k0 := h0
  have lt0 : ∀ x ∈ p0, x.block < W.heap.size := by obtain ⟨m, hm⟩ := k0; exact DataW.trod_lt m _ _ _ hm
  have k1 := h1
  have lt1 : ∀ x ∈ p1, x.block < W.heap.size := by obtain ⟨m, hm⟩ := k1; exact DataW.trod_lt m _ _ _ hm
  have k2 := h2
  have lt2 : ∀ x ∈ p2, x.block < W.heap.size := by obtain ⟨m, hm⟩ := k2; exact DataW.trod_lt m _ _ _ hm
  have k3 := h3
  have lt3 : ∀ x ∈ p3, x.block < W.heap.size := by obtain ⟨m, hm⟩ := k3; exact DataW.trod_lt m _ _ _ hm
  obtain ⟨a0, rfl, rfl, rfl, w0⟩ := open_int Try.underlying21 (hval 0 21 v0 rfl rfl) h0
  obtain ⟨a1, rfl, rfl, rfl, w1⟩ := open_int Try.underlying21 (hval 1 21 v1 rfl rfl) h1
  obtain ⟨a2, rfl, rfl, rfl, w2⟩ := open_int Try.underlying21 (hval 2 21 v2 rfl rfl) h2
  obtain ⟨a3, rfl, rfl, rfl, w3⟩ := open_int Try.underlying21 (hval 3 21 v3 rfl rfl) h3
  clear hA0 hval0
  refine (law a0 a1 a2 a3 W (bounds_i32 w0) (bounds_i32 w1) (bounds_i32 w2) (bounds_i32 w3)).mono fun e W' ⟨he, bel⟩ => ?_
  subst he
  exact ⟨_, rfl, _, _, _, [], _, [], hW', trodAll_mk1 (shut_bool Try.underlying4 _), (trodAll_cons_mk (Below.trod laidOut (by kernel_rfl) (of_decide_eq_true (by kernel_rfl)) k0 bel lt0) (trodAll_cons_mk (Below.trod laidOut (by kernel_rfl) (of_decide_eq_true (by kernel_rfl)) k1 bel lt1) (trodAll_cons_mk (Below.trod laidOut (by kernel_rfl) (of_decide_eq_true (by kernel_rfl)) k2 bel lt2) (trodAll_cons_mk (Below.trod laidOut (by kernel_rfl) (of_decide_eq_true (by kernel_rfl)) k3 bel lt3) trodAll_mk0)))), rfl, bel.frame _, fun h => by cases h⟩
theorem over : Rows.filtRateRow.holds Try.pinned (OpenSpec.ofChange Rows.filtRateSpec) :=
  OpenClaim.holds_of_wide 13 Try.f13 rfl rfl rfl rfl rfl rfl rfl ⟨rfl, rfl, rfl, rfl, rfl⟩ rfl rfl rfl rfl rfl (by kernel_rfl) Try.func13 (by kernel_rfl)
    (of_decide_eq_true (by kernel_rfl)) (by unfold Func.isWrapper; first | (rw [if_pos (by decide +kernel)]; kernel_rfl) | (rw [if_neg (by decide +kernel)]; exact ⟨rfl, rfl⟩))
    (fun os started H enc _ => lifted os started H enc)
theorem proved : Rows.FiltRateSaid := over
#print axioms proved

end Go.Proofs.Ytibbilncigmleaa.filtRate
