/- SatOrder: whatever the six numbers are, the law answers true and leaves memory as it was. -/
import Derived.Test.YtibbilncigmleaaSat
import Derived.Deep.DeepCutAuto
namespace Go.Proofs.Ytibbilncigmleaa.satOrder
open Go.ChangeShapes Go.WideShapes Go.ChangeAt Go.RowKit Go.Proofs.Ytibbilncigmleaa Go.Proofs.Ytibbilncigmleaa.Open
set_option linter.unusedVariables false
theorem shiftI_mono {a b : Int} (n : Int) (h : a ≤ b) : shiftI a n ≤ shiftI b n := by
  unfold shiftI
  split
  · exact Int.ediv_le_ediv (by have := two_pow_31 (min (-n) 31) (by omega); omega) h
  · exact sat32_mono (Int.mul_le_mul_of_nonneg_right h (by have := two_pow_31 (min n 31) (by omega); omega))
set_option maxHeartbeats 1000000 in
set_option maxRecDepth 100000 in
theorem way (n m a b c k nl nh x y : Int) (w : World) (hc : -2147483648 ≤ c ∧ c ≤ 2147483647) (hx : -2147483648 ≤ x ∧ x ≤ 2147483647) (hy : -2147483648 ≤ y ∧ y ≤ 2147483647)
    (k1 : sat32 5 = 5) (k2 : shiftI 3 1 = 6) (k3 : shiftI (-3) (-1) = -2)
    (g1 : Hid (x = min a b)) (g2 : Hid (y = max a b)) (g3 : Hid (nl = min n m)) (g4 : Hid (nh = max n m))
    (d1 : decide (sat32 nl ≤ sat32 nh) = true) (d2 : decide (to16I x ≤ to16I y) = true) (d3 : decide (wordI x ≤ wordI y) = true) (d4 : decide (sat32 (x + c) ≤ sat32 (y + c)) = true)
    (d5 : decide (shiftI x k ≤ shiftI y k) = true) (d6 : decide (clampI x c a ≤ clampI y c a) = true) :
    Calls Try.prog 7 #[.int .i64 n, .int .i64 m, .int .i32 a, .int .i32 b, .int .i32 c, .int .i64 k] w fun e w' => e = .returned (.bool true) ∧ Below w.heap.size w w' := by
  go_enter Try.func7, Try.ntmps7
  go_upto_region 3 with (first | (go_at_call 22; refine (to32_any _ _).mono ?_; rintro e w' ⟨rfl, rfl⟩) | (go_at_call 17; refine (shift_any _ _ (by omega) _).mono ?_; rintro e w' ⟨rfl, rfl⟩))
  go_cut [13, 14] (fun p q wx => p = .int .i32 x ∧ q = .int .i32 y ∧ w = wx)
  case first =>
    rcases (by omega : a < b ∨ b < a ∨ a = b) with g | g | rfl
    all_goals
      have h1 := g1.out
      have h2 := g2.out
    · obtain rfl : x = a := by omega
      obtain rfl : y = b := by omega
      clear h1 h2
      go_wp2; go_meet; exact ⟨rfl, rfl, rfl⟩
    · obtain rfl : x = b := by omega
      obtain rfl : y = a := by omega
      clear h1 h2
      go_wp2; go_meet; exact ⟨rfl, rfl, rfl⟩
    · obtain rfl : x = a := by omega
      obtain rfl : y = x := by omega
      clear h1 h2
      go_wp2; go_meet; exact ⟨rfl, rfl, rfl⟩
  case rest =>
    obtain ⟨rfl, rfl, rfl⟩ := hcut
    go_upto_region 4 with fail
    go_cut [15, 16] (fun p q wx => p = .int .i32 (sat32 nl) ∧ q = .int .i32 (sat32 nh) ∧ w = wx)
    case first =>
      rcases (by omega : n < m ∨ m < n ∨ n = m) with g | g | rfl
      all_goals
        have h1 := g3.out
        have h2 := g4.out
      · obtain rfl : nl = n := by omega
        obtain rfl : nh = m := by omega
        clear h1 h2
        go_wp2_with (go_at_call 22; refine (to32_any _ _).mono ?_; rintro e w' ⟨rfl, rfl⟩)
        go_meet; exact ⟨rfl, rfl, rfl⟩
      · obtain rfl : nl = m := by omega
        obtain rfl : nh = n := by omega
        clear h1 h2
        go_wp2_with (go_at_call 22; refine (to32_any _ _).mono ?_; rintro e w' ⟨rfl, rfl⟩)
        go_meet; exact ⟨rfl, rfl, rfl⟩
      · obtain rfl : nl = n := by omega
        obtain rfl : nh = nl := by omega
        clear h1 h2
        go_wp2_with (go_at_call 22; refine (to32_any _ _).mono ?_; rintro e w' ⟨rfl, rfl⟩)
        go_meet; exact ⟨rfl, rfl, rfl⟩
    case rest =>
      obtain ⟨rfl, rfl, rfl⟩ := hcut
      go_wp2_with (first | (go_at_call 23; refine (to16_any _ _).mono ?_; rintro e w' ⟨rfl, rfl⟩) | (go_at_call 24; refine (word_any _ _).mono ?_; rintro e w' ⟨rfl, rfl⟩) | (go_at_call 25; refine (add_any _ _ (by omega) (by omega) _).mono ?_; rintro e w' ⟨rfl, rfl⟩) | (go_at_call 17; refine (shift_any _ _ (by omega) _).mono ?_; rintro e w' ⟨rfl, rfl⟩) | (go_at_call 26; refine (clamp_any _ _ _ _).mono ?_; rintro e w' ⟨rfl, rfl⟩))
      go_ret
      exact ⟨ret_bool (by first | rfl | simpa), Below.refl _ _⟩
theorem law (n m a b c k : Int) (w : World) (hn : -9223372036854775808 ≤ n ∧ n ≤ 9223372036854775807) (hm : -9223372036854775808 ≤ m ∧ m ≤ 9223372036854775807) (ha : -2147483648 ≤ a ∧ a ≤ 2147483647) (hb : -2147483648 ≤ b ∧ b ≤ 2147483647) (hc : -2147483648 ≤ c ∧ c ≤ 2147483647) (hk : -9223372036854775808 ≤ k ∧ k ≤ 9223372036854775807) :
    Calls Try.prog 7 #[.int .i64 n, .int .i64 m, .int .i32 a, .int .i32 b, .int .i32 c, .int .i64 k] w fun e w' => e = .returned (.bool true) ∧ Below w.heap.size w w' := by
  have h : min a b ≤ max a b := by omega
  refine way n m a b c k _ _ _ _ w hc (by omega) (by omega) (by decide) (by decide) (by decide) rfl rfl rfl rfl ?_ ?_ ?_ ?_ ?_ ?_
  · exact decide_eq_true (sat32_mono (by omega))
  · exact decide_eq_true (by unfold to16I; omega)
  · exact decide_eq_true (by unfold wordI; omega)
  · exact decide_eq_true (sat32_mono (by omega))
  · exact decide_eq_true (shiftI_mono k h)
  · exact decide_eq_true (by unfold clampI; omega)
set_option maxRecDepth 100000 in
theorem lifted (os : Os) (started : os.Started) (H : Type) (enc : TypeId × Value → H) :
    ReturnsInHanded {} Try.checked os 7 .any (Rows.satOrderSpec.pre6 enc Try.prog Try.f7 Rows.satOrderRow.domain false) (Rows.satOrderSpec.post enc Try.prog Try.f7 false true false false) := by
  refine returnsInHanded_of_change (C := Try.checked) own started (by kernel_rfl) Try.func7
    (ChangeSpec.witness6 (enc := enc) (C := Try.checked) false ⟨#[], #[.int .i64 0, .int .i64 0, .int .i32 0, .int .i32 0, .int .i32 0, .int .i64 0], []⟩ 8 (by kernel_rfl) (by kernel_rfl) (by kernel_rfl) (by kernel_rfl)) ?_
  intro W base args ds gs before hval0 hW hcnd _
  have hval : ∀ (j : Nat) t v, Try.f7.params[j]? = some t → args[j]? = some v → Value.okWide Try.prog W .any base t v := hval0
  have hW' := hW
  obtain ⟨p, q, hA0, hV, rfl, hfz, hnd⟩ := hW
  have hA : DataW.TrodAll enc Try.prog W 0 (fun _ => true) true Try.f7.params.toList args.toList ds p := hA0
  rw [Try.params7] at hA hval
  obtain ⟨v0, vs0, d0, ds0, p0, q0, hargs, rfl, rfl, h0, r0⟩ := trodAll_cons hA
  obtain ⟨v1, vs1, d1, ds1, p1, q1, rfl, rfl, rfl, h1, r1⟩ := trodAll_cons r0
  obtain ⟨v2, vs2, d2, ds2, p2, q2, rfl, rfl, rfl, h2, r2⟩ := trodAll_cons r1
  obtain ⟨v3, vs3, d3, ds3, p3, q3, rfl, rfl, rfl, h3, r3⟩ := trodAll_cons r2
  obtain ⟨v4, vs4, d4, ds4, p4, q4, rfl, rfl, rfl, h4, r4⟩ := trodAll_cons r3
  obtain ⟨v5, vs5, d5, ds5, p5, q5, rfl, rfl, rfl, h5, r5⟩ := trodAll_cons r4
  obtain ⟨rfl, rfl, rfl⟩ := trodAll_nil r5
  obtain rfl : args = #[v0, v1, v2, v3, v4, v5] := by cases args; simp_all
  obtain ⟨rfl, rfl⟩ := trodVars_none hV
  have k0 := h0
  have lt0 : ∀ x ∈ p0, x.block < W.heap.size := by obtain ⟨m, hm⟩ := k0; exact DataW.trod_lt m _ _ _ hm
  have k1 := h1
  have lt1 : ∀ x ∈ p1, x.block < W.heap.size := by obtain ⟨m, hm⟩ := k1; exact DataW.trod_lt m _ _ _ hm
  have k2 := h2
  have lt2 : ∀ x ∈ p2, x.block < W.heap.size := by obtain ⟨m, hm⟩ := k2; exact DataW.trod_lt m _ _ _ hm
  have k3 := h3
  have lt3 : ∀ x ∈ p3, x.block < W.heap.size := by obtain ⟨m, hm⟩ := k3; exact DataW.trod_lt m _ _ _ hm
  have k4 := h4
  have lt4 : ∀ x ∈ p4, x.block < W.heap.size := by obtain ⟨m, hm⟩ := k4; exact DataW.trod_lt m _ _ _ hm
  have k5 := h5
  have lt5 : ∀ x ∈ p5, x.block < W.heap.size := by obtain ⟨m, hm⟩ := k5; exact DataW.trod_lt m _ _ _ hm
  obtain ⟨a0, rfl, rfl, rfl, w0⟩ := open_int Try.underlying2 (hval 0 2 v0 rfl rfl) h0
  obtain ⟨a1, rfl, rfl, rfl, w1⟩ := open_int Try.underlying2 (hval 1 2 v1 rfl rfl) h1
  obtain ⟨a2, rfl, rfl, rfl, w2⟩ := open_int Try.underlying21 (hval 2 21 v2 rfl rfl) h2
  obtain ⟨a3, rfl, rfl, rfl, w3⟩ := open_int Try.underlying21 (hval 3 21 v3 rfl rfl) h3
  obtain ⟨a4, rfl, rfl, rfl, w4⟩ := open_int Try.underlying21 (hval 4 21 v4 rfl rfl) h4
  obtain ⟨a5, rfl, rfl, rfl, w5⟩ := open_int Try.underlying3 (hval 5 3 v5 rfl rfl) h5
  clear hA0 hval0
  refine (law a0 a1 a2 a3 a4 a5 W (bounds_i64 w0) (bounds_i64 w1) (bounds_i32 w2) (bounds_i32 w3) (bounds_i32 w4) (bounds_i64 w5)).mono fun e W' ⟨he, bel⟩ => ?_
  subst he
  exact ⟨_, rfl, _, _, _, [], _, [], hW', trodAll_mk1 (shut_bool Try.underlying4 _), (trodAll_cons_mk (Below.trod laidOut (by kernel_rfl) (of_decide_eq_true (by kernel_rfl)) k0 bel lt0) (trodAll_cons_mk (Below.trod laidOut (by kernel_rfl) (of_decide_eq_true (by kernel_rfl)) k1 bel lt1) (trodAll_cons_mk (Below.trod laidOut (by kernel_rfl) (of_decide_eq_true (by kernel_rfl)) k2 bel lt2) (trodAll_cons_mk (Below.trod laidOut (by kernel_rfl) (of_decide_eq_true (by kernel_rfl)) k3 bel lt3) (trodAll_cons_mk (Below.trod laidOut (by kernel_rfl) (of_decide_eq_true (by kernel_rfl)) k4 bel lt4) (trodAll_cons_mk (Below.trod laidOut (by kernel_rfl) (of_decide_eq_true (by kernel_rfl)) k5 bel lt5) trodAll_mk0)))))), rfl, bel.frame _, fun h => by cases h⟩
theorem over : Rows.satOrderRow.holds Try.pinned (OpenSpec.ofChange Rows.satOrderSpec) :=
  OpenClaim.holds_of_wide 7 Try.f7 rfl rfl rfl rfl rfl rfl rfl ⟨rfl, rfl, rfl, rfl, rfl⟩ rfl rfl rfl rfl rfl (by kernel_rfl) Try.func7 (by kernel_rfl)
    (of_decide_eq_true (by kernel_rfl)) (by unfold Func.isWrapper; first | (rw [if_pos (by decide +kernel)]; kernel_rfl) | (rw [if_neg (by decide +kernel)]; exact ⟨rfl, rfl⟩))
    (fun os started H enc _ => lifted os started H enc)
theorem proved : Rows.SatOrderSaid := over
#print axioms proved

end Go.Proofs.Ytibbilncigmleaa.satOrder
