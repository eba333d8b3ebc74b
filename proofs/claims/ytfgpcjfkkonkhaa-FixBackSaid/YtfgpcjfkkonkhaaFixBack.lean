/- FixBack: whatever the two numbers are, the law answers true and leaves memory as it was. -/
import Derived.Test.YtfgpcjfkkonkhaaFix
import Derived.Lib.Hide
namespace Go.Proofs.Ytfgpcjfkkonkhaa.fixBack
open Go.ChangeShapes Go.WideShapes Go.ChangeAt Go.RowKit Go.Proofs.Ytfgpcjfkkonkhaa Go.Proofs.Ytfgpcjfkkonkhaa.Open
set_option linter.unusedVariables false
set_option maxHeartbeats 1000000 in
set_option maxRecDepth 100000 in
theorem way (a b q p : Int) (w : World) (ha : -2147483648 ≤ a ∧ a ≤ 2147483647) (hb : -2147483648 ≤ b ∧ b ≤ 2147483647) (hq : -2147483648 ≤ q ∧ q ≤ 2147483647)
    (k1 : divI 196608 131072 = 98304) (k2 : divI 1 0 = 2147483647) (k3 : divI a b = q) (k4 : divI a 65536 = a) (k5 : q * b = p) (hp : -4611686018427387904 ≤ p ∧ p ≤ 4611686018427387904)
    (h1 : (b == 0) = false) (h2 : (q == 2147483647) = false) (h3 : (q == -2147483648) = false)
    (h4 : (0 < b ∧ -b < a * 65536 - p ∧ a * 65536 - p < b) ∨ (b < 0 ∧ b < a * 65536 - p ∧ a * 65536 - p < -b))
    (h5 : Hid (a * 65536 - p = 0) ∨ (0 < a * 65536 - p ∧ 0 < a) ∨ (a * 65536 - p < 0 ∧ a < 0)) :
    Calls Try.prog 14 #[.int .i32 a, .int .i32 b] w fun e w' => e = .returned (.bool true) ∧ Below w.heap.size w w' := by
  rcases h4 with ⟨h4, h4', h4''⟩ | ⟨h4, h4', h4''⟩ <;> rcases h5 with h5 | ⟨h5, h5'⟩ | ⟨h5, h5'⟩
  case inl.inl | inr.inl =>
    have g1 : (a * 65536 - p == 0) = true := by simpa using h5.out
    have g2 : 0 ≤ a * 65536 - p ∧ a * 65536 - p ≤ 0 := by have := h5.out; omega
    go_enter Try.func14, Try.ntmps14
    go_wp2_with (go_at_call 32; refine (div_any _ _ (by omega) (by omega) _).mono ?_; rintro e w' ⟨rfl, rfl⟩)
    all_goals
      go_ret
      exact ⟨ret_bool (by first | rfl | simpa | (simp; omega)), Below.refl _ _⟩
  all_goals
    have g1 : (a * 65536 - p == 0) = false := by simp; omega
    go_enter Try.func14, Try.ntmps14
    go_wp2_with (go_at_call 32; refine (div_any _ _ (by omega) (by omega) _).mono ?_; rintro e w' ⟨rfl, rfl⟩)
    all_goals
      go_ret
      exact ⟨ret_bool (by first | rfl | simpa | (simp; omega)), Below.refl _ _⟩
set_option maxHeartbeats 1000000 in
set_option maxRecDepth 100000 in
theorem ends (a b q : Int) (w : World) (ha : -2147483648 ≤ a ∧ a ≤ 2147483647) (hb : -2147483648 ≤ b ∧ b ≤ 2147483647)
    (k1 : divI 196608 131072 = 98304) (k2 : divI 1 0 = 2147483647) (k3 : divI a b = q)
    (h : (b == 0) = true ∨ ((b == 0) = false ∧ (q == 2147483647) = true) ∨ ((b == 0) = false ∧ (q == 2147483647) = false ∧ (q == -2147483648) = true)) :
    Calls Try.prog 14 #[.int .i32 a, .int .i32 b] w fun e w' => e = .returned (.bool true) ∧ Below w.heap.size w w' := by
  rcases h with h | ⟨h, h'⟩ | ⟨h, h', h''⟩
  all_goals
    go_enter Try.func14, Try.ntmps14
    go_wp2_with (go_at_call 32; refine (div_any _ _ (by omega) (by omega) _).mono ?_; rintro e w' ⟨rfl, rfl⟩)
    all_goals
      go_ret
      exact ⟨ret_bool (by first | rfl | simpa | (simp; omega)), Below.refl _ _⟩
theorem law (a b : Int) (w : World) (ha : -2147483648 ≤ a ∧ a ≤ 2147483647) (hb : -2147483648 ≤ b ∧ b ≤ 2147483647) :
    Calls Try.prog 14 #[.int .i32 a, .int .i32 b] w fun e w' => e = .returned (.bool true) ∧ Below w.heap.size w w' := by
  have k1 : divI 196608 131072 = 98304 := by decide
  have k2 : divI 1 0 = 2147483647 := by decide
  have k4 : divI a 65536 = a := by
    unfold divI; rw [if_pos (by omega), Int.mul_tdiv_cancel _ (by omega)]; exact sat32_in _ ha
  by_cases hb0 : b = 0
  · exact ends a b _ w ha hb k1 k2 rfl (.inl (by simpa using hb0))
  by_cases hm : divI a b = 2147483647
  · exact ends a b _ w ha hb k1 k2 rfl (.inr (.inl ⟨by simpa using hb0, by simpa using hm⟩))
  by_cases hl : divI a b = -2147483648
  · exact ends a b _ w ha hb k1 k2 rfl (.inr (.inr ⟨by simpa using hb0, by simpa using hm, by simpa using hl⟩))
  have e : divI a b = (a * 65536).tdiv b := by
    unfold divI sat32 at hm hl ⊢; rw [if_pos hb0] at hm hl ⊢; omega
  have h1 := Int.tdiv_mul_self (a * 65536) b
  rw [← e] at h1
  have h2 : (a * 65536).tmod b < b ∧ -b < (a * 65536).tmod b ∨ (a * 65536).tmod b < -b ∧ b < (a * 65536).tmod b := by
    by_cases h : 0 < b
    · have := tmod_bd (a * 65536) b h; omega
    · have := tmod_bd (a * 65536) (-b) (by omega); rw [Int.tmod_neg] at this; omega
  have h3 : 0 ≤ a → 0 ≤ (a * 65536).tmod b := fun h => Int.tmod_nonneg _ (by omega)
  have h4 : a ≤ 0 → (a * 65536).tmod b ≤ 0 := fun h => by
    have := Int.tmod_nonneg (a := -(a * 65536)) b (by omega); rw [Int.neg_tmod] at this; omega
  have hq := divI_bd a b
  refine way a b (divI a b) (divI a b * b) w ha hb hq k1 k2 rfl k4 rfl (mul_bd _ _ hq hb) (by simpa using hb0) (by simpa using hm) (by simpa using hl) ?_ ?_
  · generalize (a * 65536).tmod b = t at *; generalize divI a b * b = u at *; omega
  · unfold Hid; generalize (a * 65536).tmod b = t at *; generalize divI a b * b = u at *; omega
set_option maxRecDepth 100000 in
theorem lifted (os : Os) (started : os.Started) (H : Type) (enc : TypeId × Value → H) :
    ReturnsInHanded {} Try.checked os 14 .any (Rows.fixBackSpec.pre6 enc Try.prog Try.f14 Rows.fixBackRow.domain false) (Rows.fixBackSpec.post enc Try.prog Try.f14 false true false false) := by
  refine returnsInHanded_of_change (C := Try.checked) own started (by kernel_rfl) Try.func14
    (ChangeSpec.witness6 (enc := enc) (C := Try.checked) false ⟨#[], #[.int .i32 0, .int .i32 0], []⟩ 8 (by kernel_rfl) (by kernel_rfl) (by kernel_rfl) (by kernel_rfl)) ?_
  intro W base args ds gs before hval0 hW hcnd _
  have hval : ∀ (j : Nat) t v, Try.f14.params[j]? = some t → args[j]? = some v → Value.okWide Try.prog W .any base t v := hval0
  have hW' := hW
  obtain ⟨p, q, hA0, hV, rfl, hfz, hnd⟩ := hW
  have hA : DataW.TrodAll enc Try.prog W 0 (fun _ => true) true Try.f14.params.toList args.toList ds p := hA0
  rw [Try.params14] at hA hval
  obtain ⟨v0, vs0, d0, ds0, p0, q0, hargs, rfl, rfl, h0, r0⟩ := trodAll_cons hA
  obtain ⟨v1, vs1, d1, ds1, p1, q1, rfl, rfl, rfl, h1, r1⟩ := trodAll_cons r0
  obtain ⟨rfl, rfl, rfl⟩ := trodAll_nil r1
  obtain rfl : args = #[v0, v1] := by cases args; simp_all
  obtain ⟨rfl, rfl⟩ := trodVars_none hV
  have k0 := h0
  have lt0 : ∀ x ∈ p0, x.block < W.heap.size := by obtain ⟨m, hm⟩ := k0; exact DataW.trod_lt m _ _ _ hm
  have k1 := h1
  have lt1 : ∀ x ∈ p1, x.block < W.heap.size := by obtain ⟨m, hm⟩ := k1; exact DataW.trod_lt m _ _ _ hm
  obtain ⟨a0, rfl, rfl, rfl, w0⟩ := open_int Try.underlying21 (hval 0 21 v0 rfl rfl) h0
  obtain ⟨a1, rfl, rfl, rfl, w1⟩ := open_int Try.underlying21 (hval 1 21 v1 rfl rfl) h1
  clear hA0 hval0
  refine (law a0 a1 W (bounds_i32 w0) (bounds_i32 w1)).mono fun e W' ⟨he, bel⟩ => ?_
  subst he
  exact ⟨_, rfl, _, _, _, [], _, [], hW', trodAll_mk1 (shut_bool Try.underlying4 _), (trodAll_cons_mk (Below.trod laidOut (by kernel_rfl) (of_decide_eq_true (by kernel_rfl)) k0 bel lt0) (trodAll_cons_mk (Below.trod laidOut (by kernel_rfl) (of_decide_eq_true (by kernel_rfl)) k1 bel lt1) trodAll_mk0)), rfl, bel.frame _, fun h => by cases h⟩
theorem over : Rows.fixBackRow.holds Try.pinned (OpenSpec.ofChange Rows.fixBackSpec) :=
  OpenClaim.holds_of_wide 14 Try.f14 rfl rfl rfl rfl rfl rfl rfl ⟨rfl, rfl, rfl, rfl, rfl⟩ rfl rfl rfl rfl rfl (by kernel_rfl) Try.func14 (by kernel_rfl)
    (of_decide_eq_true (by kernel_rfl)) (by unfold Func.isWrapper; first | (rw [if_pos (by decide +kernel)]; kernel_rfl) | (rw [if_neg (by decide +kernel)]; exact ⟨rfl, rfl⟩))
    (fun os started H enc _ => lifted os started H enc)
theorem proved : Rows.FixBackSaid := over
#print axioms proved

end Go.Proofs.Ytfgpcjfkkonkhaa.fixBack
