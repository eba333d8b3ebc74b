/- SatTwice: whatever the three numbers are, the law answers true and leaves memory as it was. -/
import Derived.Test.YtibbilncigmleaaSat
import Derived.Deep.DeepCutAuto
namespace Go.Proofs.Ytibbilncigmleaa.satTwice
open Go.ChangeShapes Go.WideShapes Go.ChangeAt Go.RowKit Go.Proofs.Ytibbilncigmleaa Go.Proofs.Ytibbilncigmleaa.Open
set_option linter.unusedVariables false
theorem sat_twice (a p q : Int) (hp : 1 ≤ p) (hq : 1 ≤ q) : sat32 (sat32 (a * p) * q) = sat32 (a * (p * q)) := by
  rw [← Int.mul_assoc]
  generalize a * p = t
  unfold sat32
  rcases (by omega : t < -2147483648 ∨ 2147483647 < t ∨ (-2147483648 ≤ t ∧ t ≤ 2147483647)) with h | h | h
  · have h1 := Int.mul_le_mul_of_nonneg_right (a := t) (b := -2147483648) (c := q) (by omega) (by omega)
    rw [show max (-2147483648) (min t 2147483647) = -2147483648 from by omega]; omega
  · have h1 := Int.mul_le_mul_of_nonneg_right (a := 2147483647) (b := t) (c := q) (by omega) (by omega)
    rw [show max (-2147483648) (min t 2147483647) = 2147483647 from by omega]; omega
  · rw [show max (-2147483648) (min t 2147483647) = t from by omega]
theorem pow_add (n m : Int) (hn : 0 ≤ n) (hm : 0 ≤ m) : (2 : Int) ^ (n + m).toNat = 2 ^ n.toNat * 2 ^ m.toNat := by
  rw [← Int.pow_add, show (n + m).toNat = n.toNat + m.toNat from by omega]
theorem shift_up_twice (a n m : Int) (hn : 0 ≤ n ∧ n < 16) (hm : 0 ≤ m ∧ m < 16) : shiftI (shiftI a n) m = shiftI a (n + m) := by
  have h1 := two_pow_31 n (by omega)
  have h2 := two_pow_31 m (by omega)
  unfold shiftI
  rw [if_neg (by omega), if_neg (by omega), if_neg (by omega), show min n 31 = n from by omega, show min m 31 = m from by omega, show min (n + m) 31 = n + m from by omega, pow_add n m hn.1 hm.1]
  exact sat_twice a _ _ h1.1 h2.1
theorem shift_zero (a : Int) (ha : -2147483648 ≤ a ∧ a ≤ 2147483647) : shiftI a 0 = a := by
  unfold shiftI; rw [if_neg (by omega), show (min (0 : Int) 31).toNat = 0 from rfl, Int.pow_zero, Int.mul_one]; exact sat32_in a ha
theorem shift_down_twice (a n m : Int) (ha : -2147483648 ≤ a ∧ a ≤ 2147483647) (hn : 0 ≤ n ∧ n < 16) (hm : 0 ≤ m ∧ m < 16) : shiftI (shiftI a (-n)) (-m) = shiftI a (-n - m) := by
  have bd : -2147483648 ≤ shiftI a (-n) ∧ shiftI a (-n) ≤ 2147483647 := shiftI_bd a (-n) ha
  rcases (by omega : n = 0 ∨ 0 < n) with rfl | h1
  · rw [show (-0 : Int) = 0 from rfl, shift_zero a ha, show (0 : Int) - m = -m from by omega]
  rcases (by omega : m = 0 ∨ 0 < m) with rfl | h2
  · rw [show (-0 : Int) = 0 from rfl, shift_zero _ bd, show -n - 0 = -n from by omega]
  unfold shiftI
  rw [if_pos (by omega), if_pos (by omega), if_pos (by omega), show min (- -n) 31 = n from by omega, show min (- -m) 31 = m from by omega, show min (-(-n - m)) 31 = n + m from by omega, pow_add n m hn.1 hm.1]
  exact Int.ediv_ediv_of_nonneg (by have := two_pow_31 n (by omega); omega)
theorem shift_back (a n : Int) (ha : -2147483648 ≤ a ∧ a ≤ 2147483647) (hn : 0 ≤ n ∧ n < 16) (h1 : shiftI a n ≠ 2147483647) (h2 : shiftI a n ≠ -2147483648) : shiftI (shiftI a n) (-n) = a := by
  rcases (by omega : n = 0 ∨ 0 < n) with rfl | h0
  · rw [show (-0 : Int) = 0 from rfl, shift_zero _ (by rw [shift_zero a ha]; exact ha), shift_zero a ha]
  have hp := two_pow_31 n (by omega)
  have e : shiftI a n = a * 2 ^ n.toNat := by
    unfold shiftI at h1 h2 ⊢; rw [if_neg (by omega), show min n 31 = n from by omega] at h1 h2 ⊢; unfold sat32 at h1 h2 ⊢; omega
  rw [e]
  unfold shiftI
  rw [if_pos (by omega), show min (- -n) 31 = n from by omega]
  exact Int.mul_ediv_cancel _ (by omega)
set_option maxHeartbeats 1000000 in
set_option maxRecDepth 100000 in
theorem way (a n0 m0 n m u : Int) (w : World) (ha : -2147483648 ≤ a ∧ a ≤ 2147483647) (hn : 0 ≤ n ∧ n < 16) (hm : 0 ≤ m ∧ m < 16) (hu : -2147483648 ≤ u ∧ u ≤ 2147483647)
    (k1 : shiftI 1 40 = 2147483647) (k2 : shiftI (-1) (-40) = -1) (k3 : shiftI 5 0 = 5) (k4 : restI n0 16 = n) (k5 : restI m0 16 = m) (k6 : shiftI a n = u)
    (d1 : (u == 2147483647) = true ∨ ((u == 2147483647) = false ∧ (u == -2147483648) = true) ∨ ((u == 2147483647) = false ∧ (u == -2147483648) = false ∧ shiftI u (-n) = a))
    (k7 : shiftI u m = shiftI a (n + m)) (k8 : shiftI (shiftI a (-n)) (-m) = shiftI a (-n - m)) (k9 : -2147483648 ≤ shiftI a (-n) ∧ shiftI a (-n) ≤ 2147483647) :
    Calls Try.prog 4 #[.int .i32 a, .int .i64 n0, .int .i64 m0] w fun e w' => e = .returned (.bool true) ∧ Below w.heap.size w w' := by
  rcases d1 with d1 | ⟨d1, d2⟩ | ⟨d1, d2, d3⟩
  all_goals
    go_enter Try.func4, Try.ntmps4
    go_wp2_with (first | (go_at_call 17; refine (shift_any _ _ (by omega) _).mono ?_; rintro e w' ⟨rfl, rfl⟩) | (go_at_call 18; refine (rest_any _ _ (by omega) _).mono ?_; rintro e w' ⟨rfl, rfl⟩))
    all_goals
      go_ret
      exact ⟨ret_bool (by first | rfl | simpa | (simp; omega)), Below.refl _ _⟩
theorem law (a n m : Int) (w : World) (ha : -2147483648 ≤ a ∧ a ≤ 2147483647) (hn : -9223372036854775808 ≤ n ∧ n ≤ 9223372036854775807) (hm : -9223372036854775808 ≤ m ∧ m ≤ 9223372036854775807) :
    Calls Try.prog 4 #[.int .i32 a, .int .i64 n, .int .i64 m] w fun e w' => e = .returned (.bool true) ∧ Below w.heap.size w w' := by
  have hn' := restI_bd n 16 (by omega)
  have hm' := restI_bd m 16 (by omega)
  have bu : -2147483648 ≤ shiftI a (restI n 16) ∧ shiftI a (restI n 16) ≤ 2147483647 := shiftI_bd a _ ha
  refine way a n m _ _ _ w ha hn' hm' bu (by decide) (by decide) (by decide) rfl rfl rfl ?_ (shift_up_twice a _ _ hn' hm') (shift_down_twice a _ _ ha hn' hm') (shiftI_bd a _ ha)
  by_cases h1 : shiftI a (restI n 16) = 2147483647
  · exact .inl (by simpa using h1)
  by_cases h2 : shiftI a (restI n 16) = -2147483648
  · exact .inr (.inl ⟨by simpa using h1, by simpa using h2⟩)
  · exact .inr (.inr ⟨by simpa using h1, by simpa using h2, shift_back a _ ha hn' h1 h2⟩)
set_option maxRecDepth 100000 in
theorem lifted (os : Os) (started : os.Started) (H : Type) (enc : TypeId × Value → H) :
    ReturnsInHanded {} Try.checked os 4 .any (Rows.satTwiceSpec.pre6 enc Try.prog Try.f4 Rows.satTwiceRow.domain false) (Rows.satTwiceSpec.post enc Try.prog Try.f4 false true false false) := by
  refine returnsInHanded_of_change (C := Try.checked) own started (by kernel_rfl) Try.func4
    (ChangeSpec.witness6 (enc := enc) (C := Try.checked) false ⟨#[], #[.int .i32 0, .int .i64 0, .int .i64 0], []⟩ 8 (by kernel_rfl) (by kernel_rfl) (by kernel_rfl) (by kernel_rfl)) ?_
  intro W base args ds gs before hval0 hW hcnd _
  have hval : ∀ (j : Nat) t v, Try.f4.params[j]? = some t → args[j]? = some v → Value.okWide Try.prog W .any base t v := hval0
  have hW' := hW
  obtain ⟨p, q, hA0, hV, rfl, hfz, hnd⟩ := hW
  have hA : DataW.TrodAll enc Try.prog W 0 (fun _ => true) true Try.f4.params.toList args.toList ds p := hA0
  rw [Try.params4] at hA hval
  obtain ⟨v0, vs0, d0, ds0, p0, q0, hargs, rfl, rfl, h0, r0⟩ := trodAll_cons hA
  obtain ⟨v1, vs1, d1, ds1, p1, q1, rfl, rfl, rfl, h1, r1⟩ := trodAll_cons r0
  obtain ⟨v2, vs2, d2, ds2, p2, q2, rfl, rfl, rfl, h2, r2⟩ := trodAll_cons r1
  obtain ⟨rfl, rfl, rfl⟩ := trodAll_nil r2
  obtain rfl : args = #[v0, v1, v2] := by cases args; simp_all
  obtain ⟨rfl, rfl⟩ := trodVars_none hV
  have k0 := h0
  have lt0 : ∀ x ∈ p0, x.block < W.heap.size := by obtain ⟨m, hm⟩ := k0; exact DataW.trod_lt m _ _ _ hm
  have k1 := h1
  have lt1 : ∀ x ∈ p1, x.block < W.heap.size := by obtain ⟨m, hm⟩ := k1; exact DataW.trod_lt m _ _ _ hm
  have k2 := h2
  have lt2 : ∀ x ∈ p2, x.block < W.heap.size := by obtain ⟨m, hm⟩ := k2; exact DataW.trod_lt m _ _ _ hm
  obtain ⟨a0, rfl, rfl, rfl, w0⟩ := open_int Try.underlying21 (hval 0 21 v0 rfl rfl) h0
  obtain ⟨a1, rfl, rfl, rfl, w1⟩ := open_int Try.underlying3 (hval 1 3 v1 rfl rfl) h1
  obtain ⟨a2, rfl, rfl, rfl, w2⟩ := open_int Try.underlying3 (hval 2 3 v2 rfl rfl) h2
  clear hA0 hval0
  refine (law a0 a1 a2 W (bounds_i32 w0) (bounds_i64 w1) (bounds_i64 w2)).mono fun e W' ⟨he, bel⟩ => ?_
  subst he
  exact ⟨_, rfl, _, _, _, [], _, [], hW', trodAll_mk1 (shut_bool Try.underlying4 _), (trodAll_cons_mk (Below.trod laidOut (by kernel_rfl) (of_decide_eq_true (by kernel_rfl)) k0 bel lt0) (trodAll_cons_mk (Below.trod laidOut (by kernel_rfl) (of_decide_eq_true (by kernel_rfl)) k1 bel lt1) (trodAll_cons_mk (Below.trod laidOut (by kernel_rfl) (of_decide_eq_true (by kernel_rfl)) k2 bel lt2) trodAll_mk0))), rfl, bel.frame _, fun h => by cases h⟩
theorem over : Rows.satTwiceRow.holds Try.pinned (OpenSpec.ofChange Rows.satTwiceSpec) :=
  OpenClaim.holds_of_wide 4 Try.f4 rfl rfl rfl rfl rfl rfl rfl ⟨rfl, rfl, rfl, rfl, rfl⟩ rfl rfl rfl rfl rfl (by kernel_rfl) Try.func4 (by kernel_rfl)
    (of_decide_eq_true (by kernel_rfl)) (by unfold Func.isWrapper; first | (rw [if_pos (by decide +kernel)]; kernel_rfl) | (rw [if_neg (by decide +kernel)]; exact ⟨rfl, rfl⟩))
    (fun os started H enc _ => lifted os started H enc)
theorem proved : Rows.SatTwiceSaid := over
#print axioms proved

end Go.Proofs.Ytibbilncigmleaa.satTwice
