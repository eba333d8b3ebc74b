/- FiltSame: whatever the four numbers are, the law answers true and leaves memory as it was. -/
import Derived.Test.YtfgpcjfkkonkhaaFilt
import Derived.Lib.Hide
namespace Go.Proofs.Ytfgpcjfkkonkhaa.filtSame
open Go.ChangeShapes Go.WideShapes Go.ChangeAt Go.RowKit Go.Proofs.Ytfgpcjfkkonkhaa Go.Proofs.Ytfgpcjfkkonkhaa.Open
set_option linter.unusedVariables false
def stepI (d p : Int) : Int := if d.tdiv p ≠ 0 then d.tdiv p else if 0 < d then 1 else if d < 0 then -1 else 0
theorem toward_step (y x p : Int) : towardI y x p = y + stepI (x - y) p := by
  unfold towardI stepI; split <;> (try split) <;> (try split) <;> (try split) <;> omega
theorem step_neg (d p : Int) : stepI (-d) p = -stepI d p := by
  unfold stepI; rw [Int.neg_tdiv]; split <;> (try split) <;> (try split) <;> (try split) <;> omega
theorem step_pos (d p : Int) (hp : 1 ≤ p) (hd : 0 ≤ d) : stepI d p ≤ stepI (d + 1) p ∧ stepI (d + 1) p ≤ stepI d p + 1 := by
  have h1 : (d + 1) / p ≤ d / p + 1 := by
    have h := Int.ediv_le_ediv (a := d + 1) (b := d + p) (c := p) (by omega) (by omega)
    have h' := Int.add_mul_ediv_right d 1 (by omega : p ≠ 0)
    rw [Int.one_mul] at h'
    omega
  have h2 := Int.ediv_le_ediv (a := d) (b := d + 1) (c := p) (by omega) (by omega)
  have h3 := Int.ediv_nonneg hd (by omega : 0 ≤ p)
  have h4 : d = 0 → d / p = 0 := by rintro rfl; simp
  unfold stepI
  rw [Int.tdiv_eq_ediv_of_nonneg hd, Int.tdiv_eq_ediv_of_nonneg (by omega : 0 ≤ d + 1)]
  split <;> (try split) <;> (try split) <;> (try split) <;> (try split) <;> (try split) <;> omega
theorem step_succ (d p : Int) (hp : 1 ≤ p) : stepI d p ≤ stepI (d + 1) p ∧ stepI (d + 1) p ≤ stepI d p + 1 := by
  by_cases h : 0 ≤ d
  · exact step_pos d p hp h
  · have h1 := step_pos (-(d + 1)) p hp (by omega)
    have h2 := step_neg (d + 1) p
    have h3 := step_neg d p
    rw [show -(d + 1) + 1 = -d from by omega] at h1
    omega
theorem step_far (p : Int) (hp : 1 ≤ p) (k : Nat) (d : Int) : stepI d p ≤ stepI (d + k) p ∧ stepI (d + k) p ≤ stepI d p + k := by
  induction k with
  | zero => simp
  | succ k ih =>
    have h := step_succ (d + k) p hp
    rw [show d + ((k + 1 : Nat) : Int) = d + k + 1 from by omega]
    omega
theorem toward_two (y z x p : Int) (hp : 1 ≤ p) (h : y ≤ z) : towardI y x p ≤ towardI z x p ∧ towardI z x p - towardI y x p ≤ z - y := by
  rw [toward_step, toward_step]
  have := step_far p hp (z - y).toNat (x - z)
  rw [show x - z + ((z - y).toNat : Int) = x - y from by omega] at this
  omega
set_option maxHeartbeats 1000000 in
set_option maxRecDepth 100000 in
theorem way (y z x n p q c : Int) (w : World) (hy : -2147483648 ≤ y ∧ y ≤ 2147483647) (hz : -2147483648 ≤ z ∧ z ≤ 2147483647) (hx : -2147483648 ≤ x ∧ x ≤ 2147483647)
    (hp : -2147483648 ≤ p ∧ p ≤ 2147483647) (hq : -2147483648 ≤ q ∧ q ≤ 2147483647)
    (k1 : lowI 0 1 9 = 1) (k2 : lowE 9 = 0) (k3 : lowI (min y z) x n = p) (k4 : lowI (max y z) x n = q) (k5 : lowE n = c)
    (h : (c != 0) = true ∨ ((c != 0) = false ∧ p ≤ q ∧ apartI p q ≤ apartI y z)) :
    Calls Try.prog 11 #[.int .i32 y, .int .i32 z, .int .i32 x, .int .i64 n] w fun e w' => e = .returned (.bool true) ∧ Below w.heap.size w w' := by
  rcases (by omega : y < z ∨ z < y ∨ z = y) with g | g | rfl
  · rw [Int.min_eq_left (by omega)] at k3
    rw [Int.max_eq_right (by omega)] at k4
    rcases h with h | ⟨h, h', h''⟩
    all_goals
      go_enter Try.func11, Try.ntmps11
      go_wp2_with (first | (go_at_call 27; refine (low_any _ _ _ (by omega) (by omega) _).mono ?_; rintro e w' ⟨rfl, rfl⟩) | (go_at_call 17; refine (apart_any _ _ (by omega) (by omega) _).mono ?_; rintro e w' ⟨rfl, rfl⟩))
      all_goals
        go_ret
        exact ⟨ret_bool (by first | rfl | simpa | (simp; omega)), Below.refl _ _⟩
  · rw [Int.min_eq_right (by omega)] at k3
    rw [Int.max_eq_left (by omega)] at k4
    rcases h with h | ⟨h, h', h''⟩
    all_goals
      go_enter Try.func11, Try.ntmps11
      go_wp2_with (first | (go_at_call 27; refine (low_any _ _ _ (by omega) (by omega) _).mono ?_; rintro e w' ⟨rfl, rfl⟩) | (go_at_call 17; refine (apart_any _ _ (by omega) (by omega) _).mono ?_; rintro e w' ⟨rfl, rfl⟩))
      all_goals
        go_ret
        exact ⟨ret_bool (by first | rfl | simpa | (simp; omega)), Below.refl _ _⟩
  · rw [Int.min_self] at k3
    rw [Int.max_self] at k4
    obtain rfl : p = q := by rw [← k3, ← k4]
    clear k4
    rcases h with h | ⟨h, h', h''⟩
    all_goals
      go_enter Try.func11, Try.ntmps11
      go_wp2_with (first | (go_at_call 27; refine (low_any _ _ _ (by omega) (by omega) _).mono ?_; rintro e w' ⟨rfl, rfl⟩) | (go_at_call 17; refine (apart_any _ _ (by omega) (by omega) _).mono ?_; rintro e w' ⟨rfl, rfl⟩))
      all_goals
        go_ret
        exact ⟨ret_bool (by first | rfl | simpa | (simp; omega)), Below.refl _ _⟩
theorem law (y z x n : Int) (w : World) (hy : -2147483648 ≤ y ∧ y ≤ 2147483647) (hz : -2147483648 ≤ z ∧ z ≤ 2147483647) (hx : -2147483648 ≤ x ∧ x ≤ 2147483647) (hn : -9223372036854775808 ≤ n ∧ n ≤ 9223372036854775807) :
    Calls Try.prog 11 #[.int .i32 y, .int .i32 z, .int .i32 x, .int .i64 n] w fun e w' => e = .returned (.bool true) ∧ Below w.heap.size w w' := by
  have k1 : lowI 0 1 9 = 1 := by decide
  have k2 : lowE 9 = 0 := by decide
  by_cases hk : 0 ≤ n ∧ n ≤ 30
  · have hp := two_pow_bd n hk
    have h1 := towardI_bd (min y z) x _ hp.1
    have h2 := towardI_bd (max y z) x _ hp.1
    have h3 := toward_two (min y z) (max y z) x _ hp.1 (by omega)
    refine way y z x n _ _ 0 w hy hz hx ?_ ?_ k1 k2 (lowI_yes _ x n hk) (lowI_yes _ x n hk) (lowE_yes n hk) (.inr ⟨rfl, h3.1, ?_⟩)
    · omega
    · omega
    · unfold apartI absI; omega
  · exact way y z x n 0 0 1 w hy hz hx (by omega) (by omega) k1 k2 (lowI_no _ x n hk) (lowI_no _ x n hk) (lowE_no n hk) (.inl rfl)
set_option maxRecDepth 100000 in
theorem lifted (os : Os) (started : os.Started) (H : Type) (enc : TypeId × Value → H) :
    ReturnsInHanded {} Try.checked os 11 .any (Rows.filtSameSpec.pre6 enc Try.prog Try.f11 Rows.filtSameRow.domain false) (Rows.filtSameSpec.post enc Try.prog Try.f11 false true false false) := by
  refine returnsInHanded_of_change (C := Try.checked) own started (by kernel_rfl) Try.func11
    (ChangeSpec.witness6 (enc := enc) (C := Try.checked) false ⟨#[], #[.int .i32 0, .int .i32 0, .int .i32 0, .int .i64 0], []⟩ 8 (by kernel_rfl) (by kernel_rfl) (by kernel_rfl) (by kernel_rfl)) ?_
  intro W base args ds gs before hval0 hW hcnd _
  have hval : ∀ (j : Nat) t v, Try.f11.params[j]? = some t → args[j]? = some v → Value.okWide Try.prog W .any base t v := hval0
  have hW' := hW
  obtain ⟨p, q, hA0, hV, rfl, hfz, hnd⟩ := hW
  have hA : DataW.TrodAll enc Try.prog W 0 (fun _ => true) true Try.f11.params.toList args.toList ds p := hA0
  rw [Try.params11] at hA hval
  obtain ⟨v0, vs0, d0, ds0, p0, q0, hargs, rfl, rfl, h0, r0⟩ := trodAll_cons hA
  obtain ⟨v1, vs1, d1, ds1, p1, q1, rfl, rfl, rfl, h1, r1⟩ := trodAll_cons r0
  obtain ⟨v2, vs2, d2, ds2, p2, q2, rfl, rfl, rfl, h2, r2⟩ := trodAll_cons r1
  obtain ⟨v3, vs3, d3, ds3, p3, q3, rfl, rfl, rfl, h3, r3⟩ := trodAll_cons r2
  obtain ⟨rfl, rfl, rfl⟩ := trodAll_nil r3
  obtain rfl : args = #[v0, v1, v2, v3] := by cases args; simp_all
  obtain ⟨rfl, rfl⟩ := trodVars_none hV
  have k0 := h0
  have lt0 : ∀ x ∈ p0, x.block < W.heap.size := by obtain ⟨m, hm⟩ := k0; exact DataW.trod_lt m _ _ _ hm
  have k1 := h1
  have lt1 : ∀ x ∈ p1, x.block < W.heap.size := by obtain ⟨m, hm⟩ := k1; exact DataW.trod_lt m _ _ _ hm
  have k2 := h2
  have lt2 : ∀ x ∈ p2, x.block < W.heap.size := by obtain ⟨m, hm⟩ := k2; exact DataW.trod_lt m _ _ _ hm
  have k3 := h3
  have lt3 : ∀ x ∈ p3, x.block < W.heap.size := by obtain ⟨m, hm⟩ := k3; exact DataW.trod_lt m _ _ _ hm
  obtain ⟨a0, rfl, rfl, rfl, w0⟩ := open_int Try.underlying21 (hval 0 21 v0 rfl rfl) h0
  obtain ⟨a1, rfl, rfl, rfl, w1⟩ := open_int Try.underlying21 (hval 1 21 v1 rfl rfl) h1
  obtain ⟨a2, rfl, rfl, rfl, w2⟩ := open_int Try.underlying21 (hval 2 21 v2 rfl rfl) h2
  obtain ⟨a3, rfl, rfl, rfl, w3⟩ := open_int Try.underlying3 (hval 3 3 v3 rfl rfl) h3
  clear hA0 hval0
  refine (law a0 a1 a2 a3 W (bounds_i32 w0) (bounds_i32 w1) (bounds_i32 w2) (bounds_i64 w3)).mono fun e W' ⟨he, bel⟩ => ?_
  subst he
  exact ⟨_, rfl, _, _, _, [], _, [], hW', trodAll_mk1 (shut_bool Try.underlying4 _), (trodAll_cons_mk (Below.trod laidOut (by kernel_rfl) (of_decide_eq_true (by kernel_rfl)) k0 bel lt0) (trodAll_cons_mk (Below.trod laidOut (by kernel_rfl) (of_decide_eq_true (by kernel_rfl)) k1 bel lt1) (trodAll_cons_mk (Below.trod laidOut (by kernel_rfl) (of_decide_eq_true (by kernel_rfl)) k2 bel lt2) (trodAll_cons_mk (Below.trod laidOut (by kernel_rfl) (of_decide_eq_true (by kernel_rfl)) k3 bel lt3) trodAll_mk0)))), rfl, bel.frame _, fun h => by cases h⟩
theorem over : Rows.filtSameRow.holds Try.pinned (OpenSpec.ofChange Rows.filtSameSpec) :=
  OpenClaim.holds_of_wide 11 Try.f11 rfl rfl rfl rfl rfl rfl rfl ⟨rfl, rfl, rfl, rfl, rfl⟩ rfl rfl rfl rfl rfl (by kernel_rfl) Try.func11 (by kernel_rfl)
    (of_decide_eq_true (by kernel_rfl)) (by unfold Func.isWrapper; first | (rw [if_pos (by decide +kernel)]; kernel_rfl) | (rw [if_neg (by decide +kernel)]; exact ⟨rfl, rfl⟩))
    (fun os started H enc _ => lifted os started H enc)
theorem proved : Rows.FiltSameSaid := over
#print axioms proved

end Go.Proofs.Ytfgpcjfkkonkhaa.filtSame
