/- FiltNears: whatever the three numbers are, the law answers true and leaves memory as it was. -/
import Derived.Test.YtfgpcjfkkonkhaaFilt
import Derived.Deep.DeepCutAuto
import Derived.Lib.Hide
import Derived.Outline
namespace Go.Proofs.Ytfgpcjfkkonkhaa.filtNears
open Go.ChangeShapes Go.WideShapes Go.ChangeAt Go.RowKit Go.Proofs.Ytfgpcjfkkonkhaa Go.Proofs.Ytfgpcjfkkonkhaa.Open
set_option linter.unusedVariables false
set_option maxHeartbeats 1000000 in
set_option maxRecDepth 100000 in
theorem way (y x n z c : Int) (w : World) (hy : -2147483648 ≤ y ∧ y ≤ 2147483647) (hx : -2147483648 ≤ x ∧ x ≤ 2147483647) (hz : -2147483648 ≤ z ∧ z ≤ 2147483647)
    (k1 : lowI 0 8 1 = 4) (k2 : lowE 1 = 0) (k3 : lowI y x n = z) (k4 : lowE n = c)
    (h : ((c != 0) = true ∧ (z == 0) = true) ∨ ((c != 0) = false ∧ (y == x) = true ∧ (z == x) = true) ∨
      ((c != 0) = false ∧ (y == x) = false ∧ y < x ∧ apartI z x < apartI y x ∧ y ≤ z ∧ z ≤ x) ∨ ((c != 0) = false ∧ (y == x) = false ∧ x < y ∧ apartI z x < apartI y x ∧ x ≤ z ∧ z ≤ y)) :
    Calls Try.prog 10 #[.int .i32 y, .int .i32 x, .int .i64 n] w fun e w' => e = .returned (.bool true) ∧ Below w.heap.size w w' := by
  rcases h with ⟨h, h'⟩ | ⟨h, h', h''⟩ | ⟨h, h', g, g', g2, g3⟩ | ⟨h, h', g, g', g2, g3⟩
  all_goals
    go_enter Try.func10, Try.ntmps10
    go_wp2_with (first | (go_at_call 27; refine (low_any _ _ _ (by omega) (by omega) _).mono ?_; rintro e w' ⟨rfl, rfl⟩) | (go_at_call 17; refine (apart_any _ _ (by omega) (by omega) _).mono ?_; rintro e w' ⟨rfl, rfl⟩))
    all_goals
      go_ret
      exact ⟨ret_bool (by first | rfl | simpa | (simp; omega)), Below.refl _ _⟩
theorem law (y x n : Int) (w : World) (hy : -2147483648 ≤ y ∧ y ≤ 2147483647) (hx : -2147483648 ≤ x ∧ x ≤ 2147483647) (hn : -9223372036854775808 ≤ n ∧ n ≤ 9223372036854775807) :
    Calls Try.prog 10 #[.int .i32 y, .int .i32 x, .int .i64 n] w fun e w' => e = .returned (.bool true) ∧ Below w.heap.size w w' := by
  have k1 : lowI 0 8 1 = 4 := by decide
  have k2 : lowE 1 = 0 := by decide
  by_cases hk : 0 ≤ n ∧ n ≤ 30
  · have hp := two_pow_bd n hk
    have hb := towardI_bd y x _ hp.1
    have hq : y < x → y < towardI y x (2 ^ n.toNat) := by
      intro h
      have := tdiv_pos_bd (x - y) _ hp.1 (by omega)
      unfold towardI; split <;> (try split) <;> (try split) <;> omega
    have hr : x < y → towardI y x (2 ^ n.toNat) < y := by
      intro h
      have := tdiv_neg_bd (x - y) _ hp.1 (by omega)
      unfold towardI; split <;> (try split) <;> (try split) <;> omega
    refine way y x n _ 0 w hy hx ?_ k1 k2 (lowI_yes y x n hk) (lowE_yes n hk) ?_
    · omega
    · generalize towardI y x (2 ^ n.toNat) = z at *
      rcases (by omega : y < x ∨ x < y ∨ y = x) with c | c | c
      · exact .inr (.inr (.inl ⟨rfl, by simp; omega, c, by have := hq c; unfold apartI absI; omega, by omega, by omega⟩))
      · exact .inr (.inr (.inr ⟨rfl, by simp; omega, c, by have := hr c; unfold apartI absI; omega, by omega, by omega⟩))
      · exact .inr (.inl ⟨rfl, by simp; omega, by simp; omega⟩)
  · exact way y x n 0 1 w hy hx (by omega) k1 k2 (lowI_no y x n hk) (lowE_no n hk) (.inl ⟨rfl, rfl⟩)
set_option maxRecDepth 100000 in
theorem lifted (os : Os) (started : os.Started) (H : Type) (enc : TypeId × Value → H) :
    ReturnsInHanded {} Try.checked os 10 .any (Rows.filtNearsSpec.pre6 enc Try.prog Try.f10 Rows.filtNearsRow.domain false) (Rows.filtNearsSpec.post enc Try.prog Try.f10 false true false false) := by
  refine returnsInHanded_of_change (C := Try.checked) own started (by kernel_rfl) Try.func10
    (ChangeSpec.witness6 (enc := enc) (C := Try.checked) false ⟨#[], #[.int .i32 0, .int .i32 0, .int .i64 0], []⟩ 8 (by kernel_rfl) (by kernel_rfl) (by kernel_rfl) (by kernel_rfl)) ?_
  intro W base args ds gs before hval0 hW hcnd _
  have hval : ∀ (j : Nat) t v, Try.f10.params[j]? = some t → args[j]? = some v → Value.okWide Try.prog W .any base t v := hval0
  have hW' := hW
  obtain ⟨p, q, hA0, hV, rfl, hfz, hnd⟩ := hW
  have hA : DataW.TrodAll enc Try.prog W 0 (fun _ => true) true Try.f10.params.toList args.toList ds p := hA0
  rw [Try.params10] at hA hval
  obtain ⟨v0, vs0, d0, ds0, p0, q0, hargs, rfl, rfl, h0, r0⟩ := trodAll_cons hA
  obtain ⟨v1, vs1, d1, ds1, p1, q1, rfl, rfl, rfl, h1, r1⟩ := trodAll_cons r0
  obtain ⟨v2, vs2, d2, ds2, p2, q2, rfl, rfl, rfl, h2, r2⟩ := trodAll_cons r1
  obtain ⟨rfl, rfl, rfl⟩ := trodAll_nil r2
  obtain rfl : args = #[v0, v1, v2] := by cases args; simp_all
  obtain ⟨rfl, rfl⟩ := trodVars_none hV
  have k0 := h0
  have lt0 : ∀ x ∈ p0, x.block < W.heap.size := by obtain ⟨m, hm⟩ := k0; exact DataW.trod_lt m _ _ _ hm
  have k1 := h1
  have lt1 : ∀ x ∈ p1, x.block < W.heap.size := by obtain ⟨m, hm⟩ := k1; exact DataW.trod_lt m _ _ _ hm
  have k2 := h2
  have lt2 : ∀ x ∈ p2, x.block < W.heap.size := by obtain ⟨m, hm⟩ := k2; exact DataW.trod_lt m _ _ _ hm
  obtain ⟨a0, rfl, rfl, rfl, w0⟩ := open_int Try.underlying21 (hval 0 21 v0 rfl rfl) h0
  obtain ⟨a1, rfl, rfl, rfl, w1⟩ := open_int Try.underlying21 (hval 1 21 v1 rfl rfl) h1
  obtain ⟨a2, rfl, rfl, rfl, w2⟩ := open_int Try.underlying3 (hval 2 3 v2 rfl rfl) h2
  clear hA0 hval0
  refine (law a0 a1 a2 W (bounds_i32 w0) (bounds_i32 w1) (bounds_i64 w2)).mono fun e W' ⟨he, bel⟩ => ?_
  subst he
  exact ⟨_, rfl, _, _, _, [], _, [], hW', trodAll_mk1 (shut_bool Try.underlying4 _), (trodAll_cons_mk (Below.trod laidOut (by kernel_rfl) (of_decide_eq_true (by kernel_rfl)) k0 bel lt0) (trodAll_cons_mk (Below.trod laidOut (by kernel_rfl) (of_decide_eq_true (by kernel_rfl)) k1 bel lt1) (trodAll_cons_mk (Below.trod laidOut (by kernel_rfl) (of_decide_eq_true (by kernel_rfl)) k2 bel lt2) trodAll_mk0))), rfl, bel.frame _, fun h => by cases h⟩
theorem over : Rows.filtNearsRow.holds Try.pinned (OpenSpec.ofChange Rows.filtNearsSpec) :=
  OpenClaim.holds_of_wide 10 Try.f10 rfl rfl rfl rfl rfl rfl rfl ⟨rfl, rfl, rfl, rfl, rfl⟩ rfl rfl rfl rfl rfl (by kernel_rfl) Try.func10 (by kernel_rfl)
    (of_decide_eq_true (by kernel_rfl)) (by unfold Func.isWrapper; first | (rw [if_pos (by decide +kernel)]; kernel_rfl) | (rw [if_neg (by decide +kernel)]; exact ⟨rfl, rfl⟩))
    (fun os started H enc _ => lifted os started H enc)
theorem proved : Rows.FiltNearsSaid := over
#print axioms proved

end Go.Proofs.Ytfgpcjfkkonkhaa.filtNears
