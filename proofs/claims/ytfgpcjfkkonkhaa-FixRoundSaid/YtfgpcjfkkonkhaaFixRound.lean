/- FixRound: whatever the two numbers are, the law answers true and leaves memory as it was. -/
import Derived.Test.YtfgpcjfkkonkhaaFix
import Derived.Deep.DeepCutAuto
import Derived.Lib.Hide
namespace Go.Proofs.Ytfgpcjfkkonkhaa.fixRound
open Go.ChangeShapes Go.WideShapes Go.ChangeAt Go.RowKit Go.Proofs.Ytfgpcjfkkonkhaa Go.Proofs.Ytfgpcjfkkonkhaa.Open
set_option linter.unusedVariables false
theorem roundI_bd (a : Int) (ha : -2147483648 ≤ a ∧ a ≤ 2147483647) : -32768 ≤ roundI a ∧ roundI a ≤ 32768 := by unfold roundI; split <;> omega
theorem ofI_bd (n : Int) : -2147483648 ≤ ofI n ∧ ofI n ≤ 2147483647 := by unfold ofI sat32; omega
set_option maxHeartbeats 1000000 in
set_option maxRecDepth 100000 in
theorem way (a n k o r : Int) (w : World) (ha : -2147483648 ≤ a ∧ a ≤ 2147483647) (hn : -9223372036854775808 ≤ n ∧ n ≤ 9223372036854775807) (hk : -32768 ≤ k ∧ k ≤ 32768) (ho : -2147483648 ≤ o ∧ o ≤ 2147483647)
    (k1 : roundI 32768 = 0) (k2 : roundI 98304 = 2) (k3 : ofI 7 = 458752) (k4 : roundI a = k) (k5 : ofI n = o) (k6 : roundI o = r)
    (k7 : Hid (n < -32768 ∨ (-32768 ≤ n ∧ 32767 < n) ∨ (-32768 ≤ n ∧ n ≤ 32767 ∧ (r == n) = true)))
    (k8 : Hid ((-32768 < k * 65536 - a ∧ k * 65536 - a < 32768) ∨ (k * 65536 - a = 32768 ∧ (k.tmod 2 == 0) = true) ∨ (k * 65536 - a = -32768 ∧ (k.tmod 2 == 0) = true))) :
    Calls Try.prog 8 #[.int .i32 a, .int .i64 n] w fun e w' => e = .returned (.bool true) ∧ Below w.heap.size w w' := by
  rcases k8.out with ⟨h, h'⟩ | ⟨h, h'⟩ | ⟨h, h'⟩
  · rcases Int.le_total 0 (k * 65536 - a) with g | g
    all_goals
      rcases k7.out with q | ⟨q, q'⟩ | ⟨q, q', q''⟩
      all_goals
        go_enter Try.func8, Try.ntmps8
        go_wp2_with (first | (go_at_call 21; refine (round_any _ (by omega) _).mono ?_; rintro e w' ⟨rfl, rfl⟩) | (go_at_call 22; refine (of_any _ _).mono ?_; rintro e w' ⟨rfl, rfl⟩))
        all_goals
          go_ret
          exact ⟨ret_bool (by first | rfl | simpa), Below.refl _ _⟩
  all_goals
    have H := Lib.hid h
    clear h
    have g : -32768 ≤ k * 65536 - a ∧ k * 65536 - a ≤ 32768 := by have := H.out; omega
    rcases k7.out with q | ⟨q, q'⟩ | ⟨q, q', q''⟩
    all_goals
      go_enter Try.func8, Try.ntmps8
      go_wp2_with (first | (go_at_call 21; refine (round_any _ (by omega) _).mono ?_; rintro e w' ⟨rfl, rfl⟩) | (go_at_call 22; refine (of_any _ _).mono ?_; rintro e w' ⟨rfl, rfl⟩))
      all_goals
        go_ret
        have h := H.out
        refine ⟨ret_bool ?_, Below.refl _ _⟩
        first | rfl | simpa | omega | (simp; omega)
theorem law (a n : Int) (w : World) (ha : -2147483648 ≤ a ∧ a ≤ 2147483647) (hn : -9223372036854775808 ≤ n ∧ n ≤ 9223372036854775807) :
    Calls Try.prog 8 #[.int .i32 a, .int .i64 n] w fun e w' => e = .returned (.bool true) ∧ Below w.heap.size w w' := by
  refine way a n (roundI a) (ofI n) (roundI (ofI n)) w ha hn (roundI_bd a ha) (ofI_bd n) (by decide) (by decide) (by decide) rfl rfl rfl ?_ ?_
  · unfold Hid
    by_cases h : -32768 ≤ n ∧ n ≤ 32767
    · have e : roundI (ofI n) = n := by unfold roundI ofI sat32; split <;> omega
      simp [e]; omega
    · omega
  · unfold Hid
    have e : (roundI a).tmod 2 = if roundI a % 2 = 0 then 0 else if 0 ≤ roundI a then 1 else -1 := by
      split
      · rename_i h; exact Int.tmod_eq_zero_of_dvd (by omega)
      · split
        · rw [Int.tmod_eq_emod_of_nonneg (by omega)]; omega
        · have := Int.neg_tmod (-(roundI a)) 2; rw [Int.neg_neg] at this; rw [this, Int.tmod_eq_emod_of_nonneg (by omega)]; omega
    have h2 : (-32768 < roundI a * 65536 - a ∧ roundI a * 65536 - a < 32768) ∨ (roundI a * 65536 - a = 32768 ∧ roundI a % 2 = 0) ∨ (roundI a * 65536 - a = -32768 ∧ roundI a % 2 = 0) := by
      unfold roundI; split <;> omega
    rcases h2 with h2 | ⟨h2, h3⟩ | ⟨h2, h3⟩
    · exact .inl h2
    · exact .inr (.inl ⟨h2, by rw [e, if_pos h3]; rfl⟩)
    · exact .inr (.inr ⟨h2, by rw [e, if_pos h3]; rfl⟩)
set_option maxRecDepth 100000 in
theorem lifted (os : Os) (started : os.Started) (H : Type) (enc : TypeId × Value → H) :
    ReturnsInHanded {} Try.checked os 8 .any (Rows.fixRoundSpec.pre6 enc Try.prog Try.f8 Rows.fixRoundRow.domain false) (Rows.fixRoundSpec.post enc Try.prog Try.f8 false true false false) := by
  refine returnsInHanded_of_change (C := Try.checked) own started (by kernel_rfl) Try.func8
    (ChangeSpec.witness6 (enc := enc) (C := Try.checked) false ⟨#[], #[.int .i32 0, .int .i64 0], []⟩ 8 (by kernel_rfl) (by kernel_rfl) (by kernel_rfl) (by kernel_rfl)) ?_
  intro W base args ds gs before hval0 hW hcnd _
  have hval : ∀ (j : Nat) t v, Try.f8.params[j]? = some t → args[j]? = some v → Value.okWide Try.prog W .any base t v := hval0
  have hW' := hW
  obtain ⟨p, q, hA0, hV, rfl, hfz, hnd⟩ := hW
  have hA : DataW.TrodAll enc Try.prog W 0 (fun _ => true) true Try.f8.params.toList args.toList ds p := hA0
  rw [Try.params8] at hA hval
  obtain ⟨v0, vs0, d0, ds0, p0, q0, hargs, rfl, rfl, h0, r0⟩ := trodAll_cons hA
  obtain ⟨v1, vs1, d1, ds1, p1, q1, rfl, rfl, rfl, h1, r1⟩ := trodAll_cons r0
  obtain ⟨rfl, rfl, rfl⟩ := trodAll_nil r1
  obtain rfl : args = #[v0, v1] := by cases args; simp_all
  obtain ⟨rfl, rfl⟩ := trodVars_none hV
  have k0 := h0
  have lt0 : ∀ x ∈ p0, x.block < W.heap.size := by obtain ⟨m, hm⟩ := k0; exact DataW.trod_lt m _ _ _ hm
  have k1 := h1
  have lt1 : ∀ x ∈ p1, x.block < W.heap.size := by obtain ⟨m, hm⟩ := k1; exact DataW.trod_lt m _ _ _ hm
  obtain ⟨a0, rfl, rfl, rfl, w0⟩ := open_int Try.underlying21 (hval 0 21 v0 rfl rfl) h0
  obtain ⟨a1, rfl, rfl, rfl, w1⟩ := open_int Try.underlying3 (hval 1 3 v1 rfl rfl) h1
  clear hA0 hval0
  refine (law a0 a1 W (bounds_i32 w0) (bounds_i64 w1)).mono fun e W' ⟨he, bel⟩ => ?_
  subst he
  exact ⟨_, rfl, _, _, _, [], _, [], hW', trodAll_mk1 (shut_bool Try.underlying4 _), (trodAll_cons_mk (Below.trod laidOut (by kernel_rfl) (of_decide_eq_true (by kernel_rfl)) k0 bel lt0) (trodAll_cons_mk (Below.trod laidOut (by kernel_rfl) (of_decide_eq_true (by kernel_rfl)) k1 bel lt1) trodAll_mk0)), rfl, bel.frame _, fun h => by cases h⟩
theorem over : Rows.fixRoundRow.holds Try.pinned (OpenSpec.ofChange Rows.fixRoundSpec) :=
  OpenClaim.holds_of_wide 8 Try.f8 rfl rfl rfl rfl rfl rfl rfl ⟨rfl, rfl, rfl, rfl, rfl⟩ rfl rfl rfl rfl rfl (by kernel_rfl) Try.func8 (by kernel_rfl)
    (of_decide_eq_true (by kernel_rfl)) (by unfold Func.isWrapper; first | (rw [if_pos (by decide +kernel)]; kernel_rfl) | (rw [if_neg (by decide +kernel)]; exact ⟨rfl, rfl⟩))
    (fun os started H enc _ => lifted os started H enc)
theorem proved : Rows.FixRoundSaid := over
#print axioms proved

end Go.Proofs.Ytfgpcjfkkonkhaa.fixRound
