/- TickAdjusts: whatever the numbers are, the law answers true and leaves memory as it was. -/
import Derived.Test.YtolihlnlblaihaaTick
namespace Go.Proofs.Ytolihlnlblaihaa.tickAdjusts
open Go.ChangeShapes Go.WideShapes Go.ChangeAt Go.RowKit Go.Proofs.Ytolihlnlblaihaa Go.Proofs.Ytolihlnlblaihaa.Open
set_option linter.unusedVariables false
theorem two_ok : TickOk [1, 3] 0 := ⟨by decide, by intro x hx; simp at hx; rcases hx with rfl | rfl <;> (unfold TickIn; omega), by decide, by decide, by decide⟩
theorem two_mid : midI [1, 3] 0 = 2 := by
  unfold midI
  rw [sortI_is (List.Perm.refl [1, 3]) (by simp)]
  rfl
set_option maxHeartbeats 4000000 in
theorem way (own : Int) (xs : List Int) (f : Int) (v : Value) (w : World) (ho : -9223372036854775808 ≤ own ∧ own ≤ 9223372036854775807) (hv : IntsAt .i64 w v xs) (hm : xs.length ≤ 9223372036854775807) :
    Calls Try.prog 3 #[.int .i64 own, v, .int .i64 f] w fun e w' => e = .returned (.bool true) ∧ Below w.heap.size w w' := by
  obtain ⟨a, cap, rfl⟩ := hv.len
  have HV := Lib.hid hv
  have F0 := Lib.hid (ints_new (E := 3) (K := .i64) w [1, 3] #[.int .i64 1, .int .i64 3] rfl rfl (by decide))
  clear hv
  go_enter Try.func3, Try.ntmps3
  go_wp2_with fail
  refine (adjust_any 5 [1, 3] 0 _ _ F0.out (by decide)).mono ?_
  rintro e w1 ⟨he, -, -, hb⟩
  replace he := he (by unfold TickIn; omega) two_ok
  rw [two_mid] at he
  obtain rfl := he
  have B1 : Below w.heap.size w w1 := by repeat (first | with_reducible exact Below.refl _ _ | ((with_reducible refine Below.setCell ?_ ?_ _); rotate_left; (· first | (simp; done) | omega | (simp; omega))) | with_reducible refine below_drewN ?_ _ | with_reducible refine Below.drew ?_ | ((with_reducible refine Below.trans ?_ (Below.mono hb ?_)); rotate_left; (· first | (simp; done) | omega | (simp; omega))) | ((with_reducible refine Below.alloc ?_ ?_ _); rotate_left; (· first | (simp; done) | omega | (simp; omega))) | exact Below.refl _ _ | refine Below.setCell ?_ (by first | (simp; done) | omega | (simp; omega)) _ | refine below_drewN ?_ _ | refine Below.drew ?_ | refine Below.trans ?_ (Below.mono hb (by first | (simp; done) | omega | (simp; omega))) | refine Below.alloc ?_ (by first | (simp; done) | omega | (simp; omega)) _)
  clear hb F0
  go_wp2_with fail
  refine (adjust_any own xs f _ _ (HV.out.later B1 (Nat.le_refl _)) hm).mono ?_
  rintro e w2 ⟨h1, h2, h3, hb⟩
  have B2 := B1.trans (hb.mono B1.size)
  clear hb B1
  by_cases hin : TickIn own
  · by_cases hok : TickOk xs f
    · obtain rfl := h1 hin hok
      have mb := midI_bd hok.2.1 f
      unfold TickIn at hin
      have HOK := Lib.hid hok
      clear h1 h2 h3 hok
      go_wp2_with fail
      refine (midway_any xs f _ _ (HV.out.later B2 (Nat.le_refl _)) hm).mono ?_
      rintro e w3 ⟨g1, -, hb⟩
      obtain rfl := g1 HOK.out
      have B3 := B2.trans (hb.mono B2.size)
      clear hb B2 g1
      generalize midI xs f = m at *
      have t1 : (own + (m - own) == m) = true := by rw [beq_iff_eq]; omega
      have t2 : own + (m - own) = m := by omega
      go_wp2
      go_ret
      exact ⟨by first | rfl | (simp; done) | simp [t2], B3⟩
    · obtain rfl := h3 hin hok
      have HOK := Lib.hid hok
      have hne : (tickE xs f != 0) = true := by rw [bne_iff_ne]; exact tickE_ne _ _
      have hee : (tickE xs f == tickE xs f) = true := by simp
      clear h1 h2 h3 hok
      go_wp2_with fail
      refine (midway_any xs f _ _ (HV.out.later B2 (Nat.le_refl _)) hm).mono ?_
      rintro e w3 ⟨-, g2, hb⟩
      obtain rfl := g2 HOK.out
      have B3 := B2.trans (hb.mono B2.size)
      clear hb B2 g2
      generalize tickE xs f = m at *
      go_wp2
      go_ret
      exact ⟨rfl, B3⟩
  · obtain rfl := h2 hin
    clear h1 h2 h3
    unfold TickIn at hin
    have ht : (decide (own < -1099511627776) = true) ∨ (decide (own < -1099511627776) = false ∧ decide (1099511627776 < own) = true) := by
      simp only [decide_eq_true_eq, decide_eq_false_iff_not]; omega
    clear hin
    go_wp2_with fail
    refine (midway_any xs f _ _ (HV.out.later B2 (Nat.le_refl _)) hm).mono ?_
    rintro e w3 ⟨g1, g2, hb⟩
    have B3 := B2.trans (hb.mono B2.size)
    clear hb B2
    by_cases hok : TickOk xs f
    · obtain rfl := g1 hok
      clear g1 g2 hok ht
      go_wp2
      go_ret
      exact ⟨rfl, B3⟩
    · obtain rfl := g2 hok
      have hne : (tickE xs f == 0) = false := by rw [beq_eq_false_iff_ne]; exact tickE_ne _ _
      clear g1 g2 hok
      by_cases h1 : tickE xs f = 1
      · rw [h1] at hne ⊢
        clear h1
        go_wp2
        go_ret
        exact ⟨rfl, B3⟩
      · have hn1 : (tickE xs f == 1) = false := by rw [beq_eq_false_iff_ne]; exact h1
        clear h1
        generalize tickE xs f = m at *
        rcases ht with t1 | ⟨t1, t2⟩
        all_goals
          go_wp2
          go_ret
          exact ⟨rfl, B3⟩
theorem law (own : Int) (a : Option Addr) (len cap : Nat) (zs : List Int) (f : Int) (w : World) (ho : -9223372036854775808 ≤ own ∧ own ≤ 9223372036854775807) (h2 : IsRow .i64 w a len cap zs) (hf : -9223372036854775808 ≤ f ∧ f ≤ 9223372036854775807) :
    Calls Try.prog 3 #[.int .i64 own, .slice a len cap, .int .i64 f] w fun e w' => e = .returned (.bool true) ∧ Below w.heap.size w w' := by
  obtain ⟨h5, h6⟩ := isRow_ints h2
  have := h2.maxLen
  have h7 := way own (zs.take len) f _ w ho h5 (by omega)
  exact h7
set_option maxRecDepth 100000 in
theorem lifted (os : Os) (started : os.Started) (H : Type) (enc : TypeId × Value → H) :
    ReturnsInHanded {} Try.checked os 3 .any (Rows.tickAdjustsSpec.pre6 enc Try.prog Try.f3 Rows.tickAdjustsRow.domain false) (Rows.tickAdjustsSpec.post enc Try.prog Try.f3 false true false false) := by
  refine returnsInHanded_of_change (C := Try.checked) own started (by kernel_rfl) Try.func3
    (ChangeSpec.witness6 (enc := enc) (C := Try.checked) false ⟨#[], #[.int .i64 0, .slice none 0 0, .int .i64 0], []⟩ 8 (by kernel_rfl) (by kernel_rfl) (by kernel_rfl) (by kernel_rfl)) ?_
  intro W base args ds gs before hval0 hW hcnd _
  have hval : ∀ (j : Nat) t v, Try.f3.params[j]? = some t → args[j]? = some v → Value.okWide Try.prog W .any base t v := hval0
  have hW' := hW
  obtain ⟨p, q, hA0, hV, rfl, hfz, hnd⟩ := hW
  have hA : DataW.TrodAll enc Try.prog W 0 (fun _ => true) true Try.f3.params.toList args.toList ds p := hA0
  rw [Try.params3] at hA hval
  obtain ⟨v0, vs0, d0, ds0, p0, q0, hargs, rfl, rfl, h0, r0⟩ := trodAll_cons hA
  obtain ⟨v1, vs1, d1, ds1, p1, q1, rfl, rfl, rfl, h1, r1⟩ := trodAll_cons r0
  obtain ⟨v2, vs2, d2, ds2, p2, q2, rfl, rfl, rfl, h2, r2⟩ := trodAll_cons r1
  obtain ⟨rfl, rfl, rfl⟩ := trodAll_nil r2
  obtain rfl : args = #[v0, v1, v2] := by cases args; simp_all
  obtain ⟨rfl, rfl⟩ := trodVars_none hV
  have k0 := h0
  have lt0 : ∀ x ∈ p0, x.block < W.heap.size := by obtain ⟨m, hm⟩ := k0; exact DataW.trod_lt m _ _ _ hm
  have k1 := h1
  have lt1 : ∀ x ∈ p1, x.block < W.heap.size := by obtain ⟨m, hm⟩ := k1; exact DataW.trod_lt m _ _ _ hm
  have k2 := h2
  have lt2 : ∀ x ∈ p2, x.block < W.heap.size := by obtain ⟨m, hm⟩ := k2; exact DataW.trod_lt m _ _ _ hm
  obtain ⟨a0, rfl, rfl, rfl, w0⟩ := open_int Try.underlying3 (hval 0 3 v0 rfl rfl) h0
  obtain ⟨sa1, sl1, sc1, rfl⟩ := okWide_slice Try.underlying22 (hval 1 22 v1 rfl rfl)
  obtain ⟨a1, len1, cap1, z1, e1, w1⟩ := leaf_ints (Try.underlying22) (Try.underlying3) (by kernel_rfl) (by obtain ⟨fuel, hf⟩ := h1; exact ⟨fuel, _, by simpa [Value.cells] using hf⟩)
  simp only [Value.slice.injEq] at e1
  obtain ⟨rfl, rfl, rfl⟩ := e1
  obtain ⟨a2, rfl, rfl, rfl, w2⟩ := open_int Try.underlying3 (hval 2 3 v2 rfl rfl) h2
  clear hA0 hval0
  refine (law a0 sa1 sl1 sc1 z1 a2 W (bounds_i64 w0) w1 (bounds_i64 w2)).mono fun e W' ⟨he, bel⟩ => ?_
  subst he
  exact ⟨_, rfl, _, _, _, [], _, [], hW', trodAll_mk1 (shut_bool Try.underlying4 _), (trodAll_cons_mk (Below.trod laidOut (by kernel_rfl) (of_decide_eq_true (by kernel_rfl)) k0 bel lt0) (trodAll_cons_mk (Below.trod laidOut (by kernel_rfl) (of_decide_eq_true (by kernel_rfl)) k1 bel lt1) (trodAll_cons_mk (Below.trod laidOut (by kernel_rfl) (of_decide_eq_true (by kernel_rfl)) k2 bel lt2) trodAll_mk0))), rfl, bel.frame _, fun h => by cases h⟩
theorem over : Rows.tickAdjustsRow.holds Try.pinned (OpenSpec.ofChange Rows.tickAdjustsSpec) :=
  OpenClaim.holds_of_wide 3 Try.f3 rfl rfl rfl rfl rfl rfl rfl ⟨rfl, rfl, rfl, rfl, rfl⟩ rfl rfl rfl rfl rfl (by kernel_rfl) Try.func3 (by kernel_rfl)
    (of_decide_eq_true (by kernel_rfl)) (by unfold Func.isWrapper; first | (rw [if_pos (by decide +kernel)]; kernel_rfl) | (rw [if_neg (by decide +kernel)]; exact ⟨rfl, rfl⟩))
    (fun os started H enc _ => lifted os started H enc)
theorem proved : Rows.TickAdjustsSaid := over
#print axioms proved

end Go.Proofs.Ytolihlnlblaihaa.tickAdjusts
