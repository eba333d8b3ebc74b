/- ServoSense: whatever the sensor and the two coils are, the law answers true and leaves memory as it was. -/
import Derived.Test.YtibbilncigmleaaServo
namespace Go.Proofs.Ytibbilncigmleaa.servoSense
open Go.ChangeShapes Go.WideShapes Go.ChangeAt Go.RowKit Go.Proofs.Ytibbilncigmleaa Go.Proofs.Ytibbilncigmleaa.Open
set_option linter.unusedVariables false
theorem near_two (P : Int) : -1 ≤ sat32 (nearI P) + sat32 (nearI (-P)) ∧ sat32 (nearI P) + sat32 (nearI (-P)) ≤ 1 := by
  unfold sat32 nearI; omega
theorem near_ends (f : Int) (hf : 0 ≤ f ∧ f ≤ 2147483647) : -1 ≤ mulI 2147483647 f + mulI (-2147483648) f ∧ mulI 2147483647 f + mulI (-2147483648) f ≤ 1 := by
  unfold mulI sat32 nearI; omega
theorem two (a b sum wide full : Int) (h : sensOk a b sum wide full = true) (hf : full ≤ 2147483647) (hab : -2147483647 ≤ a - b ∧ a - b ≤ 2147483647) :
    -1 ≤ sensP a b sum wide full + sensP b a sum wide full ∧ sensP a b sum wide full + sensP b a sum wide full ≤ 1 := by
  have hs : sensOk b a sum wide full = true := by rw [← h]; unfold sensOk; rw [Int.add_comm b a]
  have h0 : 0 ≤ full ∧ 1 ≤ a + b := by
    unfold sensOk at h; split at h
    · simp at h
    · split at h
      · simp at h
      · omega
  unfold sensP
  rw [h, hs]
  simp only [if_true]
  unfold senseP
  rw [sat32_in (a - b) (by omega), sat32_in (b - a) (by omega), Int.add_comm b a]
  have hS : sat32 (a + b) ≠ 0 := by unfold sat32; omega
  unfold divI
  rw [if_pos hS, if_pos hS, show (b - a) * 65536 = -((a - b) * 65536) from by omega, Int.neg_tdiv]
  generalize ((a - b) * 65536).tdiv (sat32 (a + b)) = T
  rcases (by omega : T < -2147483647 ∨ 2147483647 < T ∨ (-2147483647 ≤ T ∧ T ≤ 2147483647)) with g | g | g
  · rw [show sat32 T = -2147483648 from by unfold sat32; omega, show sat32 (-T) = 2147483647 from by unfold sat32; omega]
    have := near_ends full (by omega); omega
  · rw [show sat32 T = 2147483647 from by unfold sat32; omega, show sat32 (-T) = -2147483648 from by unfold sat32; omega]
    exact near_ends full (by omega)
  · rw [sat32_in T (by omega), sat32_in (-T) (by omega)]
    unfold mulI
    rw [Int.neg_mul]
    exact near_two _
set_option maxHeartbeats 2000000 in
set_option maxRecDepth 100000 in
theorem way (sum wide full a b p q e : Int) (ok : Bool) (w : World) (hs : -2147483648 ≤ sum ∧ sum ≤ 2147483647) (hw : -2147483648 ≤ wide ∧ wide ≤ 2147483647) (hf : -2147483648 ≤ full ∧ full ≤ 2147483647)
    (ha : -2147483648 ≤ a ∧ a ≤ 2147483647) (hb : -2147483648 ≤ b ∧ b ≤ 2147483647) (hp : -2147483648 ≤ p ∧ p ≤ 2147483647) (hq : -2147483648 ≤ q ∧ q ≤ 2147483647)
    (k1 : sensP 6 2 8 0 262144 = 131072) (k2 : sensOk 6 2 8 0 262144 = true) (k3 : sensE 8 0 262144 = 0)
    (k4 : sensP a b sum wide full = p) (k5 : sensP b a sum wide full = q) (k6 : sensOk a b sum wide full = ok) (k7 : sensOk b a sum wide full = ok) (k8 : sensE sum wide full = e)
    (h : ((e != 0) = true ∧ p = 0 ∧ q = 0 ∧ ok = false) ∨ ((e != 0) = false ∧ p = 0 ∧ q = 0 ∧ ok = false) ∨
      ((e != 0) = false ∧ ok = true ∧ 0 ≤ p + q ∧ p + q ≤ 1) ∨ ((e != 0) = false ∧ ok = true ∧ p + q = -1) ∨
      ((e != 0) = false ∧ ok = true ∧ 1 < p + q ∧ 2147483647 < apartI a b) ∨ ((e != 0) = false ∧ ok = true ∧ p + q < -1 ∧ 2147483647 < apartI a b)) :
    Calls Try.prog 10 #[.agg #[.int .i32 sum, .int .i32 wide, .int .i32 full], .int .i32 a, .int .i32 b] w fun e w' => e = .returned (.bool true) ∧ Below w.heap.size w w' := by
  go_enter Try.func10, Try.ntmps10
  go_wp2_with fail
  refine (sense_any _ _ _ _ _ _ (by omega) (by omega) (by omega) (by omega) (by omega)).mono ?_
  rintro e1 w1 ⟨rfl, hb1⟩
  have hz1 := hb1.size
  obtain ⟨hc1, hf1⟩ := bcell hb1
  simp at hz1
  have c0 : w1.cell? ⟨w.heap.size, 0, none⟩ = some (.int .i32 sum) := by rw [hc1 _ _ (by simp; omega)]; simp
  have c1 : w1.cell? ⟨w.heap.size, 1, none⟩ = some (.int .i32 wide) := by rw [hc1 _ _ (by simp; omega)]; simp
  have c2 : w1.cell? ⟨w.heap.size, 2, none⟩ = some (.int .i32 full) := by rw [hc1 _ _ (by simp; omega)]; simp
  clear hc1 hf1
  go_wp2_with fail
  refine (sense_any _ _ _ _ _ _ (by omega) (by omega) (by omega) (by omega) (by omega)).mono ?_
  rintro e2 w2 ⟨rfl, hb2⟩
  have hz2 := hb2.size
  obtain ⟨hc2, hf2⟩ := bcell hb2
  rw [← hc2 _ _ (by omega)] at c0 c1 c2
  clear hc2 hf2
  go_wp2_with fail
  refine (sense_any _ _ _ _ _ _ (by omega) (by omega) (by omega) (by omega) (by omega)).mono ?_
  rintro e3 w3 ⟨rfl, hb3⟩
  have HB : Below w.heap.size w w3 := ((((Below.refl _ _).alloc (Nat.le_refl _) _).alloc (by simp) _).trans (hb1.mono (by simp; omega))).trans ((hb2.mono (by omega)).trans (hb3.mono (by omega)))
  clear hb1 hb2 hb3 hz1 hz2 c0 c1 c2
  rcases h with ⟨h, rfl, rfl, rfl⟩ | ⟨h, rfl, rfl, rfl⟩ | ⟨h, rfl, g1, g2⟩ | ⟨h, rfl, g⟩ | ⟨h, rfl, g1, g2⟩ | ⟨h, rfl, g1, g2⟩
  case inr.inr.inr.inl =>
    have g1 : p + q ≤ -1 ∧ -1 ≤ p + q := by omega
    clear g
    go_wp2_with (go_at_call 16; refine (apart_any _ _ (by omega) (by omega) _).mono ?_; rintro e w' ⟨rfl, rfl⟩)
    all_goals
      go_ret
      exact ⟨ret_bool (by first | rfl | simpa | (simp; omega)), HB⟩
  all_goals
    go_wp2_with (go_at_call 16; refine (apart_any _ _ (by omega) (by omega) _).mono ?_; rintro e w' ⟨rfl, rfl⟩)
    all_goals
      go_ret
      exact ⟨ret_bool (by first | rfl | simpa | (simp; omega)), HB⟩
theorem law (sum wide full a b : Int) (w : World) (hs : -2147483648 ≤ sum ∧ sum ≤ 2147483647) (hw : -2147483648 ≤ wide ∧ wide ≤ 2147483647) (hf : -2147483648 ≤ full ∧ full ≤ 2147483647)
    (ha : -2147483648 ≤ a ∧ a ≤ 2147483647) (hb : -2147483648 ≤ b ∧ b ≤ 2147483647) :
    Calls Try.prog 10 #[.agg #[.int .i32 sum, .int .i32 wide, .int .i32 full], .int .i32 a, .int .i32 b] w fun e w' => e = .returned (.bool true) ∧ Below w.heap.size w w' := by
  have k7 : sensOk b a sum wide full = sensOk a b sum wide full := by unfold sensOk; rw [Int.add_comm b a]
  refine way sum wide full a b _ _ _ _ w hs hw hf ha hb (sensP_bd _ _ _ _ _) (sensP_bd _ _ _ _ _) (by decide) (by decide) (by decide) rfl rfl rfl k7 rfl ?_
  cases ho : sensOk a b sum wide full
  · have e1 : sensP a b sum wide full = 0 := by unfold sensP; rw [ho]; rfl
    have e2 : sensP b a sum wide full = 0 := by unfold sensP; rw [k7, ho]; rfl
    by_cases h : sensE sum wide full = 0
    · exact .inr (.inl ⟨by simp [h], e1, e2, rfl⟩)
    · exact .inl ⟨by simp [h], e1, e2, rfl⟩
  · have h : sensE sum wide full = 0 := by
      unfold sensOk at ho; unfold sensE; split at ho
      · simp at ho
      · rename_i g; exact if_neg g
    have h' : (sensE sum wide full != 0) = false := by simp [h]
    by_cases hab : -2147483647 ≤ a - b ∧ a - b ≤ 2147483647
    · have := two a b sum wide full ho hf.2 hab
      rcases (by omega : (0 ≤ sensP a b sum wide full + sensP b a sum wide full ∧ sensP a b sum wide full + sensP b a sum wide full ≤ 1) ∨ sensP a b sum wide full + sensP b a sum wide full = -1) with g | g
      · exact .inr (.inr (.inl ⟨h', rfl, g.1, g.2⟩))
      · exact .inr (.inr (.inr (.inl ⟨h', rfl, g⟩)))
    · have hA : 2147483647 < apartI a b := by unfold apartI absI; omega
      rcases (by omega : (0 ≤ sensP a b sum wide full + sensP b a sum wide full ∧ sensP a b sum wide full + sensP b a sum wide full ≤ 1) ∨ sensP a b sum wide full + sensP b a sum wide full = -1 ∨ 1 < sensP a b sum wide full + sensP b a sum wide full ∨ sensP a b sum wide full + sensP b a sum wide full < -1) with g | g | g | g
      · exact .inr (.inr (.inl ⟨h', rfl, g.1, g.2⟩))
      · exact .inr (.inr (.inr (.inl ⟨h', rfl, g⟩)))
      · exact .inr (.inr (.inr (.inr (.inl ⟨h', rfl, g, hA⟩))))
      · exact .inr (.inr (.inr (.inr (.inr ⟨h', rfl, g, hA⟩))))
set_option maxRecDepth 100000 in
theorem lifted (os : Os) (started : os.Started) (H : Type) (enc : TypeId × Value → H) :
    ReturnsInHanded {} Try.checked os 10 .any (Rows.servoSenseSpec.pre6 enc Try.prog Try.f10 Rows.servoSenseRow.domain false) (Rows.servoSenseSpec.post enc Try.prog Try.f10 false true false false) := by
  refine returnsInHanded_of_change (C := Try.checked) own started (by kernel_rfl) Try.func10
    (ChangeSpec.witness6 (enc := enc) (C := Try.checked) false ⟨#[], #[.agg #[.int .i32 0, .int .i32 0, .int .i32 0], .int .i32 0, .int .i32 0], []⟩ 8 (by kernel_rfl) (by kernel_rfl) (by kernel_rfl) (by kernel_rfl)) ?_
  intro W base args ds gs before hval0 hW hcnd _
  have hval : ∀ (j : Nat) t v, Try.f10.params[j]? = some t → args[j]? = some v → Value.okWide Try.prog W .any base t v := hval0
  have hW' := hW
  obtain ⟨p, q, hA0, hV, rfl, hfz, hnd⟩ := hW
  have hA : DataW.TrodAll enc Try.prog W 0 (fun _ => true) true Try.f10.params.toList args.toList ds p := hA0
  rw [Try.params10] at hA hval
  obtain ⟨v0, vs0, d0, ds0, p0, q0, hargs, rfl, rfl, h0, r0⟩ := trodAll_cons hA
  obtain ⟨v1, vs1, d1, ds1, p1, q1, rfl, rfl, rfl, h1, r1⟩ := trodAll_cons r0
  obtain ⟨v2, vs2, d2, ds2, p2, q2, rfl, rfl, rfl, h2, r2⟩ := trodAll_cons r1
  obtain ⟨rfl, rfl, rfl⟩ := trodAll_nil r2
  obtain rfl : args = #[v0, v1, v2] := by cases args; simp_all
  obtain ⟨rfl, rfl⟩ := trodVars_none hV
  have k0 := h0
  have lt0 : ∀ x ∈ p0, x.block < W.heap.size := by obtain ⟨m, hm⟩ := k0; exact DataW.trod_lt m _ _ _ hm
  have k1 := h1
  have lt1 : ∀ x ∈ p1, x.block < W.heap.size := by obtain ⟨m, hm⟩ := k1; exact DataW.trod_lt m _ _ _ hm
  have k2 := h2
  have lt2 : ∀ x ∈ p2, x.block < W.heap.size := by obtain ⟨m, hm⟩ := k2; exact DataW.trod_lt m _ _ _ hm
  obtain ⟨cs0, rfl, lf0_0⟩ := open_flat 12 [21, 21, 21] (by kernel_rfl) (by kernel_rfl) (by kernel_rfl) (hval 0 67 v0 rfl rfl) h0
  obtain ⟨c0_0, r0_0, rfl, y0_0, lf0_1⟩ := leafs_cons lf0_0
  obtain ⟨a0_0, rfl, w0_0⟩ := leaf_int Try.underlying21 y0_0
  obtain ⟨c0_1, r0_1, rfl, y0_1, lf0_2⟩ := leafs_cons lf0_1
  obtain ⟨a0_1, rfl, w0_1⟩ := leaf_int Try.underlying21 y0_1
  obtain ⟨c0_2, r0_2, rfl, y0_2, lf0_3⟩ := leafs_cons lf0_2
  obtain ⟨a0_2, rfl, w0_2⟩ := leaf_int Try.underlying21 y0_2
  obtain rfl := leafs_nil lf0_3
  obtain ⟨a1, rfl, rfl, rfl, w1⟩ := open_int Try.underlying21 (hval 1 21 v1 rfl rfl) h1
  obtain ⟨a2, rfl, rfl, rfl, w2⟩ := open_int Try.underlying21 (hval 2 21 v2 rfl rfl) h2
  clear hA0 hval0
  refine (law a0_0 a0_1 a0_2 a1 a2 W (bounds_i32 w0_0) (bounds_i32 w0_1) (bounds_i32 w0_2) (bounds_i32 w1) (bounds_i32 w2)).mono fun e W' ⟨he, bel⟩ => ?_
  subst he
  exact ⟨_, rfl, _, _, _, [], _, [], hW', trodAll_mk1 (shut_bool Try.underlying4 _), (trodAll_cons_mk (Below.trod laidOut (by kernel_rfl) (of_decide_eq_true (by kernel_rfl)) k0 bel lt0) (trodAll_cons_mk (Below.trod laidOut (by kernel_rfl) (of_decide_eq_true (by kernel_rfl)) k1 bel lt1) (trodAll_cons_mk (Below.trod laidOut (by kernel_rfl) (of_decide_eq_true (by kernel_rfl)) k2 bel lt2) trodAll_mk0))), rfl, bel.frame _, fun h => by cases h⟩
theorem over : Rows.servoSenseRow.holds Try.pinned (OpenSpec.ofChange Rows.servoSenseSpec) :=
  OpenClaim.holds_of_wide 10 Try.f10 rfl rfl rfl rfl rfl rfl rfl ⟨rfl, rfl, rfl, rfl, rfl⟩ rfl rfl rfl rfl rfl (by kernel_rfl) Try.func10 (by kernel_rfl)
    (of_decide_eq_true (by kernel_rfl)) (by unfold Func.isWrapper; first | (rw [if_pos (by decide +kernel)]; kernel_rfl) | (rw [if_neg (by decide +kernel)]; exact ⟨rfl, rfl⟩))
    (fun os started H enc _ => lifted os started H enc)
theorem proved : Rows.ServoSenseSaid := over
#print axioms proved

end Go.Proofs.Ytibbilncigmleaa.servoSense
