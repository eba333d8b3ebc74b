/- FixBetween: whatever the four numbers are, the law answers true and leaves memory as it was. -/
import Derived.Test.YtibbilncigmleaaFix
import Derived.Deep.DeepCutAuto
namespace Go.Proofs.Ytibbilncigmleaa.fixBetween
open Go.ChangeShapes Go.WideShapes Go.ChangeAt Go.RowKit Go.Proofs.Ytibbilncigmleaa Go.Proofs.Ytibbilncigmleaa.Open
set_option linter.unusedVariables false
/-- how far between: by the part T of One -/
theorem between_at (a b t : Int) (ha : -2147483648 ≤ a ∧ a ≤ 2147483647) (hb : -2147483648 ≤ b ∧ b ≤ 2147483647) :
    ∃ P, P = (b - a) * clampI t 0 65536 ∧ betweenI a b t = a + (P + 32768) / 65536 ∧ ((a ≤ b ∧ 0 ≤ P ∧ P ≤ (b - a) * 65536) ∨ (b < a ∧ P ≤ 0 ∧ (b - a) * 65536 ≤ P)) := by
  have hc : 0 ≤ clampI t 0 65536 ∧ clampI t 0 65536 ≤ 65536 := by unfold clampI; omega
  refine ⟨_, rfl, ?_, ?_⟩
  all_goals
    by_cases h : a ≤ b
    · have h1 := Int.mul_nonneg (a := b - a) (b := clampI t 0 65536) (by omega) hc.1
      have h2 := Int.mul_le_mul_of_nonneg_left (a := clampI t 0 65536) (b := 65536) (c := b - a) hc.2 (by omega)
      first | exact .inl ⟨h, h1, h2⟩ | (unfold betweenI nearI sat32; generalize (b - a) * clampI t 0 65536 = P at *; omega)
    · have h1 := Int.mul_nonneg (a := a - b) (b := clampI t 0 65536) (by omega) hc.1
      have h2 := Int.mul_le_mul_of_nonneg_left (a := clampI t 0 65536) (b := 65536) (c := a - b) hc.2 (by omega)
      have h3 : (a - b) * clampI t 0 65536 = -((b - a) * clampI t 0 65536) := by rw [← Int.neg_mul]; congr 1; omega
      rw [h3] at h1 h2
      first | exact .inr ⟨by omega, by omega, by omega⟩ | (unfold betweenI nearI sat32; generalize (b - a) * clampI t 0 65536 = P at *; omega)
set_option maxHeartbeats 1000000 in
set_option maxRecDepth 100000 in
theorem way (a b t u lo hi tl th x y : Int) (w : World) (ha : -2147483648 ≤ a ∧ a ≤ 2147483647) (hb : -2147483648 ≤ b ∧ b ≤ 2147483647) (hx : -2147483648 ≤ x ∧ x ≤ 2147483647) (hy : -2147483648 ≤ y ∧ y ≤ 2147483647)
    (g1 : Hid (lo = min a b)) (g2 : Hid (hi = max a b)) (g3 : Hid (tl = min t u)) (g4 : Hid (th = max t u))
    (k1 : betweenI 0 8 16384 = 2) (k2 : betweenI a b 0 = a) (k3 : betweenI a b 65536 = b) (k4 : betweenI a b (-5) = a) (k5 : betweenI a b tl = x) (k6 : betweenI a b th = y)
    (d1 : decide (lo ≤ x) = true) (d2 : decide (x ≤ hi) = true) (d3 : decide (apartI a x ≤ apartI a y) = true) :
    Calls Try.prog 3 #[.int .i32 a, .int .i32 b, .int .i32 t, .int .i32 u] w fun e w' => e = .returned (.bool true) ∧ Below w.heap.size w w' := by
  go_enter Try.func3, Try.ntmps3
  go_upto_region 3 with (go_at_call 15; refine (between_any _ _ _ (by omega) (by omega) _).mono ?_; rintro e w' ⟨rfl, rfl⟩)
  go_cut [9, 10] (fun p q wx => p = .int .i32 x ∧ q = .int .i32 y ∧ w = wx)
  case first =>
    rcases (by omega : t < u ∨ u < t ∨ t = u) with g | g | rfl
    all_goals
      have h1 := g3.out
      have h2 := g4.out
    · obtain rfl : tl = t := by omega
      obtain rfl : th = u := by omega
      clear h1 h2
      go_wp2_with (go_at_call 15; refine (between_any _ _ _ (by omega) (by omega) _).mono ?_; rintro e w' ⟨rfl, rfl⟩)
      go_meet; exact ⟨rfl, rfl, rfl⟩
    · obtain rfl : tl = u := by omega
      obtain rfl : th = t := by omega
      clear h1 h2
      go_wp2_with (go_at_call 15; refine (between_any _ _ _ (by omega) (by omega) _).mono ?_; rintro e w' ⟨rfl, rfl⟩)
      go_meet; exact ⟨rfl, rfl, rfl⟩
    · obtain rfl : tl = t := by omega
      obtain rfl : th = tl := by omega
      clear h1 h2
      obtain rfl : x = y := by rw [← k5, ← k6]
      go_wp2_with (go_at_call 15; refine (between_any _ _ _ (by omega) (by omega) _).mono ?_; rintro e w' ⟨rfl, rfl⟩)
      go_meet; exact ⟨rfl, rfl, rfl⟩
  case rest =>
    obtain ⟨rfl, rfl, rfl⟩ := hcut
    go_upto_region 4 with fail
    go_cut [11, 12] (fun p q wx => p = .int .i32 lo ∧ q = .int .i32 hi ∧ w = wx)
    case first =>
      rcases (by omega : a < b ∨ b < a ∨ a = b) with g | g | rfl
      all_goals
        have h1 := g1.out
        have h2 := g2.out
      · obtain rfl : lo = a := by omega
        obtain rfl : hi = b := by omega
        clear h1 h2
        go_wp2; go_meet; exact ⟨rfl, rfl, rfl⟩
      · obtain rfl : lo = b := by omega
        obtain rfl : hi = a := by omega
        clear h1 h2
        go_wp2; go_meet; exact ⟨rfl, rfl, rfl⟩
      · obtain rfl : lo = a := by omega
        obtain rfl : hi = lo := by omega
        clear h1 h2
        go_wp2; go_meet; exact ⟨rfl, rfl, rfl⟩
    case rest =>
      obtain ⟨rfl, rfl, rfl⟩ := hcut
      go_wp2_with (first | (go_at_call 15; refine (between_any _ _ _ (by omega) (by omega) _).mono ?_; rintro e w' ⟨rfl, rfl⟩) | (go_at_call 16; refine (apart_any _ _ (by omega) (by omega) _).mono ?_; rintro e w' ⟨rfl, rfl⟩))
      go_ret
      exact ⟨ret_bool (by first | rfl | simpa), Below.refl _ _⟩
theorem law (a b t u : Int) (w : World) (ha : -2147483648 ≤ a ∧ a ≤ 2147483647) (hb : -2147483648 ≤ b ∧ b ≤ 2147483647) (ht : -2147483648 ≤ t ∧ t ≤ 2147483647) (hu : -2147483648 ≤ u ∧ u ≤ 2147483647) :
    Calls Try.prog 3 #[.int .i32 a, .int .i32 b, .int .i32 t, .int .i32 u] w fun e w' => e = .returned (.bool true) ∧ Below w.heap.size w w' := by
  have e0 : clampI 0 0 65536 = 0 := by decide
  have e1 : clampI 65536 0 65536 = 65536 := by decide
  have e2 : clampI (-5) 0 65536 = 0 := by decide
  have k2 : betweenI a b 0 = a := by unfold betweenI; rw [e0, Int.mul_zero]; simp [nearI, sat32]; omega
  have k4 : betweenI a b (-5) = a := by unfold betweenI; rw [e2, Int.mul_zero]; simp [nearI, sat32]; omega
  have k3 : betweenI a b 65536 = b := by unfold betweenI; rw [e1]; unfold nearI sat32; omega
  obtain ⟨P, p1, p2, p3⟩ := between_at a b (min t u) ha hb
  obtain ⟨Q, q1, q2, q3⟩ := between_at a b (max t u) ha hb
  have hpq : (a ≤ b → P ≤ Q) ∧ (b < a → Q ≤ P) := by
    have hcc : clampI (min t u) 0 65536 ≤ clampI (max t u) 0 65536 := by unfold clampI; omega
    constructor
    · intro h; rw [p1, q1]; exact Int.mul_le_mul_of_nonneg_left hcc (by omega)
    · intro h
      have := Int.mul_le_mul_of_nonneg_left (c := a - b) hcc (by omega)
      have e3 : ∀ z, (a - b) * z = -((b - a) * z) := fun z => by rw [← Int.neg_mul]; congr 1; omega
      rw [e3, e3] at this; omega
  clear p1 q1
  refine way a b t u _ _ _ _ _ _ w ha hb (betweenI_bd a b (min t u)) (betweenI_bd a b (max t u)) rfl rfl rfl rfl (by decide) k2 k3 k4 rfl rfl (decide_eq_true ?_) (decide_eq_true ?_) (decide_eq_true ?_)
  · rw [p2]; omega
  · rw [p2]; omega
  · rw [p2, q2]; unfold apartI absI; omega
set_option maxRecDepth 100000 in
theorem lifted (os : Os) (started : os.Started) (H : Type) (enc : TypeId × Value → H) :
    ReturnsInHanded {} Try.checked os 3 .any (Rows.fixBetweenSpec.pre6 enc Try.prog Try.f3 Rows.fixBetweenRow.domain false) (Rows.fixBetweenSpec.post enc Try.prog Try.f3 false true false false) := by
  refine returnsInHanded_of_change (C := Try.checked) own started (by kernel_rfl) Try.func3
    (ChangeSpec.witness6 (enc := enc) (C := Try.checked) false ⟨#[], #[.int .i32 0, .int .i32 0, .int .i32 0, .int .i32 0], []⟩ 8 (by kernel_rfl) (by kernel_rfl) (by kernel_rfl) (by kernel_rfl)) ?_
  intro W base args ds gs before hval0 hW hcnd _
  have hval : ∀ (j : Nat) t v, Try.f3.params[j]? = some t → args[j]? = some v → Value.okWide Try.prog W .any base t v := hval0
  have hW' := hW
  obtain ⟨p, q, hA0, hV, rfl, hfz, hnd⟩ := hW
  have hA : DataW.TrodAll enc Try.prog W 0 (fun _ => true) true Try.f3.params.toList args.toList ds p := hA0
  rw [Try.params3] at hA hval
  obtain ⟨v0, vs0, d0, ds0, p0, q0, hargs, rfl, rfl, h0, r0⟩ := trodAll_cons hA
  obtain ⟨v1, vs1, d1, ds1, p1, q1, rfl, rfl, rfl, h1, r1⟩ := trodAll_cons r0
  obtain ⟨v2, vs2, d2, ds2, p2, q2, rfl, rfl, rfl, h2, r2⟩ := trodAll_cons r1
  obtain ⟨v3, vs3, d3, ds3, p3, q3, rfl, rfl, rfl, h3, r3⟩ := trodAll_cons r2
  obtain ⟨rfl, rfl, rfl⟩ := trodAll_nil r3
  obtain rfl : args = #[v0, v1, v2, v3] := by cases args; simp_all
  obtain ⟨rfl, rfl⟩ := trodVars_none hV
  have k0 := h0
  have lt0 : ∀ x ∈ p0, x.block < W.heap.size := by obtain ⟨m, hm⟩ := k0; exact DataW.trod_lt m _ _ _ hm
  have k1 := h1
  have lt1 : ∀ x ∈ p1, x.block < W.heap.size := by obtain ⟨m, hm⟩ := k1; exact DataW.trod_lt m _ _ _ hm
  have k2 := h2
  have lt2 : ∀ x ∈ p2, x.block < W.heap.size := by obtain ⟨m, hm⟩ := k2; exact DataW.trod_lt m _ _ _ hm
  have k3 := h3
  have lt3 : ∀ x ∈ p3, x.block < W.heap.size := by obtain ⟨m, hm⟩ := k3; exact DataW.trod_lt m _ _ _ hm
  obtain ⟨a0, rfl, rfl, rfl, w0⟩ := open_int Try.underlying21 (hval 0 21 v0 rfl rfl) h0
  obtain ⟨a1, rfl, rfl, rfl, w1⟩ := open_int Try.underlying21 (hval 1 21 v1 rfl rfl) h1
  obtain ⟨a2, rfl, rfl, rfl, w2⟩ := open_int Try.underlying21 (hval 2 21 v2 rfl rfl) h2
  obtain ⟨a3, rfl, rfl, rfl, w3⟩ := open_int Try.underlying21 (hval 3 21 v3 rfl rfl) h3
  clear hA0 hval0
  refine (law a0 a1 a2 a3 W (bounds_i32 w0) (bounds_i32 w1) (bounds_i32 w2) (bounds_i32 w3)).mono fun e W' ⟨he, bel⟩ => ?_
  subst he
  exact ⟨_, rfl, _, _, _, [], _, [], hW', trodAll_mk1 (shut_bool Try.underlying4 _), (trodAll_cons_mk (Below.trod laidOut (by kernel_rfl) (of_decide_eq_true (by kernel_rfl)) k0 bel lt0) (trodAll_cons_mk (Below.trod laidOut (by kernel_rfl) (of_decide_eq_true (by kernel_rfl)) k1 bel lt1) (trodAll_cons_mk (Below.trod laidOut (by kernel_rfl) (of_decide_eq_true (by kernel_rfl)) k2 bel lt2) (trodAll_cons_mk (Below.trod laidOut (by kernel_rfl) (of_decide_eq_true (by kernel_rfl)) k3 bel lt3) trodAll_mk0)))), rfl, bel.frame _, fun h => by cases h⟩
theorem over : Rows.fixBetweenRow.holds Try.pinned (OpenSpec.ofChange Rows.fixBetweenSpec) :=
  OpenClaim.holds_of_wide 3 Try.f3 rfl rfl rfl rfl rfl rfl rfl ⟨rfl, rfl, rfl, rfl, rfl⟩ rfl rfl rfl rfl rfl (by kernel_rfl) Try.func3 (by kernel_rfl)
    (of_decide_eq_true (by kernel_rfl)) (by unfold Func.isWrapper; first | (rw [if_pos (by decide +kernel)]; kernel_rfl) | (rw [if_neg (by decide +kernel)]; exact ⟨rfl, rfl⟩))
    (fun os started H enc _ => lifted os started H enc)
theorem proved : Rows.FixBetweenSaid := over
#print axioms proved

end Go.Proofs.Ytibbilncigmleaa.fixBetween
