/- What the functions of package even compute. -/
import Derived.Test.YtacelddnklnhpaaFilt
import Derived.Deep.DeepCutAuto
import Derived.Lib.Hide
import Derived.LoopN
import Derived.WalkLawsBesides
import Derived.BigQuiet
import Derived.Deep.QuietTactic
import Derived.StillTailTactics
namespace Go.Proofs.Ytacelddnklnhpaa
open Go.ChangeShapes Go.WideShapes Go.ChangeAt Go.RowKit
set_option linter.unusedVariables false

def evenOk (o0 o1 o2 o3 m0 m1 m2 m3 bits most : Int) : Prop := 0 ≤ bits ∧ bits ≤ 30 ∧ 0 ≤ most ∧ (0 ≤ m0 ∧ m0 ≤ 3 ∧ -most ≤ o0 ∧ o0 ≤ most) ∧ (0 ≤ m1 ∧ m1 ≤ 3 ∧ -most ≤ o1 ∧ o1 ≤ most) ∧ (0 ≤ m2 ∧ m2 ≤ 3 ∧ -most ≤ o2 ∧ o2 ≤ most) ∧ (0 ≤ m3 ∧ m3 ≤ 3 ∧ -most ≤ o3 ∧ o3 ≤ most)
set_option maxHeartbeats 2000000 in
set_option maxRecDepth 100000 in
theorem evenCheck_yes (o0 o1 o2 o3 m0 m1 m2 m3 bits most : Int) (w : World) (ho0 : -2147483648 ≤ o0 ∧ o0 ≤ 2147483647) (ho1 : -2147483648 ≤ o1 ∧ o1 ≤ 2147483647) (ho2 : -2147483648 ≤ o2 ∧ o2 ≤ 2147483647) (ho3 : -2147483648 ≤ o3 ∧ o3 ≤ 2147483647) (hmost : -2147483648 ≤ most ∧ most ≤ 2147483647) (h : evenOk o0 o1 o2 o3 m0 m1 m2 m3 bits most) :
    Calls Try.prog 28 #[.agg #[.int .i32 o0, .int .i32 o1, .int .i32 o2, .int .i32 o3], .agg #[.int .i64 m0, .int .i64 m1, .int .i64 m2, .int .i64 m3], .int .i64 bits, .int .i32 most] w fun e w' => e = .returned (.int .i64 0) ∧ Below w.heap.size w w' := by
  have ix0 : ∀ w : World, (Instr.index 52 (.agg #[.int .i64 m0, .int .i64 m1, .int .i64 m2, .int .i64 m3]) (.int .i64 0)).run Try.prog w = .ok (.int .i64 m0) w := fun _ => by kernel_rfl
  have ix1 : ∀ w : World, (Instr.index 52 (.agg #[.int .i64 m0, .int .i64 m1, .int .i64 m2, .int .i64 m3]) (.int .i64 1)).run Try.prog w = .ok (.int .i64 m1) w := fun _ => by kernel_rfl
  have ix2 : ∀ w : World, (Instr.index 52 (.agg #[.int .i64 m0, .int .i64 m1, .int .i64 m2, .int .i64 m3]) (.int .i64 2)).run Try.prog w = .ok (.int .i64 m2) w := fun _ => by kernel_rfl
  have ix3 : ∀ w : World, (Instr.index 52 (.agg #[.int .i64 m0, .int .i64 m1, .int .i64 m2, .int .i64 m3]) (.int .i64 3)).run Try.prog w = .ok (.int .i64 m3) w := fun _ => by kernel_rfl
  obtain ⟨d0, d1, d2, d3, d4, d5, d6, d7, d8, d9, d10, d11, d12, d13, d14, d15, d16, d17, d18⟩ : decide (bits < 0) = false ∧ decide (30 < bits) = false ∧ decide (most < 0) = false ∧ decide (m0 < 0) = false ∧ decide (3 < m0) = false ∧ decide (o0 < -most) = false ∧ decide (most < o0) = false ∧ decide (m1 < 0) = false ∧ decide (3 < m1) = false ∧ decide (o1 < -most) = false ∧ decide (most < o1) = false ∧ decide (m2 < 0) = false ∧ decide (3 < m2) = false ∧ decide (o2 < -most) = false ∧ decide (most < o2) = false ∧ decide (m3 < 0) = false ∧ decide (3 < m3) = false ∧ decide (o3 < -most) = false ∧ decide (most < o3) = false := by
    simp only [decide_eq_false_iff_not]; unfold evenOk at h; omega
  have hm : 0 ≤ most := h.2.2.1
  clear h
  go_enter Try.func28, Try.ntmps28
  go_wp2
  refine wp_loop_rounds 5 ?_
  rw [rounds_succ]; go_wp2
  rw [rounds_succ]; go_wp2
  rw [rounds_succ]; go_wp2
  rw [rounds_succ]; go_wp2
  rw [rounds_succ]; go_wp2
  go_ret
  refine ⟨rfl, ?_⟩
  repeat (first | exact Below.refl _ _ | refine Below.setCell ?_ (by first | (simp; done) | omega | (simp; omega)) _ | refine below_drewN ?_ _ | refine Below.drew ?_ | refine Below.alloc ?_ (by first | (simp; done) | omega | (simp; omega)) _)
set_option maxHeartbeats 4000000 in
set_option maxRecDepth 100000 in
theorem evenCheck_no (o0 o1 o2 o3 m0 m1 m2 m3 bits most : Int) (w : World) (ho0 : -2147483648 ≤ o0 ∧ o0 ≤ 2147483647) (ho1 : -2147483648 ≤ o1 ∧ o1 ≤ 2147483647) (ho2 : -2147483648 ≤ o2 ∧ o2 ≤ 2147483647) (ho3 : -2147483648 ≤ o3 ∧ o3 ≤ 2147483647) (hmost : -2147483648 ≤ most ∧ most ≤ 2147483647) (h : ¬ evenOk o0 o1 o2 o3 m0 m1 m2 m3 bits most) :
    Calls Try.prog 28 #[.agg #[.int .i32 o0, .int .i32 o1, .int .i32 o2, .int .i32 o3], .agg #[.int .i64 m0, .int .i64 m1, .int .i64 m2, .int .i64 m3], .int .i64 bits, .int .i32 most] w fun e w' => e = .returned (.int .i64 1) ∧ Below w.heap.size w w' := by
  have ix0 : ∀ w : World, (Instr.index 52 (.agg #[.int .i64 m0, .int .i64 m1, .int .i64 m2, .int .i64 m3]) (.int .i64 0)).run Try.prog w = .ok (.int .i64 m0) w := fun _ => by kernel_rfl
  have ix1 : ∀ w : World, (Instr.index 52 (.agg #[.int .i64 m0, .int .i64 m1, .int .i64 m2, .int .i64 m3]) (.int .i64 1)).run Try.prog w = .ok (.int .i64 m1) w := fun _ => by kernel_rfl
  have ix2 : ∀ w : World, (Instr.index 52 (.agg #[.int .i64 m0, .int .i64 m1, .int .i64 m2, .int .i64 m3]) (.int .i64 2)).run Try.prog w = .ok (.int .i64 m2) w := fun _ => by kernel_rfl
  have ix3 : ∀ w : World, (Instr.index 52 (.agg #[.int .i64 m0, .int .i64 m1, .int .i64 m2, .int .i64 m3]) (.int .i64 3)).run Try.prog w = .ok (.int .i64 m3) w := fun _ => by kernel_rfl
  have H := Lib.hid h
  clear h
  by_cases hg : bits < 0 ∨ 30 < bits ∨ most < 0
  · clear H
    have hsome : (decide (bits < 0) = true) ∨ (decide (bits < 0) = false ∧ decide (30 < bits) = true) ∨ (decide (bits < 0) = false ∧ decide (30 < bits) = false ∧ decide (most < 0) = true) := by
      simp only [decide_eq_false_iff_not, decide_eq_true_eq]; omega
    clear hg
    rcases hsome with d0 | ⟨d0, d1⟩ | ⟨d0, d1, d2⟩
    all_goals
      go_enter Try.func28, Try.ntmps28
      go_wp2
      go_ret
      refine ⟨rfl, ?_⟩
      repeat (first | exact Below.refl _ _ | refine Below.setCell ?_ (by first | (simp; done) | omega | (simp; omega)) _ | refine below_drewN ?_ _ | refine Below.drew ?_ | refine Below.alloc ?_ (by first | (simp; done) | omega | (simp; omega)) _)
  · obtain ⟨d0, d1, d2⟩ : decide (bits < 0) = false ∧ decide (30 < bits) = false ∧ decide (most < 0) = false := by simp only [decide_eq_false_iff_not]; omega
    have hb0 : 0 ≤ bits ∧ bits ≤ 30 ∧ 0 ≤ most := by omega
    clear hg
    have K : ∀ m o : Int, decide (m < 0) = true ∨ (decide (m < 0) = false ∧ decide (3 < m) = true) ∨ (decide (m < 0) = false ∧ decide (3 < m) = false ∧ decide (o < -most) = true) ∨ (decide (m < 0) = false ∧ decide (3 < m) = false ∧ decide (o < -most) = false ∧ decide (most < o) = true) ∨
        (decide (m < 0) = false ∧ decide (3 < m) = false ∧ decide (o < -most) = false ∧ decide (most < o) = false) := by
      intro m o; simp only [decide_eq_false_iff_not, decide_eq_true_eq]; omega
    have HK := Lib.hid K
    have k0 := K m0 o0; have k1 := K m1 o1; have k2 := K m2 o2; have k3 := K m3 o3
    have K0 := Lib.hid k0; have K1 := Lib.hid k1; have K2 := Lib.hid k2; have K3 := Lib.hid k3
    clear K k0 k1 k2 k3 HK
    go_enter Try.func28, Try.ntmps28
    go_wp2
    go_loop [22] (fun i => ∃ k : Nat, k ≤ 4 ∧ i = .int .i64 k ∧ Hid ((0 < k → 0 ≤ m0 ∧ m0 ≤ 3 ∧ -most ≤ o0 ∧ o0 ≤ most) ∧ (1 < k → 0 ≤ m1 ∧ m1 ≤ 3 ∧ -most ≤ o1 ∧ o1 ≤ most) ∧ (2 < k → 0 ≤ m2 ∧ m2 ≤ 3 ∧ -most ≤ o2 ∧ o2 ≤ most) ∧ (3 < k → 0 ≤ m3 ∧ m3 ≤ 3 ∧ -most ≤ o3 ∧ o3 ≤ most))) (fun i => 4 - (intOf i).toNat)
    case atStart => exact ⟨0, by omega, rfl, by unfold Hid; omega⟩
    case round =>
      obtain ⟨k, hk, rfl, hr⟩ := hrel
      rcases (by omega : k = 0 ∨ k = 1 ∨ k = 2 ∨ k = 3 ∨ k = 4) with rfl | rfl | rfl | rfl | rfl
      · rcases K0.out with g | ⟨g, g'⟩ | ⟨g, g', g''⟩ | ⟨g, g', g'', g3⟩ | ⟨g, g', g'', g3⟩
        · go_wp2
          go_ret
          refine ⟨rfl, ?_⟩
          repeat (first | exact Below.refl _ _ | refine Below.setCell ?_ (by first | (simp; done) | omega | (simp; omega)) _ | refine below_drewN ?_ _ | refine Below.drew ?_ | refine Below.alloc ?_ (by first | (simp; done) | omega | (simp; omega)) _)
        · go_wp2
          go_ret
          refine ⟨rfl, ?_⟩
          repeat (first | exact Below.refl _ _ | refine Below.setCell ?_ (by first | (simp; done) | omega | (simp; omega)) _ | refine below_drewN ?_ _ | refine Below.drew ?_ | refine Below.alloc ?_ (by first | (simp; done) | omega | (simp; omega)) _)
        · go_wp2
          go_ret
          refine ⟨rfl, ?_⟩
          repeat (first | exact Below.refl _ _ | refine Below.setCell ?_ (by first | (simp; done) | omega | (simp; omega)) _ | refine below_drewN ?_ _ | refine Below.drew ?_ | refine Below.alloc ?_ (by first | (simp; done) | omega | (simp; omega)) _)
        · go_wp2
          go_ret
          refine ⟨rfl, ?_⟩
          repeat (first | exact Below.refl _ _ | refine Below.setCell ?_ (by first | (simp; done) | omega | (simp; omega)) _ | refine below_drewN ?_ _ | refine Below.drew ?_ | refine Below.alloc ?_ (by first | (simp; done) | omega | (simp; omega)) _)
        · go_wp2
          go_round
          case rel => exact ⟨1, by omega, rfl, by have := hr.out; simp only [decide_eq_false_iff_not] at g g' g'' g3; unfold Hid; omega⟩
          case measure => simp [intOf]
      · rcases K1.out with g | ⟨g, g'⟩ | ⟨g, g', g''⟩ | ⟨g, g', g'', g3⟩ | ⟨g, g', g'', g3⟩
        · go_wp2
          go_ret
          refine ⟨rfl, ?_⟩
          repeat (first | exact Below.refl _ _ | refine Below.setCell ?_ (by first | (simp; done) | omega | (simp; omega)) _ | refine below_drewN ?_ _ | refine Below.drew ?_ | refine Below.alloc ?_ (by first | (simp; done) | omega | (simp; omega)) _)
        · go_wp2
          go_ret
          refine ⟨rfl, ?_⟩
          repeat (first | exact Below.refl _ _ | refine Below.setCell ?_ (by first | (simp; done) | omega | (simp; omega)) _ | refine below_drewN ?_ _ | refine Below.drew ?_ | refine Below.alloc ?_ (by first | (simp; done) | omega | (simp; omega)) _)
        · go_wp2
          go_ret
          refine ⟨rfl, ?_⟩
          repeat (first | exact Below.refl _ _ | refine Below.setCell ?_ (by first | (simp; done) | omega | (simp; omega)) _ | refine below_drewN ?_ _ | refine Below.drew ?_ | refine Below.alloc ?_ (by first | (simp; done) | omega | (simp; omega)) _)
        · go_wp2
          go_ret
          refine ⟨rfl, ?_⟩
          repeat (first | exact Below.refl _ _ | refine Below.setCell ?_ (by first | (simp; done) | omega | (simp; omega)) _ | refine below_drewN ?_ _ | refine Below.drew ?_ | refine Below.alloc ?_ (by first | (simp; done) | omega | (simp; omega)) _)
        · go_wp2
          go_round
          case rel => exact ⟨2, by omega, rfl, by have := hr.out; simp only [decide_eq_false_iff_not] at g g' g'' g3; unfold Hid; omega⟩
          case measure => simp [intOf]
      · rcases K2.out with g | ⟨g, g'⟩ | ⟨g, g', g''⟩ | ⟨g, g', g'', g3⟩ | ⟨g, g', g'', g3⟩
        · go_wp2
          go_ret
          refine ⟨rfl, ?_⟩
          repeat (first | exact Below.refl _ _ | refine Below.setCell ?_ (by first | (simp; done) | omega | (simp; omega)) _ | refine below_drewN ?_ _ | refine Below.drew ?_ | refine Below.alloc ?_ (by first | (simp; done) | omega | (simp; omega)) _)
        · go_wp2
          go_ret
          refine ⟨rfl, ?_⟩
          repeat (first | exact Below.refl _ _ | refine Below.setCell ?_ (by first | (simp; done) | omega | (simp; omega)) _ | refine below_drewN ?_ _ | refine Below.drew ?_ | refine Below.alloc ?_ (by first | (simp; done) | omega | (simp; omega)) _)
        · go_wp2
          go_ret
          refine ⟨rfl, ?_⟩
          repeat (first | exact Below.refl _ _ | refine Below.setCell ?_ (by first | (simp; done) | omega | (simp; omega)) _ | refine below_drewN ?_ _ | refine Below.drew ?_ | refine Below.alloc ?_ (by first | (simp; done) | omega | (simp; omega)) _)
        · go_wp2
          go_ret
          refine ⟨rfl, ?_⟩
          repeat (first | exact Below.refl _ _ | refine Below.setCell ?_ (by first | (simp; done) | omega | (simp; omega)) _ | refine below_drewN ?_ _ | refine Below.drew ?_ | refine Below.alloc ?_ (by first | (simp; done) | omega | (simp; omega)) _)
        · go_wp2
          go_round
          case rel => exact ⟨3, by omega, rfl, by have := hr.out; simp only [decide_eq_false_iff_not] at g g' g'' g3; unfold Hid; omega⟩
          case measure => simp [intOf]
      · rcases K3.out with g | ⟨g, g'⟩ | ⟨g, g', g''⟩ | ⟨g, g', g'', g3⟩ | ⟨g, g', g'', g3⟩
        · go_wp2
          go_ret
          refine ⟨rfl, ?_⟩
          repeat (first | exact Below.refl _ _ | refine Below.setCell ?_ (by first | (simp; done) | omega | (simp; omega)) _ | refine below_drewN ?_ _ | refine Below.drew ?_ | refine Below.alloc ?_ (by first | (simp; done) | omega | (simp; omega)) _)
        · go_wp2
          go_ret
          refine ⟨rfl, ?_⟩
          repeat (first | exact Below.refl _ _ | refine Below.setCell ?_ (by first | (simp; done) | omega | (simp; omega)) _ | refine below_drewN ?_ _ | refine Below.drew ?_ | refine Below.alloc ?_ (by first | (simp; done) | omega | (simp; omega)) _)
        · go_wp2
          go_ret
          refine ⟨rfl, ?_⟩
          repeat (first | exact Below.refl _ _ | refine Below.setCell ?_ (by first | (simp; done) | omega | (simp; omega)) _ | refine below_drewN ?_ _ | refine Below.drew ?_ | refine Below.alloc ?_ (by first | (simp; done) | omega | (simp; omega)) _)
        · go_wp2
          go_ret
          refine ⟨rfl, ?_⟩
          repeat (first | exact Below.refl _ _ | refine Below.setCell ?_ (by first | (simp; done) | omega | (simp; omega)) _ | refine below_drewN ?_ _ | refine Below.drew ?_ | refine Below.alloc ?_ (by first | (simp; done) | omega | (simp; omega)) _)
        · go_wp2
          go_round
          case rel => exact ⟨4, by omega, rfl, by have := hr.out; simp only [decide_eq_false_iff_not] at g g' g'' g3; unfold Hid; omega⟩
          case measure => simp [intOf]
      · exact absurd (by have := hr.out; unfold evenOk; omega) H.out

end Go.Proofs.Ytacelddnklnhpaa
