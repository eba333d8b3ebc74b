/- What the functions of package sat compute. -/
import Derived.Test.YtijoalaijkobpaaOpen
import Derived.Test.YtijoalaijkobpaaNum
import Derived.WalkLawsBesides
namespace Go.Proofs.Ytijoalaijkobpaa
open Go.ChangeShapes Go.WideShapes Go.ChangeAt Go.RowKit
set_option linter.unusedVariables false

theorem to32_any (n : Int) (w : World) :
    Calls Try.prog 42 #[.int .i64 n] w fun e w' => e = .returned (.int .i32 (sat32 n)) ∧ w = w' := by
  go_enter Try.func42, Try.ntmps42
  go_wp2
  all_goals
    go_ret
    refine ⟨ret_int ?_, rfl⟩
    unfold sat32
    omega

theorem neg_any (a : Int) (ha : -2147483648 ≤ a ∧ a ≤ 2147483647) (w : World) :
    Calls Try.prog 38 #[.int .i32 a] w fun e w' => e = .returned (.int .i32 (sat32 (-a))) ∧ w = w' := by
  go_enter Try.func38, Try.ntmps38
  go_wp2_with (go_at_call 42; refine (to32_any _ _).mono ?_; rintro e w' ⟨rfl, rfl⟩)
  go_ret
  exact ⟨ret_int rfl, rfl⟩

theorem abs_any (a : Int) (ha : -2147483648 ≤ a ∧ a ≤ 2147483647) (w : World) :
    Calls Try.prog 29 #[.int .i32 a] w fun e w' => e = .returned (.int .i32 (sat32 (absI a))) ∧ w = w' := by
  go_enter Try.func29, Try.ntmps29
  go_wp2_with (go_at_call 38; refine (neg_any _ (by omega) _).mono ?_; rintro e w' ⟨rfl, rfl⟩)
  all_goals
    go_ret
    refine ⟨ret_int ?_, rfl⟩
    unfold absI sat32
    omega

theorem apart_any (a b : Int) (ha : -2147483648 ≤ a ∧ a ≤ 2147483647) (hb : -2147483648 ≤ b ∧ b ≤ 2147483647) (w : World) :
    Calls Try.prog 23 #[.int .i32 a, .int .i32 b] w fun e w' => e = .returned (.int .i64 (apartI a b)) ∧ w = w' := by
  go_enter Try.func23, Try.ntmps23
  go_wp2
  all_goals
    go_ret
    refine ⟨ret_int ?_, rfl⟩
    unfold apartI absI
    omega

theorem rest_any (a n : Int) (hn : n ≤ 4611686018427387904) (w : World) :
    Calls Try.prog 12 #[.int .i64 a, .int .i64 n] w fun e w' => e = .returned (.int .i64 (restI a n)) ∧ w = w' := by
  by_cases h : n ≤ 0
  · go_enter Try.func12, Try.ntmps12
    go_wp2
    go_ret
    refine ⟨ret_int ?_, rfl⟩
    unfold restI; rw [if_pos h]
  · have hb := tmod_bd a n (by omega)
    go_enter Try.func12, Try.ntmps12
    go_wp2
    go_ret
    refine ⟨ret_int ?_, rfl⟩
    unfold restI; rw [if_neg (by omega)]
    rw [Int.tmod_eq_emod_of_nonneg (a := a.tmod n + n) (by omega), Int.add_emod_right]

end Go.Proofs.Ytijoalaijkobpaa
