/- What the functions of package sat compute. -/
import Derived.Test.YtolihlnlblaihaaOpen
import Derived.Test.YtolihlnlblaihaaNum
import Derived.WalkLawsBesides
namespace Go.Proofs.Ytolihlnlblaihaa
open Go.ChangeShapes Go.WideShapes Go.ChangeAt Go.RowKit
set_option linter.unusedVariables false

theorem apart_any (a b : Int) (ha : -2147483648 ≤ a ∧ a ≤ 2147483647) (hb : -2147483648 ≤ b ∧ b ≤ 2147483647) (w : World) :
    Calls Try.prog 24 #[.int .i32 a, .int .i32 b] w fun e w' => e = .returned (.int .i64 (apartI a b)) ∧ w = w' := by
  go_enter Try.func24, Try.ntmps24
  go_wp2
  all_goals
    go_ret
    refine ⟨ret_int ?_, rfl⟩
    unfold apartI absI
    omega

theorem rest_any (a n : Int) (hn : n ≤ 4611686018427387904) (w : World) :
    Calls Try.prog 14 #[.int .i64 a, .int .i64 n] w fun e w' => e = .returned (.int .i64 (restI a n)) ∧ w = w' := by
  by_cases h : n ≤ 0
  · go_enter Try.func14, Try.ntmps14
    go_wp2
    go_ret
    refine ⟨ret_int ?_, rfl⟩
    unfold restI; rw [if_pos h]
  · have hb := tmod_bd a n (by omega)
    go_enter Try.func14, Try.ntmps14
    go_wp2
    go_ret
    refine ⟨ret_int ?_, rfl⟩
    unfold restI; rw [if_neg (by omega)]
    rw [Int.tmod_eq_emod_of_nonneg (a := a.tmod n + n) (by omega), Int.add_emod_right]

end Go.Proofs.Ytolihlnlblaihaa
