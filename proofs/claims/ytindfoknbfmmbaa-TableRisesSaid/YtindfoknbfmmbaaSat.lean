/- What the functions of package sat compute. -/
import Derived.Test.YtindfoknbfmmbaaOpen
import Derived.Test.YtindfoknbfmmbaaNum
import Derived.WalkLawsBesides
namespace Go.Proofs.Ytindfoknbfmmbaa
open Go.ChangeShapes Go.WideShapes Go.ChangeAt Go.RowKit
set_option linter.unusedVariables false

theorem clamp_any (a b c : Int) (w : World) :
    Calls Try.prog 17 #[.int .i32 a, .int .i32 b, .int .i32 c] w fun e w' => e = .returned (.int .i32 (clampI a b c)) ∧ w = w' := by
  go_enter Try.func17, Try.ntmps17
  go_wp2
  all_goals
    go_ret
    refine ⟨ret_int ?_, rfl⟩
    unfold clampI
    omega

theorem apart_any (a b : Int) (ha : -2147483648 ≤ a ∧ a ≤ 2147483647) (hb : -2147483648 ≤ b ∧ b ≤ 2147483647) (w : World) :
    Calls Try.prog 20 #[.int .i32 a, .int .i32 b] w fun e w' => e = .returned (.int .i64 (apartI a b)) ∧ w = w' := by
  go_enter Try.func20, Try.ntmps20
  go_wp2
  all_goals
    go_ret
    refine ⟨ret_int ?_, rfl⟩
    unfold apartI absI
    omega

end Go.Proofs.Ytindfoknbfmmbaa
