/- What the functions of package sat compute. -/
import Derived.Test.YtglagndpholejaaOpen
import Derived.Test.YtglagndpholejaaNum
import Derived.WalkLawsBesides
namespace Go.Proofs.Ytglagndpholejaa
open Go.ChangeShapes Go.WideShapes Go.ChangeAt Go.RowKit
set_option linter.unusedVariables false

theorem apart_any (a b : Int) (ha : -2147483648 ≤ a ∧ a ≤ 2147483647) (hb : -2147483648 ≤ b ∧ b ≤ 2147483647) (w : World) :
    Calls Try.prog 13 #[.int .i32 a, .int .i32 b] w fun e w' => e = .returned (.int .i64 (apartI a b)) ∧ w = w' := by
  go_enter Try.func13, Try.ntmps13
  go_wp2
  all_goals
    go_ret
    refine ⟨ret_int ?_, rfl⟩
    unfold apartI absI
    omega

end Go.Proofs.Ytglagndpholejaa
