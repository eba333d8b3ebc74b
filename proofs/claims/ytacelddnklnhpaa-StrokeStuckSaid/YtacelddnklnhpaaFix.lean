/- What the functions of package fix compute. -/
import Derived.Test.YtacelddnklnhpaaSat
namespace Go.Proofs.Ytacelddnklnhpaa
open Go.ChangeShapes Go.WideShapes Go.ChangeAt Go.RowKit
set_option linter.unusedVariables false

theorem near_any (n : Int) (h : -9223372036854775808 ≤ n ∧ n ≤ 9223372036854000000) (w : World) :
    Calls Try.prog 61 #[.int .i64 n, .int .i64 16] w fun e w' => e = .returned (.int .i64 (nearI n)) ∧ w = w' := by
  go_enter Try.func61, Try.ntmps61
  go_wp2
  go_ret
  exact ⟨ret_int rfl, rfl⟩

theorem mul_any (a b : Int) (ha : -2147483648 ≤ a ∧ a ≤ 2147483647) (hb : -2147483648 ≤ b ∧ b ≤ 2147483647) (w : World) :
    Calls Try.prog 48 #[.int .i32 a, .int .i32 b] w fun e w' => e = .returned (.int .i32 (mulI a b)) ∧ w = w' := by
  have hm := mul_bd a b ha hb
  go_enter Try.func48, Try.ntmps48
  go_wp2_with (first | (go_at_call 61; refine (near_any _ (by omega) _).mono ?_; rintro e w' ⟨rfl, rfl⟩) | (go_at_call 43; refine (to32_any _ _).mono ?_; rintro e w' ⟨rfl, rfl⟩))
  go_ret
  exact ⟨ret_int rfl, rfl⟩

end Go.Proofs.Ytacelddnklnhpaa
