/- What the functions of package filt compute (but the median and the window). -/
import Derived.Test.YtibbilncigmleaaSat
namespace Go.Proofs.Ytibbilncigmleaa
open Go.ChangeShapes Go.WideShapes Go.ChangeAt Go.RowKit
set_option linter.unusedVariables false

def rateI (y x m : Int) : Int := clampI x (sat32 (y - sat32 (absI m))) (sat32 (y + sat32 (absI m)))
theorem rate_any (y x m : Int) (hy : -2147483648 ≤ y ∧ y ≤ 2147483647) (hx : -2147483648 ≤ x ∧ x ≤ 2147483647) (hm : -2147483648 ≤ m ∧ m ≤ 2147483647) (w : World) :
    Calls Try.prog 34 #[.int .i32 y, .int .i32 x, .int .i32 m] w fun e w' => e = .returned (.int .i32 (rateI y x m)) ∧ w = w' := by
  have hb := sat32_bd (absI m)
  go_enter Try.func34, Try.ntmps34
  go_wp2_with (first | (go_at_call 39; refine (abs_any _ (by omega) _).mono ?_; rintro e w' ⟨rfl, rfl⟩) | (go_at_call 41; refine (sub_any _ _ (by omega) (by omega) _).mono ?_; rintro e w' ⟨rfl, rfl⟩) | (go_at_call 25; refine (add_any _ _ (by omega) (by omega) _).mono ?_; rintro e w' ⟨rfl, rfl⟩) | (go_at_call 26; refine (clamp_any _ _ _ _).mono ?_; rintro e w' ⟨rfl, rfl⟩))
  go_ret
  exact ⟨ret_int rfl, rfl⟩

def deadI (x m : Int) : Int := if sat32 (absI m) < x then x - sat32 (absI m) else if x < -sat32 (absI m) then x + sat32 (absI m) else 0
theorem dead_any (x m : Int) (hx : -2147483648 ≤ x ∧ x ≤ 2147483647) (hm : -2147483648 ≤ m ∧ m ≤ 2147483647) (w : World) :
    Calls Try.prog 35 #[.int .i32 x, .int .i32 m] w fun e w' => e = .returned (.int .i32 (deadI x m)) ∧ w = w' := by
  have hb : 0 ≤ sat32 (absI m) ∧ sat32 (absI m) ≤ 2147483647 := by unfold absI sat32; omega
  go_enter Try.func35, Try.ntmps35
  go_wp2_with (go_at_call 39; refine (abs_any _ (by omega) _).mono ?_; rintro e w' ⟨rfl, rfl⟩)
  all_goals
    go_ret
    refine ⟨ret_int ?_, rfl⟩
    unfold deadI
    split <;> (try split) <;> omega

end Go.Proofs.Ytibbilncigmleaa
