/- What the functions of package fix compute. -/
import Derived.Test.YtibbilncigmleaaSat
namespace Go.Proofs.Ytibbilncigmleaa
open Go.ChangeShapes Go.WideShapes Go.ChangeAt Go.RowKit
set_option linter.unusedVariables false

theorem near_any (n : Int) (h : -9223372036854775808 ≤ n ∧ n ≤ 9223372036854000000) (w : World) :
    Calls Try.prog 37 #[.int .i64 n, .int .i64 16] w fun e w' => e = .returned (.int .i64 (nearI n)) ∧ w = w' := by
  go_enter Try.func37, Try.ntmps37
  go_wp2
  go_ret
  exact ⟨ret_int rfl, rfl⟩

theorem mul_any (a b : Int) (ha : -2147483648 ≤ a ∧ a ≤ 2147483647) (hb : -2147483648 ≤ b ∧ b ≤ 2147483647) (w : World) :
    Calls Try.prog 32 #[.int .i32 a, .int .i32 b] w fun e w' => e = .returned (.int .i32 (mulI a b)) ∧ w = w' := by
  have hm := mul_bd a b ha hb
  go_enter Try.func32, Try.ntmps32
  go_wp2_with (first | (go_at_call 37; refine (near_any _ (by omega) _).mono ?_; rintro e w' ⟨rfl, rfl⟩) | (go_at_call 22; refine (to32_any _ _).mono ?_; rintro e w' ⟨rfl, rfl⟩))
  go_ret
  exact ⟨ret_int rfl, rfl⟩

theorem div_any (a b : Int) (ha : -2147483648 ≤ a ∧ a ≤ 2147483647) (hb : -2147483648 ≤ b ∧ b ≤ 2147483647) (w : World) :
    Calls Try.prog 40 #[.int .i32 a, .int .i32 b] w fun e w' => e = .returned (.int .i32 (divI a b)) ∧ w = w' := by
  by_cases h : b = 0
  · subst h
    have e : divI a 0 = if 0 < a then 2147483647 else if a < 0 then -2147483648 else 0 := by unfold divI; simp
    rw [e]
    go_enter Try.func40, Try.ntmps40
    go_wp2
    all_goals
      go_ret
      refine ⟨ret_int ?_, rfl⟩
      omega
  · have e : divI a b = sat32 ((a * 65536).tdiv b) := by unfold divI; rw [if_pos h]
    rw [e]
    have hq := tdiv_bd (a * 65536) b
    have h2 : absI (a * 65536) ≤ 140737488355328 := by unfold absI; omega
    have h3 : (b == 0) = false := by simpa using h
    have h4 : (b != 0) = true := by simpa using h
    go_enter Try.func40, Try.ntmps40
    go_wp2_with (go_at_call 22; refine (to32_any _ _).mono ?_; rintro e w' ⟨rfl, rfl⟩)
    all_goals
      go_ret
      exact ⟨ret_int rfl, rfl⟩

def betweenI (a b t : Int) : Int := sat32 (a + nearI ((b - a) * clampI t 0 65536))
theorem betweenI_bd (a b t : Int) : -2147483648 ≤ betweenI a b t ∧ betweenI a b t ≤ 2147483647 := sat32_bd _
theorem between_any (a b t : Int) (ha : -2147483648 ≤ a ∧ a ≤ 2147483647) (hb : -2147483648 ≤ b ∧ b ≤ 2147483647) (w : World) :
    Calls Try.prog 15 #[.int .i32 a, .int .i32 b, .int .i32 t] w fun e w' => e = .returned (.int .i32 (betweenI a b t)) ∧ w = w' := by
  have hc : 0 ≤ clampI t 0 65536 ∧ clampI t 0 65536 ≤ 65536 := by unfold clampI; omega
  have hm : -281474976710656 ≤ (b - a) * clampI t 0 65536 ∧ (b - a) * clampI t 0 65536 ≤ 281474976710656 := by
    have h1 : ((b - a) * clampI t 0 65536).natAbs ≤ 4294967295 * 65536 := by
      rw [Int.natAbs_mul]; exact Nat.mul_le_mul (by omega) (by omega)
    omega
  have hn : -4294967297 ≤ nearI ((b - a) * clampI t 0 65536) ∧ nearI ((b - a) * clampI t 0 65536) ≤ 4294967297 := by unfold nearI; omega
  go_enter Try.func15, Try.ntmps15
  go_wp2_with (first | (go_at_call 26; refine (clamp_any _ _ _ _).mono ?_; rintro e w' ⟨rfl, rfl⟩) | (go_at_call 37; refine (near_any _ (by omega) _).mono ?_; rintro e w' ⟨rfl, rfl⟩) | (go_at_call 22; refine (to32_any _ _).mono ?_; rintro e w' ⟨rfl, rfl⟩))
  go_ret
  exact ⟨ret_int rfl, rfl⟩

end Go.Proofs.Ytibbilncigmleaa
