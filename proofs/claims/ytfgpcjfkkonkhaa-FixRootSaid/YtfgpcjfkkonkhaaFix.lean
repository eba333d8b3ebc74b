/- What the functions of package fix compute. -/
import Derived.Test.YtfgpcjfkkonkhaaSat
namespace Go.Proofs.Ytfgpcjfkkonkhaa
open Go.ChangeShapes Go.WideShapes Go.ChangeAt Go.RowKit
set_option linter.unusedVariables false

theorem near_any (n : Int) (h : -9223372036854775808 ≤ n ∧ n ≤ 9223372036854000000) (w : World) :
    Calls Try.prog 34 #[.int .i64 n, .int .i64 16] w fun e w' => e = .returned (.int .i64 (nearI n)) ∧ w = w' := by
  go_enter Try.func34, Try.ntmps34
  go_wp2
  go_ret
  exact ⟨ret_int rfl, rfl⟩

theorem mul_any (a b : Int) (ha : -2147483648 ≤ a ∧ a ≤ 2147483647) (hb : -2147483648 ≤ b ∧ b ≤ 2147483647) (w : World) :
    Calls Try.prog 19 #[.int .i32 a, .int .i32 b] w fun e w' => e = .returned (.int .i32 (mulI a b)) ∧ w = w' := by
  have hm := mul_bd a b ha hb
  go_enter Try.func19, Try.ntmps19
  go_wp2_with (first | (go_at_call 34; refine (near_any _ (by omega) _).mono ?_; rintro e w' ⟨rfl, rfl⟩) | (go_at_call 33; refine (to32_any _ _).mono ?_; rintro e w' ⟨rfl, rfl⟩))
  go_ret
  exact ⟨ret_int rfl, rfl⟩

theorem div_any (a b : Int) (ha : -2147483648 ≤ a ∧ a ≤ 2147483647) (hb : -2147483648 ≤ b ∧ b ≤ 2147483647) (w : World) :
    Calls Try.prog 32 #[.int .i32 a, .int .i32 b] w fun e w' => e = .returned (.int .i32 (divI a b)) ∧ w = w' := by
  by_cases h : b = 0
  · subst h
    have e : divI a 0 = if 0 < a then 2147483647 else if a < 0 then -2147483648 else 0 := by unfold divI; simp
    rw [e]
    go_enter Try.func32, Try.ntmps32
    go_wp2
    all_goals
      go_ret
      refine ⟨ret_int ?_, rfl⟩
      omega
  · have e : divI a b = sat32 ((a * 65536).tdiv b) := by unfold divI; rw [if_pos h]
    rw [e]
    have hq := tdiv_bd (a * 65536) b
    have h2 : absI (a * 65536) ≤ 140737488355328 := by unfold absI; omega
    have h3 : (b == 0) = false := by simpa using h
    have h4 : (b != 0) = true := by simpa using h
    go_enter Try.func32, Try.ntmps32
    go_wp2_with (go_at_call 33; refine (to32_any _ _).mono ?_; rintro e w' ⟨rfl, rfl⟩)
    all_goals
      go_ret
      exact ⟨ret_int rfl, rfl⟩

/-- rounded to a whole number, halves to even ones -/
def roundI (a : Int) : Int := if 32768 < a % 65536 ∨ a % 65536 = 32768 ∧ a / 65536 % 2 = 1 then a / 65536 + 1 else a / 65536
theorem and_low (a : Int) (ha : -2147483648 ≤ a ∧ a ≤ 2147483647) : bits BinOp.and IntKind.i32 a 65535 = a % 65536 := by
  have h : (BitVec.ofInt 32 a &&& BitVec.ofInt 32 65535).toNat = (a % 4294967296).toNat % 65536 := by
    rw [BitVec.toNat_and, BitVec.toNat_ofInt]; exact nat_mask16 _
  show IntKind.i32.wrap ((BitVec.ofInt 32 a &&& BitVec.ofInt 32 65535).toNat : Int) = _
  rw [h, IntKind.wrap_i32]; omega
theorem and_one (a : Int) (ha : -2147483648 ≤ a ∧ a ≤ 2147483647) : bits BinOp.and IntKind.i32 a 1 = a % 2 := by
  have h : (BitVec.ofInt 32 a &&& BitVec.ofInt 32 1).toNat = (a % 4294967296).toNat % 2 := by
    rw [BitVec.toNat_and, BitVec.toNat_ofInt]; exact nat_mask1 _
  show IntKind.i32.wrap ((BitVec.ofInt 32 a &&& BitVec.ofInt 32 1).toNat : Int) = _
  rw [h, IntKind.wrap_i32]; omega
theorem round_any (a : Int) (ha : -2147483648 ≤ a ∧ a ≤ 2147483647) (w : World) :
    Calls Try.prog 21 #[.int .i32 a] w fun e w' => e = .returned (.int .i64 (roundI a)) ∧ w = w' := by
  have h1 := and_low a ha
  have h2 := and_one (a / 65536) (by omega)
  by_cases c : a / 65536 % 2 = 1
  · have h3 : (a / 65536 % 2 == 1) = true := by simp [c]
    have h4 : roundI a = if 32768 ≤ a % 65536 then a / 65536 + 1 else a / 65536 := by unfold roundI; split <;> split <;> omega
    rw [h4]
    clear c h4
    go_enter Try.func21, Try.ntmps21
    go_wp2
    all_goals
      go_ret
      exact ⟨ret_int rfl, rfl⟩
  · have h3 : (a / 65536 % 2 == 1) = false := by simp [c]
    have h4 : roundI a = if 32768 < a % 65536 then a / 65536 + 1 else a / 65536 := by unfold roundI; split <;> split <;> omega
    rw [h4]
    clear c h4
    go_enter Try.func21, Try.ntmps21
    go_wp2
    all_goals
      go_ret
      exact ⟨ret_int rfl, rfl⟩

def ofI (n : Int) : Int := sat32 (max (-1048576) (min n 1048576) * 65536)
theorem of_any (n : Int) (w : World) :
    Calls Try.prog 22 #[.int .i64 n] w fun e w' => e = .returned (.int .i32 (ofI n)) ∧ w = w' := by
  go_enter Try.func22, Try.ntmps22
  go_wp2_with (go_at_call 33; refine (to32_any _ _).mono ?_; rintro e w' ⟨rfl, rfl⟩)
  all_goals
    go_ret
    refine ⟨ret_int ?_, rfl⟩
    unfold ofI
    congr 1
    omega

end Go.Proofs.Ytfgpcjfkkonkhaa
