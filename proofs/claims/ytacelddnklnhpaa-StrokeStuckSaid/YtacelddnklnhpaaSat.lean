/- What the functions of package sat compute. -/
import Derived.Test.YtacelddnklnhpaaOpen
import Derived.Test.YtacelddnklnhpaaNum
import Derived.WalkLawsBesides
namespace Go.Proofs.Ytacelddnklnhpaa
open Go.ChangeShapes Go.WideShapes Go.ChangeAt Go.RowKit
set_option linter.unusedVariables false

theorem clamp_any (a b c : Int) (w : World) :
    Calls Try.prog 49 #[.int .i32 a, .int .i32 b, .int .i32 c] w fun e w' => e = .returned (.int .i32 (clampI a b c)) ∧ w = w' := by
  go_enter Try.func49, Try.ntmps49
  go_wp2
  all_goals
    go_ret
    refine ⟨ret_int ?_, rfl⟩
    unfold clampI
    omega

theorem to32_any (n : Int) (w : World) :
    Calls Try.prog 43 #[.int .i64 n] w fun e w' => e = .returned (.int .i32 (sat32 n)) ∧ w = w' := by
  go_enter Try.func43, Try.ntmps43
  go_wp2
  all_goals
    go_ret
    refine ⟨ret_int ?_, rfl⟩
    unfold sat32
    omega

theorem add_any (a b : Int) (ha : -2147483648 ≤ a ∧ a ≤ 2147483647) (hb : -2147483648 ≤ b ∧ b ≤ 2147483647) (w : World) :
    Calls Try.prog 46 #[.int .i32 a, .int .i32 b] w fun e w' => e = .returned (.int .i32 (sat32 (a + b))) ∧ w = w' := by
  go_enter Try.func46, Try.ntmps46
  go_wp2_with (go_at_call 43; refine (to32_any _ _).mono ?_; rintro e w' ⟨rfl, rfl⟩)
  go_ret
  exact ⟨ret_int rfl, rfl⟩

theorem sub_any (a b : Int) (ha : -2147483648 ≤ a ∧ a ≤ 2147483647) (hb : -2147483648 ≤ b ∧ b ≤ 2147483647) (w : World) :
    Calls Try.prog 23 #[.int .i32 a, .int .i32 b] w fun e w' => e = .returned (.int .i32 (sat32 (a - b))) ∧ w = w' := by
  go_enter Try.func23, Try.ntmps23
  go_wp2_with (go_at_call 43; refine (to32_any _ _).mono ?_; rintro e w' ⟨rfl, rfl⟩)
  go_ret
  exact ⟨ret_int rfl, rfl⟩

theorem neg_any (a : Int) (ha : -2147483648 ≤ a ∧ a ≤ 2147483647) (w : World) :
    Calls Try.prog 45 #[.int .i32 a] w fun e w' => e = .returned (.int .i32 (sat32 (-a))) ∧ w = w' := by
  go_enter Try.func45, Try.ntmps45
  go_wp2_with (go_at_call 43; refine (to32_any _ _).mono ?_; rintro e w' ⟨rfl, rfl⟩)
  go_ret
  exact ⟨ret_int rfl, rfl⟩

theorem abs_any (a : Int) (ha : -2147483648 ≤ a ∧ a ≤ 2147483647) (w : World) :
    Calls Try.prog 41 #[.int .i32 a] w fun e w' => e = .returned (.int .i32 (sat32 (absI a))) ∧ w = w' := by
  go_enter Try.func41, Try.ntmps41
  go_wp2_with (go_at_call 45; refine (neg_any _ (by omega) _).mono ?_; rintro e w' ⟨rfl, rfl⟩)
  all_goals
    go_ret
    refine ⟨ret_int ?_, rfl⟩
    unfold absI sat32
    omega

def shiftI (a n : Int) : Int := if n < 0 then a / 2 ^ (min (-n) 31).toNat else sat32 (a * 2 ^ (min n 31).toNat)
theorem two_pow_31 (k : Int) (hk : 0 ≤ k ∧ k ≤ 31) : 1 ≤ (2 : Int) ^ k.toNat ∧ (2 : Int) ^ k.toNat ≤ 2147483648 := by
  have h1 : 2 ^ k.toNat ≤ 2 ^ 31 := Nat.pow_le_pow_right (by omega) (by omega)
  have h2 : 0 < 2 ^ k.toNat := Nat.pow_pos (by omega)
  have h3 : ((2 ^ k.toNat : Nat) : Int) = (2 : Int) ^ k.toNat := by simp
  omega
theorem shiftI_bd (a n : Int) (ha : -2147483648 ≤ a ∧ a ≤ 2147483647) : -2147483648 ≤ shiftI a n ∧ shiftI a n ≤ 2147483647 := by
  unfold shiftI
  split
  · have hp := two_pow_31 (min (-n) 31) (by omega)
    constructor
    · have := Int.ediv_le_ediv (a := -2147483648) (b := a) (c := 2 ^ (min (-n) 31).toNat) (by omega) ha.1
      have h2 : -2147483648 ≤ -2147483648 / (2 : Int) ^ (min (-n) 31).toNat := (Int.le_ediv_iff_mul_le (by omega)).2 (by omega)
      omega
    · have h2 : a / (2 : Int) ^ (min (-n) 31).toNat ≤ 2147483647 := by
        by_cases h : 0 ≤ a
        · exact Int.le_trans (Int.ediv_le_self _ h) ha.2
        · have := Int.ediv_neg_of_neg_of_pos (a := a) (b := 2 ^ (min (-n) 31).toNat) (by omega) (by omega); omega
      exact h2
  · exact sat32_bd _
theorem shift_up (a n : Int) (ha : -2147483648 ≤ a ∧ a ≤ 2147483647) (hn : 0 ≤ n ∧ n ≤ 31) (w : World) :
    Calls Try.prog 47 #[.int .i32 a, .int .i64 n] w fun e w' => e = .returned (.int .i32 (sat32 (a * 2 ^ n.toNat))) ∧ w = w' := by
  have hp := two_pow_31 n hn
  have hm : -4611686018427387904 ≤ a * 2 ^ n.toNat ∧ a * 2 ^ n.toNat ≤ 4611686018427387904 := by
    have h1 : (a * 2 ^ n.toNat).natAbs ≤ 2147483648 * 2147483648 := by
      rw [Int.natAbs_mul]; exact Nat.mul_le_mul (by omega) (by omega)
    omega
  go_enter Try.func47, Try.ntmps47
  go_wp2_with (go_at_call 43; refine (to32_any _ _).mono ?_; rintro e w' ⟨rfl, rfl⟩)
  all_goals
    go_ret
    exact ⟨ret_int rfl, rfl⟩
theorem shift_over (a n : Int) (ha : -2147483648 ≤ a ∧ a ≤ 2147483647) (hn : 31 < n) (w : World) :
    Calls Try.prog 47 #[.int .i32 a, .int .i64 n] w fun e w' => e = .returned (.int .i32 (sat32 (a * 2147483648))) ∧ w = w' := by
  go_enter Try.func47, Try.ntmps47
  go_wp2_with (go_at_call 43; refine (to32_any _ _).mono ?_; rintro e w' ⟨rfl, rfl⟩)
  all_goals
    go_ret
    exact ⟨ret_int rfl, rfl⟩
theorem shift_down (a n : Int) (ha : -2147483648 ≤ a ∧ a ≤ 2147483647) (hn : n < 0 ∧ -31 ≤ n) (w : World) :
    Calls Try.prog 47 #[.int .i32 a, .int .i64 n] w fun e w' => e = .returned (.int .i32 (a / 2 ^ (-n).toNat)) ∧ w = w' := by
  go_enter Try.func47, Try.ntmps47
  go_wp2
  all_goals
    go_ret
    exact ⟨ret_int rfl, rfl⟩
theorem shift_under (a n : Int) (ha : -2147483648 ≤ a ∧ a ≤ 2147483647) (hn : n < -31) (w : World) :
    Calls Try.prog 47 #[.int .i32 a, .int .i64 n] w fun e w' => e = .returned (.int .i32 (a / 2147483648)) ∧ w = w' := by
  go_enter Try.func47, Try.ntmps47
  go_wp2
  all_goals
    go_ret
    exact ⟨ret_int rfl, rfl⟩
theorem shift_any (a n : Int) (ha : -2147483648 ≤ a ∧ a ≤ 2147483647) (w : World) :
    Calls Try.prog 47 #[.int .i32 a, .int .i64 n] w fun e w' => e = .returned (.int .i32 (shiftI a n)) ∧ w = w' := by
  unfold shiftI
  rcases (by omega : n < -31 ∨ (n < 0 ∧ -31 ≤ n) ∨ (0 ≤ n ∧ n ≤ 31) ∨ 31 < n) with h | h | h | h
  · rw [if_pos (by omega), show min (-n) 31 = 31 from by omega]; exact shift_under a n ha h w
  · rw [if_pos (by omega), show min (-n) 31 = -n from by omega]; exact shift_down a n ha h w
  · rw [if_neg (by omega), show min n 31 = n from by omega]; exact shift_up a n ha h w
  · rw [if_neg (by omega), show min n 31 = 31 from by omega]; exact shift_over a n ha h w

theorem apart_any (a b : Int) (ha : -2147483648 ≤ a ∧ a ≤ 2147483647) (hb : -2147483648 ≤ b ∧ b ≤ 2147483647) (w : World) :
    Calls Try.prog 24 #[.int .i32 a, .int .i32 b] w fun e w' => e = .returned (.int .i64 (apartI a b)) ∧ w = w' := by
  go_enter Try.func24, Try.ntmps24
  go_wp2
  all_goals
    go_ret
    refine ⟨ret_int ?_, rfl⟩
    unfold apartI absI
    omega

theorem rest_any (a n : Int) (hn : n ≤ 4611686018427387904) (w : World) :
    Calls Try.prog 17 #[.int .i64 a, .int .i64 n] w fun e w' => e = .returned (.int .i64 (restI a n)) ∧ w = w' := by
  by_cases h : n ≤ 0
  · go_enter Try.func17, Try.ntmps17
    go_wp2
    go_ret
    refine ⟨ret_int ?_, rfl⟩
    unfold restI; rw [if_pos h]
  · have hb := tmod_bd a n (by omega)
    go_enter Try.func17, Try.ntmps17
    go_wp2
    go_ret
    refine ⟨ret_int ?_, rfl⟩
    unfold restI; rw [if_neg (by omega)]
    rw [Int.tmod_eq_emod_of_nonneg (a := a.tmod n + n) (by omega), Int.add_emod_right]

end Go.Proofs.Ytacelddnklnhpaa
