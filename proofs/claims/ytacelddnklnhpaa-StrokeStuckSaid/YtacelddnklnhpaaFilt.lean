/- What the functions of package filt compute (but the median and the window). -/
import Derived.Test.YtacelddnklnhpaaSat
namespace Go.Proofs.Ytacelddnklnhpaa
open Go.ChangeShapes Go.WideShapes Go.ChangeAt Go.RowKit
set_option linter.unusedVariables false

theorem toward_any (y x k : Int) (hy : -2147483648 ≤ y ∧ y ≤ 2147483647) (hx : -2147483648 ≤ x ∧ x ≤ 2147483647) (hk : 0 ≤ k ∧ k ≤ 30) (w : World) :
    Calls Try.prog 62 #[.int .i32 y, .int .i32 x, .int .i64 k] w fun e w' => e = .returned (.int .i32 (towardI y x (2 ^ k.toNat))) ∧ w = w' := by
  have hp := two_pow_bd k hk
  generalize hP : (2 : Int) ^ k.toNat = p at hp ⊢
  by_cases h : y ≤ x
  · have hd := tdiv_pos_bd (x - y) p hp.1 (by omega)
    go_enter Try.func62, Try.ntmps62
    go_wp2
    all_goals
      go_ret
      refine ⟨ret_int ?_, rfl⟩
      unfold towardI
      split <;> (try split) <;> (try split) <;> first | omega | simp_all
  · have hd := tdiv_neg_bd (x - y) p hp.1 (by omega)
    go_enter Try.func62, Try.ntmps62
    go_wp2
    all_goals
      go_ret
      refine ⟨ret_int ?_, rfl⟩
      unfold towardI
      split <;> (try split) <;> (try split) <;> first | omega | simp_all

theorem low_yes (y x k : Int) (hy : -2147483648 ≤ y ∧ y ≤ 2147483647) (hx : -2147483648 ≤ x ∧ x ≤ 2147483647) (hk : 0 ≤ k ∧ k ≤ 30) (w : World) :
    Calls Try.prog 51 #[.int .i32 y, .int .i32 x, .int .i64 k] w fun e w' => e = .returned (.tuple #[.int .i32 (towardI y x (2 ^ k.toNat)), .int .i64 0]) ∧ w = w' := by
  go_enter Try.func51, Try.ntmps51
  go_wp2_with (go_at_call 62; refine (toward_any _ _ _ (by omega) (by omega) (by omega) _).mono ?_; rintro e w' ⟨rfl, rfl⟩)
  go_ret2
  exact ⟨rfl, rfl⟩
theorem low_no (y x k : Int) (hk : k < 0 ∨ 30 < k) (w : World) :
    Calls Try.prog 51 #[.int .i32 y, .int .i32 x, .int .i64 k] w fun e w' => e = .returned (.tuple #[.int .i32 0, .int .i64 1]) ∧ w = w' := by
  go_enter Try.func51, Try.ntmps51
  go_wp2
  all_goals
    go_ret2
    exact ⟨rfl, rfl⟩
def lowI (y x k : Int) : Int := if 0 ≤ k ∧ k ≤ 30 then towardI y x (2 ^ k.toNat) else 0
def lowE (k : Int) : Int := if 0 ≤ k ∧ k ≤ 30 then 0 else 1
theorem lowI_yes (y x k : Int) (h : 0 ≤ k ∧ k ≤ 30) : lowI y x k = towardI y x (2 ^ k.toNat) := if_pos h
theorem lowI_no (y x k : Int) (h : ¬ (0 ≤ k ∧ k ≤ 30)) : lowI y x k = 0 := if_neg h
theorem lowE_yes (k : Int) (h : 0 ≤ k ∧ k ≤ 30) : lowE k = 0 := if_pos h
theorem lowE_no (k : Int) (h : ¬ (0 ≤ k ∧ k ≤ 30)) : lowE k = 1 := if_neg h
theorem low_any (y x k : Int) (hy : -2147483648 ≤ y ∧ y ≤ 2147483647) (hx : -2147483648 ≤ x ∧ x ≤ 2147483647) (w : World) :
    Calls Try.prog 51 #[.int .i32 y, .int .i32 x, .int .i64 k] w fun e w' => e = .returned (.tuple #[.int .i32 (lowI y x k), .int .i64 (lowE k)]) ∧ w = w' := by
  by_cases h : 0 ≤ k ∧ k ≤ 30
  · rw [lowI_yes y x k h, lowE_yes k h]; exact low_yes y x k hy hx h w
  · rw [lowI_no y x k h, lowE_no k h]; exact low_no y x k (by omega) w

def rateI (y x m : Int) : Int := clampI x (sat32 (y - sat32 (absI m))) (sat32 (y + sat32 (absI m)))
theorem rate_any (y x m : Int) (hy : -2147483648 ≤ y ∧ y ≤ 2147483647) (hx : -2147483648 ≤ x ∧ x ≤ 2147483647) (hm : -2147483648 ≤ m ∧ m ≤ 2147483647) (w : World) :
    Calls Try.prog 55 #[.int .i32 y, .int .i32 x, .int .i32 m] w fun e w' => e = .returned (.int .i32 (rateI y x m)) ∧ w = w' := by
  have hb := sat32_bd (absI m)
  go_enter Try.func55, Try.ntmps55
  go_wp2_with (first | (go_at_call 41; refine (abs_any _ (by omega) _).mono ?_; rintro e w' ⟨rfl, rfl⟩) | (go_at_call 23; refine (sub_any _ _ (by omega) (by omega) _).mono ?_; rintro e w' ⟨rfl, rfl⟩) | (go_at_call 46; refine (add_any _ _ (by omega) (by omega) _).mono ?_; rintro e w' ⟨rfl, rfl⟩) | (go_at_call 49; refine (clamp_any _ _ _ _).mono ?_; rintro e w' ⟨rfl, rfl⟩))
  go_ret
  exact ⟨ret_int rfl, rfl⟩

end Go.Proofs.Ytacelddnklnhpaa
