/- steadref.Rest: what is left of a number by another one. -/
import Derived.Test.YtlagmebnjagoaaaGreatPkZg
namespace Go.Proofs.YtlagmebnjagoaaaGreat
open Go.ChangeShapes Go.WideShapes Go.ChangeAt Go.RowKit
set_option linter.unusedVariables false

def restI (a n : Int) : Int := if n ≤ 0 then 0 else ((a.tmod n) + n).tmod n
theorem tmod_bd (a n : Int) (hn : 0 < n) : -n < a.tmod n ∧ a.tmod n < n := by
  exact ⟨Int.lt_tmod_of_pos a hn, Int.tmod_lt_of_pos a hn⟩
theorem restI_bd (a n : Int) (hn : 0 < n) : 0 ≤ restI a n ∧ restI a n < n := by
  unfold restI
  rw [if_neg (by omega)]
  have h := tmod_bd a n hn
  rw [Int.tmod_eq_emod_of_nonneg (a := a.tmod n + n) (by omega)]
  exact ⟨Int.emod_nonneg _ (by omega), Int.emod_lt_of_pos _ hn⟩
set_option maxHeartbeats 4000000 in
theorem rest_any (a n : Int) (hn : n ≤ 4611686018427387904) (w : World) :
    Calls Tryz.prog 16 #[.int .i64 a, .int .i64 n] w fun e w' => e = .returned (.int .i64 (restI a n)) ∧ w = w' := by
  by_cases h : n ≤ 0
  · go_enter Tryz.func16, Tryz.ntmps16
    go_wp2
    go_ret
    refine ⟨ret_int ?_, rfl⟩
    unfold restI; rw [if_pos h]
  · have hb := tmod_bd a n (by omega)
    go_enter Tryz.func16, Tryz.ntmps16
    go_wp2
    go_ret
    refine ⟨ret_int ?_, rfl⟩
    unfold restI; rw [if_neg (by omega)]
    rw [Int.tmod_eq_emod_of_nonneg (a := a.tmod n + n) (by omega), Int.add_emod_right]

end Go.Proofs.YtlagmebnjagoaaaGreat
