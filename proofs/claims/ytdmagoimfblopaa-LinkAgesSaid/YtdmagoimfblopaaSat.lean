/- What the functions of package sat compute. -/
import Derived.Test.YtdmagoimfblopaaOpen
import Derived.Test.YtdmagoimfblopaaNum
import Derived.WalkLawsBesides
namespace Go.Proofs.Ytdmagoimfblopaa
open Go.ChangeShapes Go.WideShapes Go.ChangeAt Go.RowKit
set_option linter.unusedVariables false

theorem rest_any (a n : Int) (hn : n ≤ 4611686018427387904) (w : World) :
    Calls Try.prog 13 #[.int .i64 a, .int .i64 n] w fun e w' => e = .returned (.int .i64 (restI a n)) ∧ w = w' := by
  by_cases h : n ≤ 0
  · go_enter Try.func13, Try.ntmps13
    go_wp2
    go_ret
    refine ⟨ret_int ?_, rfl⟩
    unfold restI; rw [if_pos h]
  · have hb := tmod_bd a n (by omega)
    go_enter Try.func13, Try.ntmps13
    go_wp2
    go_ret
    refine ⟨ret_int ?_, rfl⟩
    unfold restI; rw [if_neg (by omega)]
    rw [Int.tmod_eq_emod_of_nonneg (a := a.tmod n + n) (by omega), Int.add_emod_right]

end Go.Proofs.Ytdmagoimfblopaa
