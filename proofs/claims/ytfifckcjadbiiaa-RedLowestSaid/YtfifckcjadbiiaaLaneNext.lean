/- lane.Next at every right state. -/
import Derived.Test.YtfifckcjadbiiaaLaneNxA
import Derived.Test.YtfifckcjadbiiaaLaneNxB
namespace Go.Proofs.Ytfifckcjadbiiaa
open Go.ChangeShapes Go.WideShapes Go.ChangeAt Go.RowKit
set_option linter.unusedVariables false

theorem next_any (m : Int) (f : Bool) (r e : Int) (w : World) (h : LaneOk m f r) (he : e = 1 ∨ e = 2 ∨ e = 3 ∨ e = 4 ∨ e = 5 ∨ e = 6 ∨ e = 7) (m' : Int) (f' : Bool) (r' : Int) (hr : nextI m f r e = (m', f', r')) :
    Calls Try.prog 9 #[.agg #[.int .i64 m, .bool f, .int .i64 r], .int .i64 e] w fun e' w' => e' = .returned (.tuple #[.agg #[.int .i64 m', .bool f', .int .i64 r'], .int .i64 0]) ∧ Below w.heap.size w w' := by
  obtain ⟨hm, h1⟩ := h
  rcases hm with ⟨rfl, rfl⟩ | ⟨rfl, rfl⟩ | ⟨rfl, rfl⟩ | ⟨rfl, rfl⟩ | ⟨rfl, rfl⟩
  · exact next_0f r e w h1 he m' f' r' hr
  · exact next_1f r e w h1 he m' f' r' hr
  · exact next_2t r e w h1 he m' f' r' hr
  · exact next_3f r e w h1 he m' f' r' hr
  · exact next_3t r e w h1 he m' f' r' hr

end Go.Proofs.Ytfifckcjadbiiaa
