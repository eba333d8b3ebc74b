/- The right states of a lane, and what comes behind each. -/
import Derived.Test.YtfifckcjadbiiaaLane
import Derived.Deep.RegionHeld3
namespace Go.Proofs.Ytfifckcjadbiiaa
open Go.ChangeShapes Go.WideShapes Go.ChangeAt Go.RowKit
set_option linter.unusedVariables false

/-- a right state of a lane -/
def LaneOk (m : Int) (f : Bool) (r : Int) : Prop := ((m = 0 ∧ f = false) ∨ (m = 1 ∧ f = false) ∨ (m = 2 ∧ f = true) ∨ (m = 3 ∧ f = false) ∨ (m = 3 ∧ f = true)) ∧ 0 ≤ r ∧ r ≤ 10000
theorem laneChk_ok {m r : Int} {f : Bool} (h : LaneOk m f r) : laneChk m f r = 0 := by
  obtain ⟨h1, h2⟩ := h
  rcases h1 with ⟨rfl, rfl⟩ | ⟨rfl, rfl⟩ | ⟨rfl, rfl⟩ | ⟨rfl, rfl⟩ | ⟨rfl, rfl⟩ <;> (unfold laneChk; rw [if_neg (by omega)]; simp)
theorem laneChk_of {m r : Int} {f : Bool} (h : laneChk m f r = 0) : LaneOk m f r := by
  unfold laneChk at h
  split at h
  · omega
  · rename_i h1
    split at h
    · omega
    · rename_i h2
      unfold LaneOk
      cases f <;> simp at h2 ⊢ <;> omega
theorem laneCheck_yes (m : Int) (f : Bool) (r : Int) (w : World) (h : LaneOk m f r) :
    Calls Try.prog 10 #[.agg #[.int .i64 m, .bool f, .int .i64 r]] w fun e w' => e = .returned (.int .i64 0) ∧ w.alloc (.cells #[.int .i64 m, .bool f, .int .i64 r] 23) = w' := by
  have h1 := laneCheck_any m f r w (by unfold LaneOk at h; omega) (by unfold LaneOk at h; omega)
  rw [laneChk_ok h] at h1
  exact h1
/-- the state behind what happens -/
def nextI (m : Int) (f : Bool) (r e : Int) : Int × Bool × Int :=
  let m' := if turnB m e = true then (if e = 6 ∧ f = true then 2 else turnV m e) else m
  (m', (f && e != 7) || e == 3, if m' = m then r else 0)

end Go.Proofs.Ytfifckcjadbiiaa
