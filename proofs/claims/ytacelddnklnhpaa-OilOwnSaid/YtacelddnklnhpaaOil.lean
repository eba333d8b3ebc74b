/- What the functions of package oil compute. -/
import Derived.Test.YtacelddnklnhpaaOpen
import Derived.Test.YtacelddnklnhpaaNum
import Derived.Lib.Hide
import Derived.LoopN
import Derived.WalkLawsBesides
import Derived.RegionTactic
import Derived.ChangeAlike
import Derived.BigQuiet
import Derived.Deep.QuietTactic
namespace Go.Proofs.Ytacelddnklnhpaa
open Go.ChangeShapes Go.WideShapes Go.ChangeAt Go.RowKit
set_option linter.unusedVariables false

/-- which system supplies a lane, and the error -/
def srcI (a b : Bool) (lane : Int) : Int × Int :=
  if lane = 0 then (if a then (0, 0) else (0, 7))
  else if lane = 1 then (if a then (0, 0) else if b then (1, 0) else (0, 7))
  else if lane = 2 then (if b then (1, 0) else (0, 7))
  else (if b then (1, 0) else if a then (0, 0) else (0, 7))
set_option maxHeartbeats 2000000 in
theorem source_in (a b : Bool) (lane k e : Int) (w : World) (hl : lane = 0 ∨ lane = 1 ∨ lane = 2 ∨ lane = 3) (h : srcI a b lane = (k, e)) :
    Calls Try.prog 18 #[.agg #[.bool a, .bool b], .int .i64 lane] w fun e' w' => e' = .returned (.tuple #[.int .i64 k, .int .i64 e]) ∧ w.alloc (.cells #[.bool a, .bool b] 34) = w' := by
  rcases hl with rfl | rfl | rfl | rfl <;> cases a <;> cases b
  all_goals
    simp only [srcI] at h
    simp at h
    obtain ⟨rfl, rfl⟩ := h
    go_enter Try.func18, Try.ntmps18
    go_wp2
    go_ret2
    exact ⟨rfl, rfl⟩

set_option maxHeartbeats 2000000 in
theorem supply_00 (p q : Int) (w : World) :
    Calls Try.prog 19 #[.agg #[.bool false, .bool false], .agg #[.int .i32 p, .int .i32 q]] w fun e' w' => e' = .returned (.tuple #[.agg #[.int .i32 0, .int .i32 0, .int .i32 0, .int .i32 0], .agg #[.bool false, .bool false, .bool false, .bool false]]) ∧ Below w.heap.size w w' := by
  go_enter Try.func19, Try.ntmps19
  go_wp2
  refine wp_loop_rounds 5 ?_
  iterate 4
    rw [rounds_succ]
    go_wp2_with (go_at_call 18; refine (source_in _ _ _ _ _ _ (by omega) (by rfl)).mono ?_; rintro e w' ⟨rfl, rfl⟩)
  rw [rounds_succ]
  go_wp2
  go_region
  all_goals
    go_wp2
    refine bodyPost_ret (v := .tuple #[.agg #[.int .i32 0, .int .i32 0, .int .i32 0, .int .i32 0], .agg #[.bool false, .bool false, .bool false, .bool false]]) (by simp [results, Try.results19, go_sem]) rfl ⟨rfl, ?_⟩
    repeat (first | exact Below.refl _ _ | refine Below.setCell ?_ (by first | (simp; done) | omega | (simp; omega)) _ | refine below_drewN ?_ _ | refine Below.drew ?_ | refine Below.alloc ?_ (by first | (simp; done) | omega | (simp; omega)) _)
set_option maxHeartbeats 2000000 in
theorem supply_10 (p q : Int) (w : World) :
    Calls Try.prog 19 #[.agg #[.bool true, .bool false], .agg #[.int .i32 p, .int .i32 q]] w fun e' w' => e' = .returned (.tuple #[.agg #[.int .i32 p, .int .i32 p, .int .i32 0, .int .i32 p], .agg #[.bool true, .bool true, .bool false, .bool true]]) ∧ Below w.heap.size w w' := by
  go_enter Try.func19, Try.ntmps19
  go_wp2
  refine wp_loop_rounds 5 ?_
  iterate 4
    rw [rounds_succ]
    go_wp2_with (go_at_call 18; refine (source_in _ _ _ _ _ _ (by omega) (by rfl)).mono ?_; rintro e w' ⟨rfl, rfl⟩)
  rw [rounds_succ]
  go_wp2
  go_region
  all_goals
    go_wp2
    refine bodyPost_ret (v := .tuple #[.agg #[.int .i32 p, .int .i32 p, .int .i32 0, .int .i32 p], .agg #[.bool true, .bool true, .bool false, .bool true]]) (by simp [results, Try.results19, go_sem]) rfl ⟨rfl, ?_⟩
    repeat (first | exact Below.refl _ _ | refine Below.setCell ?_ (by first | (simp; done) | omega | (simp; omega)) _ | refine below_drewN ?_ _ | refine Below.drew ?_ | refine Below.alloc ?_ (by first | (simp; done) | omega | (simp; omega)) _)
set_option maxHeartbeats 2000000 in
theorem supply_01 (p q : Int) (w : World) :
    Calls Try.prog 19 #[.agg #[.bool false, .bool true], .agg #[.int .i32 p, .int .i32 q]] w fun e' w' => e' = .returned (.tuple #[.agg #[.int .i32 0, .int .i32 q, .int .i32 q, .int .i32 q], .agg #[.bool false, .bool true, .bool true, .bool true]]) ∧ Below w.heap.size w w' := by
  go_enter Try.func19, Try.ntmps19
  go_wp2
  refine wp_loop_rounds 5 ?_
  iterate 4
    rw [rounds_succ]
    go_wp2_with (go_at_call 18; refine (source_in _ _ _ _ _ _ (by omega) (by rfl)).mono ?_; rintro e w' ⟨rfl, rfl⟩)
  rw [rounds_succ]
  go_wp2
  go_region
  all_goals
    go_wp2
    refine bodyPost_ret (v := .tuple #[.agg #[.int .i32 0, .int .i32 q, .int .i32 q, .int .i32 q], .agg #[.bool false, .bool true, .bool true, .bool true]]) (by simp [results, Try.results19, go_sem]) rfl ⟨rfl, ?_⟩
    repeat (first | exact Below.refl _ _ | refine Below.setCell ?_ (by first | (simp; done) | omega | (simp; omega)) _ | refine below_drewN ?_ _ | refine Below.drew ?_ | refine Below.alloc ?_ (by first | (simp; done) | omega | (simp; omega)) _)
set_option maxHeartbeats 2000000 in
theorem supply_11 (p q : Int) (w : World) :
    Calls Try.prog 19 #[.agg #[.bool true, .bool true], .agg #[.int .i32 p, .int .i32 q]] w fun e' w' => e' = .returned (.tuple #[.agg #[.int .i32 p, .int .i32 p, .int .i32 q, .int .i32 q], .agg #[.bool true, .bool true, .bool true, .bool true]]) ∧ Below w.heap.size w w' := by
  go_enter Try.func19, Try.ntmps19
  go_wp2
  refine wp_loop_rounds 5 ?_
  iterate 4
    rw [rounds_succ]
    go_wp2_with (go_at_call 18; refine (source_in _ _ _ _ _ _ (by omega) (by rfl)).mono ?_; rintro e w' ⟨rfl, rfl⟩)
  rw [rounds_succ]
  go_wp2
  go_region
  all_goals
    go_wp2
    refine bodyPost_ret (v := .tuple #[.agg #[.int .i32 p, .int .i32 p, .int .i32 q, .int .i32 q], .agg #[.bool true, .bool true, .bool true, .bool true]]) (by simp [results, Try.results19, go_sem]) rfl ⟨rfl, ?_⟩
    repeat (first | exact Below.refl _ _ | refine Below.setCell ?_ (by first | (simp; done) | omega | (simp; omega)) _ | refine below_drewN ?_ _ | refine Below.drew ?_ | refine Below.alloc ?_ (by first | (simp; done) | omega | (simp; omega)) _)

end Go.Proofs.Ytacelddnklnhpaa
