/- What the functions of package mode compute. -/
import Derived.Test.YtfifckcjadbiiaaOpen
import Derived.Test.YtfifckcjadbiiaaNum
import Derived.Lib.Hide
import Derived.WalkLawsBesides
namespace Go.Proofs.Ytfifckcjadbiiaa
open Go.ChangeShapes Go.WideShapes Go.ChangeAt Go.RowKit
set_option linter.unusedVariables false

/-- a right state of the whole -/
def ModeOk (m : Int) (p g : Bool) : Prop := m = 1 ∨ (m = 2 ∧ p = true) ∨ (m = 3 ∧ g = true)
set_option maxHeartbeats 2000000 in
theorem modeCheck_yes (m : Int) (p g : Bool) (w : World) (h : ModeOk m p g) :
    Calls Try.prog 16 #[.agg #[.int .i64 m, .bool p, .bool g]] w fun e w' => e = .returned (.int .i64 0) ∧ w.alloc (.cells #[.int .i64 m, .bool p, .bool g] 34) = w' := by
  rcases h with rfl | ⟨rfl, rfl⟩ | ⟨rfl, rfl⟩
  · cases p <;> cases g
    all_goals
      go_enter Try.func16, Try.ntmps16
      go_wp2
      go_ret
      exact ⟨rfl, rfl⟩
  · cases g
    all_goals
      go_enter Try.func16, Try.ntmps16
      go_wp2
      go_ret
      exact ⟨rfl, rfl⟩
  · cases p
    all_goals
      go_enter Try.func16, Try.ntmps16
      go_wp2
      go_ret
      exact ⟨rfl, rfl⟩

/-- the state behind a question, and the error -/
def askI (m : Int) (p g : Bool) (want : Int) : (Int × Bool × Bool) × Int :=
  if want < 1 ∨ 3 < want then ((0, false, false), 1) else if want = m then ((m, p, g), 0)
  else if (want = 2 ∧ (m ≠ 1 ∨ p = false)) ∨ (want ≠ 2 ∧ g = false) then ((0, false, false), 8) else ((want, if want = 3 then false else p, g), 0)
set_option maxHeartbeats 4000000 in
theorem ask_any (m : Int) (p g : Bool) (want m' e : Int) (p' g' : Bool) (w : World) (h : ModeOk m p g) (hw : want = 0 ∨ want = 1 ∨ want = 2 ∨ want = 3) (hr : askI m p g want = ((m', p', g'), e)) :
    Calls Try.prog 12 #[.agg #[.int .i64 m, .bool p, .bool g], .int .i64 want] w fun e' w' => e' = .returned (.tuple #[.agg #[.int .i64 m', .bool p', .bool g'], .int .i64 e]) ∧ Below w.heap.size w w' := by
  have H := Lib.hid h
  rcases (by unfold ModeOk at h; omega : m = 1 ∨ m = 2 ∨ m = 3) with rfl | rfl | rfl <;> rcases hw with rfl | rfl | rfl | rfl <;> cases p <;> cases g <;> simp [ModeOk] at h <;> simp [askI] at hr
  all_goals
    obtain ⟨⟨rfl, rfl, rfl⟩, rfl⟩ := hr
    go_enter Try.func12, Try.ntmps12
    go_wp2_with fail
    refine (modeCheck_yes _ _ _ _ H.out).mono ?_
    rintro e1 w1 ⟨rfl, rfl⟩
    go_wp2
    refine bodyPost_ret (v := .tuple #[.agg #[_, _, _], _]) (by simp [results, Try.results12, go_sem]) rfl ⟨rfl, ?_⟩
    repeat (first | with_reducible exact Below.refl _ _ | ((with_reducible refine Below.setCell ?_ ?_ _); rotate_left; (· first | (simp; done) | omega | (simp; omega))) | with_reducible refine below_drewN ?_ _ | with_reducible refine Below.drew ?_ | ((with_reducible refine Below.alloc ?_ ?_ _); rotate_left; (· first | (simp; done) | omega | (simp; omega))) | exact Below.refl _ _ | refine Below.setCell ?_ (by first | (simp; done) | omega | (simp; omega)) _ | refine below_drewN ?_ _ | refine Below.drew ?_ | refine Below.alloc ?_ (by first | (simp; done) | omega | (simp; omega)) _)

def groundI (m : Int) (on : Bool) : Int := if m = 3 ∧ on = false then 1 else m
set_option maxHeartbeats 4000000 in
theorem ground_any (m : Int) (p g on : Bool) (m' : Int) (w : World) (h : ModeOk m p g) (hr : groundI m on = m') :
    Calls Try.prog 14 #[.agg #[.int .i64 m, .bool p, .bool g], .bool on] w fun e' w' => e' = .returned (.tuple #[.agg #[.int .i64 m', .bool p, .bool on], .int .i64 0]) ∧ Below w.heap.size w w' := by
  have H := Lib.hid h
  rcases (by unfold ModeOk at h; omega : m = 1 ∨ m = 2 ∨ m = 3) with rfl | rfl | rfl <;> cases on <;> simp [groundI] at hr
  all_goals
    subst hr
    clear h
    go_enter Try.func14, Try.ntmps14
    go_wp2_with fail
    refine (modeCheck_yes _ _ _ _ H.out).mono ?_
    rintro e1 w1 ⟨rfl, rfl⟩
    go_wp2
    refine bodyPost_ret (v := .tuple #[.agg #[_, _, _], _]) (by simp [results, Try.results14, go_sem]) rfl ⟨rfl, ?_⟩
    repeat (first | with_reducible exact Below.refl _ _ | ((with_reducible refine Below.setCell ?_ ?_ _); rotate_left; (· first | (simp; done) | omega | (simp; omega))) | with_reducible refine below_drewN ?_ _ | with_reducible refine Below.drew ?_ | ((with_reducible refine Below.alloc ?_ ?_ _); rotate_left; (· first | (simp; done) | omega | (simp; omega))) | exact Below.refl _ _ | refine Below.setCell ?_ (by first | (simp; done) | omega | (simp; omega)) _ | refine below_drewN ?_ _ | refine Below.drew ?_ | refine Below.alloc ?_ (by first | (simp; done) | omega | (simp; omega)) _)

def testedI (m : Int) (p g pass : Bool) : (Int × Bool × Bool) × Int := if m ≠ 1 ∨ g = false then ((0, false, false), 8) else ((m, pass, g), 0)
set_option maxHeartbeats 4000000 in
theorem tested_any (m : Int) (p g pass : Bool) (m' e : Int) (p' g' : Bool) (w : World) (h : ModeOk m p g) (hr : testedI m p g pass = ((m', p', g'), e)) :
    Calls Try.prog 15 #[.agg #[.int .i64 m, .bool p, .bool g], .bool pass] w fun e' w' => e' = .returned (.tuple #[.agg #[.int .i64 m', .bool p', .bool g'], .int .i64 e]) ∧ Below w.heap.size w w' := by
  have H := Lib.hid h
  rcases (by unfold ModeOk at h; omega : m = 1 ∨ m = 2 ∨ m = 3) with rfl | rfl | rfl <;> cases g <;> simp [testedI] at hr
  all_goals
    obtain ⟨⟨rfl, rfl, rfl⟩, rfl⟩ := hr
    clear h
    go_enter Try.func15, Try.ntmps15
    go_wp2_with fail
    refine (modeCheck_yes _ _ _ _ H.out).mono ?_
    rintro e1 w1 ⟨rfl, rfl⟩
    go_wp2
    refine bodyPost_ret (v := .tuple #[.agg #[_, _, _], _]) (by simp [results, Try.results15, go_sem]) rfl ⟨rfl, ?_⟩
    repeat (first | with_reducible exact Below.refl _ _ | ((with_reducible refine Below.setCell ?_ ?_ _); rotate_left; (· first | (simp; done) | omega | (simp; omega))) | with_reducible refine below_drewN ?_ _ | with_reducible refine Below.drew ?_ | ((with_reducible refine Below.alloc ?_ ?_ _); rotate_left; (· first | (simp; done) | omega | (simp; omega))) | exact Below.refl _ _ | refine Below.setCell ?_ (by first | (simp; done) | omega | (simp; omega)) _ | refine below_drewN ?_ _ | refine Below.drew ?_ | refine Below.alloc ?_ (by first | (simp; done) | omega | (simp; omega)) _)

end Go.Proofs.Ytfifckcjadbiiaa
