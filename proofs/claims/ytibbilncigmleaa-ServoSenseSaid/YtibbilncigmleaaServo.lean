/- What the functions of package servo compute. -/
import Derived.Test.YtibbilncigmleaaFix
import Derived.Deep.DeepCutAuto
import Derived.Lib.Hide
namespace Go.Proofs.Ytibbilncigmleaa
open Go.ChangeShapes Go.WideShapes Go.ChangeAt Go.RowKit
set_option linter.unusedVariables false

/-- what a sensor tells: the place, whether it tells one, the error -/
def senseBad (sum wide full : Int) : Prop := sum < 1 ∨ wide < 0 ∨ full < 0
def senseOff (a b sum wide : Int) : Prop := wide < a + b - sum ∨ wide < -(a + b - sum) ∨ a + b < 1
def senseP (a b sum wide full : Int) : Int := mulI (divI (sat32 (a - b)) (sat32 (a + b))) full
set_option maxHeartbeats 1000000 in
theorem sense_bad (a b sum wide full : Int) (w : World) (h : senseBad sum wide full) :
    Calls Try.prog 30 #[.int .i32 a, .int .i32 b, .agg #[.int .i32 sum, .int .i32 wide, .int .i32 full]] w fun e w' => e = .returned (.tuple #[.int .i32 0, .bool false, .int .i64 1]) ∧ Below w.heap.size w w' := by
  have h' : decide (sum < 1) = true ∨ (decide (sum < 1) = false ∧ decide (wide < 0) = true) ∨ (decide (sum < 1) = false ∧ decide (wide < 0) = false ∧ decide (full < 0) = true) := by
    simp only [decide_eq_false_iff_not, decide_eq_true_eq]; unfold senseBad at h; omega
  clear h
  rcases h' with h | ⟨h, h'⟩ | ⟨h, h', h''⟩
  all_goals
    go_enter Try.func30, Try.ntmps30
    go_wp2
    go_ret3
    exact ⟨rfl, (Below.refl _ _).alloc (Nat.le_refl _) _⟩
set_option maxHeartbeats 1000000 in
theorem sense_off (a b sum wide full : Int) (w : World) (ha : -2147483648 ≤ a ∧ a ≤ 2147483647) (hb : -2147483648 ≤ b ∧ b ≤ 2147483647) (hs : -2147483648 ≤ sum ∧ sum ≤ 2147483647) (hw : -2147483648 ≤ wide ∧ wide ≤ 2147483647)
    (h : ¬ senseBad sum wide full) (g : senseOff a b sum wide) :
    Calls Try.prog 30 #[.int .i32 a, .int .i32 b, .agg #[.int .i32 sum, .int .i32 wide, .int .i32 full]] w fun e w' => e = .returned (.tuple #[.int .i32 0, .bool false, .int .i64 0]) ∧ Below w.heap.size w w' := by
  obtain ⟨h1, h2, h3⟩ : decide (sum < 1) = false ∧ decide (wide < 0) = false ∧ decide (full < 0) = false := by
    simp only [decide_eq_false_iff_not]; unfold senseBad at h; omega
  have g' : decide (wide < a + b - sum) = true ∨ (decide (wide < a + b - sum) = false ∧ decide (wide < -(a + b - sum)) = true) ∨ (decide (wide < a + b - sum) = false ∧ decide (wide < -(a + b - sum)) = false ∧ decide (a + b < 1) = true) := by
    simp only [decide_eq_false_iff_not, decide_eq_true_eq]; unfold senseOff at g; omega
  clear h g
  rcases g' with g | ⟨g, g'⟩ | ⟨g, g', g''⟩
  all_goals
    go_enter Try.func30, Try.ntmps30
    go_wp2
    go_ret3
    exact ⟨rfl, (Below.refl _ _).alloc (Nat.le_refl _) _⟩
set_option maxHeartbeats 1000000 in
theorem sense_tells (a b sum wide full : Int) (w : World) (ha : -2147483648 ≤ a ∧ a ≤ 2147483647) (hb : -2147483648 ≤ b ∧ b ≤ 2147483647) (hs : -2147483648 ≤ sum ∧ sum ≤ 2147483647) (hw : -2147483648 ≤ wide ∧ wide ≤ 2147483647)
    (hf : -2147483648 ≤ full ∧ full ≤ 2147483647) (h : ¬ senseBad sum wide full) (g : ¬ senseOff a b sum wide) :
    Calls Try.prog 30 #[.int .i32 a, .int .i32 b, .agg #[.int .i32 sum, .int .i32 wide, .int .i32 full]] w fun e w' => e = .returned (.tuple #[.int .i32 (senseP a b sum wide full), .bool true, .int .i64 0]) ∧ Below w.heap.size w w' := by
  obtain ⟨h1, h2, h3⟩ : decide (sum < 1) = false ∧ decide (wide < 0) = false ∧ decide (full < 0) = false := by
    simp only [decide_eq_false_iff_not]; unfold senseBad at h; omega
  obtain ⟨g1, g2, g3⟩ : decide (wide < a + b - sum) = false ∧ decide (wide < -(a + b - sum)) = false ∧ decide (a + b < 1) = false := by
    simp only [decide_eq_false_iff_not]; unfold senseOff at g; omega
  have b1 := sat32_bd (a - b); have b2 := sat32_bd (a + b); have b3 := divI_bd (sat32 (a - b)) (sat32 (a + b))
  clear h g
  go_enter Try.func30, Try.ntmps30
  go_wp2_with (first | (go_at_call 41; refine (sub_any _ _ (by omega) (by omega) _).mono ?_; rintro e w' ⟨rfl, rfl⟩) | (go_at_call 22; refine (to32_any _ _).mono ?_; rintro e w' ⟨rfl, rfl⟩) | (go_at_call 40; refine (div_any _ _ (by omega) (by omega) _).mono ?_; rintro e w' ⟨rfl, rfl⟩) | (go_at_call 32; refine (mul_any _ _ (by omega) (by omega) _).mono ?_; rintro e w' ⟨rfl, rfl⟩))
  go_ret3
  exact ⟨rfl, (Below.refl _ _).alloc (Nat.le_refl _) _⟩
/-- the same, told by total functions: the place, whether there is one, the error -/
def sensE (sum wide full : Int) : Int := if sum < 1 ∨ wide < 0 ∨ full < 0 then 1 else 0
def sensOk (a b sum wide full : Int) : Bool := if sum < 1 ∨ wide < 0 ∨ full < 0 then false else if wide < a + b - sum ∨ wide < -(a + b - sum) ∨ a + b < 1 then false else true
def sensP (a b sum wide full : Int) : Int := if sensOk a b sum wide full then senseP a b sum wide full else 0
theorem sensP_bd (a b sum wide full : Int) : -2147483648 ≤ sensP a b sum wide full ∧ sensP a b sum wide full ≤ 2147483647 := by
  unfold sensP; split
  · exact mulI_bd _ _
  · omega
theorem sense_any (a b sum wide full : Int) (w : World) (ha : -2147483648 ≤ a ∧ a ≤ 2147483647) (hb : -2147483648 ≤ b ∧ b ≤ 2147483647) (hs : -2147483648 ≤ sum ∧ sum ≤ 2147483647) (hw : -2147483648 ≤ wide ∧ wide ≤ 2147483647)
    (hf : -2147483648 ≤ full ∧ full ≤ 2147483647) :
    Calls Try.prog 30 #[.int .i32 a, .int .i32 b, .agg #[.int .i32 sum, .int .i32 wide, .int .i32 full]] w fun e w' => e = .returned (.tuple #[.int .i32 (sensP a b sum wide full), .bool (sensOk a b sum wide full), .int .i64 (sensE sum wide full)]) ∧ Below w.heap.size w w' := by
  by_cases h : senseBad sum wide full
  · have e1 : sensOk a b sum wide full = false := if_pos h
    have e2 : sensE sum wide full = 1 := if_pos h
    have e3 : sensP a b sum wide full = 0 := by unfold sensP; rw [e1]; rfl
    rw [e1, e2, e3]; exact sense_bad a b sum wide full w h
  · have e2 : sensE sum wide full = 0 := if_neg h
    by_cases g : senseOff a b sum wide
    · have e1 : sensOk a b sum wide full = false := (if_neg h).trans (if_pos g)
      have e3 : sensP a b sum wide full = 0 := by unfold sensP; rw [e1]; rfl
      rw [e1, e2, e3]; exact sense_off a b sum wide full w ha hb hs hw h g
    · have e1 : sensOk a b sum wide full = true := (if_neg h).trans (if_neg g)
      have e3 : sensP a b sum wide full = senseP a b sum wide full := by unfold sensP; rw [e1]; rfl
      rw [e1, e2, e3]; exact sense_tells a b sum wide full w ha hb hs hw hf h g

end Go.Proofs.Ytibbilncigmleaa
