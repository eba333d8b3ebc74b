/- What the functions of package count compute. -/
import Derived.Test.YtacelddnklnhpaaOpen
import Derived.Test.YtacelddnklnhpaaNum
import Derived.WalkLawsBesides
import Derived.Deep.DeepCutAuto
import Derived.Lib.Hide
import Derived.BigQuiet
import Derived.Deep.QuietTactic
namespace Go.Proofs.Ytacelddnklnhpaa
open Go.ChangeShapes Go.WideShapes Go.ChangeAt Go.RowKit
set_option linter.unusedVariables false

def CountOk (up down most n : Int) : Prop := 1 ≤ up ∧ up ≤ 1000 ∧ 0 ≤ down ∧ down ≤ 1000 ∧ 1 ≤ most ∧ most ≤ 1000 ∧ 0 ≤ n ∧ n ≤ most
theorem countCheck_yes (up down most n : Int) (set : Bool) (w : World) (h : CountOk up down most n) :
    Calls Try.prog 63 #[.agg #[.int .i64 up, .int .i64 down, .int .i64 most], .agg #[.int .i64 n, .bool set]] w fun e w' => e = .returned (.int .i64 0) ∧ Below w.heap.size w w' := by
  obtain ⟨d0, d1, d2, d3, d4, d5, d6, d7⟩ : decide (up < 1) = false ∧ decide (1000 < up) = false ∧ decide (down < 0) = false ∧ decide (1000 < down) = false ∧ decide (most < 1) = false ∧ decide (1000 < most) = false ∧ decide (n < 0) = false ∧ decide (most < n) = false := by
    obtain ⟨g0, g1, g2, g3, g4, g5, g6, g7⟩ := h
    exact ⟨decide_eq_false (by omega), decide_eq_false (by omega), decide_eq_false (by omega), decide_eq_false (by omega), decide_eq_false (by omega), decide_eq_false (by omega), decide_eq_false (by omega), decide_eq_false (by omega)⟩
  go_enter Try.func63, Try.ntmps63
  go_wp2
  go_ret
  exact ⟨rfl, (((Below.refl _ _).alloc (Nat.le_refl _) _).alloc (by simp) _)⟩
set_option maxHeartbeats 1000000 in
theorem countCheck_no (up down most n : Int) (set : Bool) (w : World) (h : ¬ CountOk up down most n) :
    Calls Try.prog 63 #[.agg #[.int .i64 up, .int .i64 down, .int .i64 most], .agg #[.int .i64 n, .bool set]] w fun e w' => e = .returned (.int .i64 1) ∧ Below w.heap.size w w' := by
  have h' : (decide (up < 1) = true) ∨ (decide (up < 1) = false ∧ decide (1000 < up) = true) ∨ (decide (up < 1) = false ∧ decide (1000 < up) = false ∧ decide (down < 0) = true) ∨ (decide (up < 1) = false ∧ decide (1000 < up) = false ∧ decide (down < 0) = false ∧ decide (1000 < down) = true) ∨ (decide (up < 1) = false ∧ decide (1000 < up) = false ∧ decide (down < 0) = false ∧ decide (1000 < down) = false ∧ decide (most < 1) = true) ∨ (decide (up < 1) = false ∧ decide (1000 < up) = false ∧ decide (down < 0) = false ∧ decide (1000 < down) = false ∧ decide (most < 1) = false ∧ decide (1000 < most) = true) ∨ (decide (up < 1) = false ∧ decide (1000 < up) = false ∧ decide (down < 0) = false ∧ decide (1000 < down) = false ∧ decide (most < 1) = false ∧ decide (1000 < most) = false ∧ decide (n < 0) = true) ∨ (decide (up < 1) = false ∧ decide (1000 < up) = false ∧ decide (down < 0) = false ∧ decide (1000 < down) = false ∧ decide (most < 1) = false ∧ decide (1000 < most) = false ∧ decide (n < 0) = false ∧ decide (most < n) = true) := by simp only [decide_eq_false_iff_not, decide_eq_true_eq]; unfold CountOk at h; omega
  clear h
  rcases h' with g0 | ⟨g0, g1⟩ | ⟨g0, g1, g2⟩ | ⟨g0, g1, g2, g3⟩ | ⟨g0, g1, g2, g3, g4⟩ | ⟨g0, g1, g2, g3, g4, g5⟩ | ⟨g0, g1, g2, g3, g4, g5, g6⟩ | ⟨g0, g1, g2, g3, g4, g5, g6, g7⟩
  all_goals
    go_enter Try.func63, Try.ntmps63
    go_wp2
    go_ret
    exact ⟨rfl, (((Below.refl _ _).alloc (Nat.le_refl _) _).alloc (by simp) _)⟩

def cntN (up down most n : Int) (bad : Bool) : Int := if bad then min most (n + up) else max 0 (n - down)
def cntS (up down most n : Int) (set bad : Bool) : Bool := set || (cntN up down most n bad == most)
set_option maxHeartbeats 2000000 in
theorem countStep_yes (up down most n n' : Int) (set set' bad : Bool) (w : World) (h : CountOk up down most n) (hn : cntN up down most n bad = n') (hs : cntS up down most n set bad = set') :
    Calls Try.prog 53 #[.agg #[.int .i64 up, .int .i64 down, .int .i64 most], .agg #[.int .i64 n, .bool set], .bool bad] w fun e w' => e = .returned (.tuple #[.agg #[.int .i64 n', .bool set'], .int .i64 0]) ∧ Below w.heap.size w w' := by
  have H := Lib.hid h
  obtain ⟨b0, b1, b2, b3, b4, b5, b6, b7⟩ := h
  have hs2 : (set || (n' == most)) = set' := by rw [← hs, ← hn]; rfl
  have HS := Lib.hid hs2
  clear hs hs2
  have hn2 : (bad = true ∧ most < n + up ∧ n' = most) ∨ (bad = true ∧ n + up ≤ most ∧ n' = n + up) ∨ (bad = false ∧ 0 < n - down ∧ n' = n - down) ∨ (bad = false ∧ n - down ≤ 0 ∧ n' = 0) := by
    rw [← hn]; unfold cntN; cases bad <;> simp <;> omega
  clear hn
  rcases hn2 with ⟨rfl, g, rfl⟩ | ⟨rfl, g, rfl⟩ | ⟨rfl, g, rfl⟩ | ⟨rfl, g, rfl⟩
  all_goals
    cases set
    all_goals
      go_enter Try.func53, Try.ntmps53
      go_wp2_with fail
      refine (countCheck_yes _ _ _ _ _ _ H.out).mono ?_
      rintro e w1 ⟨rfl, hb⟩
      have hz := hb.size
      obtain ⟨hc, hf⟩ := Open.bcell hb
      simp at hz
      go_wp2
      all_goals
        refine bodyPost_ret (v := .tuple #[.agg #[.int .i64 _, .bool set'], .int .i64 0]) (by rw [← HS.out]; simp [results, Try.results53, go_sem, hc]; try omega) rfl ⟨rfl, ?_⟩
        repeat (first | exact Below.refl _ _ | refine Below.setCell ?_ (by simp; try omega) _ | refine Below.trans ?_ (Below.mono hb (by simp; try omega)) | refine Below.alloc ?_ (by simp; try omega) _)

end Go.Proofs.Ytacelddnklnhpaa
