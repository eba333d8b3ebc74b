/- What the functions of package ram compute. -/
import Derived.Test.YtacelddnklnhpaaFix
import Derived.Deep.DeepCutAuto
import Derived.Lib.Hide
import Derived.LoopN
import Derived.BigQuiet
import Derived.Deep.QuietTactic
import Derived.StillTailTactics
namespace Go.Proofs.Ytacelddnklnhpaa
open Go.ChangeShapes Go.WideShapes Go.ChangeAt Go.RowKit
set_option linter.unusedVariables false

def ModesOk (m0 m1 m2 m3 : Int) : Prop := 0 ≤ m0 ∧ m0 ≤ 3 ∧ 0 ≤ m1 ∧ m1 ≤ 3 ∧ 0 ≤ m2 ∧ m2 ≤ 3 ∧ 0 ≤ m3 ∧ m3 ≤ 3
set_option maxHeartbeats 1000000 in
theorem ramRight_yes (m0 m1 m2 m3 : Int) (w : World) (h : ModesOk m0 m1 m2 m3) :
    Calls Try.prog 42 #[.agg #[.int .i64 m0, .int .i64 m1, .int .i64 m2, .int .i64 m3]] w fun e w' => e = .returned (.int .i64 0) ∧ Below w.heap.size w w' := by
  have ix0 : ∀ w : World, (Instr.index 52 (.agg #[.int .i64 m0, .int .i64 m1, .int .i64 m2, .int .i64 m3]) (.int .i64 0)).run Try.prog w = .ok (.int .i64 m0) w := fun _ => by kernel_rfl
  have ix1 : ∀ w : World, (Instr.index 52 (.agg #[.int .i64 m0, .int .i64 m1, .int .i64 m2, .int .i64 m3]) (.int .i64 1)).run Try.prog w = .ok (.int .i64 m1) w := fun _ => by kernel_rfl
  have ix2 : ∀ w : World, (Instr.index 52 (.agg #[.int .i64 m0, .int .i64 m1, .int .i64 m2, .int .i64 m3]) (.int .i64 2)).run Try.prog w = .ok (.int .i64 m2) w := fun _ => by kernel_rfl
  have ix3 : ∀ w : World, (Instr.index 52 (.agg #[.int .i64 m0, .int .i64 m1, .int .i64 m2, .int .i64 m3]) (.int .i64 3)).run Try.prog w = .ok (.int .i64 m3) w := fun _ => by kernel_rfl
  obtain ⟨d0, e0, d1, e1, d2, e2, d3, e3⟩ : decide (m0 < 0) = false ∧ decide (3 < m0) = false ∧ decide (m1 < 0) = false ∧ decide (3 < m1) = false ∧ decide (m2 < 0) = false ∧ decide (3 < m2) = false ∧ decide (m3 < 0) = false ∧ decide (3 < m3) = false := by
    simp only [decide_eq_false_iff_not]; unfold ModesOk at h; omega
  clear h
  go_enter Try.func42, Try.ntmps42
  go_wp2
  refine wp_loop_rounds 5 ?_
  rw [rounds_succ]; go_wp2
  rw [rounds_succ]; go_wp2
  rw [rounds_succ]; go_wp2
  rw [rounds_succ]; go_wp2
  rw [rounds_succ]; go_wp2
  go_ret
  exact ⟨rfl, (Below.refl _ _).alloc (Nat.le_refl _) _⟩
set_option maxHeartbeats 1000000 in
theorem ramRight_no (m0 m1 m2 m3 : Int) (w : World) (h : ¬ ModesOk m0 m1 m2 m3) :
    Calls Try.prog 42 #[.agg #[.int .i64 m0, .int .i64 m1, .int .i64 m2, .int .i64 m3]] w fun e w' => e = .returned (.int .i64 1) ∧ Below w.heap.size w w' := by
  have ix0 : ∀ w : World, (Instr.index 52 (.agg #[.int .i64 m0, .int .i64 m1, .int .i64 m2, .int .i64 m3]) (.int .i64 0)).run Try.prog w = .ok (.int .i64 m0) w := fun _ => by kernel_rfl
  have ix1 : ∀ w : World, (Instr.index 52 (.agg #[.int .i64 m0, .int .i64 m1, .int .i64 m2, .int .i64 m3]) (.int .i64 1)).run Try.prog w = .ok (.int .i64 m1) w := fun _ => by kernel_rfl
  have ix2 : ∀ w : World, (Instr.index 52 (.agg #[.int .i64 m0, .int .i64 m1, .int .i64 m2, .int .i64 m3]) (.int .i64 2)).run Try.prog w = .ok (.int .i64 m2) w := fun _ => by kernel_rfl
  have ix3 : ∀ w : World, (Instr.index 52 (.agg #[.int .i64 m0, .int .i64 m1, .int .i64 m2, .int .i64 m3]) (.int .i64 3)).run Try.prog w = .ok (.int .i64 m3) w := fun _ => by kernel_rfl
  have h' : decide (m0 < 0) = true ∨ (decide (m0 < 0) = false ∧ decide (3 < m0) = true) ∨ (decide (m0 < 0) = false ∧ decide (3 < m0) = false ∧ decide (m1 < 0) = true) ∨ (decide (m0 < 0) = false ∧ decide (3 < m0) = false ∧ decide (m1 < 0) = false ∧ decide (3 < m1) = true) ∨
      (decide (m0 < 0) = false ∧ decide (3 < m0) = false ∧ decide (m1 < 0) = false ∧ decide (3 < m1) = false ∧ decide (m2 < 0) = true) ∨ (decide (m0 < 0) = false ∧ decide (3 < m0) = false ∧ decide (m1 < 0) = false ∧ decide (3 < m1) = false ∧ decide (m2 < 0) = false ∧ decide (3 < m2) = true) ∨
      (decide (m0 < 0) = false ∧ decide (3 < m0) = false ∧ decide (m1 < 0) = false ∧ decide (3 < m1) = false ∧ decide (m2 < 0) = false ∧ decide (3 < m2) = false ∧ decide (m3 < 0) = true) ∨
      (decide (m0 < 0) = false ∧ decide (3 < m0) = false ∧ decide (m1 < 0) = false ∧ decide (3 < m1) = false ∧ decide (m2 < 0) = false ∧ decide (3 < m2) = false ∧ decide (m3 < 0) = false ∧ decide (3 < m3) = true) := by
    simp only [decide_eq_false_iff_not, decide_eq_true_eq]; unfold ModesOk at h; omega
  clear h
  rcases h' with h | ⟨h1, h⟩ | ⟨h1, h2, h⟩ | ⟨h1, h2, h3, h⟩ | ⟨h1, h2, h3, h4, h⟩ | ⟨h1, h2, h3, h4, h5, h⟩ | ⟨h1, h2, h3, h4, h5, h6, h⟩ | ⟨h1, h2, h3, h4, h5, h6, h7, h⟩
  all_goals
    go_enter Try.func42, Try.ntmps42
    go_wp2
    refine wp_loop_rounds 5 ?_
    repeat (rw [rounds_succ]; go_wp2)
    go_ret
    exact ⟨rfl, (Below.refl _ _).alloc (Nat.le_refl _) _⟩

def actI (m p : Int) : Int := if m = 1 then p else 0
def fSum (m0 m1 m2 m3 p0 p1 p2 p3 : Int) : Nat → Int
  | 0 => 0
  | 1 => actI m0 p0
  | 2 => actI m0 p0 + actI m1 p1
  | 3 => actI m0 p0 + actI m1 p1 + actI m2 p2
  | _ => actI m0 p0 + actI m1 p1 + actI m2 p2 + actI m3 p3
def fMany (m0 m1 m2 m3 : Int) (k : Nat) : Int := fSum m0 m1 m2 m3 1 1 1 1 k
/-- how far a lane is from the mean of those that are active -/
def fightI (m0 m1 m2 m3 p0 p1 p2 p3 m p : Int) : Int := if m = 1 then sat32 (p - (fSum m0 m1 m2 m3 p0 p1 p2 p3 4).tdiv (fMany m0 m1 m2 m3 4)) else 0
theorem act_yes (m p : Int) (h : m = 1) : actI m p = p := if_pos h
theorem act_no (m p : Int) (h : m ≠ 1) : actI m p = 0 := if_neg h
theorem act_bd (m p : Int) (hp : -2147483648 ≤ p ∧ p ≤ 2147483647) : -2147483648 ≤ actI m p ∧ actI m p ≤ 2147483647 := by unfold actI; split <;> omega
theorem fSum_bd (m0 m1 m2 m3 p0 p1 p2 p3 : Int) (h0 : -2147483648 ≤ p0 ∧ p0 ≤ 2147483647) (h1 : -2147483648 ≤ p1 ∧ p1 ≤ 2147483647) (h2 : -2147483648 ≤ p2 ∧ p2 ≤ 2147483647) (h3 : -2147483648 ≤ p3 ∧ p3 ≤ 2147483647) (k : Nat) :
    -8589934592 ≤ fSum m0 m1 m2 m3 p0 p1 p2 p3 k ∧ fSum m0 m1 m2 m3 p0 p1 p2 p3 k ≤ 8589934592 := by
  have a0 := act_bd m0 p0 h0; have a1 := act_bd m1 p1 h1; have a2 := act_bd m2 p2 h2; have a3 := act_bd m3 p3 h3
  unfold fSum; split <;> omega
theorem act_one (m : Int) : 0 ≤ actI m 1 ∧ actI m 1 ≤ 1 ∧ (m = 1 → actI m 1 = 1) := by unfold actI; split <;> omega
theorem fMany_bd (m0 m1 m2 m3 : Int) (k : Nat) : 0 ≤ fMany m0 m1 m2 m3 k ∧ fMany m0 m1 m2 m3 k ≤ 4 := by
  have a0 := act_one m0; have a1 := act_one m1; have a2 := act_one m2; have a3 := act_one m3
  unfold fMany fSum; split <;> omega
theorem fMany_pos (m0 m1 m2 m3 : Int) : (m0 = 1 ∨ m1 = 1 ∨ m2 = 1 ∨ m3 = 1) → 1 ≤ fMany m0 m1 m2 m3 4 := by
  have a0 := act_one m0; have a1 := act_one m1; have a2 := act_one m2; have a3 := act_one m3
  simp only [fMany, fSum]; omega
set_option maxHeartbeats 4000000 in
set_option maxRecDepth 100000 in
theorem fight_yes (p0 p1 p2 p3 m0 m1 m2 m3 : Int) (w : World) (h : ModesOk m0 m1 m2 m3)
    (h0 : -2147483648 ≤ p0 ∧ p0 ≤ 2147483647) (h1 : -2147483648 ≤ p1 ∧ p1 ≤ 2147483647) (h2 : -2147483648 ≤ p2 ∧ p2 ≤ 2147483647) (h3 : -2147483648 ≤ p3 ∧ p3 ≤ 2147483647) :
    Calls Try.prog 21 #[.agg #[.int .i32 p0, .int .i32 p1, .int .i32 p2, .int .i32 p3], .agg #[.int .i64 m0, .int .i64 m1, .int .i64 m2, .int .i64 m3]] w
      fun e w' => e = .returned (.tuple #[.agg #[.int .i32 (fightI m0 m1 m2 m3 p0 p1 p2 p3 m0 p0), .int .i32 (fightI m0 m1 m2 m3 p0 p1 p2 p3 m1 p1), .int .i32 (fightI m0 m1 m2 m3 p0 p1 p2 p3 m2 p2), .int .i32 (fightI m0 m1 m2 m3 p0 p1 p2 p3 m3 p3)], .int .i64 0]) ∧ Below w.heap.size w w' := by
  have ix0 : ∀ w : World, (Instr.index 52 (.agg #[.int .i64 m0, .int .i64 m1, .int .i64 m2, .int .i64 m3]) (.int .i64 0)).run Try.prog w = .ok (.int .i64 m0) w := fun _ => by kernel_rfl
  have ix1 : ∀ w : World, (Instr.index 52 (.agg #[.int .i64 m0, .int .i64 m1, .int .i64 m2, .int .i64 m3]) (.int .i64 1)).run Try.prog w = .ok (.int .i64 m1) w := fun _ => by kernel_rfl
  have ix2 : ∀ w : World, (Instr.index 52 (.agg #[.int .i64 m0, .int .i64 m1, .int .i64 m2, .int .i64 m3]) (.int .i64 2)).run Try.prog w = .ok (.int .i64 m2) w := fun _ => by kernel_rfl
  have ix3 : ∀ w : World, (Instr.index 52 (.agg #[.int .i64 m0, .int .i64 m1, .int .i64 m2, .int .i64 m3]) (.int .i64 3)).run Try.prog w = .ok (.int .i64 m3) w := fun _ => by kernel_rfl
  have H := Lib.hid h
  have a0 := act_bd m0 p0 h0; have a1 := act_bd m1 p1 h1; have a2 := act_bd m2 p2 h2; have a3 := act_bd m3 p3 h3
  have b0 := act_bd m0 1 (by omega); have b1 := act_bd m1 1 (by omega); have b2 := act_bd m2 1 (by omega); have b3 := act_bd m3 1 (by omega)
  obtain ⟨o0, O0⟩ : ∃ o, o = fightI m0 m1 m2 m3 p0 p1 p2 p3 m0 p0 := ⟨_, rfl⟩
  obtain ⟨o1, O1⟩ : ∃ o, o = fightI m0 m1 m2 m3 p0 p1 p2 p3 m1 p1 := ⟨_, rfl⟩
  obtain ⟨o2, O2⟩ : ∃ o, o = fightI m0 m1 m2 m3 p0 p1 p2 p3 m2 p2 := ⟨_, rfl⟩
  obtain ⟨o3, O3⟩ : ∃ o, o = fightI m0 m1 m2 m3 p0 p1 p2 p3 m3 p3 := ⟨_, rfl⟩
  rw [← O0, ← O1, ← O2, ← O3]
  unfold fightI at O0 O1 O2 O3
  have P0 := Lib.hid O0; have P1 := Lib.hid O1; have P2 := Lib.hid O2; have P3 := Lib.hid O3
  clear h O0 O1 O2 O3
  go_enter Try.func21, Try.ntmps21
  go_wp2_with fail
  refine (ramRight_yes _ _ _ _ _ H.out).mono ?_
  rintro e w1 ⟨rfl, hb⟩
  have hz := hb.size
  obtain ⟨hc, hf⟩ := Open.bcell hb
  simp at hz
  go_wp2
  go_loop [8, 9, 21] (fun s n i => ∃ k : Nat, k ≤ 4 ∧ i = .int .i64 k ∧ s = .int .i64 (fSum m0 m1 m2 m3 p0 p1 p2 p3 k) ∧ n = .int .i64 (fMany m0 m1 m2 m3 k)) (fun _ _ i => 4 - (intOf i).toNat)
  case atStart => exact ⟨0, by omega, rfl, rfl, rfl⟩
  case round =>
    obtain ⟨k, hk, rfl, rfl, rfl⟩ := hrel
    rcases (by omega : k = 0 ∨ k = 1 ∨ k = 2 ∨ k = 3 ∨ k = 4) with rfl | rfl | rfl | rfl | rfl
    · cases hm : (m0 == 1)
      · have A := Lib.hid (act_no m0 p0 (by simpa using hm)); have B := Lib.hid (act_no m0 1 (by simpa using hm))
        go_wp2
        go_round
        case rel => exact ⟨1, by omega, rfl, by simp [fSum, A.out], by simp [fMany, fSum, B.out]⟩
        case measure => simp [intOf]
      · have A := Lib.hid (act_yes m0 p0 (by simpa using hm)); have B := Lib.hid (act_yes m0 1 (by simpa using hm))
        have C := fSum_bd m0 m1 m2 m3 p0 p1 p2 p3 h0 h1 h2 h3 0
        have D := fMany_bd m0 m1 m2 m3 0
        go_wp2
        go_round
        case rel => exact ⟨1, by omega, rfl, by simp [fSum, A.out], by simp [fMany, fSum, B.out]⟩
        case measure => simp [intOf]
    · cases hm : (m1 == 1)
      · have A := Lib.hid (act_no m1 p1 (by simpa using hm)); have B := Lib.hid (act_no m1 1 (by simpa using hm))
        go_wp2
        go_round
        case rel => exact ⟨2, by omega, rfl, by simp [fSum, A.out], by simp [fMany, fSum, B.out]⟩
        case measure => simp [intOf]
      · have A := Lib.hid (act_yes m1 p1 (by simpa using hm)); have B := Lib.hid (act_yes m1 1 (by simpa using hm))
        have C := fSum_bd m0 m1 m2 m3 p0 p1 p2 p3 h0 h1 h2 h3 1
        have D := fMany_bd m0 m1 m2 m3 1
        go_wp2
        go_round
        case rel => exact ⟨2, by omega, rfl, by simp [fSum, A.out], by simp [fMany, fSum, B.out]⟩
        case measure => simp [intOf]
    · cases hm : (m2 == 1)
      · have A := Lib.hid (act_no m2 p2 (by simpa using hm)); have B := Lib.hid (act_no m2 1 (by simpa using hm))
        go_wp2
        go_round
        case rel => exact ⟨3, by omega, rfl, by simp [fSum, A.out], by simp [fMany, fSum, B.out]⟩
        case measure => simp [intOf]
      · have A := Lib.hid (act_yes m2 p2 (by simpa using hm)); have B := Lib.hid (act_yes m2 1 (by simpa using hm))
        have C := fSum_bd m0 m1 m2 m3 p0 p1 p2 p3 h0 h1 h2 h3 2
        have D := fMany_bd m0 m1 m2 m3 2
        go_wp2
        go_round
        case rel => exact ⟨3, by omega, rfl, by simp [fSum, A.out], by simp [fMany, fSum, B.out]⟩
        case measure => simp [intOf]
    · cases hm : (m3 == 1)
      · have A := Lib.hid (act_no m3 p3 (by simpa using hm)); have B := Lib.hid (act_no m3 1 (by simpa using hm))
        go_wp2
        go_round
        case rel => exact ⟨4, by omega, rfl, by simp [fSum, A.out], by simp [fMany, fSum, B.out]⟩
        case measure => simp [intOf]
      · have A := Lib.hid (act_yes m3 p3 (by simpa using hm)); have B := Lib.hid (act_yes m3 1 (by simpa using hm))
        have C := fSum_bd m0 m1 m2 m3 p0 p1 p2 p3 h0 h1 h2 h3 3
        have D := fMany_bd m0 m1 m2 m3 3
        go_wp2
        go_round
        case rel => exact ⟨4, by omega, rfl, by simp [fSum, A.out], by simp [fMany, fSum, B.out]⟩
        case measure => simp [intOf]
    · have C := fSum_bd m0 m1 m2 m3 p0 p1 p2 p3 h0 h1 h2 h3 4
      have D := fMany_bd m0 m1 m2 m3 4
      have G := Lib.hid (fMany_pos m0 m1 m2 m3)
      generalize hS : fSum m0 m1 m2 m3 p0 p1 p2 p3 4 = S at C
      generalize hN : fMany m0 m1 m2 m3 4 = N at D G
      have HS := Lib.hid hS; have HN := Lib.hid hN
      rw [hS, hN] at P0 P1 P2 P3
      clear hS hN HS HN
      go_wp2
      go_loopw [37] (fun i wr => ∃ k : Nat, k ≤ 4 ∧ i = .int .i64 k ∧ Below w.heap.size w wr ∧ w.heap.size + 1 + 1 + 1 < wr.heap.size ∧
        wr.cell? ⟨w.heap.size, 0, none⟩ = some (.int .i32 p0) ∧ wr.cell? ⟨w.heap.size, 1, none⟩ = some (.int .i32 p1) ∧ wr.cell? ⟨w.heap.size, 2, none⟩ = some (.int .i32 p2) ∧ wr.cell? ⟨w.heap.size, 3, none⟩ = some (.int .i32 p3) ∧
        wr.cell? ⟨w.heap.size + 1 + 1 + 1, 0, none⟩ = some (.int .i32 (if 0 < k then o0 else 0)) ∧ wr.cell? ⟨w.heap.size + 1 + 1 + 1, 1, none⟩ = some (.int .i32 (if 1 < k then o1 else 0)) ∧ wr.cell? ⟨w.heap.size + 1 + 1 + 1, 2, none⟩ = some (.int .i32 (if 2 < k then o2 else 0)) ∧ wr.cell? ⟨w.heap.size + 1 + 1 + 1, 3, none⟩ = some (.int .i32 (if 3 < k then o3 else 0)) ∧
        wr.cell? ⟨w.heap.size + 1 + 1, 0, none⟩ = some (.int .i32 0) ∧ wr.cell? ⟨w.heap.size + 1 + 1, 1, none⟩ = some (.int .i32 0) ∧ wr.cell? ⟨w.heap.size + 1 + 1, 2, none⟩ = some (.int .i32 0) ∧ wr.cell? ⟨w.heap.size + 1 + 1, 3, none⟩ = some (.int .i32 0) ∧
        (∀ o, wr.frozen? ⟨w.heap.size + 1 + 1 + 1, o, none⟩ = false) ∧ (∀ o, wr.frozen? ⟨w.heap.size + 1 + 1, o, none⟩ = false)) (fun i _ => 4 - (intOf i).toNat)
      case atStart =>
        refine ⟨0, by omega, rfl, ?_, by omega, ?_, ?_, ?_, ?_, ?_, ?_, ?_, ?_, ?_, ?_, ?_, ?_, ?_, ?_⟩
        · repeat (first | with_reducible exact Below.refl _ _ | ((with_reducible refine Below.setCell ?_ ?_ _); rotate_left; (· first | (simp; done) | omega | (simp; omega))) | with_reducible refine below_drewN ?_ _ | with_reducible refine Below.drew ?_ | ((with_reducible refine Below.trans ?_ (Below.mono hb ?_)); rotate_left; (· first | (simp; done) | omega | (simp; omega))) | ((with_reducible refine Below.alloc ?_ ?_ _); rotate_left; (· first | (simp; done) | omega | (simp; omega))) | exact Below.refl _ _ | refine Below.setCell ?_ (by first | (simp; done) | omega | (simp; omega)) _ | refine below_drewN ?_ _ | refine Below.drew ?_ | refine Below.trans ?_ (Below.mono hb (by first | (simp; done) | omega | (simp; omega))) | refine Below.alloc ?_ (by first | (simp; done) | omega | (simp; omega)) _)
        iterate 12 (rw [hc _ _ (by simp; try omega)]; go_simp)
        · intro o; rw [hf _ _ (by simp; try omega)]; go_simp
        · intro o; rw [hf _ _ (by simp; try omega)]; go_simp
      case round =>
        clear hb hc hf hz
        obtain ⟨k, hk, rfl, hB, hsz, q0, q1, q2, q3, c0, c1, c2, c3, r0, r1, r2, r3, f1, f2⟩ := hrel
        rcases (by omega : k = 0 ∨ k = 1 ∨ k = 2 ∨ k = 3 ∨ k = 4) with rfl | rfl | rfl | rfl | rfl
        · change wr.cell? _ = some (.int .i32 0) at c0
          change wr.cell? _ = some (.int .i32 0) at c1
          change wr.cell? _ = some (.int .i32 0) at c2
          change wr.cell? _ = some (.int .i32 0) at c3
          cases hm : (m0 == 1)
          · obtain rfl : o0 = 0 := by rw [P0.out, if_neg (by simpa using hm)]
            go_wp2
            go_roundw
            case rel => exact ⟨1, by omega, rfl, hB, hsz, q0, q1, q2, q3, c0, c1, c2, c3, r0, r1, r2, r3, f1, f2⟩
            case measure => simp [intOf]
          · have hpos := G.out (by have := eq_of_beq hm; omega)
            have E := Lib.hid (show sat32 (p0 - S.tdiv N) = o0 by rw [P0.out, if_pos (by simpa using hm)])
            have hd := tdiv_bd S N
            unfold absI at hd
            go_wp2
            have hne : N ≠ 0 := by omega
            have hw1 := IntWalk.i64_in (S.tdiv N) (by omega)
            have hw0 := IntWalk.i64_in p0 (by omega)
            have hw2 := IntWalk.i64_in (p0 - S.tdiv N) (by omega)
            refine wp_region_still_tail 11 (by kernel_rfl) (by kernel_rfl) ?_
            simp only [List.take_succ_cons, List.take_zero, List.drop_succ_cons, List.drop_zero]
            repeat still_step
            still_call (stillL (to32_any _ _))
            repeat still_step
            refine wpStill_nil ?_
            change wpList _ _ _ _ _ wr.drew
            clear hw0 hw1 hw2 hne
            go_wp2
            go_roundw
            case rel =>
              refine ⟨1, by omega, rfl, ?_, by simpa using hsz, ?_, ?_, ?_, ?_, ?_, ?_, ?_, ?_, ?_, ?_, ?_, ?_, ?_, ?_⟩
              · repeat (first | with_reducible exact Below.refl _ _ | with_reducible exact hB | ((with_reducible refine Below.setCell ?_ ?_ _); rotate_left; (· first | (simp; done) | omega | (simp; omega))) | with_reducible refine below_drewN ?_ _ | with_reducible refine Below.drew ?_ | ((with_reducible refine Below.alloc ?_ ?_ _); rotate_left; (· first | (simp; done) | omega | (simp; omega))) | exact Below.refl _ _ | exact hB | refine Below.setCell ?_ (by first | (simp; done) | omega | (simp; omega)) _ | refine below_drewN ?_ _ | refine Below.drew ?_ | refine Below.alloc ?_ (by first | (simp; done) | omega | (simp; omega)) _)
              iterate 4 (go_simp)
              · change _ = some (Value.int .i32 o0); rw [E.out]; go_simp
              · change _ = some (Value.int .i32 0); rw [E.out]; go_simp
              · change _ = some (Value.int .i32 0); rw [E.out]; go_simp
              · change _ = some (Value.int .i32 0); rw [E.out]; go_simp
              iterate 4 (go_simp)
              · intro o; go_simp
              · intro o; go_simp
            case measure => simp [intOf]
        · change wr.cell? _ = some (.int .i32 o0) at c0
          change wr.cell? _ = some (.int .i32 0) at c1
          change wr.cell? _ = some (.int .i32 0) at c2
          change wr.cell? _ = some (.int .i32 0) at c3
          cases hm : (m1 == 1)
          · obtain rfl : o1 = 0 := by rw [P1.out, if_neg (by simpa using hm)]
            go_wp2
            go_roundw
            case rel => exact ⟨2, by omega, rfl, hB, hsz, q0, q1, q2, q3, c0, c1, c2, c3, r0, r1, r2, r3, f1, f2⟩
            case measure => simp [intOf]
          · have hpos := G.out (by have := eq_of_beq hm; omega)
            have E := Lib.hid (show sat32 (p1 - S.tdiv N) = o1 by rw [P1.out, if_pos (by simpa using hm)])
            have hd := tdiv_bd S N
            unfold absI at hd
            go_wp2
            have hne : N ≠ 0 := by omega
            have hw1 := IntWalk.i64_in (S.tdiv N) (by omega)
            have hw0 := IntWalk.i64_in p1 (by omega)
            have hw2 := IntWalk.i64_in (p1 - S.tdiv N) (by omega)
            refine wp_region_still_tail 11 (by kernel_rfl) (by kernel_rfl) ?_
            simp only [List.take_succ_cons, List.take_zero, List.drop_succ_cons, List.drop_zero]
            repeat still_step
            still_call (stillL (to32_any _ _))
            repeat still_step
            refine wpStill_nil ?_
            change wpList _ _ _ _ _ wr.drew
            clear hw0 hw1 hw2 hne
            go_wp2
            go_roundw
            case rel =>
              refine ⟨2, by omega, rfl, ?_, by simpa using hsz, ?_, ?_, ?_, ?_, ?_, ?_, ?_, ?_, ?_, ?_, ?_, ?_, ?_, ?_⟩
              · repeat (first | with_reducible exact Below.refl _ _ | with_reducible exact hB | ((with_reducible refine Below.setCell ?_ ?_ _); rotate_left; (· first | (simp; done) | omega | (simp; omega))) | with_reducible refine below_drewN ?_ _ | with_reducible refine Below.drew ?_ | ((with_reducible refine Below.alloc ?_ ?_ _); rotate_left; (· first | (simp; done) | omega | (simp; omega))) | exact Below.refl _ _ | exact hB | refine Below.setCell ?_ (by first | (simp; done) | omega | (simp; omega)) _ | refine below_drewN ?_ _ | refine Below.drew ?_ | refine Below.alloc ?_ (by first | (simp; done) | omega | (simp; omega)) _)
              iterate 4 (go_simp)
              · change _ = some (Value.int .i32 o0); rw [E.out]; go_simp
              · change _ = some (Value.int .i32 o1); rw [E.out]; go_simp
              · change _ = some (Value.int .i32 0); rw [E.out]; go_simp
              · change _ = some (Value.int .i32 0); rw [E.out]; go_simp
              iterate 4 (go_simp)
              · intro o; go_simp
              · intro o; go_simp
            case measure => simp [intOf]
        · change wr.cell? _ = some (.int .i32 o0) at c0
          change wr.cell? _ = some (.int .i32 o1) at c1
          change wr.cell? _ = some (.int .i32 0) at c2
          change wr.cell? _ = some (.int .i32 0) at c3
          cases hm : (m2 == 1)
          · obtain rfl : o2 = 0 := by rw [P2.out, if_neg (by simpa using hm)]
            go_wp2
            go_roundw
            case rel => exact ⟨3, by omega, rfl, hB, hsz, q0, q1, q2, q3, c0, c1, c2, c3, r0, r1, r2, r3, f1, f2⟩
            case measure => simp [intOf]
          · have hpos := G.out (by have := eq_of_beq hm; omega)
            have E := Lib.hid (show sat32 (p2 - S.tdiv N) = o2 by rw [P2.out, if_pos (by simpa using hm)])
            have hd := tdiv_bd S N
            unfold absI at hd
            go_wp2
            have hne : N ≠ 0 := by omega
            have hw1 := IntWalk.i64_in (S.tdiv N) (by omega)
            have hw0 := IntWalk.i64_in p2 (by omega)
            have hw2 := IntWalk.i64_in (p2 - S.tdiv N) (by omega)
            refine wp_region_still_tail 11 (by kernel_rfl) (by kernel_rfl) ?_
            simp only [List.take_succ_cons, List.take_zero, List.drop_succ_cons, List.drop_zero]
            repeat still_step
            still_call (stillL (to32_any _ _))
            repeat still_step
            refine wpStill_nil ?_
            change wpList _ _ _ _ _ wr.drew
            clear hw0 hw1 hw2 hne
            go_wp2
            go_roundw
            case rel =>
              refine ⟨3, by omega, rfl, ?_, by simpa using hsz, ?_, ?_, ?_, ?_, ?_, ?_, ?_, ?_, ?_, ?_, ?_, ?_, ?_, ?_⟩
              · repeat (first | with_reducible exact Below.refl _ _ | with_reducible exact hB | ((with_reducible refine Below.setCell ?_ ?_ _); rotate_left; (· first | (simp; done) | omega | (simp; omega))) | with_reducible refine below_drewN ?_ _ | with_reducible refine Below.drew ?_ | ((with_reducible refine Below.alloc ?_ ?_ _); rotate_left; (· first | (simp; done) | omega | (simp; omega))) | exact Below.refl _ _ | exact hB | refine Below.setCell ?_ (by first | (simp; done) | omega | (simp; omega)) _ | refine below_drewN ?_ _ | refine Below.drew ?_ | refine Below.alloc ?_ (by first | (simp; done) | omega | (simp; omega)) _)
              iterate 4 (go_simp)
              · change _ = some (Value.int .i32 o0); rw [E.out]; go_simp
              · change _ = some (Value.int .i32 o1); rw [E.out]; go_simp
              · change _ = some (Value.int .i32 o2); rw [E.out]; go_simp
              · change _ = some (Value.int .i32 0); rw [E.out]; go_simp
              iterate 4 (go_simp)
              · intro o; go_simp
              · intro o; go_simp
            case measure => simp [intOf]
        · change wr.cell? _ = some (.int .i32 o0) at c0
          change wr.cell? _ = some (.int .i32 o1) at c1
          change wr.cell? _ = some (.int .i32 o2) at c2
          change wr.cell? _ = some (.int .i32 0) at c3
          cases hm : (m3 == 1)
          · obtain rfl : o3 = 0 := by rw [P3.out, if_neg (by simpa using hm)]
            go_wp2
            go_roundw
            case rel => exact ⟨4, by omega, rfl, hB, hsz, q0, q1, q2, q3, c0, c1, c2, c3, r0, r1, r2, r3, f1, f2⟩
            case measure => simp [intOf]
          · have hpos := G.out (by have := eq_of_beq hm; omega)
            have E := Lib.hid (show sat32 (p3 - S.tdiv N) = o3 by rw [P3.out, if_pos (by simpa using hm)])
            have hd := tdiv_bd S N
            unfold absI at hd
            go_wp2
            have hne : N ≠ 0 := by omega
            have hw1 := IntWalk.i64_in (S.tdiv N) (by omega)
            have hw0 := IntWalk.i64_in p3 (by omega)
            have hw2 := IntWalk.i64_in (p3 - S.tdiv N) (by omega)
            refine wp_region_still_tail 11 (by kernel_rfl) (by kernel_rfl) ?_
            simp only [List.take_succ_cons, List.take_zero, List.drop_succ_cons, List.drop_zero]
            repeat still_step
            still_call (stillL (to32_any _ _))
            repeat still_step
            refine wpStill_nil ?_
            change wpList _ _ _ _ _ wr.drew
            clear hw0 hw1 hw2 hne
            go_wp2
            go_roundw
            case rel =>
              refine ⟨4, by omega, rfl, ?_, by simpa using hsz, ?_, ?_, ?_, ?_, ?_, ?_, ?_, ?_, ?_, ?_, ?_, ?_, ?_, ?_⟩
              · repeat (first | with_reducible exact Below.refl _ _ | with_reducible exact hB | ((with_reducible refine Below.setCell ?_ ?_ _); rotate_left; (· first | (simp; done) | omega | (simp; omega))) | with_reducible refine below_drewN ?_ _ | with_reducible refine Below.drew ?_ | ((with_reducible refine Below.alloc ?_ ?_ _); rotate_left; (· first | (simp; done) | omega | (simp; omega))) | exact Below.refl _ _ | exact hB | refine Below.setCell ?_ (by first | (simp; done) | omega | (simp; omega)) _ | refine below_drewN ?_ _ | refine Below.drew ?_ | refine Below.alloc ?_ (by first | (simp; done) | omega | (simp; omega)) _)
              iterate 4 (go_simp)
              · change _ = some (Value.int .i32 o0); rw [E.out]; go_simp
              · change _ = some (Value.int .i32 o1); rw [E.out]; go_simp
              · change _ = some (Value.int .i32 o2); rw [E.out]; go_simp
              · change _ = some (Value.int .i32 o3); rw [E.out]; go_simp
              iterate 4 (go_simp)
              · intro o; go_simp
              · intro o; go_simp
            case measure => simp [intOf]
        · change wr.cell? _ = some (.int .i32 o0) at c0
          change wr.cell? _ = some (.int .i32 o1) at c1
          change wr.cell? _ = some (.int .i32 o2) at c2
          change wr.cell? _ = some (.int .i32 o3) at c3
          go_wp2
          refine bodyPost_ret (v := .tuple #[.agg #[.int .i32 o0, .int .i32 o1, .int .i32 o2, .int .i32 o3], .int .i64 0]) (by simp [results, Try.results21, go_sem, r0, r1, r2, r3]) rfl ⟨rfl, ?_⟩
          repeat (first | with_reducible exact Below.refl _ _ | with_reducible exact hB | ((with_reducible refine Below.setCell ?_ ?_ _); rotate_left; (· first | (simp; done) | omega | (simp; omega))) | with_reducible refine below_drewN ?_ _ | with_reducible refine Below.drew ?_ | ((with_reducible refine Below.alloc ?_ ?_ _); rotate_left; (· first | (simp; done) | omega | (simp; omega))) | exact Below.refl _ _ | exact hB | refine Below.setCell ?_ (by first | (simp; done) | omega | (simp; omega)) _ | refine below_drewN ?_ _ | refine Below.drew ?_ | refine Below.alloc ?_ (by first | (simp; done) | omega | (simp; omega)) _)
set_option maxHeartbeats 1000000 in
theorem fight_no (p0 p1 p2 p3 m0 m1 m2 m3 : Int) (w : World) (h : ¬ ModesOk m0 m1 m2 m3) :
    Calls Try.prog 21 #[.agg #[.int .i32 p0, .int .i32 p1, .int .i32 p2, .int .i32 p3], .agg #[.int .i64 m0, .int .i64 m1, .int .i64 m2, .int .i64 m3]] w
      fun e w' => e = .returned (.tuple #[.agg #[.int .i32 0, .int .i32 0, .int .i32 0, .int .i32 0], .int .i64 1]) ∧ Below w.heap.size w w' := by
  have H := Lib.hid h
  clear h
  go_enter Try.func21, Try.ntmps21
  go_wp2_with fail
  refine (ramRight_no _ _ _ _ _ H.out).mono ?_
  rintro e w1 ⟨rfl, hb⟩
  have hz := hb.size
  obtain ⟨hc, hf⟩ := Open.bcell hb
  simp at hz
  go_wp2
  refine bodyPost_ret (v := .tuple #[.agg #[.int .i32 0, .int .i32 0, .int .i32 0, .int .i32 0], .int .i64 1]) (by simp [results, Try.results21, go_sem, hc]) rfl ⟨rfl, ?_⟩
  repeat (first | with_reducible exact Below.refl _ _ | ((with_reducible refine Below.setCell ?_ ?_ _); rotate_left; (· first | (simp; done) | omega | (simp; omega))) | with_reducible refine below_drewN ?_ _ | with_reducible refine Below.drew ?_ | ((with_reducible refine Below.trans ?_ (Below.mono hb ?_)); rotate_left; (· first | (simp; done) | omega | (simp; omega))) | ((with_reducible refine Below.alloc ?_ ?_ _); rotate_left; (· first | (simp; done) | omega | (simp; omega))) | exact Below.refl _ _ | refine Below.setCell ?_ (by first | (simp; done) | omega | (simp; omega)) _ | refine below_drewN ?_ _ | refine Below.drew ?_ | refine Below.trans ?_ (Below.mono hb (by first | (simp; done) | omega | (simp; omega))) | refine Below.alloc ?_ (by first | (simp; done) | omega | (simp; omega)) _)

end Go.Proofs.Ytacelddnklnhpaa
