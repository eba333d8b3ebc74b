/- What ram.Check and ram.Step compute. -/
import Derived.Test.YtacelddnklnhpaaRam
namespace Go.Proofs.Ytacelddnklnhpaa
open Go.ChangeShapes Go.WideShapes Go.ChangeAt Go.RowKit
set_option linter.unusedVariables false

def ramBad (gain drag low high pos : Int) : Prop := high < low ∨ pos < low ∨ high < pos ∨ gain < 0 ∨ drag < 0 ∨ 8 < drag
theorem ramCheck_yes (gain drag low high pos vel : Int) (w : World) (h : ¬ ramBad gain drag low high pos) :
    Calls Try.prog 44 #[.agg #[.int .i32 gain, .int .i64 drag, .int .i32 low, .int .i32 high], .agg #[.int .i32 pos, .int .i32 vel]] w fun e w' => e = .returned (.int .i64 0) ∧ Below w.heap.size w w' := by
  obtain ⟨d0, d1, d2, d3, d4, d5⟩ : decide (high < low) = false ∧ decide (pos < low) = false ∧ decide (high < pos) = false ∧ decide (gain < 0) = false ∧ decide (drag < 0) = false ∧ decide (8 < drag) = false := by
    simp only [decide_eq_false_iff_not]; unfold ramBad at h; omega
  clear h
  go_enter Try.func44, Try.ntmps44
  go_wp2
  go_ret
  refine ⟨rfl, ?_⟩
  repeat (first | with_reducible exact Below.refl _ _ | ((with_reducible refine Below.setCell ?_ ?_ _); rotate_left; (· first | (simp; done) | omega | (simp; omega))) | with_reducible refine below_drewN ?_ _ | with_reducible refine Below.drew ?_ | ((with_reducible refine Below.alloc ?_ ?_ _); rotate_left; (· first | (simp; done) | omega | (simp; omega))) | exact Below.refl _ _ | refine Below.setCell ?_ (by first | (simp; done) | omega | (simp; omega)) _ | refine below_drewN ?_ _ | refine Below.drew ?_ | refine Below.alloc ?_ (by first | (simp; done) | omega | (simp; omega)) _)
set_option maxHeartbeats 1000000 in
theorem ramCheck_no (gain drag low high pos vel : Int) (w : World) (h : ramBad gain drag low high pos) :
    Calls Try.prog 44 #[.agg #[.int .i32 gain, .int .i64 drag, .int .i32 low, .int .i32 high], .agg #[.int .i32 pos, .int .i32 vel]] w fun e w' => e = .returned (.int .i64 1) ∧ Below w.heap.size w w' := by
  have hsome : (decide (high < low) = true) ∨ (decide (high < low) = false ∧ decide (pos < low) = true) ∨ (decide (high < low) = false ∧ decide (pos < low) = false ∧ decide (high < pos) = true) ∨ (decide (high < low) = false ∧ decide (pos < low) = false ∧ decide (high < pos) = false ∧ decide (gain < 0) = true) ∨ (decide (high < low) = false ∧ decide (pos < low) = false ∧ decide (high < pos) = false ∧ decide (gain < 0) = false ∧ decide (drag < 0) = true) ∨ (decide (high < low) = false ∧ decide (pos < low) = false ∧ decide (high < pos) = false ∧ decide (gain < 0) = false ∧ decide (drag < 0) = false ∧ decide (8 < drag) = true) := by
    simp only [decide_eq_false_iff_not, decide_eq_true_eq]; unfold ramBad at h; omega
  clear h
  rcases hsome with d0 | ⟨d0, d1⟩ | ⟨d0, d1, d2⟩ | ⟨d0, d1, d2, d3⟩ | ⟨d0, d1, d2, d3, d4⟩ | ⟨d0, d1, d2, d3, d4, d5⟩
  all_goals
    go_enter Try.func44, Try.ntmps44
    go_wp2
    go_ret
    refine ⟨rfl, ?_⟩
    repeat (first | with_reducible exact Below.refl _ _ | ((with_reducible refine Below.setCell ?_ ?_ _); rotate_left; (· first | (simp; done) | omega | (simp; omega))) | with_reducible refine below_drewN ?_ _ | with_reducible refine Below.drew ?_ | ((with_reducible refine Below.alloc ?_ ?_ _); rotate_left; (· first | (simp; done) | omega | (simp; omega))) | exact Below.refl _ _ | refine Below.setCell ?_ (by first | (simp; done) | omega | (simp; omega)) _ | refine below_drewN ?_ _ | refine Below.drew ?_ | refine Below.alloc ?_ (by first | (simp; done) | omega | (simp; omega)) _)

def sel (a b c d : Int) : Nat → Int
  | 0 => a
  | 1 => b
  | 2 => c
  | _ => d
def pushI (m p f : Int) : Int := if m = 1 then sat32 (f + p) else f
def slowI (m : Int) : Int := if m = 3 then 1 else 0
def forceK (ms ps : Nat → Int) (load : Int) : Nat → Int
  | 0 => sat32 (-load)
  | k + 1 => pushI (ms k) (ps k) (forceK ms ps load k)
def dragK (ms : Nat → Int) (drag : Int) : Nat → Int
  | 0 => drag
  | k + 1 => dragK ms drag k + slowI (ms k)
theorem forceK_bd (ms ps : Nat → Int) (load : Int) (k : Nat) : -2147483648 ≤ forceK ms ps load k ∧ forceK ms ps load k ≤ 2147483647 := by
  induction k with
  | zero => exact sat32_bd _
  | succ k ih => unfold forceK pushI; split; exact sat32_bd _; exact ih
theorem dragK_bd (ms : Nat → Int) (drag : Int) (k : Nat) : drag ≤ dragK ms drag k ∧ dragK ms drag k ≤ drag + k := by
  induction k with
  | zero => simp [dragK]
  | succ k ih => unfold dragK slowI; split <;> omega
/-- how far the ram is driven -/
def wayI (gain drag load : Int) (ms ps : Nat → Int) : Int := shiftI (mulI gain (forceK ms ps load 4)) (-(dragK ms drag 4))
def ramPos (gain drag low high pos load : Int) (ms ps : Nat → Int) : Int := clampI (sat32 (pos + wayI gain drag load ms ps)) low high
set_option maxHeartbeats 4000000 in
set_option maxRecDepth 100000 in
theorem ramStep_yes (gain drag low high pos vel p0 p1 p2 p3 m0 m1 m2 m3 load x v : Int) (w : World) (hgain : -2147483648 ≤ gain ∧ gain ≤ 2147483647) (hlow : -2147483648 ≤ low ∧ low ≤ 2147483647) (hhigh : -2147483648 ≤ high ∧ high ≤ 2147483647) (hpos : -2147483648 ≤ pos ∧ pos ≤ 2147483647) (hp0 : -2147483648 ≤ p0 ∧ p0 ≤ 2147483647) (hp1 : -2147483648 ≤ p1 ∧ p1 ≤ 2147483647) (hp2 : -2147483648 ≤ p2 ∧ p2 ≤ 2147483647) (hp3 : -2147483648 ≤ p3 ∧ p3 ≤ 2147483647) (hload : -2147483648 ≤ load ∧ load ≤ 2147483647)
    (hok : ¬ ramBad gain drag low high pos) (hm : ModesOk m0 m1 m2 m3) (hx : ramPos gain drag low high pos load (sel m0 m1 m2 m3) (sel p0 p1 p2 p3) = x) (hv : sat32 (x - pos) = v) :
    Calls Try.prog 22 #[.agg #[.int .i32 gain, .int .i64 drag, .int .i32 low, .int .i32 high], .agg #[.int .i32 pos, .int .i32 vel], .agg #[.int .i32 p0, .int .i32 p1, .int .i32 p2, .int .i32 p3], .agg #[.int .i64 m0, .int .i64 m1, .int .i64 m2, .int .i64 m3], .int .i32 load] w
      fun e w' => e = .returned (.tuple #[.agg #[.int .i32 x, .int .i32 v], .int .i64 0]) ∧ Below w.heap.size w w' := by
  have ix0 : ∀ w : World, (Instr.index 52 (.agg #[.int .i64 m0, .int .i64 m1, .int .i64 m2, .int .i64 m3]) (.int .i64 0)).run Try.prog w = .ok (.int .i64 m0) w := fun _ => by kernel_rfl
  have ix1 : ∀ w : World, (Instr.index 52 (.agg #[.int .i64 m0, .int .i64 m1, .int .i64 m2, .int .i64 m3]) (.int .i64 1)).run Try.prog w = .ok (.int .i64 m1) w := fun _ => by kernel_rfl
  have ix2 : ∀ w : World, (Instr.index 52 (.agg #[.int .i64 m0, .int .i64 m1, .int .i64 m2, .int .i64 m3]) (.int .i64 2)).run Try.prog w = .ok (.int .i64 m2) w := fun _ => by kernel_rfl
  have ix3 : ∀ w : World, (Instr.index 52 (.agg #[.int .i64 m0, .int .i64 m1, .int .i64 m2, .int .i64 m3]) (.int .i64 3)).run Try.prog w = .ok (.int .i64 m3) w := fun _ => by kernel_rfl
  have H := Lib.hid hok; have HM := Lib.hid hm; have HX := Lib.hid hx; have HV := Lib.hid hv
  have hdrag : 0 ≤ drag ∧ drag ≤ 8 := by unfold ramBad at hok; omega
  have hxb : -2147483648 ≤ x ∧ x ≤ 2147483647 := by rw [← hx]; exact clampI_bd _ _ _ (sat32_bd _) hlow hhigh
  have hms : sel m0 m1 m2 m3 0 = m0 ∧ sel m0 m1 m2 m3 1 = m1 ∧ sel m0 m1 m2 m3 2 = m2 ∧ sel m0 m1 m2 m3 3 = m3 := ⟨rfl, rfl, rfl, rfl⟩
  have hps : sel p0 p1 p2 p3 0 = p0 ∧ sel p0 p1 p2 p3 1 = p1 ∧ sel p0 p1 p2 p3 2 = p2 ∧ sel p0 p1 p2 p3 3 = p3 := ⟨rfl, rfl, rfl, rfl⟩
  have HMS := Lib.hid hms; have HPS := Lib.hid hps
  clear hok hm hx hv hms hps
  generalize sel m0 m1 m2 m3 = ms at HX HMS
  generalize sel p0 p1 p2 p3 = ps at HX HPS
  go_enter Try.func22, Try.ntmps22
  go_wp2_with fail
  refine (ramCheck_yes _ _ _ _ _ _ _ H.out).mono ?_
  rintro e_w1 w1 ⟨rfl, hb⟩
  have zhb := hb.size
  obtain ⟨chb, fhb⟩ := Open.bcell hb
  try (simp at zhb)
  go_wp2_with fail
  refine (ramRight_yes _ _ _ _ _ HM.out).mono ?_
  rintro e_w2 w2 ⟨rfl, hb2⟩
  have zhb2 := hb2.size
  obtain ⟨chb2, fhb2⟩ := Open.bcell hb2
  try (simp at zhb2)
  have sw1_0_0 : w.heap.size < w1.heap.size := by omega
  have sw1_1_0 : w.heap.size + 1 < w1.heap.size := by omega
  have sw1_2_0 : w.heap.size + 1 + 1 < w1.heap.size := by omega
  have sw1_3_0 : w.heap.size + 1 + 1 + 1 < w1.heap.size := by omega
  have sw1_4_0 : w.heap.size + 1 + 1 + 1 + 1 < w1.heap.size := by omega
  go_wp2_with (go_at_call 45; refine (neg_any _ (by omega) _).mono ?_; rintro e w' ⟨rfl, rfl⟩)
  go_loop [14, 15, 38] (fun f s i => ∃ k : Nat, k ≤ 4 ∧ i = .int .i64 k ∧ f = .int .i32 (forceK ms ps load k) ∧ s = .int .i64 (dragK ms drag k)) (fun _ _ i => 4 - (intOf i).toNat)
  case atStart => exact ⟨0, by omega, rfl, rfl, rfl⟩
  case round =>
    obtain ⟨k, hk, rfl, rfl, rfl⟩ := hrel
    have hF := forceK_bd ms ps load k
    have hD := dragK_bd ms drag k
    have F1 : Hid (forceK ms ps load (k + 1) = pushI (ms k) (ps k) (forceK ms ps load k)) := rfl
    have D1 : Hid (dragK ms drag (k + 1) = dragK ms drag k + slowI (ms k)) := rfl
    by_cases h4 : k < 4
    · generalize forceK ms ps load k = f at *
      generalize dragK ms drag k = d at *
      rcases (by omega : k = 0 ∨ k = 1 ∨ k = 2 ∨ k = 3) with rfl | rfl | rfl | rfl
      · have F2 := Lib.hid (F1.out.trans (by rw [HMS.out.1, HPS.out.1])); have D2 := Lib.hid (D1.out.trans (by rw [HMS.out.1]))
        clear F1 D1
        rcases (by omega : m0 = 1 ∨ m0 = 3 ∨ (m0 ≠ 1 ∧ m0 ≠ 3)) with g | g | ⟨g, g'⟩
        · have F3 := Lib.hid (F2.out.trans (if_pos g)); have D3 : Hid (dragK ms drag 1 = d) := D2.out.trans (by unfold slowI; rw [if_neg (by omega)]; exact Int.add_zero d)
          have t1 : (m0 == 1) = true := by simpa using g
          clear F2 D2 g
          go_wp2_with (go_at_call 46; refine (add_any _ _ (by omega) (by omega) _).mono ?_; rintro e w' ⟨rfl, rfl⟩)
          go_round
          case rel => exact ⟨1, by omega, rfl, by rw [F3.out], by rw [D3.out]⟩
          case measure => simp [intOf]
        · have F3 := Lib.hid (F2.out.trans (if_neg (by omega))); have D3 : Hid (dragK ms drag 1 = d + 1) := D2.out.trans (by unfold slowI; rw [if_pos g])
          have t1 : (m0 == 1) = false := by simp; omega
          have t2 : (m0 == 3) = true := by simpa using g
          clear F2 D2 g
          go_wp2_with fail
          go_round
          case rel => exact ⟨1, by omega, rfl, by rw [F3.out], by rw [D3.out]⟩
          case measure => simp [intOf]
        · have F3 := Lib.hid (F2.out.trans (if_neg g)); have D3 : Hid (dragK ms drag 1 = d) := D2.out.trans (by unfold slowI; rw [if_neg g']; exact Int.add_zero d)
          have t1 : (m0 == 1) = false := by simpa using g
          have t2 : (m0 == 3) = false := by simpa using g'
          clear F2 D2 g g'
          go_wp2_with fail
          go_round
          case rel => exact ⟨1, by omega, rfl, by rw [F3.out], by rw [D3.out]⟩
          case measure => simp [intOf]
      · have F2 := Lib.hid (F1.out.trans (by rw [HMS.out.2.1, HPS.out.2.1])); have D2 := Lib.hid (D1.out.trans (by rw [HMS.out.2.1]))
        clear F1 D1
        rcases (by omega : m1 = 1 ∨ m1 = 3 ∨ (m1 ≠ 1 ∧ m1 ≠ 3)) with g | g | ⟨g, g'⟩
        · have F3 := Lib.hid (F2.out.trans (if_pos g)); have D3 : Hid (dragK ms drag 2 = d) := D2.out.trans (by unfold slowI; rw [if_neg (by omega)]; exact Int.add_zero d)
          have t1 : (m1 == 1) = true := by simpa using g
          clear F2 D2 g
          go_wp2_with (go_at_call 46; refine (add_any _ _ (by omega) (by omega) _).mono ?_; rintro e w' ⟨rfl, rfl⟩)
          go_round
          case rel => exact ⟨2, by omega, rfl, by rw [F3.out], by rw [D3.out]⟩
          case measure => simp [intOf]
        · have F3 := Lib.hid (F2.out.trans (if_neg (by omega))); have D3 : Hid (dragK ms drag 2 = d + 1) := D2.out.trans (by unfold slowI; rw [if_pos g])
          have t1 : (m1 == 1) = false := by simp; omega
          have t2 : (m1 == 3) = true := by simpa using g
          clear F2 D2 g
          go_wp2_with fail
          go_round
          case rel => exact ⟨2, by omega, rfl, by rw [F3.out], by rw [D3.out]⟩
          case measure => simp [intOf]
        · have F3 := Lib.hid (F2.out.trans (if_neg g)); have D3 : Hid (dragK ms drag 2 = d) := D2.out.trans (by unfold slowI; rw [if_neg g']; exact Int.add_zero d)
          have t1 : (m1 == 1) = false := by simpa using g
          have t2 : (m1 == 3) = false := by simpa using g'
          clear F2 D2 g g'
          go_wp2_with fail
          go_round
          case rel => exact ⟨2, by omega, rfl, by rw [F3.out], by rw [D3.out]⟩
          case measure => simp [intOf]
      · have F2 := Lib.hid (F1.out.trans (by rw [HMS.out.2.2.1, HPS.out.2.2.1])); have D2 := Lib.hid (D1.out.trans (by rw [HMS.out.2.2.1]))
        clear F1 D1
        rcases (by omega : m2 = 1 ∨ m2 = 3 ∨ (m2 ≠ 1 ∧ m2 ≠ 3)) with g | g | ⟨g, g'⟩
        · have F3 := Lib.hid (F2.out.trans (if_pos g)); have D3 : Hid (dragK ms drag 3 = d) := D2.out.trans (by unfold slowI; rw [if_neg (by omega)]; exact Int.add_zero d)
          have t1 : (m2 == 1) = true := by simpa using g
          clear F2 D2 g
          go_wp2_with (go_at_call 46; refine (add_any _ _ (by omega) (by omega) _).mono ?_; rintro e w' ⟨rfl, rfl⟩)
          go_round
          case rel => exact ⟨3, by omega, rfl, by rw [F3.out], by rw [D3.out]⟩
          case measure => simp [intOf]
        · have F3 := Lib.hid (F2.out.trans (if_neg (by omega))); have D3 : Hid (dragK ms drag 3 = d + 1) := D2.out.trans (by unfold slowI; rw [if_pos g])
          have t1 : (m2 == 1) = false := by simp; omega
          have t2 : (m2 == 3) = true := by simpa using g
          clear F2 D2 g
          go_wp2_with fail
          go_round
          case rel => exact ⟨3, by omega, rfl, by rw [F3.out], by rw [D3.out]⟩
          case measure => simp [intOf]
        · have F3 := Lib.hid (F2.out.trans (if_neg g)); have D3 : Hid (dragK ms drag 3 = d) := D2.out.trans (by unfold slowI; rw [if_neg g']; exact Int.add_zero d)
          have t1 : (m2 == 1) = false := by simpa using g
          have t2 : (m2 == 3) = false := by simpa using g'
          clear F2 D2 g g'
          go_wp2_with fail
          go_round
          case rel => exact ⟨3, by omega, rfl, by rw [F3.out], by rw [D3.out]⟩
          case measure => simp [intOf]
      · have F2 := Lib.hid (F1.out.trans (by rw [HMS.out.2.2.2, HPS.out.2.2.2])); have D2 := Lib.hid (D1.out.trans (by rw [HMS.out.2.2.2]))
        clear F1 D1
        rcases (by omega : m3 = 1 ∨ m3 = 3 ∨ (m3 ≠ 1 ∧ m3 ≠ 3)) with g | g | ⟨g, g'⟩
        · have F3 := Lib.hid (F2.out.trans (if_pos g)); have D3 : Hid (dragK ms drag 4 = d) := D2.out.trans (by unfold slowI; rw [if_neg (by omega)]; exact Int.add_zero d)
          have t1 : (m3 == 1) = true := by simpa using g
          clear F2 D2 g
          go_wp2_with (go_at_call 46; refine (add_any _ _ (by omega) (by omega) _).mono ?_; rintro e w' ⟨rfl, rfl⟩)
          go_round
          case rel => exact ⟨4, by omega, rfl, by rw [F3.out], by rw [D3.out]⟩
          case measure => simp [intOf]
        · have F3 := Lib.hid (F2.out.trans (if_neg (by omega))); have D3 : Hid (dragK ms drag 4 = d + 1) := D2.out.trans (by unfold slowI; rw [if_pos g])
          have t1 : (m3 == 1) = false := by simp; omega
          have t2 : (m3 == 3) = true := by simpa using g
          clear F2 D2 g
          go_wp2_with fail
          go_round
          case rel => exact ⟨4, by omega, rfl, by rw [F3.out], by rw [D3.out]⟩
          case measure => simp [intOf]
        · have F3 := Lib.hid (F2.out.trans (if_neg g)); have D3 : Hid (dragK ms drag 4 = d) := D2.out.trans (by unfold slowI; rw [if_neg g']; exact Int.add_zero d)
          have t1 : (m3 == 1) = false := by simpa using g
          have t2 : (m3 == 3) = false := by simpa using g'
          clear F2 D2 g g'
          go_wp2_with fail
          go_round
          case rel => exact ⟨4, by omega, rfl, by rw [F3.out], by rw [D3.out]⟩
          case measure => simp [intOf]
    · obtain rfl : k = 4 := by omega
      clear F1 D1
      have E1 : shiftI (mulI gain (forceK ms ps load 4)) (-(dragK ms drag 4)) = wayI gain drag load ms ps := rfl
      have E2 : clampI (sat32 (pos + wayI gain drag load ms ps)) low high = x := HX.out
      have b1 := mulI_bd gain (forceK ms ps load 4)
      have b2 := shiftI_bd (mulI gain (forceK ms ps load 4)) (-(dragK ms drag 4)) b1
      rw [E1] at b2
      have b3 := sat32_bd (pos + wayI gain drag load ms ps)
      generalize forceK ms ps load 4 = f at *
      generalize dragK ms drag 4 = d at *
      generalize wayI gain drag load ms ps = way at *
      go_wp2_with (first | (go_at_call 48; refine (mul_any _ _ (by omega) (by omega) _).mono ?_; rintro e w' ⟨rfl, rfl⟩) | (go_at_call 47; refine (shift_any _ _ (by omega) _).mono ?_; rintro e w' ⟨rfl, rfl⟩))
      go_quiet ((first | (go_at_call 46; exact quietL (add_any _ _ (by omega) (by omega) _)) | (go_at_call 49; exact quietL (clamp_any _ _ _ _))))
      go_wp2_with (go_at_call 23; refine (sub_any _ _ (by omega) (by omega) _).mono ?_; rintro e w' ⟨rfl, rfl⟩)
      have r0 : w2.cell? ⟨w.heap.size + 1 + 1 + 1 + 1, 0, none⟩ = some (.int .i32 0) := by rw [chb2 _ _ (by first | (simp; done) | omega | (simp; omega)), chb _ _ (by first | (simp; done) | omega | (simp; omega))]; go_simp
      have r1 : w2.cell? ⟨w.heap.size + 1 + 1 + 1 + 1, 1, none⟩ = some (.int .i32 0) := by rw [chb2 _ _ (by first | (simp; done) | omega | (simp; omega)), chb _ _ (by first | (simp; done) | omega | (simp; omega))]; go_simp
      refine bodyPost_ret (v := .tuple #[.agg #[.int .i32 x, .int .i32 v], .int .i64 0]) (by simp [results, Try.results22, go_sem, r0, r1, HV.out]) rfl ⟨rfl, ?_⟩
      repeat (first | with_reducible exact Below.refl _ _ | ((with_reducible refine Below.setCell ?_ ?_ _); rotate_left; (· first | (simp; done) | omega | (simp; omega))) | with_reducible refine below_drewN ?_ _ | with_reducible refine Below.drew ?_ | ((with_reducible refine Below.trans ?_ (Below.mono hb ?_)); rotate_left; (· first | (simp; done) | omega | (simp; omega))) | ((with_reducible refine Below.trans ?_ (Below.mono hb2 ?_)); rotate_left; (· first | (simp; done) | omega | (simp; omega))) | ((with_reducible refine Below.alloc ?_ ?_ _); rotate_left; (· first | (simp; done) | omega | (simp; omega))) | exact Below.refl _ _ | refine Below.setCell ?_ (by first | (simp; done) | omega | (simp; omega)) _ | refine below_drewN ?_ _ | refine Below.drew ?_ | refine Below.trans ?_ (Below.mono hb (by first | (simp; done) | omega | (simp; omega))) | refine Below.trans ?_ (Below.mono hb2 (by first | (simp; done) | omega | (simp; omega))) | refine Below.alloc ?_ (by first | (simp; done) | omega | (simp; omega)) _)
set_option maxHeartbeats 1000000 in
theorem ramStep_no (gain drag low high pos vel p0 p1 p2 p3 m0 m1 m2 m3 load : Int) (w : World) (h : ramBad gain drag low high pos ∨ (¬ ramBad gain drag low high pos ∧ ¬ ModesOk m0 m1 m2 m3)) :
    Calls Try.prog 22 #[.agg #[.int .i32 gain, .int .i64 drag, .int .i32 low, .int .i32 high], .agg #[.int .i32 pos, .int .i32 vel], .agg #[.int .i32 p0, .int .i32 p1, .int .i32 p2, .int .i32 p3], .agg #[.int .i64 m0, .int .i64 m1, .int .i64 m2, .int .i64 m3], .int .i32 load] w
      fun e w' => e = .returned (.tuple #[.agg #[.int .i32 0, .int .i32 0], .int .i64 1]) ∧ Below w.heap.size w w' := by
  rcases h with h | ⟨h, h'⟩
  · have H := Lib.hid h
    clear h
    go_enter Try.func22, Try.ntmps22
    go_wp2_with fail
    refine (ramCheck_no _ _ _ _ _ _ _ H.out).mono ?_
    rintro e_w1 w1 ⟨rfl, hb⟩
    have zhb := hb.size
    obtain ⟨chb, fhb⟩ := Open.bcell hb
    try (simp at zhb)
    go_wp2
    refine bodyPost_ret (v := .tuple #[.agg #[.int .i32 0, .int .i32 0], .int .i64 1]) (by simp [results, Try.results22, go_sem, chb]) rfl ⟨rfl, ?_⟩
    repeat (first | with_reducible exact Below.refl _ _ | ((with_reducible refine Below.setCell ?_ ?_ _); rotate_left; (· first | (simp; done) | omega | (simp; omega))) | with_reducible refine below_drewN ?_ _ | with_reducible refine Below.drew ?_ | ((with_reducible refine Below.trans ?_ (Below.mono hb ?_)); rotate_left; (· first | (simp; done) | omega | (simp; omega))) | ((with_reducible refine Below.alloc ?_ ?_ _); rotate_left; (· first | (simp; done) | omega | (simp; omega))) | exact Below.refl _ _ | refine Below.setCell ?_ (by first | (simp; done) | omega | (simp; omega)) _ | refine below_drewN ?_ _ | refine Below.drew ?_ | refine Below.trans ?_ (Below.mono hb (by first | (simp; done) | omega | (simp; omega))) | refine Below.alloc ?_ (by first | (simp; done) | omega | (simp; omega)) _)
  · have H := Lib.hid h; have H' := Lib.hid h'
    clear h h'
    go_enter Try.func22, Try.ntmps22
    go_wp2_with fail
    refine (ramCheck_yes _ _ _ _ _ _ _ H.out).mono ?_
    rintro e_w1 w1 ⟨rfl, hb⟩
    have zhb := hb.size
    obtain ⟨chb, fhb⟩ := Open.bcell hb
    try (simp at zhb)
    go_wp2_with fail
    refine (ramRight_no _ _ _ _ _ H'.out).mono ?_
    rintro e_w2 w2 ⟨rfl, hb2⟩
    have zhb2 := hb2.size
    obtain ⟨chb2, fhb2⟩ := Open.bcell hb2
    try (simp at zhb2)
    have sw1_0_0 : w.heap.size < w1.heap.size := by omega
    have sw1_1_0 : w.heap.size + 1 < w1.heap.size := by omega
    have sw1_2_0 : w.heap.size + 1 + 1 < w1.heap.size := by omega
    have sw1_3_0 : w.heap.size + 1 + 1 + 1 < w1.heap.size := by omega
    have sw1_4_0 : w.heap.size + 1 + 1 + 1 + 1 < w1.heap.size := by omega
    go_wp2
    have r0 : w2.cell? ⟨w.heap.size + 1 + 1 + 1 + 1, 0, none⟩ = some (.int .i32 0) := by rw [chb2 _ _ (by first | (simp; done) | omega | (simp; omega)), chb _ _ (by first | (simp; done) | omega | (simp; omega))]; go_simp
    have r1 : w2.cell? ⟨w.heap.size + 1 + 1 + 1 + 1, 1, none⟩ = some (.int .i32 0) := by rw [chb2 _ _ (by first | (simp; done) | omega | (simp; omega)), chb _ _ (by first | (simp; done) | omega | (simp; omega))]; go_simp
    refine bodyPost_ret (v := .tuple #[.agg #[.int .i32 0, .int .i32 0], .int .i64 1]) (by simp [results, Try.results22, go_sem, r0, r1]) rfl ⟨rfl, ?_⟩
    repeat (first | with_reducible exact Below.refl _ _ | ((with_reducible refine Below.setCell ?_ ?_ _); rotate_left; (· first | (simp; done) | omega | (simp; omega))) | with_reducible refine below_drewN ?_ _ | with_reducible refine Below.drew ?_ | ((with_reducible refine Below.trans ?_ (Below.mono hb ?_)); rotate_left; (· first | (simp; done) | omega | (simp; omega))) | ((with_reducible refine Below.trans ?_ (Below.mono hb2 ?_)); rotate_left; (· first | (simp; done) | omega | (simp; omega))) | ((with_reducible refine Below.alloc ?_ ?_ _); rotate_left; (· first | (simp; done) | omega | (simp; omega))) | exact Below.refl _ _ | refine Below.setCell ?_ (by first | (simp; done) | omega | (simp; omega)) _ | refine below_drewN ?_ _ | refine Below.drew ?_ | refine Below.trans ?_ (Below.mono hb (by first | (simp; done) | omega | (simp; omega))) | refine Below.trans ?_ (Below.mono hb2 (by first | (simp; done) | omega | (simp; omega))) | refine Below.alloc ?_ (by first | (simp; done) | omega | (simp; omega)) _)

end Go.Proofs.Ytacelddnklnhpaa
