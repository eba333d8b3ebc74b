/- WatchQuiet: whatever the bounds, the counts and the number are, the law answers true and leaves memory as it was. -/
import Derived.Test.YtacelddnklnhpaaWatchStep
import Derived.Deep.QuietTactic
import Derived.BigQuiet
namespace Go.Proofs.Ytacelddnklnhpaa.watchQuiet
open Go.ChangeShapes Go.WideShapes Go.ChangeAt Go.RowKit Go.Proofs.Ytacelddnklnhpaa Go.Proofs.Ytacelddnklnhpaa.Open
set_option linter.unusedVariables false
def cnt5 (n0 n1 n2 n3 n4 : Int) (s0 s1 s2 s3 s4 : Bool) : Cnts | 0 => (n0, s0) | 1 => (n1, s1) | 2 => (n2, s2) | 3 => (n3, s3) | _ => (n4, s4)
def firstC : Cnts | 0 => (1, true) | _ => (0, false)
/-- what a step makes of counts where nothing is off -/
def calm (up down most : Int) (C : Cnts) : Cnts := fun k => (cntN up down most (C k).1 false, cntS up down most (C k).1 (C k).2 false)
theorem first_step (w : World) :
    Calls Try.prog 29 #[.agg #[.int .i32 0, .int .i32 0, .int .i32 0, .int .i32 0, .int .i32 0, .int .i64 1, .int .i64 1, .int .i64 1], .agg #[.int .i64 0, .bool false, .int .i64 0, .bool false, .int .i64 0, .bool false, .int .i64 0, .bool false, .int .i64 0, .bool false], .agg #[.int .i32 1, .int .i32 0, .int .i32 0, .int .i32 0, .int .i32 0, .int .i32 0, .bool true]] w
      fun e w' => e = .returned (.tuple #[.agg #[.int .i64 1, .bool true, .int .i64 0, .bool false, .int .i64 0, .bool false, .int .i64 0, .bool false, .int .i64 0, .bool false], .bool true, .int .i64 0]) ∧ Below w.heap.size w w' :=
  watchStep_yes 0 0 0 0 0 1 1 1 1 0 0 0 0 0 true true false false false false zeroC firstC w (by omega) (by omega) (by omega) (by omega) (by omega) (by omega) (by omega) (by omega) (by omega) (by omega) (by omega) (by decide) (by decide) (by decide) (by decide) (by decide) (by omega) (fun k hk => (by unfold CountOk zeroC; omega : CountOk 1 1 1 (zeroC k).1)) (by unfold stepsTo; decide) (by unfold stepsTo; decide) (by unfold stepsTo; decide) (by unfold stepsTo; decide) (by unfold stepsTo; decide)
theorem offB_same (x m : Int) (h : 0 ≤ m) : offB x x m = false := by
  unfold offB
  rw [decide_eq_false (show ¬ m < x - x by omega)]; rfl
theorem forceB_zero (m : Int) (h : 0 ≤ m) : forceB 0 m = false := by
  unfold forceB
  exact decide_eq_false (by rw [show sat32 (absI 0) = 0 from by decide]; omega)
theorem quiet_step (m0 m1 m2 m3 m4 up down most x : Int) (C : Cnts) (w : World) (hm0 : -2147483648 ≤ m0 ∧ m0 ≤ 2147483647) (hm1 : -2147483648 ≤ m1 ∧ m1 ≤ 2147483647) (hm2 : -2147483648 ≤ m2 ∧ m2 ≤ 2147483647) (hm3 : -2147483648 ≤ m3 ∧ m3 ≤ 2147483647) (hm4 : -2147483648 ≤ m4 ∧ m4 ≤ 2147483647) (hx : -2147483648 ≤ x ∧ x ≤ 2147483647) (hm : 0 ≤ m0 ∧ 0 ≤ m1 ∧ 0 ≤ m2 ∧ 0 ≤ m3 ∧ 0 ≤ m4) (hC : ∀ k, k < 5 → CountOk up down most (C k).1) :
    Calls Try.prog 29 #[watchV m0 m1 m2 m3 m4 up down most, cntsV C, laneV x x x x x 0 true] w fun e w' => e = .returned (.tuple #[cntsV (calm up down most C), .bool (anyI (calm up down most C) 5), .int .i64 0]) ∧ Below w.heap.size w w' :=
  watchStep_yes m0 m1 m2 m3 m4 up down most x x x x x 0 true false false false false false C (calm up down most C) w hm0 hm1 hm2 hm3 hm4 hx hx hx hx hx (by omega) (offB_same _ _ hm.1) (offB_same _ _ hm.2.1) (offB_same _ _ hm.2.2.1) (forceB_zero _ hm.2.2.2.1) rfl hm hC rfl rfl rfl rfl rfl
def CalmOk (most : Int) (C C' : Cnts) (k : Nat) : Prop :=
  decide ((C k).1 < (C' k).1) = false ∧ ((C' k).2 = false ∨ ((C' k).2 = true ∧ (C k).2 = true) ∨ ((C' k).2 = true ∧ (C k).2 = false ∧ decide ((C' k).1 < most) = false))
theorem calm_ok (up down most : Int) (C : Cnts) (k : Nat) (h : CountOk up down most (C k).1) : CalmOk most C (calm up down most C) k := by
  unfold CalmOk
  obtain ⟨h1, h2, h3, h4, h5, h6, h7, h8⟩ := h
  simp only [calm, cntN, cntS, if_false, Bool.false_eq_true]
  generalize (C k).1 = n at *
  generalize (C k).2 = s at *
  refine ⟨decide_eq_false (by omega), ?_⟩
  generalize hq : max 0 (n - down) = q
  cases s
  · by_cases hm : q = most
    · exact .inr (.inr ⟨by simp [hm], rfl, decide_eq_false (by omega)⟩)
    · exact .inl (by simp [hm])
  · exact .inr (.inl ⟨rfl, rfl⟩)
theorem least_fail (P : Nat → Prop) : ∀ n, (¬ ∀ k, k < n → P k) → ∃ j, j < n ∧ (∀ k, k < j → P k) ∧ ¬ P j
  | 0, h => absurd (fun k hk => absurd hk (by omega)) h
  | n + 1, h => by
    by_cases hn : ∀ k, k < n → P k
    · refine ⟨n, by omega, hn, fun hp => h fun k hk => ?_⟩
      rcases (by omega : k < n ∨ k = n) with h1 | rfl
      · exact hn k h1
      · exact hp
    · obtain ⟨j, hj, h1, h2⟩ := least_fail P n hn
      exact ⟨j, by omega, h1, h2⟩
def QuietRel (w : World) (b : Nat) (C C' : Cnts) (up down most : Int) (i : Value) (wr : World) : Prop :=
  ∃ k : Nat, k ≤ 5 ∧ i = .int .i64 k ∧ PerAt wr w.heap.size up down most ∧ CntsAt wr (w.heap.size + 1) C ∧ CntsAt wr b C' ∧ Below w.heap.size w wr
set_option maxHeartbeats 8000000 in
set_option maxRecDepth 100000 in
theorem yes (m0 m1 m2 m3 m4 up down most x : Int) (C : Cnts) (w : World) (hm0 : -2147483648 ≤ m0 ∧ m0 ≤ 2147483647) (hm1 : -2147483648 ≤ m1 ∧ m1 ≤ 2147483647) (hm2 : -2147483648 ≤ m2 ∧ m2 ≤ 2147483647) (hm3 : -2147483648 ≤ m3 ∧ m3 ≤ 2147483647) (hm4 : -2147483648 ≤ m4 ∧ m4 ≤ 2147483647) (hx : -2147483648 ≤ x ∧ x ≤ 2147483647) (hm : 0 ≤ m0 ∧ 0 ≤ m1 ∧ 0 ≤ m2 ∧ 0 ≤ m3 ∧ 0 ≤ m4) (hC : ∀ k, k < 5 → CountOk up down most (C k).1) :
    Calls Try.prog 10 #[watchV m0 m1 m2 m3 m4 up down most, cntsV C, .int .i32 x] w fun e w' => e = .returned (.bool true) ∧ Below w.heap.size w w' := by
  have HC := Lib.hid hC; have HM := Lib.hid hm
  clear hC hm
  go_enter Try.func10, Try.ntmps10
  go_wp2_with fail
  refine (first_step _).mono ?_
  rintro e1 w1 ⟨rfl, hb1⟩
  have zb := hb1.size
  try (simp at zb)
  have a0 : w1.cell? ⟨w.heap.size, 0, none⟩ = some (.int .i32 m0) := cell_later hb1 (by go_simp)
  have a1 : w1.cell? ⟨w.heap.size, 1, none⟩ = some (.int .i32 m1) := cell_later hb1 (by go_simp)
  have a2 : w1.cell? ⟨w.heap.size, 2, none⟩ = some (.int .i32 m2) := cell_later hb1 (by go_simp)
  have a3 : w1.cell? ⟨w.heap.size, 3, none⟩ = some (.int .i32 m3) := cell_later hb1 (by go_simp)
  have a4 : w1.cell? ⟨w.heap.size, 4, none⟩ = some (.int .i32 m4) := cell_later hb1 (by go_simp)
  have P1 : PerAt w1 w.heap.size up down most := ⟨cell_later hb1 (by go_simp), cell_later hb1 (by go_simp), cell_later hb1 (by go_simp)⟩
  have S1 : CntsAt w1 (w.heap.size + 1) C := ⟨fun k hk => (by rcases (by omega : k = 0 ∨ k = 1 ∨ k = 2 ∨ k = 3 ∨ k = 4) with rfl | rfl | rfl | rfl | rfl <;> exact ⟨cell_later hb1 (by go_simp), cell_later hb1 (by go_simp)⟩), fun o => by rw [hb1.frozen (by first | (simp; done) | omega | (simp; omega))]; go_simp⟩
  have B1 : Below w.heap.size w w1 := by repeat (first | with_reducible exact Below.refl _ _ | ((with_reducible refine Below.setCell ?_ ?_ _); rotate_left; (· first | (simp; done) | omega | (simp; omega))) | with_reducible refine below_drewN ?_ _ | with_reducible refine Below.drew ?_ | ((with_reducible refine Below.trans ?_ (Below.mono hb1 ?_)); rotate_left; (· first | (simp; done) | omega | (simp; omega))) | ((with_reducible refine Below.alloc ?_ ?_ _); rotate_left; (· first | (simp; done) | omega | (simp; omega))) | exact Below.refl _ _ | refine Below.setCell ?_ (by first | (simp; done) | omega | (simp; omega)) _ | refine below_drewN ?_ _ | refine Below.drew ?_ | refine Below.trans ?_ (Below.mono hb1 (by first | (simp; done) | omega | (simp; omega))) | refine Below.alloc ?_ (by first | (simp; done) | omega | (simp; omega)) _)
  have HP1 := Lib.hid P1; have HS1 := Lib.hid S1; have HB1 := Lib.hid B1
  have y0 : w.heap.size < w1.heap.size := P1.lt
  have y1 : w.heap.size + 1 < w1.heap.size := S1.lt
  obtain ⟨a5, a6, a7⟩ := P1
  obtain ⟨s0, s1⟩ := S1.1 0 (by omega)
  change w1.cell? ⟨w.heap.size + 1, 0, none⟩ = _ at s0
  change w1.cell? ⟨w.heap.size + 1, 1, none⟩ = _ at s1
  obtain ⟨s2, s3⟩ := S1.1 1 (by omega)
  change w1.cell? ⟨w.heap.size + 1, 2, none⟩ = _ at s2
  change w1.cell? ⟨w.heap.size + 1, 3, none⟩ = _ at s3
  obtain ⟨s4, s5⟩ := S1.1 2 (by omega)
  change w1.cell? ⟨w.heap.size + 1, 4, none⟩ = _ at s4
  change w1.cell? ⟨w.heap.size + 1, 5, none⟩ = _ at s5
  obtain ⟨s6, s7⟩ := S1.1 3 (by omega)
  change w1.cell? ⟨w.heap.size + 1, 6, none⟩ = _ at s6
  change w1.cell? ⟨w.heap.size + 1, 7, none⟩ = _ at s7
  obtain ⟨s8, s9⟩ := S1.1 4 (by omega)
  change w1.cell? ⟨w.heap.size + 1, 8, none⟩ = _ at s8
  change w1.cell? ⟨w.heap.size + 1, 9, none⟩ = _ at s9
  clear hb1 S1 B1 zb
  go_wp2_with fail
  refine (quiet_step m0 m1 m2 m3 m4 up down most x C _ hm0 hm1 hm2 hm3 hm4 hx HM.out HC.out).mono ?_
  rintro e2 w2 ⟨rfl, hb2⟩
  have A2 : Below w1.heap.size w1 w2 := by repeat (first | with_reducible exact Below.refl _ _ | ((with_reducible refine Below.setCell ?_ ?_ _); rotate_left; (· first | (simp; done) | omega | (simp; omega))) | with_reducible refine below_drewN ?_ _ | with_reducible refine Below.drew ?_ | ((with_reducible refine Below.trans ?_ (Below.mono hb2 ?_)); rotate_left; (· first | (simp; done) | omega | (simp; omega))) | ((with_reducible refine Below.alloc ?_ ?_ _); rotate_left; (· first | (simp; done) | omega | (simp; omega))) | exact Below.refl _ _ | refine Below.setCell ?_ (by first | (simp; done) | omega | (simp; omega)) _ | refine below_drewN ?_ _ | refine Below.drew ?_ | refine Below.trans ?_ (Below.mono hb2 (by first | (simp; done) | omega | (simp; omega))) | refine Below.alloc ?_ (by first | (simp; done) | omega | (simp; omega)) _)
  have HP2 := Lib.hid (HP1.out.later A2 y0); have HS2 := Lib.hid (HS1.out.later A2 y1); have HB2 := Lib.hid (HB1.out.trans (A2.mono HB1.out.size))
  have z0 := HP2.out.lt
  have z1 := HS2.out.lt
  have hq : ∀ k, k < 5 → CalmOk most C (calm up down most C) k := fun k hk => calm_ok up down most C k (HC.out k hk)
  have HQ := Lib.hid hq
  clear hb2 A2 a0 a1 a2 a3 a4 a5 a6 a7 s0 s1 s2 s3 s4 s5 s6 s7 s8 s9 HP1 HS1 HB1 y0 y1 hq HC HM
  generalize calm up down most C = C' at *
  generalize anyI C' 5 = y at *
  go_wp2
  have A3 := (Below.refl w2.heap.size w2).alloc (Nat.le_refl _) (.cells #[.int .i64 (C' 0).1, .bool (C' 0).2, .int .i64 (C' 1).1, .bool (C' 1).2, .int .i64 (C' 2).1, .bool (C' 2).2, .int .i64 (C' 3).1, .bool (C' 3).2, .int .i64 (C' 4).1, .bool (C' 4).2] 80)
  have HP3 := Lib.hid (HP2.out.later A3 z0); have HS3 := Lib.hid (HS2.out.later A3 z1); have HB3 := Lib.hid (HB2.out.trans (A3.mono HB2.out.size))
  have N3 : CntsAt (w2.alloc (.cells #[.int .i64 (C' 0).1, .bool (C' 0).2, .int .i64 (C' 1).1, .bool (C' 1).2, .int .i64 (C' 2).1, .bool (C' 2).2, .int .i64 (C' 3).1, .bool (C' 3).2, .int .i64 (C' 4).1, .bool (C' 4).2] 80)) w2.heap.size C' := ⟨fun k hk => (by rcases (by omega : k = 0 ∨ k = 1 ∨ k = 2 ∨ k = 3 ∨ k = 4) with rfl | rfl | rfl | rfl | rfl <;> exact ⟨by go_simp, by go_simp⟩), fun o => by go_simp⟩
  have HN3 := Lib.hid N3
  clear A3 N3 HP2 HS2 HB2
  generalize w2.alloc (.cells #[.int .i64 (C' 0).1, .bool (C' 0).2, .int .i64 (C' 1).1, .bool (C' 1).2, .int .i64 (C' 2).1, .bool (C' 2).2, .int .i64 (C' 3).1, .bool (C' 3).2, .int .i64 (C' 4).1, .bool (C' 4).2] 80) = w3 at *
  go_loopw [64] (fun i wr => QuietRel w w2.heap.size C C' up down most i wr) (fun i _ => 5 - (intOf i).toNat)
  case atStart => exact ⟨0, by omega, rfl, HP3.out, HS3.out, HN3.out, HB3.out⟩
  case round =>
    obtain ⟨k, hk, rfl, hP, hS, hN, hB⟩ := hrel
    have HP := Lib.hid hP; have HS := Lib.hid hS; have HN := Lib.hid hN; have HB := Lib.hid hB
    have y0 := hP.lt; have y1 := hS.lt; have y3 := hN.lt
    obtain ⟨p0, p1, p2⟩ := hP
    clear hB
    rcases (by omega : k = 0 ∨ k = 1 ∨ k = 2 ∨ k = 3 ∨ k = 4 ∨ k = 5) with rfl | rfl | rfl | rfl | rfl | rfl
    · obtain ⟨dN, dS⟩ := HQ.out 0 (by omega)
      obtain ⟨s0, s1⟩ := hS.1 0 (by omega)
      obtain ⟨n0, n1⟩ := hN.1 0 (by omega)
      change wr.cell? ⟨w.heap.size + 1, 0, none⟩ = _ at s0
      change wr.cell? ⟨w.heap.size + 1, 1, none⟩ = _ at s1
      change wr.cell? ⟨w2.heap.size, 0, none⟩ = _ at n0
      change wr.cell? ⟨w2.heap.size, 1, none⟩ = _ at n1
      rw [show ((0 : Nat) : Int) = 0 from rfl]
      clear hS hN hk
      generalize (C 0).1 = n at *
      generalize (C 0).2 = s at *
      generalize (C' 0).1 = n' at *
      generalize (C' 0).2 = s' at *
      rcases dS with rfl | ⟨rfl, rfl⟩ | ⟨rfl, rfl, dM⟩
      all_goals
        go_wp2
        go_quiet (fail)
        go_wp2
        go_roundw
        case rel => exact ⟨1, by omega, rfl, HP.out.later (below_drewN (Below.refl _ _) _) y0, HS.out.later (below_drewN (Below.refl _ _) _) y1, HN.out.later (below_drewN (Below.refl _ _) _) y3, below_drewN HB.out _⟩
        case measure => simp [intOf]
    · obtain ⟨dN, dS⟩ := HQ.out 1 (by omega)
      obtain ⟨s0, s1⟩ := hS.1 1 (by omega)
      obtain ⟨n0, n1⟩ := hN.1 1 (by omega)
      change wr.cell? ⟨w.heap.size + 1, 2, none⟩ = _ at s0
      change wr.cell? ⟨w.heap.size + 1, 3, none⟩ = _ at s1
      change wr.cell? ⟨w2.heap.size, 2, none⟩ = _ at n0
      change wr.cell? ⟨w2.heap.size, 3, none⟩ = _ at n1
      rw [show ((1 : Nat) : Int) = 1 from rfl]
      clear hS hN hk
      generalize (C 1).1 = n at *
      generalize (C 1).2 = s at *
      generalize (C' 1).1 = n' at *
      generalize (C' 1).2 = s' at *
      rcases dS with rfl | ⟨rfl, rfl⟩ | ⟨rfl, rfl, dM⟩
      all_goals
        go_wp2
        go_quiet (fail)
        go_wp2
        go_roundw
        case rel => exact ⟨2, by omega, rfl, HP.out.later (below_drewN (Below.refl _ _) _) y0, HS.out.later (below_drewN (Below.refl _ _) _) y1, HN.out.later (below_drewN (Below.refl _ _) _) y3, below_drewN HB.out _⟩
        case measure => simp [intOf]
    · obtain ⟨dN, dS⟩ := HQ.out 2 (by omega)
      obtain ⟨s0, s1⟩ := hS.1 2 (by omega)
      obtain ⟨n0, n1⟩ := hN.1 2 (by omega)
      change wr.cell? ⟨w.heap.size + 1, 4, none⟩ = _ at s0
      change wr.cell? ⟨w.heap.size + 1, 5, none⟩ = _ at s1
      change wr.cell? ⟨w2.heap.size, 4, none⟩ = _ at n0
      change wr.cell? ⟨w2.heap.size, 5, none⟩ = _ at n1
      rw [show ((2 : Nat) : Int) = 2 from rfl]
      clear hS hN hk
      generalize (C 2).1 = n at *
      generalize (C 2).2 = s at *
      generalize (C' 2).1 = n' at *
      generalize (C' 2).2 = s' at *
      rcases dS with rfl | ⟨rfl, rfl⟩ | ⟨rfl, rfl, dM⟩
      all_goals
        go_wp2
        go_quiet (fail)
        go_wp2
        go_roundw
        case rel => exact ⟨3, by omega, rfl, HP.out.later (below_drewN (Below.refl _ _) _) y0, HS.out.later (below_drewN (Below.refl _ _) _) y1, HN.out.later (below_drewN (Below.refl _ _) _) y3, below_drewN HB.out _⟩
        case measure => simp [intOf]
    · obtain ⟨dN, dS⟩ := HQ.out 3 (by omega)
      obtain ⟨s0, s1⟩ := hS.1 3 (by omega)
      obtain ⟨n0, n1⟩ := hN.1 3 (by omega)
      change wr.cell? ⟨w.heap.size + 1, 6, none⟩ = _ at s0
      change wr.cell? ⟨w.heap.size + 1, 7, none⟩ = _ at s1
      change wr.cell? ⟨w2.heap.size, 6, none⟩ = _ at n0
      change wr.cell? ⟨w2.heap.size, 7, none⟩ = _ at n1
      rw [show ((3 : Nat) : Int) = 3 from rfl]
      clear hS hN hk
      generalize (C 3).1 = n at *
      generalize (C 3).2 = s at *
      generalize (C' 3).1 = n' at *
      generalize (C' 3).2 = s' at *
      rcases dS with rfl | ⟨rfl, rfl⟩ | ⟨rfl, rfl, dM⟩
      all_goals
        go_wp2
        go_quiet (fail)
        go_wp2
        go_roundw
        case rel => exact ⟨4, by omega, rfl, HP.out.later (below_drewN (Below.refl _ _) _) y0, HS.out.later (below_drewN (Below.refl _ _) _) y1, HN.out.later (below_drewN (Below.refl _ _) _) y3, below_drewN HB.out _⟩
        case measure => simp [intOf]
    · obtain ⟨dN, dS⟩ := HQ.out 4 (by omega)
      obtain ⟨s0, s1⟩ := hS.1 4 (by omega)
      obtain ⟨n0, n1⟩ := hN.1 4 (by omega)
      change wr.cell? ⟨w.heap.size + 1, 8, none⟩ = _ at s0
      change wr.cell? ⟨w.heap.size + 1, 9, none⟩ = _ at s1
      change wr.cell? ⟨w2.heap.size, 8, none⟩ = _ at n0
      change wr.cell? ⟨w2.heap.size, 9, none⟩ = _ at n1
      rw [show ((4 : Nat) : Int) = 4 from rfl]
      clear hS hN hk
      generalize (C 4).1 = n at *
      generalize (C 4).2 = s at *
      generalize (C' 4).1 = n' at *
      generalize (C' 4).2 = s' at *
      rcases dS with rfl | ⟨rfl, rfl⟩ | ⟨rfl, rfl, dM⟩
      all_goals
        go_wp2
        go_quiet (fail)
        go_wp2
        go_roundw
        case rel => exact ⟨5, by omega, rfl, HP.out.later (below_drewN (Below.refl _ _) _) y0, HS.out.later (below_drewN (Below.refl _ _) _) y1, HN.out.later (below_drewN (Below.refl _ _) _) y3, below_drewN HB.out _⟩
        case measure => simp [intOf]
    · rw [show ((5 : Nat) : Int) = 5 from rfl]
      go_wp2
      go_ret
      exact ⟨rfl, HB.out⟩
set_option maxHeartbeats 8000000 in
set_option maxRecDepth 100000 in
theorem no (m0 m1 m2 m3 m4 up down most x : Int) (C : Cnts) (w : World) (j : Nat) (hj : j < 5) (hC : ∀ k, k < j → 0 ≤ sel5 m0 m1 m2 m3 m4 k ∧ CountOk up down most (C k).1) (hN : ¬ (0 ≤ sel5 m0 m1 m2 m3 m4 j ∧ CountOk up down most (C j).1)) :
    Calls Try.prog 10 #[watchV m0 m1 m2 m3 m4 up down most, cntsV C, .int .i32 x] w fun e w' => e = .returned (.bool true) ∧ Below w.heap.size w w' := by
  have q : ∀ w : World, (Op.equalIn 10000 80 (.agg #[.int .i64 0, .bool false, .int .i64 0, .bool false, .int .i64 0, .bool false, .int .i64 0, .bool false, .int .i64 0, .bool false]) (.agg #[.int .i64 0, .bool false, .int .i64 0, .bool false, .int .i64 0, .bool false, .int .i64 0, .bool false, .int .i64 0, .bool false])).run Try.prog w = .ok true w := fun _ => by kernel_rfl
  have HC := Lib.hid hC
  have HN : Lapse m0 m1 m2 m3 m4 up down most C j := hN
  clear hC hN
  go_enter Try.func10, Try.ntmps10
  go_wp2_with fail
  refine (first_step _).mono ?_
  rintro e1 w1 ⟨rfl, hb1⟩
  have zb := hb1.size
  try (simp at zb)
  have a0 : w1.cell? ⟨w.heap.size, 0, none⟩ = some (.int .i32 m0) := cell_later hb1 (by go_simp)
  have a1 : w1.cell? ⟨w.heap.size, 1, none⟩ = some (.int .i32 m1) := cell_later hb1 (by go_simp)
  have a2 : w1.cell? ⟨w.heap.size, 2, none⟩ = some (.int .i32 m2) := cell_later hb1 (by go_simp)
  have a3 : w1.cell? ⟨w.heap.size, 3, none⟩ = some (.int .i32 m3) := cell_later hb1 (by go_simp)
  have a4 : w1.cell? ⟨w.heap.size, 4, none⟩ = some (.int .i32 m4) := cell_later hb1 (by go_simp)
  have P1 : PerAt w1 w.heap.size up down most := ⟨cell_later hb1 (by go_simp), cell_later hb1 (by go_simp), cell_later hb1 (by go_simp)⟩
  have S1 : CntsAt w1 (w.heap.size + 1) C := ⟨fun k hk => (by rcases (by omega : k = 0 ∨ k = 1 ∨ k = 2 ∨ k = 3 ∨ k = 4) with rfl | rfl | rfl | rfl | rfl <;> exact ⟨cell_later hb1 (by go_simp), cell_later hb1 (by go_simp)⟩), fun o => by rw [hb1.frozen (by first | (simp; done) | omega | (simp; omega))]; go_simp⟩
  have B1 : Below w.heap.size w w1 := by repeat (first | with_reducible exact Below.refl _ _ | ((with_reducible refine Below.setCell ?_ ?_ _); rotate_left; (· first | (simp; done) | omega | (simp; omega))) | with_reducible refine below_drewN ?_ _ | with_reducible refine Below.drew ?_ | ((with_reducible refine Below.trans ?_ (Below.mono hb1 ?_)); rotate_left; (· first | (simp; done) | omega | (simp; omega))) | ((with_reducible refine Below.alloc ?_ ?_ _); rotate_left; (· first | (simp; done) | omega | (simp; omega))) | exact Below.refl _ _ | refine Below.setCell ?_ (by first | (simp; done) | omega | (simp; omega)) _ | refine below_drewN ?_ _ | refine Below.drew ?_ | refine Below.trans ?_ (Below.mono hb1 (by first | (simp; done) | omega | (simp; omega))) | refine Below.alloc ?_ (by first | (simp; done) | omega | (simp; omega)) _)
  have HP1 := Lib.hid P1; have HS1 := Lib.hid S1; have HB1 := Lib.hid B1
  have y0 : w.heap.size < w1.heap.size := P1.lt
  have y1 : w.heap.size + 1 < w1.heap.size := S1.lt
  obtain ⟨a5, a6, a7⟩ := P1
  obtain ⟨s0, s1⟩ := S1.1 0 (by omega)
  change w1.cell? ⟨w.heap.size + 1, 0, none⟩ = _ at s0
  change w1.cell? ⟨w.heap.size + 1, 1, none⟩ = _ at s1
  obtain ⟨s2, s3⟩ := S1.1 1 (by omega)
  change w1.cell? ⟨w.heap.size + 1, 2, none⟩ = _ at s2
  change w1.cell? ⟨w.heap.size + 1, 3, none⟩ = _ at s3
  obtain ⟨s4, s5⟩ := S1.1 2 (by omega)
  change w1.cell? ⟨w.heap.size + 1, 4, none⟩ = _ at s4
  change w1.cell? ⟨w.heap.size + 1, 5, none⟩ = _ at s5
  obtain ⟨s6, s7⟩ := S1.1 3 (by omega)
  change w1.cell? ⟨w.heap.size + 1, 6, none⟩ = _ at s6
  change w1.cell? ⟨w.heap.size + 1, 7, none⟩ = _ at s7
  obtain ⟨s8, s9⟩ := S1.1 4 (by omega)
  change w1.cell? ⟨w.heap.size + 1, 8, none⟩ = _ at s8
  change w1.cell? ⟨w.heap.size + 1, 9, none⟩ = _ at s9
  clear hb1 S1 B1 zb
  go_wp2_with fail
  refine (watchStep_no m0 m1 m2 m3 m4 up down most x x x x x 0 true C _ j hj HC.out HN).mono ?_
  rintro e2 w2 ⟨rfl, hb2⟩
  have A2 : Below w1.heap.size w1 w2 := by repeat (first | with_reducible exact Below.refl _ _ | ((with_reducible refine Below.setCell ?_ ?_ _); rotate_left; (· first | (simp; done) | omega | (simp; omega))) | with_reducible refine below_drewN ?_ _ | with_reducible refine Below.drew ?_ | ((with_reducible refine Below.trans ?_ (Below.mono hb2 ?_)); rotate_left; (· first | (simp; done) | omega | (simp; omega))) | ((with_reducible refine Below.alloc ?_ ?_ _); rotate_left; (· first | (simp; done) | omega | (simp; omega))) | exact Below.refl _ _ | refine Below.setCell ?_ (by first | (simp; done) | omega | (simp; omega)) _ | refine below_drewN ?_ _ | refine Below.drew ?_ | refine Below.trans ?_ (Below.mono hb2 (by first | (simp; done) | omega | (simp; omega))) | refine Below.alloc ?_ (by first | (simp; done) | omega | (simp; omega)) _)
  have HB2 := Lib.hid (HB1.out.trans (A2.mono HB1.out.size))
  clear hb2 A2
  go_wp2
  go_ret
  exact ⟨rfl, HB2.out.alloc HB2.out.size _⟩
theorem law (m0 m1 m2 m3 m4 up down most n0 : Int) (s0 : Bool) (n1 : Int) (s1 : Bool) (n2 : Int) (s2 : Bool) (n3 : Int) (s3 : Bool) (n4 : Int) (s4 : Bool) (x : Int) (w : World) (hm0 : -2147483648 ≤ m0 ∧ m0 ≤ 2147483647) (hm1 : -2147483648 ≤ m1 ∧ m1 ≤ 2147483647) (hm2 : -2147483648 ≤ m2 ∧ m2 ≤ 2147483647) (hm3 : -2147483648 ≤ m3 ∧ m3 ≤ 2147483647) (hm4 : -2147483648 ≤ m4 ∧ m4 ≤ 2147483647) (hup : -9223372036854775808 ≤ up ∧ up ≤ 9223372036854775807) (hdown : -9223372036854775808 ≤ down ∧ down ≤ 9223372036854775807) (hmost : -9223372036854775808 ≤ most ∧ most ≤ 9223372036854775807) (hn0 : -9223372036854775808 ≤ n0 ∧ n0 ≤ 9223372036854775807) (hn1 : -9223372036854775808 ≤ n1 ∧ n1 ≤ 9223372036854775807) (hn2 : -9223372036854775808 ≤ n2 ∧ n2 ≤ 9223372036854775807) (hn3 : -9223372036854775808 ≤ n3 ∧ n3 ≤ 9223372036854775807) (hn4 : -9223372036854775808 ≤ n4 ∧ n4 ≤ 9223372036854775807) (hx : -2147483648 ≤ x ∧ x ≤ 2147483647) :
    Calls Try.prog 10 #[watchV m0 m1 m2 m3 m4 up down most, .agg #[.int .i64 n0, .bool s0, .int .i64 n1, .bool s1, .int .i64 n2, .bool s2, .int .i64 n3, .bool s3, .int .i64 n4, .bool s4], .int .i32 x] w fun e w' => e = .returned (.bool true) ∧ Below w.heap.size w w' := by
  by_cases h : ∀ k, k < 5 → (0 ≤ sel5 m0 m1 m2 m3 m4 k ∧ CountOk up down most (cnt5 n0 n1 n2 n3 n4 s0 s1 s2 s3 s4 k).1)
  · exact yes m0 m1 m2 m3 m4 up down most x (cnt5 n0 n1 n2 n3 n4 s0 s1 s2 s3 s4) w hm0 hm1 hm2 hm3 hm4 hx ⟨(h 0 (by omega)).1, (h 1 (by omega)).1, (h 2 (by omega)).1, (h 3 (by omega)).1, (h 4 (by omega)).1⟩ (fun k hk => (h k hk).2)
  · obtain ⟨j, hj, h1, h2⟩ := least_fail _ 5 h
    exact no m0 m1 m2 m3 m4 up down most x (cnt5 n0 n1 n2 n3 n4 s0 s1 s2 s3 s4) w j hj h1 h2
set_option maxRecDepth 100000 in
theorem lifted (os : Os) (started : os.Started) (H : Type) (enc : TypeId × Value → H) :
    ReturnsInHanded {} Try.checked os 10 .any (Rows.watchQuietSpec.pre6 enc Try.prog Try.f10 Rows.watchQuietRow.domain false) (Rows.watchQuietSpec.post enc Try.prog Try.f10 false true false false) := by
  refine returnsInHanded_of_change (C := Try.checked) own started (by kernel_rfl) Try.func10
    (ChangeSpec.witness6 (enc := enc) (C := Try.checked) false ⟨#[], #[.agg #[.int .i32 0, .int .i32 0, .int .i32 0, .int .i32 0, .int .i32 0, .int .i64 0, .int .i64 0, .int .i64 0], .agg #[.int .i64 0, .bool false, .int .i64 0, .bool false, .int .i64 0, .bool false, .int .i64 0, .bool false, .int .i64 0, .bool false], .int .i32 0], []⟩ 8 (by kernel_rfl) (by kernel_rfl) (by kernel_rfl) (by kernel_rfl)) ?_
  intro W base args ds gs before hval0 hW hcnd _
  have hval : ∀ (j : Nat) t v, Try.f10.params[j]? = some t → args[j]? = some v → Value.okWide Try.prog W .any base t v := hval0
  have hW' := hW
  obtain ⟨p, q, hA0, hV, rfl, hfz, hnd⟩ := hW
  have hA : DataW.TrodAll enc Try.prog W 0 (fun _ => true) true Try.f10.params.toList args.toList ds p := hA0
  rw [Try.params10] at hA hval
  obtain ⟨v0, vs0, d0, ds0, p0, q0, hargs, rfl, rfl, h0, r0⟩ := trodAll_cons hA
  obtain ⟨v1, vs1, d1, ds1, p1, q1, rfl, rfl, rfl, h1, r1⟩ := trodAll_cons r0
  obtain ⟨v2, vs2, d2, ds2, p2, q2, rfl, rfl, rfl, h2, r2⟩ := trodAll_cons r1
  obtain ⟨rfl, rfl, rfl⟩ := trodAll_nil r2
  obtain rfl : args = #[v0, v1, v2] := by cases args; simp_all
  obtain ⟨rfl, rfl⟩ := trodVars_none hV
  have k0 := h0
  have lt0 : ∀ x ∈ p0, x.block < W.heap.size := by obtain ⟨m, hm⟩ := k0; exact DataW.trod_lt m _ _ _ hm
  have k1 := h1
  have lt1 : ∀ x ∈ p1, x.block < W.heap.size := by obtain ⟨m, hm⟩ := k1; exact DataW.trod_lt m _ _ _ hm
  have k2 := h2
  have lt2 : ∀ x ∈ p2, x.block < W.heap.size := by obtain ⟨m, hm⟩ := k2; exact DataW.trod_lt m _ _ _ hm
  obtain ⟨cs0, rfl, lf0_0⟩ := open_flat 12 [21, 21, 21, 21, 21, 3, 3, 3] (by kernel_rfl) (by kernel_rfl) (by kernel_rfl) (hval 0 46 v0 rfl rfl) h0
  obtain ⟨c0_0, r0_0, rfl, y0_0, lf0_1⟩ := leafs_cons lf0_0
  obtain ⟨a0_0, rfl, w0_0⟩ := leaf_int Try.underlying21 y0_0
  obtain ⟨c0_1, r0_1, rfl, y0_1, lf0_2⟩ := leafs_cons lf0_1
  obtain ⟨a0_1, rfl, w0_1⟩ := leaf_int Try.underlying21 y0_1
  obtain ⟨c0_2, r0_2, rfl, y0_2, lf0_3⟩ := leafs_cons lf0_2
  obtain ⟨a0_2, rfl, w0_2⟩ := leaf_int Try.underlying21 y0_2
  obtain ⟨c0_3, r0_3, rfl, y0_3, lf0_4⟩ := leafs_cons lf0_3
  obtain ⟨a0_3, rfl, w0_3⟩ := leaf_int Try.underlying21 y0_3
  obtain ⟨c0_4, r0_4, rfl, y0_4, lf0_5⟩ := leafs_cons lf0_4
  obtain ⟨a0_4, rfl, w0_4⟩ := leaf_int Try.underlying21 y0_4
  obtain ⟨c0_5, r0_5, rfl, y0_5, lf0_6⟩ := leafs_cons lf0_5
  obtain ⟨a0_5, rfl, w0_5⟩ := leaf_int Try.underlying3 y0_5
  obtain ⟨c0_6, r0_6, rfl, y0_6, lf0_7⟩ := leafs_cons lf0_6
  obtain ⟨a0_6, rfl, w0_6⟩ := leaf_int Try.underlying3 y0_6
  obtain ⟨c0_7, r0_7, rfl, y0_7, lf0_8⟩ := leafs_cons lf0_7
  obtain ⟨a0_7, rfl, w0_7⟩ := leaf_int Try.underlying3 y0_7
  obtain rfl := leafs_nil lf0_8
  obtain ⟨cs1, rfl, lf1_0⟩ := open_flat 12 [3, 4, 3, 4, 3, 4, 3, 4, 3, 4] (by kernel_rfl) (by kernel_rfl) (by kernel_rfl) (hval 1 80 v1 rfl rfl) h1
  obtain ⟨c1_0, r1_0, rfl, y1_0, lf1_1⟩ := leafs_cons lf1_0
  obtain ⟨a1_0, rfl, w1_0⟩ := leaf_int Try.underlying3 y1_0
  obtain ⟨c1_1, r1_1, rfl, y1_1, lf1_2⟩ := leafs_cons lf1_1
  obtain ⟨a1_1, rfl⟩ := leaf_bool Try.underlying4 y1_1
  obtain ⟨c1_2, r1_2, rfl, y1_2, lf1_3⟩ := leafs_cons lf1_2
  obtain ⟨a1_2, rfl, w1_2⟩ := leaf_int Try.underlying3 y1_2
  obtain ⟨c1_3, r1_3, rfl, y1_3, lf1_4⟩ := leafs_cons lf1_3
  obtain ⟨a1_3, rfl⟩ := leaf_bool Try.underlying4 y1_3
  obtain ⟨c1_4, r1_4, rfl, y1_4, lf1_5⟩ := leafs_cons lf1_4
  obtain ⟨a1_4, rfl, w1_4⟩ := leaf_int Try.underlying3 y1_4
  obtain ⟨c1_5, r1_5, rfl, y1_5, lf1_6⟩ := leafs_cons lf1_5
  obtain ⟨a1_5, rfl⟩ := leaf_bool Try.underlying4 y1_5
  obtain ⟨c1_6, r1_6, rfl, y1_6, lf1_7⟩ := leafs_cons lf1_6
  obtain ⟨a1_6, rfl, w1_6⟩ := leaf_int Try.underlying3 y1_6
  obtain ⟨c1_7, r1_7, rfl, y1_7, lf1_8⟩ := leafs_cons lf1_7
  obtain ⟨a1_7, rfl⟩ := leaf_bool Try.underlying4 y1_7
  obtain ⟨c1_8, r1_8, rfl, y1_8, lf1_9⟩ := leafs_cons lf1_8
  obtain ⟨a1_8, rfl, w1_8⟩ := leaf_int Try.underlying3 y1_8
  obtain ⟨c1_9, r1_9, rfl, y1_9, lf1_10⟩ := leafs_cons lf1_9
  obtain ⟨a1_9, rfl⟩ := leaf_bool Try.underlying4 y1_9
  obtain rfl := leafs_nil lf1_10
  obtain ⟨a2, rfl, rfl, rfl, w2⟩ := open_int Try.underlying21 (hval 2 21 v2 rfl rfl) h2
  clear hA0 hval0
  refine (law a0_0 a0_1 a0_2 a0_3 a0_4 a0_5 a0_6 a0_7 a1_0 a1_1 a1_2 a1_3 a1_4 a1_5 a1_6 a1_7 a1_8 a1_9 a2 W (bounds_i32 w0_0) (bounds_i32 w0_1) (bounds_i32 w0_2) (bounds_i32 w0_3) (bounds_i32 w0_4) (bounds_i64 w0_5) (bounds_i64 w0_6) (bounds_i64 w0_7) (bounds_i64 w1_0) (bounds_i64 w1_2) (bounds_i64 w1_4) (bounds_i64 w1_6) (bounds_i64 w1_8) (bounds_i32 w2)).mono fun e W' ⟨he, bel⟩ => ?_
  subst he
  exact ⟨_, rfl, _, _, _, [], _, [], hW', trodAll_mk1 (shut_bool Try.underlying4 _), (trodAll_cons_mk (Below.trod laidOut (by kernel_rfl) (of_decide_eq_true (by kernel_rfl)) k0 bel lt0) (trodAll_cons_mk (Below.trod laidOut (by kernel_rfl) (of_decide_eq_true (by kernel_rfl)) k1 bel lt1) (trodAll_cons_mk (Below.trod laidOut (by kernel_rfl) (of_decide_eq_true (by kernel_rfl)) k2 bel lt2) trodAll_mk0))), rfl, bel.frame _, fun h => by cases h⟩
theorem over : Rows.watchQuietRow.holds Try.pinned (OpenSpec.ofChange Rows.watchQuietSpec) :=
  OpenClaim.holds_of_wide 10 Try.f10 rfl rfl rfl rfl rfl rfl rfl ⟨rfl, rfl, rfl, rfl, rfl⟩ rfl rfl rfl rfl rfl (by kernel_rfl) Try.func10 (by kernel_rfl)
    (of_decide_eq_true (by kernel_rfl)) (by unfold Func.isWrapper; first | (rw [if_pos (by decide +kernel)]; kernel_rfl) | (rw [if_neg (by decide +kernel)]; exact ⟨rfl, rfl⟩))
    (fun os started H enc _ => lifted os started H enc)
theorem proved : Rows.WatchQuietSaid := over
#print axioms proved

end Go.Proofs.Ytacelddnklnhpaa.watchQuiet
