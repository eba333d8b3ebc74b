/- TableKnots: whatever the table and the number are, the law answers true and leaves memory as it was. -/
import Derived.Test.YtindfoknbfmmbaaTable
import Derived.Deep.QuietTactic
import Derived.BigQuiet
namespace Go.Proofs.Ytindfoknbfmmbaa.tableKnots
open Go.ChangeShapes Go.WideShapes Go.ChangeAt Go.RowKit Go.Proofs.Ytindfoknbfmmbaa Go.Proofs.Ytindfoknbfmmbaa.Open
set_option linter.unusedVariables false
theorem row2 {w : World} {b : Nat} {p q : Int} (c0 : w.cell? ⟨b, 0, none⟩ = some (.int .i32 p)) (c1 : w.cell? ⟨b, 1, none⟩ = some (.int .i32 q)) (hp : (Lit.int .i32 p).wf = true) (hq : (Lit.int .i32 q).wf = true) : IsRow .i32 w (some ⟨b, 0, none⟩) 2 2 [p, q] := by
  refine .inr ⟨_, rfl, by omega, by unfold maxLen; omega, rfl, fun i hi => ?_, fun n hn => ?_⟩
  · rcases (by simp at hi; omega : i = 0 ∨ i = 1) with rfl | rfl
    · simpa [Addr.add] using c0
    · simpa [Addr.add] using c1
  · simp at hn; rcases hn with rfl | rfl <;> assumption
/-- what holds at each round's head -/
def Rel (w : World) (s t : Value) (lx : Nat) (i : Value) (wr : World) : Prop := ∃ k : Nat, k ≤ lx ∧ i = .int .i64 k ∧ Below w.heap.size w wr ∧ w.heap.size < wr.heap.size ∧ wr.cell? ⟨w.heap.size, 0, none⟩ = some s ∧ wr.cell? ⟨w.heap.size, 1, none⟩ = some t
theorem rel_mk {w : World} {s t : Value} {lx : Nat} {i : Value} {wr : World} (k : Nat) (h1 : k ≤ lx) (h2 : i = .int .i64 k) (h3 : Below w.heap.size w wr) (h4 : w.heap.size < wr.heap.size) (h5 : wr.cell? ⟨w.heap.size, 0, none⟩ = some s) (h6 : wr.cell? ⟨w.heap.size, 1, none⟩ = some t) : Rel w s t lx i wr :=
  ⟨k, h1, h2, h3, h4, h5, h6⟩
set_option maxHeartbeats 4000000 in
set_option maxRecDepth 100000 in
theorem no (ax : Option Addr) (lx cx : Nat) (xs : List Int) (ay : Option Addr) (ly cy : Nat) (ys : List Int) (x : Int) (w : World) (hx : IsRow .i32 w ax lx cx xs) (hy : IsRow .i32 w ay ly cy ys) (hbx : -2147483648 ≤ x ∧ x ≤ 2147483647) (e : Int) (he : tabChk lx ly xs = e) (h0 : e ≠ 0) :
    Calls Try.prog 3 #[.agg #[.slice ax lx cx, .slice ay ly cy], .int .i32 x] w fun e w' => e = .returned (.bool true) ∧ Below w.heap.size w w' := by
  have HX := Lib.hid hx; have HE := Lib.hid he; have hl := hy.maxLen
  have d0 : (e != 0) = true := by simpa using h0
  have H0 := Lib.hid h0
  have K0 : Hid (TabOk 2 2 [0, 4]) := (⟨by decide, by decide, rfl, by intro i hi; rcases (by omega : i = 0) with rfl; decide⟩ : TabOk 2 2 [0, 4])
  have K1 : Hid (atI [0, 4] [0, 8] 2 3 = 6) := (by decide +kernel : atI [0, 4] [0, 8] 2 3 = 6)
  clear hx hy he h0
  go_enter Try.func3, Try.ntmps3
  go_wp2_with fail
  refine (at_yes _ _ _ [0, 4] _ _ _ [0, 8] _ _ (row2 (by go_simp) (by go_simp) (by decide) (by decide)) (row2 (by go_simp) (by go_simp) (by decide) (by decide)) (by omega) K0.out 6 K1.out).mono ?_
  rintro e1 w1 ⟨rfl, hb1⟩
  have z1 := hb1.size
  try (simp at z1)
  have B1 : Below w.heap.size w w1 := by repeat (first | with_reducible exact Below.refl _ _ | ((with_reducible refine Below.setCell ?_ ?_ _); rotate_left; (· first | (simp; done) | omega | (simp; omega))) | with_reducible refine below_drewN ?_ _ | with_reducible refine Below.drew ?_ | ((with_reducible refine Below.trans ?_ (Below.mono hb1 ?_)); rotate_left; (· first | (simp; done) | omega | (simp; omega))) | ((with_reducible refine Below.alloc ?_ ?_ _); rotate_left; (· first | (simp; done) | omega | (simp; omega))) | exact Below.refl _ _ | refine Below.setCell ?_ (by first | (simp; done) | omega | (simp; omega)) _ | refine below_drewN ?_ _ | refine Below.drew ?_ | refine Below.trans ?_ (Below.mono hb1 (by first | (simp; done) | omega | (simp; omega))) | refine Below.alloc ?_ (by first | (simp; done) | omega | (simp; omega)) _)
  have t0 : w1.cell? ⟨w.heap.size, 0, none⟩ = some (.slice ax lx cx) := cell_later hb1 (by go_simp)
  have t1 : w1.cell? ⟨w.heap.size, 1, none⟩ = some (.slice ay ly cy) := cell_later hb1 (by go_simp)
  have s1 : w.heap.size < w1.heap.size := by omega
  clear hb1
  go_wp2_with fail
  refine (at_no _ _ _ _ _ _ _ _ _ (HX.out.later B1) hl e HE.out H0.out).mono ?_
  rintro e2 w2 ⟨rfl, hb2⟩
  have z2 := hb2.size
  have B2 : Below w.heap.size w w2 := by repeat (first | with_reducible exact Below.refl _ _ | with_reducible exact B1 | ((with_reducible refine Below.setCell ?_ ?_ _); rotate_left; (· first | (simp; done) | omega | (simp; omega))) | with_reducible refine below_drewN ?_ _ | with_reducible refine Below.drew ?_ | ((with_reducible refine Below.trans ?_ (Below.mono hb2 ?_)); rotate_left; (· first | (simp; done) | omega | (simp; omega))) | ((with_reducible refine Below.alloc ?_ ?_ _); rotate_left; (· first | (simp; done) | omega | (simp; omega))) | exact Below.refl _ _ | exact B1 | refine Below.setCell ?_ (by first | (simp; done) | omega | (simp; omega)) _ | refine below_drewN ?_ _ | refine Below.drew ?_ | refine Below.trans ?_ (Below.mono hb2 (by first | (simp; done) | omega | (simp; omega))) | refine Below.alloc ?_ (by first | (simp; done) | omega | (simp; omega)) _)
  replace t0 := cell_later hb2 t0
  replace t1 := cell_later hb2 t1
  have s2 : w.heap.size < w2.heap.size := by omega
  clear hb2
  go_wp2_with fail
  refine (tabCheck_any _ _ _ _ _ _ _ _ (HX.out.later B2) hl e HE.out).mono ?_
  rintro e3 w3 ⟨rfl, hb3⟩
  go_wp2
  go_ret
  refine ⟨ret_bool (by first | rfl | (simp; done)), ?_⟩
  repeat (first | with_reducible exact Below.refl _ _ | with_reducible exact B2 | ((with_reducible refine Below.setCell ?_ ?_ _); rotate_left; (· first | (simp; done) | omega | (simp; omega))) | with_reducible refine below_drewN ?_ _ | with_reducible refine Below.drew ?_ | ((with_reducible refine Below.trans ?_ (Below.mono hb3 ?_)); rotate_left; (· first | (simp; done) | omega | (simp; omega))) | ((with_reducible refine Below.alloc ?_ ?_ _); rotate_left; (· first | (simp; done) | omega | (simp; omega))) | exact Below.refl _ _ | exact B2 | refine Below.setCell ?_ (by first | (simp; done) | omega | (simp; omega)) _ | refine below_drewN ?_ _ | refine Below.drew ?_ | refine Below.trans ?_ (Below.mono hb3 (by first | (simp; done) | omega | (simp; omega))) | refine Below.alloc ?_ (by first | (simp; done) | omega | (simp; omega)) _)
set_option maxHeartbeats 8000000 in
set_option maxRecDepth 100000 in
theorem yes (ax : Option Addr) (lx cx : Nat) (xs : List Int) (ay : Option Addr) (ly cy : Nat) (ys : List Int) (x : Int) (w : World) (hx : IsRow .i32 w ax lx cx xs) (hy : IsRow .i32 w ay ly cy ys) (hbx : -2147483648 ≤ x ∧ x ≤ 2147483647) (hok : TabOk lx ly xs) :
    Calls Try.prog 3 #[.agg #[.slice ax lx cx, .slice ay ly cy], .int .i32 x] w fun e w' => e = .returned (.bool true) ∧ Below w.heap.size w w' := by
  have HX := Lib.hid hx; have HY := Lib.hid hy; have HO := Lib.hid hok
  have K0 : Hid (TabOk 2 2 [0, 4]) := (⟨by decide, by decide, rfl, by intro i hi; rcases (by omega : i = 0) with rfl; decide⟩ : TabOk 2 2 [0, 4])
  have K1 : Hid (atI [0, 4] [0, 8] 2 3 = 6) := (by decide +kernel : atI [0, 4] [0, 8] 2 3 = 6)
  obtain ⟨k1, k2, rfl, hris⟩ := hok
  obtain ⟨b, off, rfl, hlx, hmx, -, hcx, hwx⟩ := hx.pos (by omega)
  obtain ⟨c, on, rfl, hly, hmy, -, hcy, hwy⟩ := hy.pos (by omega)
  have hb : b < w.heap.size := by have := World.block_lt_of_cell? _ _ (hcx 0 (by omega)); simpa using this
  have hc : c < w.heap.size := by have := World.block_lt_of_cell? _ _ (hcy 0 (by omega)); simpa using this
  have HCX := Lib.hid hcx; have HCY := Lib.hid hcy; have HWX := Lib.hid hwx; have HWY := Lib.hid hwy; have HR := Lib.hid hris
  have hvb := at_bd hris (by omega : 0 < lx) x (fun j => bounds_i32 (hwy j)) (ys := ys)
  obtain ⟨v, hv⟩ : ∃ v, atI xs ys lx x = v := ⟨_, rfl⟩
  rw [hv] at hvb
  have HV := Lib.hid hv
  clear hx hy hcx hcy hwx hwy hris hv hmx hmy
  go_enter Try.func3, Try.ntmps3
  go_wp2_with fail
  refine (at_yes _ _ _ [0, 4] _ _ _ [0, 8] _ _ (row2 (by go_simp) (by go_simp) (by decide) (by decide)) (row2 (by go_simp) (by go_simp) (by decide) (by decide)) (by omega) K0.out 6 K1.out).mono ?_
  rintro e1 w1 ⟨rfl, hb1⟩
  have z1 := hb1.size
  try (simp at z1)
  have B1 : Below w.heap.size w w1 := by repeat (first | with_reducible exact Below.refl _ _ | ((with_reducible refine Below.setCell ?_ ?_ _); rotate_left; (· first | (simp; done) | omega | (simp; omega))) | with_reducible refine below_drewN ?_ _ | with_reducible refine Below.drew ?_ | ((with_reducible refine Below.trans ?_ (Below.mono hb1 ?_)); rotate_left; (· first | (simp; done) | omega | (simp; omega))) | ((with_reducible refine Below.alloc ?_ ?_ _); rotate_left; (· first | (simp; done) | omega | (simp; omega))) | exact Below.refl _ _ | refine Below.setCell ?_ (by first | (simp; done) | omega | (simp; omega)) _ | refine below_drewN ?_ _ | refine Below.drew ?_ | refine Below.trans ?_ (Below.mono hb1 (by first | (simp; done) | omega | (simp; omega))) | refine Below.alloc ?_ (by first | (simp; done) | omega | (simp; omega)) _)
  have t0 : w1.cell? ⟨w.heap.size, 0, none⟩ = some (.slice (some ⟨b, off, none⟩) lx cx) := cell_later hb1 (by go_simp)
  have t1 : w1.cell? ⟨w.heap.size, 1, none⟩ = some (.slice (some ⟨c, on, none⟩) lx cy) := cell_later hb1 (by go_simp)
  have s1 : w.heap.size < w1.heap.size := by omega
  clear hb1
  go_wp2_with fail
  refine (at_yes _ _ _ _ _ _ _ _ _ _ (HX.out.later B1) (HY.out.later B1) hbx HO.out v HV.out).mono ?_
  rintro e2 w2 ⟨rfl, hb2⟩
  have z2 := hb2.size
  have B2 : Below w.heap.size w w2 := by repeat (first | with_reducible exact Below.refl _ _ | with_reducible exact B1 | ((with_reducible refine Below.setCell ?_ ?_ _); rotate_left; (· first | (simp; done) | omega | (simp; omega))) | with_reducible refine below_drewN ?_ _ | with_reducible refine Below.drew ?_ | ((with_reducible refine Below.trans ?_ (Below.mono hb2 ?_)); rotate_left; (· first | (simp; done) | omega | (simp; omega))) | ((with_reducible refine Below.alloc ?_ ?_ _); rotate_left; (· first | (simp; done) | omega | (simp; omega))) | exact Below.refl _ _ | exact B1 | refine Below.setCell ?_ (by first | (simp; done) | omega | (simp; omega)) _ | refine below_drewN ?_ _ | refine Below.drew ?_ | refine Below.trans ?_ (Below.mono hb2 (by first | (simp; done) | omega | (simp; omega))) | refine Below.alloc ?_ (by first | (simp; done) | omega | (simp; omega)) _)
  replace t0 := cell_later hb2 t0
  replace t1 := cell_later hb2 t1
  have s2 : w.heap.size < w2.heap.size := by omega
  clear hb2 B1
  go_wp2
  go_loopw [49] (fun i wr => Rel w (.slice (some ⟨b, off, none⟩) lx cx) (.slice (some ⟨c, on, none⟩) lx cy) lx i wr) (fun i _ => lx - (intOf i).toNat)
  case atStart => exact rel_mk 0 (Nat.zero_le _) rfl B2 s2 t0 t1
  case round =>
    clear t0 t1
    obtain ⟨k, hk, rfl, hB, hsz, t0, t1⟩ := hrel
    by_cases hlt : k < lx
    · obtain ⟨p0, hp0⟩ : ∃ p, xs.getD k 0 = p := ⟨_, rfl⟩
      obtain ⟨p1, hp1⟩ : ∃ p, xs.getD (k + 1) 0 = p := ⟨_, rfl⟩
      obtain ⟨q0, hq0⟩ : ∃ p, ys.getD k 0 = p := ⟨_, rfl⟩
      obtain ⟨q1, hq1⟩ : ∃ p, ys.getD (k + 1) 0 = p := ⟨_, rfl⟩
      have x0 := cell_later hB (HCX.out k (by omega))
      have bx0 := bounds_i32 (HWX.out k)
      have by0 := bounds_i32 (HWY.out k)
      have bx1 := bounds_i32 (HWX.out (k + 1))
      have by1 := bounds_i32 (HWY.out (k + 1))
      have hK := at_knot HR.out k hlt (ys := ys)
      have hQ : k + 1 < lx → xs.getD k 0 ≤ x → x ≤ xs.getD (k + 1) 0 → min (ys.getD k 0) (ys.getD (k + 1) 0) ≤ v ∧ v ≤ max (ys.getD k 0) (ys.getD (k + 1) 0) :=
        fun h1 h2 h3 => by rw [← HV.out]; exact at_between HR.out x k h1 h2 h3
      rw [hp0] at x0 bx0 hK hQ
      rw [hq0] at hK by0 hQ
      rw [hp1] at bx1 hQ
      rw [hq1] at by1 hQ
      have HK := Lib.hid hK; have HQ := Lib.hid hQ; have P0 := Lib.hid hp0; have P1 := Lib.hid hp1; have Q0 := Lib.hid hq0; have Q1 := Lib.hid hq1
      clear hK hQ hp0 hp1 hq0 hq1
      have hb2 : b < wr.heap.size := by omega
      have hc2 : c < wr.heap.size := by omega
      go_wp2_with fail
      refine (at_yes _ _ _ _ _ _ _ _ _ _ (HX.out.later hB) (HY.out.later hB) bx0 HO.out _ HK.out).mono ?_
      rintro e3 w3 ⟨rfl, hb3⟩
      have z3 := hb3.size
      have B3 : Below w.heap.size w w3 := by repeat (first | with_reducible exact Below.refl _ _ | with_reducible exact hB | ((with_reducible refine Below.setCell ?_ ?_ _); rotate_left; (· first | (simp; done) | omega | (simp; omega))) | with_reducible refine below_drewN ?_ _ | with_reducible refine Below.drew ?_ | ((with_reducible refine Below.trans ?_ (Below.mono hb3 ?_)); rotate_left; (· first | (simp; done) | omega | (simp; omega))) | ((with_reducible refine Below.alloc ?_ ?_ _); rotate_left; (· first | (simp; done) | omega | (simp; omega))) | exact Below.refl _ _ | exact hB | refine Below.setCell ?_ (by first | (simp; done) | omega | (simp; omega)) _ | refine below_drewN ?_ _ | refine Below.drew ?_ | refine Below.trans ?_ (Below.mono hb3 (by first | (simp; done) | omega | (simp; omega))) | refine Below.alloc ?_ (by first | (simp; done) | omega | (simp; omega)) _)
      replace t0 := cell_later hb3 t0
      replace t1 := cell_later hb3 t1
      have s3 : w.heap.size < w3.heap.size := by omega
      clear hb3 hB x0 HK hb2 hc2
      have x0 := cell_later B3 (HCX.out k (by omega))
      have y0 := cell_later B3 (HCY.out k (by omega))
      rw [P0.out] at x0
      rw [Q0.out] at y0
      have hb2 : b < w3.heap.size := by omega
      have hc2 : c < w3.heap.size := by omega
      have i1 : IntKind.i64.wrap ((k : Int) + 1) = (k : Int) + 1 := IntWalk.i64_in _ (by omega)
      have i2 : 0 ≤ (k : Int) + 1 := by omega
      have i3 : ((k : Int) + 1).toNat = k + 1 := by omega
      by_cases hn : k + 1 < lx
      · have x1 := cell_later B3 (HCX.out (k + 1) (by omega))
        have y1 := cell_later B3 (HCY.out (k + 1) (by omega))
        rw [P1.out] at x1
        rw [Q1.out] at y1
        have n1 : decide ((k : Int) + 1 < lx) = true := decide_eq_true (by omega)
        by_cases g1 : p0 ≤ x
        · by_cases g2 : x ≤ p1
          · have hq := HQ.out hn g1 g2
            have n2 : decide (p0 ≤ x) = true := decide_eq_true g1
            have n3 : decide (x ≤ p1) = true := decide_eq_true g2
            rcases (by omega : q0 < q1 ∨ q0 = q1 ∨ q1 < q0) with o | rfl | o
            · have n4 : decide (v < q0) = false := decide_eq_false (by omega)
              have n5 : decide (q1 < v) = false := decide_eq_false (by omega)
              have n6 : ¬ q1 < q0 := by omega
              clear hq
              go_wp2
              go_quiet (fail)
              go_wp2
              go_roundw
              case rel => exact rel_mk (k + 1) (by omega) (by go_num) (by repeat (first | with_reducible exact Below.refl _ _ | with_reducible exact B3 | ((with_reducible refine Below.setCell ?_ ?_ _); rotate_left; (· first | (simp; done) | omega | (simp; omega))) | with_reducible refine below_drewN ?_ _ | with_reducible refine Below.drew ?_ | ((with_reducible refine Below.alloc ?_ ?_ _); rotate_left; (· first | (simp; done) | omega | (simp; omega))) | exact Below.refl _ _ | exact B3 | refine Below.setCell ?_ (by first | (simp; done) | omega | (simp; omega)) _ | refine below_drewN ?_ _ | refine Below.drew ?_ | refine Below.alloc ?_ (by first | (simp; done) | omega | (simp; omega)) _)) (by simp; omega) (by go_simp) (by go_simp)
              case measure => simp [intOf]; omega
            · have n4 : decide (v < q0) = false := decide_eq_false (by omega)
              have n5 : decide (q0 < v) = false := decide_eq_false (by omega)
              clear hq
              go_wp2
              go_quiet (fail)
              go_wp2
              go_roundw
              case rel => exact rel_mk (k + 1) (by omega) (by go_num) (by repeat (first | with_reducible exact Below.refl _ _ | with_reducible exact B3 | ((with_reducible refine Below.setCell ?_ ?_ _); rotate_left; (· first | (simp; done) | omega | (simp; omega))) | with_reducible refine below_drewN ?_ _ | with_reducible refine Below.drew ?_ | ((with_reducible refine Below.alloc ?_ ?_ _); rotate_left; (· first | (simp; done) | omega | (simp; omega))) | exact Below.refl _ _ | exact B3 | refine Below.setCell ?_ (by first | (simp; done) | omega | (simp; omega)) _ | refine below_drewN ?_ _ | refine Below.drew ?_ | refine Below.alloc ?_ (by first | (simp; done) | omega | (simp; omega)) _)) (by simp; omega) (by go_simp) (by go_simp)
              case measure => simp [intOf]; omega
            · have n4 : decide (v < q1) = false := decide_eq_false (by omega)
              have n5 : decide (q0 < v) = false := decide_eq_false (by omega)
              have n6 : ¬ q0 < q1 := by omega
              clear hq
              go_wp2
              go_quiet (fail)
              go_wp2
              go_roundw
              case rel => exact rel_mk (k + 1) (by omega) (by go_num) (by repeat (first | with_reducible exact Below.refl _ _ | with_reducible exact B3 | ((with_reducible refine Below.setCell ?_ ?_ _); rotate_left; (· first | (simp; done) | omega | (simp; omega))) | with_reducible refine below_drewN ?_ _ | with_reducible refine Below.drew ?_ | ((with_reducible refine Below.alloc ?_ ?_ _); rotate_left; (· first | (simp; done) | omega | (simp; omega))) | exact Below.refl _ _ | exact B3 | refine Below.setCell ?_ (by first | (simp; done) | omega | (simp; omega)) _ | refine below_drewN ?_ _ | refine Below.drew ?_ | refine Below.alloc ?_ (by first | (simp; done) | omega | (simp; omega)) _)) (by simp; omega) (by go_simp) (by go_simp)
              case measure => simp [intOf]; omega
          · have n2 : decide (p0 ≤ x) = true := decide_eq_true g1
            have n3 : decide (x ≤ p1) = false := decide_eq_false g2
            go_wp2
            go_quiet (fail)
            go_wp2
            go_roundw
            case rel => exact rel_mk (k + 1) (by omega) (by go_num) (by repeat (first | with_reducible exact Below.refl _ _ | with_reducible exact B3 | ((with_reducible refine Below.setCell ?_ ?_ _); rotate_left; (· first | (simp; done) | omega | (simp; omega))) | with_reducible refine below_drewN ?_ _ | with_reducible refine Below.drew ?_ | ((with_reducible refine Below.alloc ?_ ?_ _); rotate_left; (· first | (simp; done) | omega | (simp; omega))) | exact Below.refl _ _ | exact B3 | refine Below.setCell ?_ (by first | (simp; done) | omega | (simp; omega)) _ | refine below_drewN ?_ _ | refine Below.drew ?_ | refine Below.alloc ?_ (by first | (simp; done) | omega | (simp; omega)) _)) (by simp; omega) (by go_simp) (by go_simp)
            case measure => simp [intOf]; omega
        · have n2 : decide (p0 ≤ x) = false := decide_eq_false g1
          go_wp2
          go_quiet (fail)
          go_wp2
          go_roundw
          case rel => exact rel_mk (k + 1) (by omega) (by go_num) (by repeat (first | with_reducible exact Below.refl _ _ | with_reducible exact B3 | ((with_reducible refine Below.setCell ?_ ?_ _); rotate_left; (· first | (simp; done) | omega | (simp; omega))) | with_reducible refine below_drewN ?_ _ | with_reducible refine Below.drew ?_ | ((with_reducible refine Below.alloc ?_ ?_ _); rotate_left; (· first | (simp; done) | omega | (simp; omega))) | exact Below.refl _ _ | exact B3 | refine Below.setCell ?_ (by first | (simp; done) | omega | (simp; omega)) _ | refine below_drewN ?_ _ | refine Below.drew ?_ | refine Below.alloc ?_ (by first | (simp; done) | omega | (simp; omega)) _)) (by simp; omega) (by go_simp) (by go_simp)
          case measure => simp [intOf]; omega
      · have n1 : decide ((k : Int) + 1 < lx) = false := decide_eq_false (by omega)
        go_wp2
        go_quiet (fail)
        go_wp2
        go_roundw
        case rel => exact rel_mk (k + 1) (by omega) (by go_num) (by repeat (first | with_reducible exact Below.refl _ _ | with_reducible exact B3 | ((with_reducible refine Below.setCell ?_ ?_ _); rotate_left; (· first | (simp; done) | omega | (simp; omega))) | with_reducible refine below_drewN ?_ _ | with_reducible refine Below.drew ?_ | ((with_reducible refine Below.alloc ?_ ?_ _); rotate_left; (· first | (simp; done) | omega | (simp; omega))) | exact Below.refl _ _ | exact B3 | refine Below.setCell ?_ (by first | (simp; done) | omega | (simp; omega)) _ | refine below_drewN ?_ _ | refine Below.drew ?_ | refine Below.alloc ?_ (by first | (simp; done) | omega | (simp; omega)) _)) (by simp; omega) (by go_simp) (by go_simp)
        case measure => simp [intOf]; omega
    · obtain rfl : k = lx := by omega
      have x0 := cell_later hB (HCX.out 0 (by omega))
      have y0 := cell_later hB (HCY.out 0 (by omega))
      have x1 := cell_later hB (HCX.out (k - 1) (by omega))
      have y1 := cell_later hB (HCY.out (k - 1) (by omega))
      rw [Nat.add_zero] at x0 y0
      have l0 : x < xs.getD 0 0 ∨ x = xs.getD 0 0 → v = ys.getD 0 0 := by
        rintro (h | h)
        · rw [← HV.out]; exact at_low HR.out (by omega) x h
        · rw [← HV.out, h]; exact at_knot HR.out 0 (by omega)
      have l1 : xs.getD (k - 1) 0 ≤ x → v = ys.getD (k - 1) 0 := fun h => by rw [← HV.out]; exact at_high HR.out (by omega) x h
      generalize xs.getD 0 0 = p0 at *
      generalize ys.getD 0 0 = q0 at *
      generalize xs.getD (k - 1) 0 = p1 at *
      generalize ys.getD (k - 1) 0 = q1 at *
      have i1 : IntKind.i64.wrap ((k : Int) - 1) = (k : Int) - 1 := IntWalk.i64_in _ (by omega)
      have i2 : 0 ≤ (k : Int) - 1 := by omega
      have i3 : ((k : Int) - 1).toNat = k - 1 := by omega
      have hb2 : b < wr.heap.size := by omega
      have hc2 : c < wr.heap.size := by omega
      have A : decide (p0 < x) = true ∨ (decide (p0 < x) = false ∧ v = q0) := by
        by_cases h : p0 < x
        · exact .inl (decide_eq_true h)
        · exact .inr ⟨decide_eq_false h, l0 (by omega)⟩
      have B : decide (x < p1) = true ∨ (decide (x < p1) = false ∧ v = q1) := by
        by_cases h : x < p1
        · exact .inl (decide_eq_true h)
        · exact .inr ⟨decide_eq_false h, l1 (by omega)⟩
      clear l0 l1
      rcases A with d1 | ⟨d1, rfl⟩ <;> rcases B with d2 | ⟨d2, rfl⟩
      all_goals
        go_wp2
        go_ret
        refine ⟨ret_bool (by first | rfl | (simp; done)), ?_⟩
        repeat (first | with_reducible exact Below.refl _ _ | with_reducible exact hB | ((with_reducible refine Below.setCell ?_ ?_ _); rotate_left; (· first | (simp; done) | omega | (simp; omega))) | with_reducible refine below_drewN ?_ _ | with_reducible refine Below.drew ?_ | ((with_reducible refine Below.alloc ?_ ?_ _); rotate_left; (· first | (simp; done) | omega | (simp; omega))) | exact Below.refl _ _ | exact hB | refine Below.setCell ?_ (by first | (simp; done) | omega | (simp; omega)) _ | refine below_drewN ?_ _ | refine Below.drew ?_ | refine Below.alloc ?_ (by first | (simp; done) | omega | (simp; omega)) _)
theorem law (ax : Option Addr) (lx cx : Nat) (xs : List Int) (ay : Option Addr) (ly cy : Nat) (ys : List Int) (x : Int) (w : World) (hx : IsRow .i32 w ax lx cx xs) (hy : IsRow .i32 w ay ly cy ys) (hbx : -2147483648 ≤ x ∧ x ≤ 2147483647) :
    Calls Try.prog 3 #[.agg #[.slice ax lx cx, .slice ay ly cy], .int .i32 x] w fun e w' => e = .returned (.bool true) ∧ Below w.heap.size w w' := by
  by_cases h : tabChk lx ly xs = 0
  · exact yes _ _ _ _ _ _ _ _ _ _ hx hy hbx (tabChk_ok.1 h)
  · exact no _ _ _ _ _ _ _ _ _ _ hx hy hbx _ rfl h
set_option maxRecDepth 100000 in
theorem lifted (os : Os) (started : os.Started) (H : Type) (enc : TypeId × Value → H) :
    ReturnsInHanded {} Try.checked os 3 .any (Rows.tableKnotsSpec.pre6 enc Try.prog Try.f3 Rows.tableKnotsRow.domain false) (Rows.tableKnotsSpec.post enc Try.prog Try.f3 false true false false) := by
  refine returnsInHanded_of_change (C := Try.checked) own started (by kernel_rfl) Try.func3
    (ChangeSpec.witness6 (enc := enc) (C := Try.checked) false ⟨#[], #[.agg #[.slice none 0 0, .slice none 0 0], .int .i32 0], []⟩ 8 (by kernel_rfl) (by kernel_rfl) (by kernel_rfl) (by kernel_rfl)) ?_
  intro W base args ds gs before hval0 hW hcnd _
  have hval : ∀ (j : Nat) t v, Try.f3.params[j]? = some t → args[j]? = some v → Value.okWide Try.prog W .any base t v := hval0
  have hW' := hW
  obtain ⟨p, q, hA0, hV, rfl, hfz, hnd⟩ := hW
  have hA : DataW.TrodAll enc Try.prog W 0 (fun _ => true) true Try.f3.params.toList args.toList ds p := hA0
  rw [Try.params3] at hA hval
  obtain ⟨v0, vs0, d0, ds0, p0, q0, hargs, rfl, rfl, h0, r0⟩ := trodAll_cons hA
  obtain ⟨v1, vs1, d1, ds1, p1, q1, rfl, rfl, rfl, h1, r1⟩ := trodAll_cons r0
  obtain ⟨rfl, rfl, rfl⟩ := trodAll_nil r1
  obtain rfl : args = #[v0, v1] := by cases args; simp_all
  obtain ⟨rfl, rfl⟩ := trodVars_none hV
  have k0 := h0
  have lt0 : ∀ x ∈ p0, x.block < W.heap.size := by obtain ⟨m, hm⟩ := k0; exact DataW.trod_lt m _ _ _ hm
  have k1 := h1
  have lt1 : ∀ x ∈ p1, x.block < W.heap.size := by obtain ⟨m, hm⟩ := k1; exact DataW.trod_lt m _ _ _ hm
  obtain ⟨cs0, rfl, lf0_0⟩ := open_flat 12 [22, 22] (by kernel_rfl) (by kernel_rfl) (by kernel_rfl) (hval 0 24 v0 rfl rfl) h0
  obtain ⟨c0_0, r0_0, rfl, y0_0, lf0_1⟩ := leafs_cons lf0_0
  obtain ⟨a0_0, len0_0, cap0_0, z0_0, rfl, w0_0⟩ := leaf_ints Try.underlying22 Try.underlying21 (by kernel_rfl) y0_0
  obtain ⟨c0_1, r0_1, rfl, y0_1, lf0_2⟩ := leafs_cons lf0_1
  obtain ⟨a0_1, len0_1, cap0_1, z0_1, rfl, w0_1⟩ := leaf_ints Try.underlying22 Try.underlying21 (by kernel_rfl) y0_1
  obtain rfl := leafs_nil lf0_2
  obtain ⟨a1, rfl, rfl, rfl, w1⟩ := open_int Try.underlying21 (hval 1 21 v1 rfl rfl) h1
  clear hA0 hval0
  refine (law a0_0 len0_0 cap0_0 z0_0 a0_1 len0_1 cap0_1 z0_1 a1 W w0_0 w0_1 (bounds_i32 w1)).mono fun e W' ⟨he, bel⟩ => ?_
  subst he
  exact ⟨_, rfl, _, _, _, [], _, [], hW', trodAll_mk1 (shut_bool Try.underlying4 _), (trodAll_cons_mk (Below.trod laidOut (by kernel_rfl) (of_decide_eq_true (by kernel_rfl)) k0 bel lt0) (trodAll_cons_mk (Below.trod laidOut (by kernel_rfl) (of_decide_eq_true (by kernel_rfl)) k1 bel lt1) trodAll_mk0)), rfl, bel.frame _, fun h => by cases h⟩
theorem over : Rows.tableKnotsRow.holds Try.pinned (OpenSpec.ofChange Rows.tableKnotsSpec) :=
  OpenClaim.holds_of_wide 3 Try.f3 rfl rfl rfl rfl rfl rfl rfl ⟨rfl, rfl, rfl, rfl, rfl⟩ rfl rfl rfl rfl rfl (by kernel_rfl) Try.func3 (by kernel_rfl)
    (of_decide_eq_true (by kernel_rfl)) (by unfold Func.isWrapper; first | (rw [if_pos (by decide +kernel)]; kernel_rfl) | (rw [if_neg (by decide +kernel)]; exact ⟨rfl, rfl⟩))
    (fun os started H enc _ => lifted os started H enc)
theorem proved : Rows.TableKnotsSaid := over
#print axioms proved

end Go.Proofs.Ytindfoknbfmmbaa.tableKnots
