/- TableRises: whatever the table and the numbers are, the law answers true and leaves memory as it was. -/
import Derived.Test.YtindfoknbfmmbaaTable
import Derived.Test.YtindfoknbfmmbaaSat
import Derived.Deep.QuietTactic
import Derived.BigQuiet
namespace Go.Proofs.Ytindfoknbfmmbaa.tableRises
open Go.ChangeShapes Go.WideShapes Go.ChangeAt Go.RowKit Go.Proofs.Ytindfoknbfmmbaa Go.Proofs.Ytindfoknbfmmbaa.Open
set_option linter.unusedVariables false
theorem row2 {w : World} {b : Nat} {p q : Int} (c0 : w.cell? ⟨b, 0, none⟩ = some (.int .i32 p)) (c1 : w.cell? ⟨b, 1, none⟩ = some (.int .i32 q)) (hp : (Lit.int .i32 p).wf = true) (hq : (Lit.int .i32 q).wf = true) : IsRow .i32 w (some ⟨b, 0, none⟩) 2 2 [p, q] := by
  refine .inr ⟨_, rfl, by omega, by unfold maxLen; omega, rfl, fun i hi => ?_, fun n hn => ?_⟩
  · rcases (by simp at hi; omega : i = 0 ∨ i = 1) with rfl | rfl
    · simpa [Addr.add] using c0
    · simpa [Addr.add] using c1
  · simp at hn; rcases hn with rfl | rfl <;> assumption

/-- the first call, and what lies in memory behind it -/
theorem first (w : World) (p q : Nat) (c0 : w.cell? ⟨p, 0, none⟩ = some (.int .i32 0)) (c1 : w.cell? ⟨p, 1, none⟩ = some (.int .i32 4)) (c2 : w.cell? ⟨q, 0, none⟩ = some (.int .i32 0)) (c3 : w.cell? ⟨q, 1, none⟩ = some (.int .i32 8)) :
    Calls Try.prog 16 #[.agg #[.slice (some ⟨p, 0, none⟩) 2 2, .slice (some ⟨q, 0, none⟩) 2 2], .int .i32 6] w fun e w' => e = .returned (.tuple #[.int .i32 3, .int .i64 0]) ∧ Below w.heap.size w w' :=
  back_yes _ _ _ [0, 4] _ _ _ [0, 8] _ _ (row2 c0 c1 (by decide) (by decide)) (row2 c2 c3 (by decide) (by decide)) (by omega) ⟨by decide, by decide, rfl, by intro i hi; rcases (by omega : i = 0) with rfl; decide⟩ 3 0 (by decide +kernel) (by decide +kernel)
set_option maxHeartbeats 4000000 in
set_option maxRecDepth 100000 in
theorem no (ax : Option Addr) (lx cx : Nat) (xs : List Int) (ay : Option Addr) (ly cy : Nat) (ys : List Int) (x z : Int) (w : World) (hx : IsRow .i32 w ax lx cx xs) (hy : IsRow .i32 w ay ly cy ys) (hx : -2147483648 ≤ x ∧ x ≤ 2147483647) (hz : -2147483648 ≤ z ∧ z ≤ 2147483647) (e : Int) (h0 : e ≠ 0)
    (hB : ∀ W, Below w.heap.size w W → Calls Try.prog 16 #[.agg #[.slice ax lx cx, .slice ay ly cy], .int .i32 z] W fun e' w' => e' = .returned (.tuple #[.int .i32 0, .int .i64 e]) ∧ Below W.heap.size W w') :
    Calls Try.prog 4 #[.agg #[.slice ax lx cx, .slice ay ly cy], .int .i32 x, .int .i32 z] w fun e w' => e = .returned (.bool true) ∧ Below w.heap.size w w' := by
  have HB := Lib.hid hB
  have d0 : (e != 0) = true := by simpa using h0
  clear hx hy hB h0
  go_enter Try.func4, Try.ntmps4
  go_wp2_with fail
  refine (first _ _ _ (by go_simp) (by go_simp) (by go_simp) (by go_simp)).mono ?_
  rintro e1 w1 ⟨rfl, hb1⟩
  have z1 := hb1.size
  try (simp at z1)
  have B1 : Below w.heap.size w w1 := by repeat (first | with_reducible exact Below.refl _ _ | ((with_reducible refine Below.setCell ?_ ?_ _); rotate_left; (· first | (simp; done) | omega | (simp; omega))) | with_reducible refine below_drewN ?_ _ | with_reducible refine Below.drew ?_ | ((with_reducible refine Below.trans ?_ (Below.mono hb1 ?_)); rotate_left; (· first | (simp; done) | omega | (simp; omega))) | ((with_reducible refine Below.alloc ?_ ?_ _); rotate_left; (· first | (simp; done) | omega | (simp; omega))) | exact Below.refl _ _ | refine Below.setCell ?_ (by first | (simp; done) | omega | (simp; omega)) _ | refine below_drewN ?_ _ | refine Below.drew ?_ | refine Below.trans ?_ (Below.mono hb1 (by first | (simp; done) | omega | (simp; omega))) | refine Below.alloc ?_ (by first | (simp; done) | omega | (simp; omega)) _)
  have t0 : w1.cell? ⟨w.heap.size, 0, none⟩ = some (.slice ax lx cx) := cell_later hb1 (by go_simp)
  have t1 : w1.cell? ⟨w.heap.size, 1, none⟩ = some (.slice ay ly cy) := cell_later hb1 (by go_simp)
  have s1 : w.heap.size < w1.heap.size := by omega
  clear hb1
  go_wp2_with fail
  refine (HB.out _ B1).mono ?_
  rintro e2 w2 ⟨rfl, hb2⟩
  go_wp2
  go_ret
  refine ⟨ret_bool (by first | rfl | (simp; done)), ?_⟩
  repeat (first | with_reducible exact Below.refl _ _ | with_reducible exact B1 | ((with_reducible refine Below.setCell ?_ ?_ _); rotate_left; (· first | (simp; done) | omega | (simp; omega))) | with_reducible refine below_drewN ?_ _ | with_reducible refine Below.drew ?_ | ((with_reducible refine Below.trans ?_ (Below.mono hb2 ?_)); rotate_left; (· first | (simp; done) | omega | (simp; omega))) | ((with_reducible refine Below.alloc ?_ ?_ _); rotate_left; (· first | (simp; done) | omega | (simp; omega))) | exact Below.refl _ _ | exact B1 | refine Below.setCell ?_ (by first | (simp; done) | omega | (simp; omega)) _ | refine below_drewN ?_ _ | refine Below.drew ?_ | refine Below.trans ?_ (Below.mono hb2 (by first | (simp; done) | omega | (simp; omega))) | refine Below.alloc ?_ (by first | (simp; done) | omega | (simp; omega)) _)
set_option maxHeartbeats 8000000 in
set_option maxRecDepth 100000 in
theorem yes (ax : Option Addr) (lx cx : Nat) (xs : List Int) (ay : Option Addr) (ly cy : Nat) (ys : List Int) (x z : Int) (w : World) (hx0 : IsRow .i32 w ax lx cx xs) (hy0 : IsRow .i32 w ay ly cy ys) (hx : -2147483648 ≤ x ∧ x ≤ 2147483647) (hz : -2147483648 ≤ z ∧ z ≤ 2147483647) (hok : TabOk lx ly xs) (hrs : risB ys ly = true) :
    Calls Try.prog 4 #[.agg #[.slice ax lx cx, .slice ay ly cy], .int .i32 x, .int .i32 z] w fun e w' => e = .returned (.bool true) ∧ Below w.heap.size w w' := by
  have HX := Lib.hid hx0; have HY := Lib.hid hy0; have HO := Lib.hid hok; have HRS := Lib.hid hrs
  have hry := (risB_iff _ _).1 hrs
  obtain ⟨k1, k2, rfl, hris⟩ := hok
  have hl := hy0.maxLen
  obtain ⟨b, off, rfl, hlx, hmx, -, hcx, hwx⟩ := hx0.pos (by omega)
  obtain ⟨c, on, rfl, hly, hmy, -, hcy, hwy⟩ := hy0.pos (by omega)
  have hb : b < w.heap.size := by have := World.block_lt_of_cell? _ _ (hcx 0 (by omega)); simpa using this
  have HCX := Lib.hid hcx
  obtain ⟨vx, hvx⟩ : ∃ v, atI xs ys lx x = v := ⟨_, rfl⟩
  obtain ⟨vz, hvz⟩ : ∃ v, atI xs ys lx z = v := ⟨_, rfl⟩
  obtain ⟨ag, hag⟩ : ∃ v, atI ys xs lx vx = v := ⟨_, rfl⟩
  obtain ⟨bk, hbk⟩ : ∃ v, atI ys xs lx z = v := ⟨_, rfl⟩
  have hvb := at_bd hris (by omega : 0 < lx) x (fun j => bounds_i32 (hwy j)) (ys := ys)
  rw [hvx] at hvb
  have hle : x ≤ z → vx ≤ vz := fun h => by rw [← hvx, ← hvz]; exact at_mono hris hry (by omega) h
  have hge : z ≤ x → vz ≤ vx := fun h => by rw [← hvx, ← hvz]; exact at_mono hris hry (by omega) h
  have hback := at_back hris hry (by omega : 0 < lx) x
  rw [hvx, hag] at hback
  have HVX := Lib.hid hvx; have HVZ := Lib.hid hvz
  have HAG : Hid (ag = if risB ys lx = true then atI ys xs lx vx else 0) := (by rw [if_pos hrs]; exact hag.symm : ag = if risB ys lx = true then atI ys xs lx vx else 0)
  have HBK : Hid (bk = if risB ys lx = true then atI ys xs lx z else 0) := (by rw [if_pos hrs]; exact hbk.symm : bk = if risB ys lx = true then atI ys xs lx z else 0)
  have HZ : Hid ((0 : Int) = if risB ys lx = true then 0 else 1) := (by rw [if_pos hrs] : (0 : Int) = if risB ys lx = true then 0 else 1)
  have c0 := hwx 0; have c1 := hwx (lx - 1)
  have b0 := bounds_i32 c0; have b1 := bounds_i32 c1
  have HP0 := Lib.hid (rfl : xs.getD 0 0 = xs.getD 0 0)
  obtain ⟨p0, hp0⟩ : ∃ p, xs.getD 0 0 = p := ⟨_, rfl⟩
  obtain ⟨p1, hp1⟩ : ∃ p, xs.getD (lx - 1) 0 = p := ⟨_, rfl⟩
  rw [hp0, hp1] at hback
  rw [hp0] at b0
  rw [hp1] at b1
  have P0 := Lib.hid hp0; have P1 := Lib.hid hp1
  have n1 : decide (ag ≤ clampI x p0 p1) = true := decide_eq_true hback.2
  have n2 : decide (p0 ≤ ag) = true := decide_eq_true hback.1
  have hord : (x < z ∧ decide (vz < vx) = false) ∨ (x = z) ∨ (z < x ∧ decide (vx < vz) = false) := by
    rcases (by omega : x < z ∨ x = z ∨ z < x) with o | o | o
    · exact .inl ⟨o, decide_eq_false (by have := hle (by omega); omega)⟩
    · exact .inr (.inl o)
    · exact .inr (.inr ⟨o, decide_eq_false (by have := hge (by omega); omega)⟩)
  clear hx0 hy0 hris hry hrs hcx hcy hwx hwy hvx hvz hag hbk hle hge hback hp0 hp1 hmx hmy c0 c1 HP0
  have HORD := Lib.hid hord
  clear hord
  rcases HORD.out with ⟨o, n3⟩ | rfl | ⟨o, n3⟩
  · go_enter Try.func4, Try.ntmps4
    go_wp2_with fail
    refine (first _ _ _ (by go_simp) (by go_simp) (by go_simp) (by go_simp)).mono ?_
    rintro e1 w1 ⟨rfl, hb1⟩
    have z1 := hb1.size
    try (simp at z1)
    have B1 : Below w.heap.size w w1 := by repeat (first | with_reducible exact Below.refl _ _ | ((with_reducible refine Below.setCell ?_ ?_ _); rotate_left; (· first | (simp; done) | omega | (simp; omega))) | with_reducible refine below_drewN ?_ _ | with_reducible refine Below.drew ?_ | ((with_reducible refine Below.trans ?_ (Below.mono hb1 ?_)); rotate_left; (· first | (simp; done) | omega | (simp; omega))) | ((with_reducible refine Below.alloc ?_ ?_ _); rotate_left; (· first | (simp; done) | omega | (simp; omega))) | exact Below.refl _ _ | refine Below.setCell ?_ (by first | (simp; done) | omega | (simp; omega)) _ | refine below_drewN ?_ _ | refine Below.drew ?_ | refine Below.trans ?_ (Below.mono hb1 (by first | (simp; done) | omega | (simp; omega))) | refine Below.alloc ?_ (by first | (simp; done) | omega | (simp; omega)) _)
    have t0 : w1.cell? ⟨w.heap.size, 0, none⟩ = some (.slice (some ⟨b, off, none⟩) lx cx) := cell_later hb1 (by go_simp)
    have t1 : w1.cell? ⟨w.heap.size, 1, none⟩ = some (.slice (some ⟨c, on, none⟩) lx cy) := cell_later hb1 (by go_simp)
    have s1 : w.heap.size < w1.heap.size := by omega
    clear hb1
    go_wp2_with fail
    refine (back_yes _ _ _ _ _ _ _ _ _ _ (HX.out.later B1) (HY.out.later B1) hz HO.out bk 0 HBK.out HZ.out).mono ?_
    rintro e2 w2 ⟨rfl, hb2⟩
    have z2 := hb2.size
    have B2 : Below w.heap.size w w2 := by repeat (first | with_reducible exact Below.refl _ _ | with_reducible exact B1 | ((with_reducible refine Below.setCell ?_ ?_ _); rotate_left; (· first | (simp; done) | omega | (simp; omega))) | with_reducible refine below_drewN ?_ _ | with_reducible refine Below.drew ?_ | ((with_reducible refine Below.trans ?_ (Below.mono hb2 ?_)); rotate_left; (· first | (simp; done) | omega | (simp; omega))) | ((with_reducible refine Below.alloc ?_ ?_ _); rotate_left; (· first | (simp; done) | omega | (simp; omega))) | exact Below.refl _ _ | exact B1 | refine Below.setCell ?_ (by first | (simp; done) | omega | (simp; omega)) _ | refine below_drewN ?_ _ | refine Below.drew ?_ | refine Below.trans ?_ (Below.mono hb2 (by first | (simp; done) | omega | (simp; omega))) | refine Below.alloc ?_ (by first | (simp; done) | omega | (simp; omega)) _)
    replace t0 := cell_later hb2 t0
    replace t1 := cell_later hb2 t1
    have s2 : w.heap.size < w2.heap.size := by omega
    clear hb2
    go_wp2_with fail
    refine (at_yes _ _ _ _ _ _ _ _ _ _ (HX.out.later B2) (HY.out.later B2) hx HO.out vx HVX.out).mono ?_
    rintro e3 w3 ⟨rfl, hb3⟩
    have z3 := hb3.size
    have B3 : Below w.heap.size w w3 := by repeat (first | with_reducible exact Below.refl _ _ | with_reducible exact B2 | ((with_reducible refine Below.setCell ?_ ?_ _); rotate_left; (· first | (simp; done) | omega | (simp; omega))) | with_reducible refine below_drewN ?_ _ | with_reducible refine Below.drew ?_ | ((with_reducible refine Below.trans ?_ (Below.mono hb3 ?_)); rotate_left; (· first | (simp; done) | omega | (simp; omega))) | ((with_reducible refine Below.alloc ?_ ?_ _); rotate_left; (· first | (simp; done) | omega | (simp; omega))) | exact Below.refl _ _ | exact B2 | refine Below.setCell ?_ (by first | (simp; done) | omega | (simp; omega)) _ | refine below_drewN ?_ _ | refine Below.drew ?_ | refine Below.trans ?_ (Below.mono hb3 (by first | (simp; done) | omega | (simp; omega))) | refine Below.alloc ?_ (by first | (simp; done) | omega | (simp; omega)) _)
    replace t0 := cell_later hb3 t0
    replace t1 := cell_later hb3 t1
    have s3 : w.heap.size < w3.heap.size := by omega
    clear hb3
    go_wp2_with fail
    refine (at_yes _ _ _ _ _ _ _ _ _ _ (HX.out.later B3) (HY.out.later B3) hz HO.out vz HVZ.out).mono ?_
    rintro e4 w4 ⟨rfl, hb4⟩
    have z4 := hb4.size
    have B4 : Below w.heap.size w w4 := by repeat (first | with_reducible exact Below.refl _ _ | with_reducible exact B3 | ((with_reducible refine Below.setCell ?_ ?_ _); rotate_left; (· first | (simp; done) | omega | (simp; omega))) | with_reducible refine below_drewN ?_ _ | with_reducible refine Below.drew ?_ | ((with_reducible refine Below.trans ?_ (Below.mono hb4 ?_)); rotate_left; (· first | (simp; done) | omega | (simp; omega))) | ((with_reducible refine Below.alloc ?_ ?_ _); rotate_left; (· first | (simp; done) | omega | (simp; omega))) | exact Below.refl _ _ | exact B3 | refine Below.setCell ?_ (by first | (simp; done) | omega | (simp; omega)) _ | refine below_drewN ?_ _ | refine Below.drew ?_ | refine Below.trans ?_ (Below.mono hb4 (by first | (simp; done) | omega | (simp; omega))) | refine Below.alloc ?_ (by first | (simp; done) | omega | (simp; omega)) _)
    replace t0 := cell_later hb4 t0
    replace t1 := cell_later hb4 t1
    have s4 : w.heap.size < w4.heap.size := by omega
    clear hb4
    go_wp2_with fail
    refine (at_yes _ _ _ _ _ _ _ _ _ _ (HX.out.later B4) (HY.out.later B4) hx HO.out vx HVX.out).mono ?_
    rintro e5 w5 ⟨rfl, hb5⟩
    have z5 := hb5.size
    have B5 : Below w.heap.size w w5 := by repeat (first | with_reducible exact Below.refl _ _ | with_reducible exact B4 | ((with_reducible refine Below.setCell ?_ ?_ _); rotate_left; (· first | (simp; done) | omega | (simp; omega))) | with_reducible refine below_drewN ?_ _ | with_reducible refine Below.drew ?_ | ((with_reducible refine Below.trans ?_ (Below.mono hb5 ?_)); rotate_left; (· first | (simp; done) | omega | (simp; omega))) | ((with_reducible refine Below.alloc ?_ ?_ _); rotate_left; (· first | (simp; done) | omega | (simp; omega))) | exact Below.refl _ _ | exact B4 | refine Below.setCell ?_ (by first | (simp; done) | omega | (simp; omega)) _ | refine below_drewN ?_ _ | refine Below.drew ?_ | refine Below.trans ?_ (Below.mono hb5 (by first | (simp; done) | omega | (simp; omega))) | refine Below.alloc ?_ (by first | (simp; done) | omega | (simp; omega)) _)
    replace t0 := cell_later hb5 t0
    replace t1 := cell_later hb5 t1
    have s5 : w.heap.size < w5.heap.size := by omega
    clear hb5
    go_wp2_with fail
    refine (back_yes _ _ _ _ _ _ _ _ _ _ (HX.out.later B5) (HY.out.later B5) hvb HO.out ag 0 HAG.out HZ.out).mono ?_
    rintro e6 w6 ⟨rfl, hb6⟩
    have z6 := hb6.size
    have B6 : Below w.heap.size w w6 := by repeat (first | with_reducible exact Below.refl _ _ | with_reducible exact B5 | ((with_reducible refine Below.setCell ?_ ?_ _); rotate_left; (· first | (simp; done) | omega | (simp; omega))) | with_reducible refine below_drewN ?_ _ | with_reducible refine Below.drew ?_ | ((with_reducible refine Below.trans ?_ (Below.mono hb6 ?_)); rotate_left; (· first | (simp; done) | omega | (simp; omega))) | ((with_reducible refine Below.alloc ?_ ?_ _); rotate_left; (· first | (simp; done) | omega | (simp; omega))) | exact Below.refl _ _ | exact B5 | refine Below.setCell ?_ (by first | (simp; done) | omega | (simp; omega)) _ | refine below_drewN ?_ _ | refine Below.drew ?_ | refine Below.trans ?_ (Below.mono hb6 (by first | (simp; done) | omega | (simp; omega))) | refine Below.alloc ?_ (by first | (simp; done) | omega | (simp; omega)) _)
    replace t0 := cell_later hb6 t0
    replace t1 := cell_later hb6 t1
    have s6 : w.heap.size < w6.heap.size := by omega
    clear hb6
    have x0 := cell_later B6 (HCX.out 0 (by omega))
    have x1 := cell_later B6 (HCX.out (lx - 1) (by omega))
    rw [P0.out, Nat.add_zero] at x0
    rw [P1.out] at x1
    have hb2 : b < w6.heap.size := by omega
    have i1 : IntKind.i64.wrap ((lx : Int) - 1) = (lx : Int) - 1 := IntWalk.i64_in _ (by omega)
    have i2 : 0 ≤ (lx : Int) - 1 := by omega
    have i3 : ((lx : Int) - 1).toNat = lx - 1 := by omega
    go_wp2
    go_quiet ((go_at_call 17; exact quietL (clamp_any _ _ _ _)))
    go_wp2
    go_ret
    refine ⟨ret_bool (by first | rfl | (simp; done)), ?_⟩
    repeat (first | with_reducible exact Below.refl _ _ | with_reducible exact B6 | ((with_reducible refine Below.setCell ?_ ?_ _); rotate_left; (· first | (simp; done) | omega | (simp; omega))) | with_reducible refine below_drewN ?_ _ | with_reducible refine Below.drew ?_ | ((with_reducible refine Below.alloc ?_ ?_ _); rotate_left; (· first | (simp; done) | omega | (simp; omega))) | exact Below.refl _ _ | exact B6 | refine Below.setCell ?_ (by first | (simp; done) | omega | (simp; omega)) _ | refine below_drewN ?_ _ | refine Below.drew ?_ | refine Below.alloc ?_ (by first | (simp; done) | omega | (simp; omega)) _)
  · go_enter Try.func4, Try.ntmps4
    go_wp2_with fail
    refine (first _ _ _ (by go_simp) (by go_simp) (by go_simp) (by go_simp)).mono ?_
    rintro e1 w1 ⟨rfl, hb1⟩
    have z1 := hb1.size
    try (simp at z1)
    have B1 : Below w.heap.size w w1 := by repeat (first | with_reducible exact Below.refl _ _ | ((with_reducible refine Below.setCell ?_ ?_ _); rotate_left; (· first | (simp; done) | omega | (simp; omega))) | with_reducible refine below_drewN ?_ _ | with_reducible refine Below.drew ?_ | ((with_reducible refine Below.trans ?_ (Below.mono hb1 ?_)); rotate_left; (· first | (simp; done) | omega | (simp; omega))) | ((with_reducible refine Below.alloc ?_ ?_ _); rotate_left; (· first | (simp; done) | omega | (simp; omega))) | exact Below.refl _ _ | refine Below.setCell ?_ (by first | (simp; done) | omega | (simp; omega)) _ | refine below_drewN ?_ _ | refine Below.drew ?_ | refine Below.trans ?_ (Below.mono hb1 (by first | (simp; done) | omega | (simp; omega))) | refine Below.alloc ?_ (by first | (simp; done) | omega | (simp; omega)) _)
    have t0 : w1.cell? ⟨w.heap.size, 0, none⟩ = some (.slice (some ⟨b, off, none⟩) lx cx) := cell_later hb1 (by go_simp)
    have t1 : w1.cell? ⟨w.heap.size, 1, none⟩ = some (.slice (some ⟨c, on, none⟩) lx cy) := cell_later hb1 (by go_simp)
    have s1 : w.heap.size < w1.heap.size := by omega
    clear hb1
    go_wp2_with fail
    refine (back_yes _ _ _ _ _ _ _ _ _ _ (HX.out.later B1) (HY.out.later B1) hz HO.out bk 0 HBK.out HZ.out).mono ?_
    rintro e2 w2 ⟨rfl, hb2⟩
    have z2 := hb2.size
    have B2 : Below w.heap.size w w2 := by repeat (first | with_reducible exact Below.refl _ _ | with_reducible exact B1 | ((with_reducible refine Below.setCell ?_ ?_ _); rotate_left; (· first | (simp; done) | omega | (simp; omega))) | with_reducible refine below_drewN ?_ _ | with_reducible refine Below.drew ?_ | ((with_reducible refine Below.trans ?_ (Below.mono hb2 ?_)); rotate_left; (· first | (simp; done) | omega | (simp; omega))) | ((with_reducible refine Below.alloc ?_ ?_ _); rotate_left; (· first | (simp; done) | omega | (simp; omega))) | exact Below.refl _ _ | exact B1 | refine Below.setCell ?_ (by first | (simp; done) | omega | (simp; omega)) _ | refine below_drewN ?_ _ | refine Below.drew ?_ | refine Below.trans ?_ (Below.mono hb2 (by first | (simp; done) | omega | (simp; omega))) | refine Below.alloc ?_ (by first | (simp; done) | omega | (simp; omega)) _)
    replace t0 := cell_later hb2 t0
    replace t1 := cell_later hb2 t1
    have s2 : w.heap.size < w2.heap.size := by omega
    clear hb2
    go_wp2_with fail
    refine (at_yes _ _ _ _ _ _ _ _ _ _ (HX.out.later B2) (HY.out.later B2) hx HO.out vx HVX.out).mono ?_
    rintro e3 w3 ⟨rfl, hb3⟩
    have z3 := hb3.size
    have B3 : Below w.heap.size w w3 := by repeat (first | with_reducible exact Below.refl _ _ | with_reducible exact B2 | ((with_reducible refine Below.setCell ?_ ?_ _); rotate_left; (· first | (simp; done) | omega | (simp; omega))) | with_reducible refine below_drewN ?_ _ | with_reducible refine Below.drew ?_ | ((with_reducible refine Below.trans ?_ (Below.mono hb3 ?_)); rotate_left; (· first | (simp; done) | omega | (simp; omega))) | ((with_reducible refine Below.alloc ?_ ?_ _); rotate_left; (· first | (simp; done) | omega | (simp; omega))) | exact Below.refl _ _ | exact B2 | refine Below.setCell ?_ (by first | (simp; done) | omega | (simp; omega)) _ | refine below_drewN ?_ _ | refine Below.drew ?_ | refine Below.trans ?_ (Below.mono hb3 (by first | (simp; done) | omega | (simp; omega))) | refine Below.alloc ?_ (by first | (simp; done) | omega | (simp; omega)) _)
    replace t0 := cell_later hb3 t0
    replace t1 := cell_later hb3 t1
    have s3 : w.heap.size < w3.heap.size := by omega
    clear hb3
    go_wp2_with fail
    refine (at_yes _ _ _ _ _ _ _ _ _ _ (HX.out.later B3) (HY.out.later B3) hx HO.out vx HVX.out).mono ?_
    rintro e4 w4 ⟨rfl, hb4⟩
    have z4 := hb4.size
    have B4 : Below w.heap.size w w4 := by repeat (first | with_reducible exact Below.refl _ _ | with_reducible exact B3 | ((with_reducible refine Below.setCell ?_ ?_ _); rotate_left; (· first | (simp; done) | omega | (simp; omega))) | with_reducible refine below_drewN ?_ _ | with_reducible refine Below.drew ?_ | ((with_reducible refine Below.trans ?_ (Below.mono hb4 ?_)); rotate_left; (· first | (simp; done) | omega | (simp; omega))) | ((with_reducible refine Below.alloc ?_ ?_ _); rotate_left; (· first | (simp; done) | omega | (simp; omega))) | exact Below.refl _ _ | exact B3 | refine Below.setCell ?_ (by first | (simp; done) | omega | (simp; omega)) _ | refine below_drewN ?_ _ | refine Below.drew ?_ | refine Below.trans ?_ (Below.mono hb4 (by first | (simp; done) | omega | (simp; omega))) | refine Below.alloc ?_ (by first | (simp; done) | omega | (simp; omega)) _)
    replace t0 := cell_later hb4 t0
    replace t1 := cell_later hb4 t1
    have s4 : w.heap.size < w4.heap.size := by omega
    clear hb4
    go_wp2_with fail
    refine (at_yes _ _ _ _ _ _ _ _ _ _ (HX.out.later B4) (HY.out.later B4) hx HO.out vx HVX.out).mono ?_
    rintro e5 w5 ⟨rfl, hb5⟩
    have z5 := hb5.size
    have B5 : Below w.heap.size w w5 := by repeat (first | with_reducible exact Below.refl _ _ | with_reducible exact B4 | ((with_reducible refine Below.setCell ?_ ?_ _); rotate_left; (· first | (simp; done) | omega | (simp; omega))) | with_reducible refine below_drewN ?_ _ | with_reducible refine Below.drew ?_ | ((with_reducible refine Below.trans ?_ (Below.mono hb5 ?_)); rotate_left; (· first | (simp; done) | omega | (simp; omega))) | ((with_reducible refine Below.alloc ?_ ?_ _); rotate_left; (· first | (simp; done) | omega | (simp; omega))) | exact Below.refl _ _ | exact B4 | refine Below.setCell ?_ (by first | (simp; done) | omega | (simp; omega)) _ | refine below_drewN ?_ _ | refine Below.drew ?_ | refine Below.trans ?_ (Below.mono hb5 (by first | (simp; done) | omega | (simp; omega))) | refine Below.alloc ?_ (by first | (simp; done) | omega | (simp; omega)) _)
    replace t0 := cell_later hb5 t0
    replace t1 := cell_later hb5 t1
    have s5 : w.heap.size < w5.heap.size := by omega
    clear hb5
    go_wp2_with fail
    refine (back_yes _ _ _ _ _ _ _ _ _ _ (HX.out.later B5) (HY.out.later B5) hvb HO.out ag 0 HAG.out HZ.out).mono ?_
    rintro e6 w6 ⟨rfl, hb6⟩
    have z6 := hb6.size
    have B6 : Below w.heap.size w w6 := by repeat (first | with_reducible exact Below.refl _ _ | with_reducible exact B5 | ((with_reducible refine Below.setCell ?_ ?_ _); rotate_left; (· first | (simp; done) | omega | (simp; omega))) | with_reducible refine below_drewN ?_ _ | with_reducible refine Below.drew ?_ | ((with_reducible refine Below.trans ?_ (Below.mono hb6 ?_)); rotate_left; (· first | (simp; done) | omega | (simp; omega))) | ((with_reducible refine Below.alloc ?_ ?_ _); rotate_left; (· first | (simp; done) | omega | (simp; omega))) | exact Below.refl _ _ | exact B5 | refine Below.setCell ?_ (by first | (simp; done) | omega | (simp; omega)) _ | refine below_drewN ?_ _ | refine Below.drew ?_ | refine Below.trans ?_ (Below.mono hb6 (by first | (simp; done) | omega | (simp; omega))) | refine Below.alloc ?_ (by first | (simp; done) | omega | (simp; omega)) _)
    replace t0 := cell_later hb6 t0
    replace t1 := cell_later hb6 t1
    have s6 : w.heap.size < w6.heap.size := by omega
    clear hb6
    have x0 := cell_later B6 (HCX.out 0 (by omega))
    have x1 := cell_later B6 (HCX.out (lx - 1) (by omega))
    rw [P0.out, Nat.add_zero] at x0
    rw [P1.out] at x1
    have hb2 : b < w6.heap.size := by omega
    have i1 : IntKind.i64.wrap ((lx : Int) - 1) = (lx : Int) - 1 := IntWalk.i64_in _ (by omega)
    have i2 : 0 ≤ (lx : Int) - 1 := by omega
    have i3 : ((lx : Int) - 1).toNat = lx - 1 := by omega
    go_wp2
    go_quiet ((go_at_call 17; exact quietL (clamp_any _ _ _ _)))
    go_wp2
    go_ret
    refine ⟨ret_bool (by first | rfl | (simp; done)), ?_⟩
    repeat (first | with_reducible exact Below.refl _ _ | with_reducible exact B6 | ((with_reducible refine Below.setCell ?_ ?_ _); rotate_left; (· first | (simp; done) | omega | (simp; omega))) | with_reducible refine below_drewN ?_ _ | with_reducible refine Below.drew ?_ | ((with_reducible refine Below.alloc ?_ ?_ _); rotate_left; (· first | (simp; done) | omega | (simp; omega))) | exact Below.refl _ _ | exact B6 | refine Below.setCell ?_ (by first | (simp; done) | omega | (simp; omega)) _ | refine below_drewN ?_ _ | refine Below.drew ?_ | refine Below.alloc ?_ (by first | (simp; done) | omega | (simp; omega)) _)
  · go_enter Try.func4, Try.ntmps4
    go_wp2_with fail
    refine (first _ _ _ (by go_simp) (by go_simp) (by go_simp) (by go_simp)).mono ?_
    rintro e1 w1 ⟨rfl, hb1⟩
    have z1 := hb1.size
    try (simp at z1)
    have B1 : Below w.heap.size w w1 := by repeat (first | with_reducible exact Below.refl _ _ | ((with_reducible refine Below.setCell ?_ ?_ _); rotate_left; (· first | (simp; done) | omega | (simp; omega))) | with_reducible refine below_drewN ?_ _ | with_reducible refine Below.drew ?_ | ((with_reducible refine Below.trans ?_ (Below.mono hb1 ?_)); rotate_left; (· first | (simp; done) | omega | (simp; omega))) | ((with_reducible refine Below.alloc ?_ ?_ _); rotate_left; (· first | (simp; done) | omega | (simp; omega))) | exact Below.refl _ _ | refine Below.setCell ?_ (by first | (simp; done) | omega | (simp; omega)) _ | refine below_drewN ?_ _ | refine Below.drew ?_ | refine Below.trans ?_ (Below.mono hb1 (by first | (simp; done) | omega | (simp; omega))) | refine Below.alloc ?_ (by first | (simp; done) | omega | (simp; omega)) _)
    have t0 : w1.cell? ⟨w.heap.size, 0, none⟩ = some (.slice (some ⟨b, off, none⟩) lx cx) := cell_later hb1 (by go_simp)
    have t1 : w1.cell? ⟨w.heap.size, 1, none⟩ = some (.slice (some ⟨c, on, none⟩) lx cy) := cell_later hb1 (by go_simp)
    have s1 : w.heap.size < w1.heap.size := by omega
    clear hb1
    go_wp2_with fail
    refine (back_yes _ _ _ _ _ _ _ _ _ _ (HX.out.later B1) (HY.out.later B1) hz HO.out bk 0 HBK.out HZ.out).mono ?_
    rintro e2 w2 ⟨rfl, hb2⟩
    have z2 := hb2.size
    have B2 : Below w.heap.size w w2 := by repeat (first | with_reducible exact Below.refl _ _ | with_reducible exact B1 | ((with_reducible refine Below.setCell ?_ ?_ _); rotate_left; (· first | (simp; done) | omega | (simp; omega))) | with_reducible refine below_drewN ?_ _ | with_reducible refine Below.drew ?_ | ((with_reducible refine Below.trans ?_ (Below.mono hb2 ?_)); rotate_left; (· first | (simp; done) | omega | (simp; omega))) | ((with_reducible refine Below.alloc ?_ ?_ _); rotate_left; (· first | (simp; done) | omega | (simp; omega))) | exact Below.refl _ _ | exact B1 | refine Below.setCell ?_ (by first | (simp; done) | omega | (simp; omega)) _ | refine below_drewN ?_ _ | refine Below.drew ?_ | refine Below.trans ?_ (Below.mono hb2 (by first | (simp; done) | omega | (simp; omega))) | refine Below.alloc ?_ (by first | (simp; done) | omega | (simp; omega)) _)
    replace t0 := cell_later hb2 t0
    replace t1 := cell_later hb2 t1
    have s2 : w.heap.size < w2.heap.size := by omega
    clear hb2
    go_wp2_with fail
    refine (at_yes _ _ _ _ _ _ _ _ _ _ (HX.out.later B2) (HY.out.later B2) hz HO.out vz HVZ.out).mono ?_
    rintro e3 w3 ⟨rfl, hb3⟩
    have z3 := hb3.size
    have B3 : Below w.heap.size w w3 := by repeat (first | with_reducible exact Below.refl _ _ | with_reducible exact B2 | ((with_reducible refine Below.setCell ?_ ?_ _); rotate_left; (· first | (simp; done) | omega | (simp; omega))) | with_reducible refine below_drewN ?_ _ | with_reducible refine Below.drew ?_ | ((with_reducible refine Below.trans ?_ (Below.mono hb3 ?_)); rotate_left; (· first | (simp; done) | omega | (simp; omega))) | ((with_reducible refine Below.alloc ?_ ?_ _); rotate_left; (· first | (simp; done) | omega | (simp; omega))) | exact Below.refl _ _ | exact B2 | refine Below.setCell ?_ (by first | (simp; done) | omega | (simp; omega)) _ | refine below_drewN ?_ _ | refine Below.drew ?_ | refine Below.trans ?_ (Below.mono hb3 (by first | (simp; done) | omega | (simp; omega))) | refine Below.alloc ?_ (by first | (simp; done) | omega | (simp; omega)) _)
    replace t0 := cell_later hb3 t0
    replace t1 := cell_later hb3 t1
    have s3 : w.heap.size < w3.heap.size := by omega
    clear hb3
    go_wp2_with fail
    refine (at_yes _ _ _ _ _ _ _ _ _ _ (HX.out.later B3) (HY.out.later B3) hx HO.out vx HVX.out).mono ?_
    rintro e4 w4 ⟨rfl, hb4⟩
    have z4 := hb4.size
    have B4 : Below w.heap.size w w4 := by repeat (first | with_reducible exact Below.refl _ _ | with_reducible exact B3 | ((with_reducible refine Below.setCell ?_ ?_ _); rotate_left; (· first | (simp; done) | omega | (simp; omega))) | with_reducible refine below_drewN ?_ _ | with_reducible refine Below.drew ?_ | ((with_reducible refine Below.trans ?_ (Below.mono hb4 ?_)); rotate_left; (· first | (simp; done) | omega | (simp; omega))) | ((with_reducible refine Below.alloc ?_ ?_ _); rotate_left; (· first | (simp; done) | omega | (simp; omega))) | exact Below.refl _ _ | exact B3 | refine Below.setCell ?_ (by first | (simp; done) | omega | (simp; omega)) _ | refine below_drewN ?_ _ | refine Below.drew ?_ | refine Below.trans ?_ (Below.mono hb4 (by first | (simp; done) | omega | (simp; omega))) | refine Below.alloc ?_ (by first | (simp; done) | omega | (simp; omega)) _)
    replace t0 := cell_later hb4 t0
    replace t1 := cell_later hb4 t1
    have s4 : w.heap.size < w4.heap.size := by omega
    clear hb4
    go_wp2_with fail
    refine (at_yes _ _ _ _ _ _ _ _ _ _ (HX.out.later B4) (HY.out.later B4) hx HO.out vx HVX.out).mono ?_
    rintro e5 w5 ⟨rfl, hb5⟩
    have z5 := hb5.size
    have B5 : Below w.heap.size w w5 := by repeat (first | with_reducible exact Below.refl _ _ | with_reducible exact B4 | ((with_reducible refine Below.setCell ?_ ?_ _); rotate_left; (· first | (simp; done) | omega | (simp; omega))) | with_reducible refine below_drewN ?_ _ | with_reducible refine Below.drew ?_ | ((with_reducible refine Below.trans ?_ (Below.mono hb5 ?_)); rotate_left; (· first | (simp; done) | omega | (simp; omega))) | ((with_reducible refine Below.alloc ?_ ?_ _); rotate_left; (· first | (simp; done) | omega | (simp; omega))) | exact Below.refl _ _ | exact B4 | refine Below.setCell ?_ (by first | (simp; done) | omega | (simp; omega)) _ | refine below_drewN ?_ _ | refine Below.drew ?_ | refine Below.trans ?_ (Below.mono hb5 (by first | (simp; done) | omega | (simp; omega))) | refine Below.alloc ?_ (by first | (simp; done) | omega | (simp; omega)) _)
    replace t0 := cell_later hb5 t0
    replace t1 := cell_later hb5 t1
    have s5 : w.heap.size < w5.heap.size := by omega
    clear hb5
    go_wp2_with fail
    refine (back_yes _ _ _ _ _ _ _ _ _ _ (HX.out.later B5) (HY.out.later B5) hvb HO.out ag 0 HAG.out HZ.out).mono ?_
    rintro e6 w6 ⟨rfl, hb6⟩
    have z6 := hb6.size
    have B6 : Below w.heap.size w w6 := by repeat (first | with_reducible exact Below.refl _ _ | with_reducible exact B5 | ((with_reducible refine Below.setCell ?_ ?_ _); rotate_left; (· first | (simp; done) | omega | (simp; omega))) | with_reducible refine below_drewN ?_ _ | with_reducible refine Below.drew ?_ | ((with_reducible refine Below.trans ?_ (Below.mono hb6 ?_)); rotate_left; (· first | (simp; done) | omega | (simp; omega))) | ((with_reducible refine Below.alloc ?_ ?_ _); rotate_left; (· first | (simp; done) | omega | (simp; omega))) | exact Below.refl _ _ | exact B5 | refine Below.setCell ?_ (by first | (simp; done) | omega | (simp; omega)) _ | refine below_drewN ?_ _ | refine Below.drew ?_ | refine Below.trans ?_ (Below.mono hb6 (by first | (simp; done) | omega | (simp; omega))) | refine Below.alloc ?_ (by first | (simp; done) | omega | (simp; omega)) _)
    replace t0 := cell_later hb6 t0
    replace t1 := cell_later hb6 t1
    have s6 : w.heap.size < w6.heap.size := by omega
    clear hb6
    have x0 := cell_later B6 (HCX.out 0 (by omega))
    have x1 := cell_later B6 (HCX.out (lx - 1) (by omega))
    rw [P0.out, Nat.add_zero] at x0
    rw [P1.out] at x1
    have hb2 : b < w6.heap.size := by omega
    have i1 : IntKind.i64.wrap ((lx : Int) - 1) = (lx : Int) - 1 := IntWalk.i64_in _ (by omega)
    have i2 : 0 ≤ (lx : Int) - 1 := by omega
    have i3 : ((lx : Int) - 1).toNat = lx - 1 := by omega
    go_wp2
    go_quiet ((go_at_call 17; exact quietL (clamp_any _ _ _ _)))
    go_wp2
    go_ret
    refine ⟨ret_bool (by first | rfl | (simp; done)), ?_⟩
    repeat (first | with_reducible exact Below.refl _ _ | with_reducible exact B6 | ((with_reducible refine Below.setCell ?_ ?_ _); rotate_left; (· first | (simp; done) | omega | (simp; omega))) | with_reducible refine below_drewN ?_ _ | with_reducible refine Below.drew ?_ | ((with_reducible refine Below.alloc ?_ ?_ _); rotate_left; (· first | (simp; done) | omega | (simp; omega))) | exact Below.refl _ _ | exact B6 | refine Below.setCell ?_ (by first | (simp; done) | omega | (simp; omega)) _ | refine below_drewN ?_ _ | refine Below.drew ?_ | refine Below.alloc ?_ (by first | (simp; done) | omega | (simp; omega)) _)
theorem law (ax : Option Addr) (lx cx : Nat) (xs : List Int) (ay : Option Addr) (ly cy : Nat) (ys : List Int) (x z : Int) (w : World) (hx : IsRow .i32 w ax lx cx xs) (hy : IsRow .i32 w ay ly cy ys) (hbx : -2147483648 ≤ x ∧ x ≤ 2147483647) (hbz : -2147483648 ≤ z ∧ z ≤ 2147483647) :
    Calls Try.prog 4 #[.agg #[.slice ax lx cx, .slice ay ly cy], .int .i32 x, .int .i32 z] w fun e w' => e = .returned (.bool true) ∧ Below w.heap.size w w' := by
  by_cases h : tabChk lx ly xs = 0
  · have hok := tabChk_ok.1 h
    by_cases hr : risB ys ly = true
    · exact yes _ _ _ _ _ _ _ _ _ _ _ hx hy hbx hbz hok hr
    · exact no _ _ _ _ _ _ _ _ _ _ _ hx hy hbx hbz 1 (by decide) (fun W hW => back_yes _ _ _ _ _ _ _ _ _ _ (hx.later hW) (hy.later hW) hbz hok 0 1 (by rw [if_neg hr]) (by rw [if_neg hr]))
  · exact no _ _ _ _ _ _ _ _ _ _ _ hx hy hbx hbz _ h (fun W hW => back_no _ _ _ _ _ _ _ _ _ (hx.later hW) hy.maxLen _ rfl h)
set_option maxRecDepth 100000 in
theorem lifted (os : Os) (started : os.Started) (H : Type) (enc : TypeId × Value → H) :
    ReturnsInHanded {} Try.checked os 4 .any (Rows.tableRisesSpec.pre6 enc Try.prog Try.f4 Rows.tableRisesRow.domain false) (Rows.tableRisesSpec.post enc Try.prog Try.f4 false true false false) := by
  refine returnsInHanded_of_change (C := Try.checked) own started (by kernel_rfl) Try.func4
    (ChangeSpec.witness6 (enc := enc) (C := Try.checked) false ⟨#[], #[.agg #[.slice none 0 0, .slice none 0 0], .int .i32 0, .int .i32 0], []⟩ 8 (by kernel_rfl) (by kernel_rfl) (by kernel_rfl) (by kernel_rfl)) ?_
  intro W base args ds gs before hval0 hW hcnd _
  have hval : ∀ (j : Nat) t v, Try.f4.params[j]? = some t → args[j]? = some v → Value.okWide Try.prog W .any base t v := hval0
  have hW' := hW
  obtain ⟨p, q, hA0, hV, rfl, hfz, hnd⟩ := hW
  have hA : DataW.TrodAll enc Try.prog W 0 (fun _ => true) true Try.f4.params.toList args.toList ds p := hA0
  rw [Try.params4] at hA hval
  obtain ⟨v0, vs0, d0, ds0, p0, q0, hargs, rfl, rfl, h0, r0⟩ := trodAll_cons hA
  obtain ⟨v1, vs1, d1, ds1, p1, q1, rfl, rfl, rfl, h1, r1⟩ := trodAll_cons r0
  obtain ⟨v2, vs2, d2, ds2, p2, q2, rfl, rfl, rfl, h2, r2⟩ := trodAll_cons r1
  obtain ⟨rfl, rfl, rfl⟩ := trodAll_nil r2
  obtain rfl : args = #[v0, v1, v2] := by cases args; simp_all
  obtain ⟨rfl, rfl⟩ := trodVars_none hV
  have k0 := h0
  have lt0 : ∀ x ∈ p0, x.block < W.heap.size := by obtain ⟨m, hm⟩ := k0; exact DataW.trod_lt m _ _ _ hm
  have k1 := h1
  have lt1 : ∀ x ∈ p1, x.block < W.heap.size := by obtain ⟨m, hm⟩ := k1; exact DataW.trod_lt m _ _ _ hm
  have k2 := h2
  have lt2 : ∀ x ∈ p2, x.block < W.heap.size := by obtain ⟨m, hm⟩ := k2; exact DataW.trod_lt m _ _ _ hm
  obtain ⟨cs0, rfl, lf0_0⟩ := open_flat 12 [22, 22] (by kernel_rfl) (by kernel_rfl) (by kernel_rfl) (hval 0 24 v0 rfl rfl) h0
  obtain ⟨c0_0, r0_0, rfl, y0_0, lf0_1⟩ := leafs_cons lf0_0
  obtain ⟨a0_0, len0_0, cap0_0, z0_0, rfl, w0_0⟩ := leaf_ints Try.underlying22 Try.underlying21 (by kernel_rfl) y0_0
  obtain ⟨c0_1, r0_1, rfl, y0_1, lf0_2⟩ := leafs_cons lf0_1
  obtain ⟨a0_1, len0_1, cap0_1, z0_1, rfl, w0_1⟩ := leaf_ints Try.underlying22 Try.underlying21 (by kernel_rfl) y0_1
  obtain rfl := leafs_nil lf0_2
  obtain ⟨a1, rfl, rfl, rfl, w1⟩ := open_int Try.underlying21 (hval 1 21 v1 rfl rfl) h1
  obtain ⟨a2, rfl, rfl, rfl, w2⟩ := open_int Try.underlying21 (hval 2 21 v2 rfl rfl) h2
  clear hA0 hval0
  refine (law a0_0 len0_0 cap0_0 z0_0 a0_1 len0_1 cap0_1 z0_1 a1 a2 W w0_0 w0_1 (bounds_i32 w1) (bounds_i32 w2)).mono fun e W' ⟨he, bel⟩ => ?_
  subst he
  exact ⟨_, rfl, _, _, _, [], _, [], hW', trodAll_mk1 (shut_bool Try.underlying4 _), (trodAll_cons_mk (Below.trod laidOut (by kernel_rfl) (of_decide_eq_true (by kernel_rfl)) k0 bel lt0) (trodAll_cons_mk (Below.trod laidOut (by kernel_rfl) (of_decide_eq_true (by kernel_rfl)) k1 bel lt1) (trodAll_cons_mk (Below.trod laidOut (by kernel_rfl) (of_decide_eq_true (by kernel_rfl)) k2 bel lt2) trodAll_mk0))), rfl, bel.frame _, fun h => by cases h⟩
theorem over : Rows.tableRisesRow.holds Try.pinned (OpenSpec.ofChange Rows.tableRisesSpec) :=
  OpenClaim.holds_of_wide 4 Try.f4 rfl rfl rfl rfl rfl rfl rfl ⟨rfl, rfl, rfl, rfl, rfl⟩ rfl rfl rfl rfl rfl (by kernel_rfl) Try.func4 (by kernel_rfl)
    (of_decide_eq_true (by kernel_rfl)) (by unfold Func.isWrapper; first | (rw [if_pos (by decide +kernel)]; kernel_rfl) | (rw [if_neg (by decide +kernel)]; exact ⟨rfl, rfl⟩))
    (fun os started H enc _ => lifted os started H enc)
theorem proved : Rows.TableRisesSaid := over
#print axioms proved

end Go.Proofs.Ytindfoknbfmmbaa.tableRises
