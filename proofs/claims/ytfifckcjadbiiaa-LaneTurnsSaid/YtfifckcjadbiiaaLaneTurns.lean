/- LaneTurns: whatever state a lane is in, the law answers true and leaves memory as it was. -/
import Derived.Test.YtfifckcjadbiiaaLaneNext
namespace Go.Proofs.Ytfifckcjadbiiaa.laneTurns
open Go.ChangeShapes Go.WideShapes Go.ChangeAt Go.RowKit Go.Proofs.Ytfifckcjadbiiaa Go.Proofs.Ytfifckcjadbiiaa.Open
set_option linter.unusedVariables false
set_option maxHeartbeats 4000000 in
set_option maxRecDepth 100000 in
theorem yes (m : Int) (f : Bool) (r : Int) (w : World) (h : LaneOk m f r) :
    Calls Try.prog 3 #[.agg #[.int .i64 m, .bool f, .int .i64 r]] w fun e w' => e = .returned (.bool true) ∧ Below w.heap.size w w' := by
  have K0 : Hid (LaneOk 1 false 0) := (⟨by decide, by decide, by decide⟩ : LaneOk 1 false 0)
  have K1 : Hid (nextI 1 false 0 4 = (0, false, 0)) := (rfl : nextI 1 false 0 4 = (0, false, 0))
  have H := Lib.hid h
  obtain ⟨hm, hr⟩ := h
  have ex : ∃ r7 r5, nextI m f r 7 = ((if m = 1 then 1 else 0), false, r7) ∧ nextI m f r 5 = (3, f, r5) ∧ (0 ≤ r5 ∧ r5 ≤ 10000) ∧ nextI 3 f r5 6 = ((if f = true then 2 else 0), f, 0) := by
    rcases hm with ⟨rfl, rfl⟩ | ⟨rfl, rfl⟩ | ⟨rfl, rfl⟩ | ⟨rfl, rfl⟩ | ⟨rfl, rfl⟩ <;> simp [nextI, turnB, turnV, turnI] <;> omega
  obtain ⟨r7, r5, h7, h5, hr5, h6⟩ := ex
  have H7 := Lib.hid h7; have H5 := Lib.hid h5; have H6 := Lib.hid h6
  have HD : Hid (LaneOk 3 f r5) := (⟨by cases f <;> decide, hr5.1, hr5.2⟩ : LaneOk 3 f r5)
  clear h7 h5 h6 hr hr5
  rcases hm with ⟨rfl, rfl⟩ | ⟨rfl, rfl⟩ | ⟨rfl, rfl⟩ | ⟨rfl, rfl⟩ | ⟨rfl, rfl⟩
  · go_enter Try.func3, Try.ntmps3
    go_wp2_with fail
    refine (next_any _ _ _ 4 _ K0.out (by omega) _ _ _ K1.out).mono ?_
    rintro e_w1 w1 ⟨rfl, hb⟩
    have zhb := hb.size
    obtain ⟨chb, fhb⟩ := Open.bcell hb
    try (simp at zhb)
    have ca0 : w1.cell? ⟨w.heap.size, 0, none⟩ = some (.int .i64 0) := by rw [chb _ _ (by first | (simp; done) | omega | (simp; omega))]; go_simp
    have ca1 : w1.cell? ⟨w.heap.size, 1, none⟩ = some (.bool false) := by rw [chb _ _ (by first | (simp; done) | omega | (simp; omega))]; go_simp
    have ca2 : w1.cell? ⟨w.heap.size, 2, none⟩ = some (.int .i64 r) := by rw [chb _ _ (by first | (simp; done) | omega | (simp; omega))]; go_simp
    have B1 : Below w.heap.size w w1 := by repeat (first | with_reducible exact Below.refl _ _ | ((with_reducible refine Below.setCell ?_ ?_ _); rotate_left; (· first | (simp; done) | omega | (simp; omega))) | with_reducible refine below_drewN ?_ _ | with_reducible refine Below.drew ?_ | ((with_reducible refine Below.trans ?_ (Below.mono hb ?_)); rotate_left; (· first | (simp; done) | omega | (simp; omega))) | ((with_reducible refine Below.alloc ?_ ?_ _); rotate_left; (· first | (simp; done) | omega | (simp; omega))) | exact Below.refl _ _ | refine Below.setCell ?_ (by first | (simp; done) | omega | (simp; omega)) _ | refine below_drewN ?_ _ | refine Below.drew ?_ | refine Below.trans ?_ (Below.mono hb (by first | (simp; done) | omega | (simp; omega))) | refine Below.alloc ?_ (by first | (simp; done) | omega | (simp; omega)) _)
    clear hb chb fhb
    have sw1_0_0 : w.heap.size < w1.heap.size := by omega
    go_wp2_with fail
    refine (laneCheck_yes _ _ _ _ H.out).mono ?_
    rintro e2 w2 ⟨rfl, rfl⟩
    go_wp2_with fail
    refine (next_any _ _ _ 7 _ H.out (by omega) _ _ _ H7.out).mono ?_
    rintro e3 w3 ⟨rfl, hb⟩
    have zb := hb.size
    simp at zb
    have BA : Below w1.heap.size w1 w3 := by repeat (first | with_reducible exact Below.refl _ _ | ((with_reducible refine Below.setCell ?_ ?_ _); rotate_left; (· first | (simp; done) | omega | (simp; omega))) | with_reducible refine below_drewN ?_ _ | with_reducible refine Below.drew ?_ | ((with_reducible refine Below.trans ?_ (Below.mono hb ?_)); rotate_left; (· first | (simp; done) | omega | (simp; omega))) | ((with_reducible refine Below.alloc ?_ ?_ _); rotate_left; (· first | (simp; done) | omega | (simp; omega))) | exact Below.refl _ _ | refine Below.setCell ?_ (by first | (simp; done) | omega | (simp; omega)) _ | refine below_drewN ?_ _ | refine Below.drew ?_ | refine Below.trans ?_ (Below.mono hb (by first | (simp; done) | omega | (simp; omega))) | refine Below.alloc ?_ (by first | (simp; done) | omega | (simp; omega)) _)
    have B3 : Below w.heap.size w w3 := by repeat (first | with_reducible exact Below.refl _ _ | with_reducible exact B1 | ((with_reducible refine Below.setCell ?_ ?_ _); rotate_left; (· first | (simp; done) | omega | (simp; omega))) | with_reducible refine below_drewN ?_ _ | with_reducible refine Below.drew ?_ | ((with_reducible refine Below.trans ?_ (Below.mono BA ?_)); rotate_left; (· first | (simp; done) | omega | (simp; omega))) | ((with_reducible refine Below.alloc ?_ ?_ _); rotate_left; (· first | (simp; done) | omega | (simp; omega))) | exact Below.refl _ _ | exact B1 | refine Below.setCell ?_ (by first | (simp; done) | omega | (simp; omega)) _ | refine below_drewN ?_ _ | refine Below.drew ?_ | refine Below.trans ?_ (Below.mono BA (by first | (simp; done) | omega | (simp; omega))) | refine Below.alloc ?_ (by first | (simp; done) | omega | (simp; omega)) _)
    replace ca0 := cell_later BA ca0
    replace ca1 := cell_later BA ca1
    replace ca2 := cell_later BA ca2
    clear hb BA B1
    have s3 : w.heap.size < w3.heap.size := by omega
    go_wp2_with fail
    refine (next_any _ _ _ 5 _ H.out (by omega) _ _ _ H5.out).mono ?_
    rintro e4 w4 ⟨rfl, hb⟩
    have zc := hb.size
    simp at zc
    have BA : Below w3.heap.size w3 w4 := by repeat (first | with_reducible exact Below.refl _ _ | ((with_reducible refine Below.setCell ?_ ?_ _); rotate_left; (· first | (simp; done) | omega | (simp; omega))) | with_reducible refine below_drewN ?_ _ | with_reducible refine Below.drew ?_ | ((with_reducible refine Below.trans ?_ (Below.mono hb ?_)); rotate_left; (· first | (simp; done) | omega | (simp; omega))) | ((with_reducible refine Below.alloc ?_ ?_ _); rotate_left; (· first | (simp; done) | omega | (simp; omega))) | exact Below.refl _ _ | refine Below.setCell ?_ (by first | (simp; done) | omega | (simp; omega)) _ | refine below_drewN ?_ _ | refine Below.drew ?_ | refine Below.trans ?_ (Below.mono hb (by first | (simp; done) | omega | (simp; omega))) | refine Below.alloc ?_ (by first | (simp; done) | omega | (simp; omega)) _)
    have B4 : Below w.heap.size w w4 := by repeat (first | with_reducible exact Below.refl _ _ | with_reducible exact B3 | ((with_reducible refine Below.setCell ?_ ?_ _); rotate_left; (· first | (simp; done) | omega | (simp; omega))) | with_reducible refine below_drewN ?_ _ | with_reducible refine Below.drew ?_ | ((with_reducible refine Below.trans ?_ (Below.mono BA ?_)); rotate_left; (· first | (simp; done) | omega | (simp; omega))) | ((with_reducible refine Below.alloc ?_ ?_ _); rotate_left; (· first | (simp; done) | omega | (simp; omega))) | exact Below.refl _ _ | exact B3 | refine Below.setCell ?_ (by first | (simp; done) | omega | (simp; omega)) _ | refine below_drewN ?_ _ | refine Below.drew ?_ | refine Below.trans ?_ (Below.mono BA (by first | (simp; done) | omega | (simp; omega))) | refine Below.alloc ?_ (by first | (simp; done) | omega | (simp; omega)) _)
    replace ca0 := cell_later BA ca0
    replace ca1 := cell_later BA ca1
    replace ca2 := cell_later BA ca2
    have x0 : w4.cell? ⟨w3.heap.size, 0, none⟩ = some (.int .i64 0) := cell_later hb (by go_simp)
    have x1 : w4.cell? ⟨w3.heap.size, 1, none⟩ = some (.bool false) := cell_later hb (by go_simp)
    clear hb BA B3
    have s4 : w.heap.size < w4.heap.size := by omega
    have s5 : w3.heap.size < w4.heap.size := by omega
    go_wp2_with fail
    refine (next_any _ _ _ 6 _ HD.out (by omega) _ _ _ H6.out).mono ?_
    rintro e5 w5 ⟨rfl, hb⟩
    have zd := hb.size
    simp at zd
    have BA : Below w4.heap.size w4 w5 := by repeat (first | with_reducible exact Below.refl _ _ | ((with_reducible refine Below.setCell ?_ ?_ _); rotate_left; (· first | (simp; done) | omega | (simp; omega))) | with_reducible refine below_drewN ?_ _ | with_reducible refine Below.drew ?_ | ((with_reducible refine Below.trans ?_ (Below.mono hb ?_)); rotate_left; (· first | (simp; done) | omega | (simp; omega))) | ((with_reducible refine Below.alloc ?_ ?_ _); rotate_left; (· first | (simp; done) | omega | (simp; omega))) | exact Below.refl _ _ | refine Below.setCell ?_ (by first | (simp; done) | omega | (simp; omega)) _ | refine below_drewN ?_ _ | refine Below.drew ?_ | refine Below.trans ?_ (Below.mono hb (by first | (simp; done) | omega | (simp; omega))) | refine Below.alloc ?_ (by first | (simp; done) | omega | (simp; omega)) _)
    have B5 : Below w.heap.size w w5 := by repeat (first | with_reducible exact Below.refl _ _ | with_reducible exact B4 | ((with_reducible refine Below.setCell ?_ ?_ _); rotate_left; (· first | (simp; done) | omega | (simp; omega))) | with_reducible refine below_drewN ?_ _ | with_reducible refine Below.drew ?_ | ((with_reducible refine Below.trans ?_ (Below.mono BA ?_)); rotate_left; (· first | (simp; done) | omega | (simp; omega))) | ((with_reducible refine Below.alloc ?_ ?_ _); rotate_left; (· first | (simp; done) | omega | (simp; omega))) | exact Below.refl _ _ | exact B4 | refine Below.setCell ?_ (by first | (simp; done) | omega | (simp; omega)) _ | refine below_drewN ?_ _ | refine Below.drew ?_ | refine Below.trans ?_ (Below.mono BA (by first | (simp; done) | omega | (simp; omega))) | refine Below.alloc ?_ (by first | (simp; done) | omega | (simp; omega)) _)
    replace ca0 := cell_later BA ca0
    replace ca1 := cell_later BA ca1
    replace ca2 := cell_later BA ca2
    replace x0 := cell_later BA x0
    replace x1 := cell_later BA x1
    have y0 : w5.cell? ⟨w4.heap.size, 0, none⟩ = some (.int .i64 3) := cell_later hb (by go_simp)
    clear hb BA B4
    have s6 : w.heap.size < w5.heap.size := by omega
    have s7 : w3.heap.size < w5.heap.size := by omega
    have s8 : w4.heap.size < w5.heap.size := by omega
    go_wp2
    go_ret
    refine ⟨ret_bool (by first | rfl | (simp; done)), ?_⟩
    repeat (first | with_reducible exact Below.refl _ _ | with_reducible exact B5 | ((with_reducible refine Below.setCell ?_ ?_ _); rotate_left; (· first | (simp; done) | omega | (simp; omega))) | with_reducible refine below_drewN ?_ _ | with_reducible refine Below.drew ?_ | ((with_reducible refine Below.alloc ?_ ?_ _); rotate_left; (· first | (simp; done) | omega | (simp; omega))) | exact Below.refl _ _ | exact B5 | refine Below.setCell ?_ (by first | (simp; done) | omega | (simp; omega)) _ | refine below_drewN ?_ _ | refine Below.drew ?_ | refine Below.alloc ?_ (by first | (simp; done) | omega | (simp; omega)) _)
  · go_enter Try.func3, Try.ntmps3
    go_wp2_with fail
    refine (next_any _ _ _ 4 _ K0.out (by omega) _ _ _ K1.out).mono ?_
    rintro e_w1 w1 ⟨rfl, hb⟩
    have zhb := hb.size
    obtain ⟨chb, fhb⟩ := Open.bcell hb
    try (simp at zhb)
    have ca0 : w1.cell? ⟨w.heap.size, 0, none⟩ = some (.int .i64 1) := by rw [chb _ _ (by first | (simp; done) | omega | (simp; omega))]; go_simp
    have ca1 : w1.cell? ⟨w.heap.size, 1, none⟩ = some (.bool false) := by rw [chb _ _ (by first | (simp; done) | omega | (simp; omega))]; go_simp
    have ca2 : w1.cell? ⟨w.heap.size, 2, none⟩ = some (.int .i64 r) := by rw [chb _ _ (by first | (simp; done) | omega | (simp; omega))]; go_simp
    have B1 : Below w.heap.size w w1 := by repeat (first | with_reducible exact Below.refl _ _ | ((with_reducible refine Below.setCell ?_ ?_ _); rotate_left; (· first | (simp; done) | omega | (simp; omega))) | with_reducible refine below_drewN ?_ _ | with_reducible refine Below.drew ?_ | ((with_reducible refine Below.trans ?_ (Below.mono hb ?_)); rotate_left; (· first | (simp; done) | omega | (simp; omega))) | ((with_reducible refine Below.alloc ?_ ?_ _); rotate_left; (· first | (simp; done) | omega | (simp; omega))) | exact Below.refl _ _ | refine Below.setCell ?_ (by first | (simp; done) | omega | (simp; omega)) _ | refine below_drewN ?_ _ | refine Below.drew ?_ | refine Below.trans ?_ (Below.mono hb (by first | (simp; done) | omega | (simp; omega))) | refine Below.alloc ?_ (by first | (simp; done) | omega | (simp; omega)) _)
    clear hb chb fhb
    have sw1_0_0 : w.heap.size < w1.heap.size := by omega
    go_wp2_with fail
    refine (laneCheck_yes _ _ _ _ H.out).mono ?_
    rintro e2 w2 ⟨rfl, rfl⟩
    go_wp2_with fail
    refine (next_any _ _ _ 7 _ H.out (by omega) _ _ _ H7.out).mono ?_
    rintro e3 w3 ⟨rfl, hb⟩
    have zb := hb.size
    simp at zb
    have BA : Below w1.heap.size w1 w3 := by repeat (first | with_reducible exact Below.refl _ _ | ((with_reducible refine Below.setCell ?_ ?_ _); rotate_left; (· first | (simp; done) | omega | (simp; omega))) | with_reducible refine below_drewN ?_ _ | with_reducible refine Below.drew ?_ | ((with_reducible refine Below.trans ?_ (Below.mono hb ?_)); rotate_left; (· first | (simp; done) | omega | (simp; omega))) | ((with_reducible refine Below.alloc ?_ ?_ _); rotate_left; (· first | (simp; done) | omega | (simp; omega))) | exact Below.refl _ _ | refine Below.setCell ?_ (by first | (simp; done) | omega | (simp; omega)) _ | refine below_drewN ?_ _ | refine Below.drew ?_ | refine Below.trans ?_ (Below.mono hb (by first | (simp; done) | omega | (simp; omega))) | refine Below.alloc ?_ (by first | (simp; done) | omega | (simp; omega)) _)
    have B3 : Below w.heap.size w w3 := by repeat (first | with_reducible exact Below.refl _ _ | with_reducible exact B1 | ((with_reducible refine Below.setCell ?_ ?_ _); rotate_left; (· first | (simp; done) | omega | (simp; omega))) | with_reducible refine below_drewN ?_ _ | with_reducible refine Below.drew ?_ | ((with_reducible refine Below.trans ?_ (Below.mono BA ?_)); rotate_left; (· first | (simp; done) | omega | (simp; omega))) | ((with_reducible refine Below.alloc ?_ ?_ _); rotate_left; (· first | (simp; done) | omega | (simp; omega))) | exact Below.refl _ _ | exact B1 | refine Below.setCell ?_ (by first | (simp; done) | omega | (simp; omega)) _ | refine below_drewN ?_ _ | refine Below.drew ?_ | refine Below.trans ?_ (Below.mono BA (by first | (simp; done) | omega | (simp; omega))) | refine Below.alloc ?_ (by first | (simp; done) | omega | (simp; omega)) _)
    replace ca0 := cell_later BA ca0
    replace ca1 := cell_later BA ca1
    replace ca2 := cell_later BA ca2
    clear hb BA B1
    have s3 : w.heap.size < w3.heap.size := by omega
    go_wp2_with fail
    refine (next_any _ _ _ 5 _ H.out (by omega) _ _ _ H5.out).mono ?_
    rintro e4 w4 ⟨rfl, hb⟩
    have zc := hb.size
    simp at zc
    have BA : Below w3.heap.size w3 w4 := by repeat (first | with_reducible exact Below.refl _ _ | ((with_reducible refine Below.setCell ?_ ?_ _); rotate_left; (· first | (simp; done) | omega | (simp; omega))) | with_reducible refine below_drewN ?_ _ | with_reducible refine Below.drew ?_ | ((with_reducible refine Below.trans ?_ (Below.mono hb ?_)); rotate_left; (· first | (simp; done) | omega | (simp; omega))) | ((with_reducible refine Below.alloc ?_ ?_ _); rotate_left; (· first | (simp; done) | omega | (simp; omega))) | exact Below.refl _ _ | refine Below.setCell ?_ (by first | (simp; done) | omega | (simp; omega)) _ | refine below_drewN ?_ _ | refine Below.drew ?_ | refine Below.trans ?_ (Below.mono hb (by first | (simp; done) | omega | (simp; omega))) | refine Below.alloc ?_ (by first | (simp; done) | omega | (simp; omega)) _)
    have B4 : Below w.heap.size w w4 := by repeat (first | with_reducible exact Below.refl _ _ | with_reducible exact B3 | ((with_reducible refine Below.setCell ?_ ?_ _); rotate_left; (· first | (simp; done) | omega | (simp; omega))) | with_reducible refine below_drewN ?_ _ | with_reducible refine Below.drew ?_ | ((with_reducible refine Below.trans ?_ (Below.mono BA ?_)); rotate_left; (· first | (simp; done) | omega | (simp; omega))) | ((with_reducible refine Below.alloc ?_ ?_ _); rotate_left; (· first | (simp; done) | omega | (simp; omega))) | exact Below.refl _ _ | exact B3 | refine Below.setCell ?_ (by first | (simp; done) | omega | (simp; omega)) _ | refine below_drewN ?_ _ | refine Below.drew ?_ | refine Below.trans ?_ (Below.mono BA (by first | (simp; done) | omega | (simp; omega))) | refine Below.alloc ?_ (by first | (simp; done) | omega | (simp; omega)) _)
    replace ca0 := cell_later BA ca0
    replace ca1 := cell_later BA ca1
    replace ca2 := cell_later BA ca2
    have x0 : w4.cell? ⟨w3.heap.size, 0, none⟩ = some (.int .i64 1) := cell_later hb (by go_simp)
    have x1 : w4.cell? ⟨w3.heap.size, 1, none⟩ = some (.bool false) := cell_later hb (by go_simp)
    clear hb BA B3
    have s4 : w.heap.size < w4.heap.size := by omega
    have s5 : w3.heap.size < w4.heap.size := by omega
    go_wp2_with fail
    refine (next_any _ _ _ 6 _ HD.out (by omega) _ _ _ H6.out).mono ?_
    rintro e5 w5 ⟨rfl, hb⟩
    have zd := hb.size
    simp at zd
    have BA : Below w4.heap.size w4 w5 := by repeat (first | with_reducible exact Below.refl _ _ | ((with_reducible refine Below.setCell ?_ ?_ _); rotate_left; (· first | (simp; done) | omega | (simp; omega))) | with_reducible refine below_drewN ?_ _ | with_reducible refine Below.drew ?_ | ((with_reducible refine Below.trans ?_ (Below.mono hb ?_)); rotate_left; (· first | (simp; done) | omega | (simp; omega))) | ((with_reducible refine Below.alloc ?_ ?_ _); rotate_left; (· first | (simp; done) | omega | (simp; omega))) | exact Below.refl _ _ | refine Below.setCell ?_ (by first | (simp; done) | omega | (simp; omega)) _ | refine below_drewN ?_ _ | refine Below.drew ?_ | refine Below.trans ?_ (Below.mono hb (by first | (simp; done) | omega | (simp; omega))) | refine Below.alloc ?_ (by first | (simp; done) | omega | (simp; omega)) _)
    have B5 : Below w.heap.size w w5 := by repeat (first | with_reducible exact Below.refl _ _ | with_reducible exact B4 | ((with_reducible refine Below.setCell ?_ ?_ _); rotate_left; (· first | (simp; done) | omega | (simp; omega))) | with_reducible refine below_drewN ?_ _ | with_reducible refine Below.drew ?_ | ((with_reducible refine Below.trans ?_ (Below.mono BA ?_)); rotate_left; (· first | (simp; done) | omega | (simp; omega))) | ((with_reducible refine Below.alloc ?_ ?_ _); rotate_left; (· first | (simp; done) | omega | (simp; omega))) | exact Below.refl _ _ | exact B4 | refine Below.setCell ?_ (by first | (simp; done) | omega | (simp; omega)) _ | refine below_drewN ?_ _ | refine Below.drew ?_ | refine Below.trans ?_ (Below.mono BA (by first | (simp; done) | omega | (simp; omega))) | refine Below.alloc ?_ (by first | (simp; done) | omega | (simp; omega)) _)
    replace ca0 := cell_later BA ca0
    replace ca1 := cell_later BA ca1
    replace ca2 := cell_later BA ca2
    replace x0 := cell_later BA x0
    replace x1 := cell_later BA x1
    have y0 : w5.cell? ⟨w4.heap.size, 0, none⟩ = some (.int .i64 3) := cell_later hb (by go_simp)
    clear hb BA B4
    have s6 : w.heap.size < w5.heap.size := by omega
    have s7 : w3.heap.size < w5.heap.size := by omega
    have s8 : w4.heap.size < w5.heap.size := by omega
    go_wp2
    go_ret
    refine ⟨ret_bool (by first | rfl | (simp; done)), ?_⟩
    repeat (first | with_reducible exact Below.refl _ _ | with_reducible exact B5 | ((with_reducible refine Below.setCell ?_ ?_ _); rotate_left; (· first | (simp; done) | omega | (simp; omega))) | with_reducible refine below_drewN ?_ _ | with_reducible refine Below.drew ?_ | ((with_reducible refine Below.alloc ?_ ?_ _); rotate_left; (· first | (simp; done) | omega | (simp; omega))) | exact Below.refl _ _ | exact B5 | refine Below.setCell ?_ (by first | (simp; done) | omega | (simp; omega)) _ | refine below_drewN ?_ _ | refine Below.drew ?_ | refine Below.alloc ?_ (by first | (simp; done) | omega | (simp; omega)) _)
  · go_enter Try.func3, Try.ntmps3
    go_wp2_with fail
    refine (next_any _ _ _ 4 _ K0.out (by omega) _ _ _ K1.out).mono ?_
    rintro e_w1 w1 ⟨rfl, hb⟩
    have zhb := hb.size
    obtain ⟨chb, fhb⟩ := Open.bcell hb
    try (simp at zhb)
    have ca0 : w1.cell? ⟨w.heap.size, 0, none⟩ = some (.int .i64 2) := by rw [chb _ _ (by first | (simp; done) | omega | (simp; omega))]; go_simp
    have ca1 : w1.cell? ⟨w.heap.size, 1, none⟩ = some (.bool true) := by rw [chb _ _ (by first | (simp; done) | omega | (simp; omega))]; go_simp
    have ca2 : w1.cell? ⟨w.heap.size, 2, none⟩ = some (.int .i64 r) := by rw [chb _ _ (by first | (simp; done) | omega | (simp; omega))]; go_simp
    have B1 : Below w.heap.size w w1 := by repeat (first | with_reducible exact Below.refl _ _ | ((with_reducible refine Below.setCell ?_ ?_ _); rotate_left; (· first | (simp; done) | omega | (simp; omega))) | with_reducible refine below_drewN ?_ _ | with_reducible refine Below.drew ?_ | ((with_reducible refine Below.trans ?_ (Below.mono hb ?_)); rotate_left; (· first | (simp; done) | omega | (simp; omega))) | ((with_reducible refine Below.alloc ?_ ?_ _); rotate_left; (· first | (simp; done) | omega | (simp; omega))) | exact Below.refl _ _ | refine Below.setCell ?_ (by first | (simp; done) | omega | (simp; omega)) _ | refine below_drewN ?_ _ | refine Below.drew ?_ | refine Below.trans ?_ (Below.mono hb (by first | (simp; done) | omega | (simp; omega))) | refine Below.alloc ?_ (by first | (simp; done) | omega | (simp; omega)) _)
    clear hb chb fhb
    have sw1_0_0 : w.heap.size < w1.heap.size := by omega
    go_wp2_with fail
    refine (laneCheck_yes _ _ _ _ H.out).mono ?_
    rintro e2 w2 ⟨rfl, rfl⟩
    go_wp2_with fail
    refine (next_any _ _ _ 7 _ H.out (by omega) _ _ _ H7.out).mono ?_
    rintro e3 w3 ⟨rfl, hb⟩
    have zb := hb.size
    simp at zb
    have BA : Below w1.heap.size w1 w3 := by repeat (first | with_reducible exact Below.refl _ _ | ((with_reducible refine Below.setCell ?_ ?_ _); rotate_left; (· first | (simp; done) | omega | (simp; omega))) | with_reducible refine below_drewN ?_ _ | with_reducible refine Below.drew ?_ | ((with_reducible refine Below.trans ?_ (Below.mono hb ?_)); rotate_left; (· first | (simp; done) | omega | (simp; omega))) | ((with_reducible refine Below.alloc ?_ ?_ _); rotate_left; (· first | (simp; done) | omega | (simp; omega))) | exact Below.refl _ _ | refine Below.setCell ?_ (by first | (simp; done) | omega | (simp; omega)) _ | refine below_drewN ?_ _ | refine Below.drew ?_ | refine Below.trans ?_ (Below.mono hb (by first | (simp; done) | omega | (simp; omega))) | refine Below.alloc ?_ (by first | (simp; done) | omega | (simp; omega)) _)
    have B3 : Below w.heap.size w w3 := by repeat (first | with_reducible exact Below.refl _ _ | with_reducible exact B1 | ((with_reducible refine Below.setCell ?_ ?_ _); rotate_left; (· first | (simp; done) | omega | (simp; omega))) | with_reducible refine below_drewN ?_ _ | with_reducible refine Below.drew ?_ | ((with_reducible refine Below.trans ?_ (Below.mono BA ?_)); rotate_left; (· first | (simp; done) | omega | (simp; omega))) | ((with_reducible refine Below.alloc ?_ ?_ _); rotate_left; (· first | (simp; done) | omega | (simp; omega))) | exact Below.refl _ _ | exact B1 | refine Below.setCell ?_ (by first | (simp; done) | omega | (simp; omega)) _ | refine below_drewN ?_ _ | refine Below.drew ?_ | refine Below.trans ?_ (Below.mono BA (by first | (simp; done) | omega | (simp; omega))) | refine Below.alloc ?_ (by first | (simp; done) | omega | (simp; omega)) _)
    replace ca0 := cell_later BA ca0
    replace ca1 := cell_later BA ca1
    replace ca2 := cell_later BA ca2
    clear hb BA B1
    have s3 : w.heap.size < w3.heap.size := by omega
    go_wp2_with fail
    refine (next_any _ _ _ 5 _ H.out (by omega) _ _ _ H5.out).mono ?_
    rintro e4 w4 ⟨rfl, hb⟩
    have zc := hb.size
    simp at zc
    have BA : Below w3.heap.size w3 w4 := by repeat (first | with_reducible exact Below.refl _ _ | ((with_reducible refine Below.setCell ?_ ?_ _); rotate_left; (· first | (simp; done) | omega | (simp; omega))) | with_reducible refine below_drewN ?_ _ | with_reducible refine Below.drew ?_ | ((with_reducible refine Below.trans ?_ (Below.mono hb ?_)); rotate_left; (· first | (simp; done) | omega | (simp; omega))) | ((with_reducible refine Below.alloc ?_ ?_ _); rotate_left; (· first | (simp; done) | omega | (simp; omega))) | exact Below.refl _ _ | refine Below.setCell ?_ (by first | (simp; done) | omega | (simp; omega)) _ | refine below_drewN ?_ _ | refine Below.drew ?_ | refine Below.trans ?_ (Below.mono hb (by first | (simp; done) | omega | (simp; omega))) | refine Below.alloc ?_ (by first | (simp; done) | omega | (simp; omega)) _)
    have B4 : Below w.heap.size w w4 := by repeat (first | with_reducible exact Below.refl _ _ | with_reducible exact B3 | ((with_reducible refine Below.setCell ?_ ?_ _); rotate_left; (· first | (simp; done) | omega | (simp; omega))) | with_reducible refine below_drewN ?_ _ | with_reducible refine Below.drew ?_ | ((with_reducible refine Below.trans ?_ (Below.mono BA ?_)); rotate_left; (· first | (simp; done) | omega | (simp; omega))) | ((with_reducible refine Below.alloc ?_ ?_ _); rotate_left; (· first | (simp; done) | omega | (simp; omega))) | exact Below.refl _ _ | exact B3 | refine Below.setCell ?_ (by first | (simp; done) | omega | (simp; omega)) _ | refine below_drewN ?_ _ | refine Below.drew ?_ | refine Below.trans ?_ (Below.mono BA (by first | (simp; done) | omega | (simp; omega))) | refine Below.alloc ?_ (by first | (simp; done) | omega | (simp; omega)) _)
    replace ca0 := cell_later BA ca0
    replace ca1 := cell_later BA ca1
    replace ca2 := cell_later BA ca2
    have x0 : w4.cell? ⟨w3.heap.size, 0, none⟩ = some (.int .i64 0) := cell_later hb (by go_simp)
    have x1 : w4.cell? ⟨w3.heap.size, 1, none⟩ = some (.bool false) := cell_later hb (by go_simp)
    clear hb BA B3
    have s4 : w.heap.size < w4.heap.size := by omega
    have s5 : w3.heap.size < w4.heap.size := by omega
    go_wp2_with fail
    refine (next_any _ _ _ 6 _ HD.out (by omega) _ _ _ H6.out).mono ?_
    rintro e5 w5 ⟨rfl, hb⟩
    have zd := hb.size
    simp at zd
    have BA : Below w4.heap.size w4 w5 := by repeat (first | with_reducible exact Below.refl _ _ | ((with_reducible refine Below.setCell ?_ ?_ _); rotate_left; (· first | (simp; done) | omega | (simp; omega))) | with_reducible refine below_drewN ?_ _ | with_reducible refine Below.drew ?_ | ((with_reducible refine Below.trans ?_ (Below.mono hb ?_)); rotate_left; (· first | (simp; done) | omega | (simp; omega))) | ((with_reducible refine Below.alloc ?_ ?_ _); rotate_left; (· first | (simp; done) | omega | (simp; omega))) | exact Below.refl _ _ | refine Below.setCell ?_ (by first | (simp; done) | omega | (simp; omega)) _ | refine below_drewN ?_ _ | refine Below.drew ?_ | refine Below.trans ?_ (Below.mono hb (by first | (simp; done) | omega | (simp; omega))) | refine Below.alloc ?_ (by first | (simp; done) | omega | (simp; omega)) _)
    have B5 : Below w.heap.size w w5 := by repeat (first | with_reducible exact Below.refl _ _ | with_reducible exact B4 | ((with_reducible refine Below.setCell ?_ ?_ _); rotate_left; (· first | (simp; done) | omega | (simp; omega))) | with_reducible refine below_drewN ?_ _ | with_reducible refine Below.drew ?_ | ((with_reducible refine Below.trans ?_ (Below.mono BA ?_)); rotate_left; (· first | (simp; done) | omega | (simp; omega))) | ((with_reducible refine Below.alloc ?_ ?_ _); rotate_left; (· first | (simp; done) | omega | (simp; omega))) | exact Below.refl _ _ | exact B4 | refine Below.setCell ?_ (by first | (simp; done) | omega | (simp; omega)) _ | refine below_drewN ?_ _ | refine Below.drew ?_ | refine Below.trans ?_ (Below.mono BA (by first | (simp; done) | omega | (simp; omega))) | refine Below.alloc ?_ (by first | (simp; done) | omega | (simp; omega)) _)
    replace ca0 := cell_later BA ca0
    replace ca1 := cell_later BA ca1
    replace ca2 := cell_later BA ca2
    replace x0 := cell_later BA x0
    replace x1 := cell_later BA x1
    have y0 : w5.cell? ⟨w4.heap.size, 0, none⟩ = some (.int .i64 3) := cell_later hb (by go_simp)
    clear hb BA B4
    have s6 : w.heap.size < w5.heap.size := by omega
    have s7 : w3.heap.size < w5.heap.size := by omega
    have s8 : w4.heap.size < w5.heap.size := by omega
    go_wp2
    go_ret
    refine ⟨ret_bool (by first | rfl | (simp; done)), ?_⟩
    repeat (first | with_reducible exact Below.refl _ _ | with_reducible exact B5 | ((with_reducible refine Below.setCell ?_ ?_ _); rotate_left; (· first | (simp; done) | omega | (simp; omega))) | with_reducible refine below_drewN ?_ _ | with_reducible refine Below.drew ?_ | ((with_reducible refine Below.alloc ?_ ?_ _); rotate_left; (· first | (simp; done) | omega | (simp; omega))) | exact Below.refl _ _ | exact B5 | refine Below.setCell ?_ (by first | (simp; done) | omega | (simp; omega)) _ | refine below_drewN ?_ _ | refine Below.drew ?_ | refine Below.alloc ?_ (by first | (simp; done) | omega | (simp; omega)) _)
  · go_enter Try.func3, Try.ntmps3
    go_wp2_with fail
    refine (next_any _ _ _ 4 _ K0.out (by omega) _ _ _ K1.out).mono ?_
    rintro e_w1 w1 ⟨rfl, hb⟩
    have zhb := hb.size
    obtain ⟨chb, fhb⟩ := Open.bcell hb
    try (simp at zhb)
    have ca0 : w1.cell? ⟨w.heap.size, 0, none⟩ = some (.int .i64 3) := by rw [chb _ _ (by first | (simp; done) | omega | (simp; omega))]; go_simp
    have ca1 : w1.cell? ⟨w.heap.size, 1, none⟩ = some (.bool false) := by rw [chb _ _ (by first | (simp; done) | omega | (simp; omega))]; go_simp
    have ca2 : w1.cell? ⟨w.heap.size, 2, none⟩ = some (.int .i64 r) := by rw [chb _ _ (by first | (simp; done) | omega | (simp; omega))]; go_simp
    have B1 : Below w.heap.size w w1 := by repeat (first | with_reducible exact Below.refl _ _ | ((with_reducible refine Below.setCell ?_ ?_ _); rotate_left; (· first | (simp; done) | omega | (simp; omega))) | with_reducible refine below_drewN ?_ _ | with_reducible refine Below.drew ?_ | ((with_reducible refine Below.trans ?_ (Below.mono hb ?_)); rotate_left; (· first | (simp; done) | omega | (simp; omega))) | ((with_reducible refine Below.alloc ?_ ?_ _); rotate_left; (· first | (simp; done) | omega | (simp; omega))) | exact Below.refl _ _ | refine Below.setCell ?_ (by first | (simp; done) | omega | (simp; omega)) _ | refine below_drewN ?_ _ | refine Below.drew ?_ | refine Below.trans ?_ (Below.mono hb (by first | (simp; done) | omega | (simp; omega))) | refine Below.alloc ?_ (by first | (simp; done) | omega | (simp; omega)) _)
    clear hb chb fhb
    have sw1_0_0 : w.heap.size < w1.heap.size := by omega
    go_wp2_with fail
    refine (laneCheck_yes _ _ _ _ H.out).mono ?_
    rintro e2 w2 ⟨rfl, rfl⟩
    go_wp2_with fail
    refine (next_any _ _ _ 7 _ H.out (by omega) _ _ _ H7.out).mono ?_
    rintro e3 w3 ⟨rfl, hb⟩
    have zb := hb.size
    simp at zb
    have BA : Below w1.heap.size w1 w3 := by repeat (first | with_reducible exact Below.refl _ _ | ((with_reducible refine Below.setCell ?_ ?_ _); rotate_left; (· first | (simp; done) | omega | (simp; omega))) | with_reducible refine below_drewN ?_ _ | with_reducible refine Below.drew ?_ | ((with_reducible refine Below.trans ?_ (Below.mono hb ?_)); rotate_left; (· first | (simp; done) | omega | (simp; omega))) | ((with_reducible refine Below.alloc ?_ ?_ _); rotate_left; (· first | (simp; done) | omega | (simp; omega))) | exact Below.refl _ _ | refine Below.setCell ?_ (by first | (simp; done) | omega | (simp; omega)) _ | refine below_drewN ?_ _ | refine Below.drew ?_ | refine Below.trans ?_ (Below.mono hb (by first | (simp; done) | omega | (simp; omega))) | refine Below.alloc ?_ (by first | (simp; done) | omega | (simp; omega)) _)
    have B3 : Below w.heap.size w w3 := by repeat (first | with_reducible exact Below.refl _ _ | with_reducible exact B1 | ((with_reducible refine Below.setCell ?_ ?_ _); rotate_left; (· first | (simp; done) | omega | (simp; omega))) | with_reducible refine below_drewN ?_ _ | with_reducible refine Below.drew ?_ | ((with_reducible refine Below.trans ?_ (Below.mono BA ?_)); rotate_left; (· first | (simp; done) | omega | (simp; omega))) | ((with_reducible refine Below.alloc ?_ ?_ _); rotate_left; (· first | (simp; done) | omega | (simp; omega))) | exact Below.refl _ _ | exact B1 | refine Below.setCell ?_ (by first | (simp; done) | omega | (simp; omega)) _ | refine below_drewN ?_ _ | refine Below.drew ?_ | refine Below.trans ?_ (Below.mono BA (by first | (simp; done) | omega | (simp; omega))) | refine Below.alloc ?_ (by first | (simp; done) | omega | (simp; omega)) _)
    replace ca0 := cell_later BA ca0
    replace ca1 := cell_later BA ca1
    replace ca2 := cell_later BA ca2
    clear hb BA B1
    have s3 : w.heap.size < w3.heap.size := by omega
    go_wp2_with fail
    refine (next_any _ _ _ 5 _ H.out (by omega) _ _ _ H5.out).mono ?_
    rintro e4 w4 ⟨rfl, hb⟩
    have zc := hb.size
    simp at zc
    have BA : Below w3.heap.size w3 w4 := by repeat (first | with_reducible exact Below.refl _ _ | ((with_reducible refine Below.setCell ?_ ?_ _); rotate_left; (· first | (simp; done) | omega | (simp; omega))) | with_reducible refine below_drewN ?_ _ | with_reducible refine Below.drew ?_ | ((with_reducible refine Below.trans ?_ (Below.mono hb ?_)); rotate_left; (· first | (simp; done) | omega | (simp; omega))) | ((with_reducible refine Below.alloc ?_ ?_ _); rotate_left; (· first | (simp; done) | omega | (simp; omega))) | exact Below.refl _ _ | refine Below.setCell ?_ (by first | (simp; done) | omega | (simp; omega)) _ | refine below_drewN ?_ _ | refine Below.drew ?_ | refine Below.trans ?_ (Below.mono hb (by first | (simp; done) | omega | (simp; omega))) | refine Below.alloc ?_ (by first | (simp; done) | omega | (simp; omega)) _)
    have B4 : Below w.heap.size w w4 := by repeat (first | with_reducible exact Below.refl _ _ | with_reducible exact B3 | ((with_reducible refine Below.setCell ?_ ?_ _); rotate_left; (· first | (simp; done) | omega | (simp; omega))) | with_reducible refine below_drewN ?_ _ | with_reducible refine Below.drew ?_ | ((with_reducible refine Below.trans ?_ (Below.mono BA ?_)); rotate_left; (· first | (simp; done) | omega | (simp; omega))) | ((with_reducible refine Below.alloc ?_ ?_ _); rotate_left; (· first | (simp; done) | omega | (simp; omega))) | exact Below.refl _ _ | exact B3 | refine Below.setCell ?_ (by first | (simp; done) | omega | (simp; omega)) _ | refine below_drewN ?_ _ | refine Below.drew ?_ | refine Below.trans ?_ (Below.mono BA (by first | (simp; done) | omega | (simp; omega))) | refine Below.alloc ?_ (by first | (simp; done) | omega | (simp; omega)) _)
    replace ca0 := cell_later BA ca0
    replace ca1 := cell_later BA ca1
    replace ca2 := cell_later BA ca2
    have x0 : w4.cell? ⟨w3.heap.size, 0, none⟩ = some (.int .i64 0) := cell_later hb (by go_simp)
    have x1 : w4.cell? ⟨w3.heap.size, 1, none⟩ = some (.bool false) := cell_later hb (by go_simp)
    clear hb BA B3
    have s4 : w.heap.size < w4.heap.size := by omega
    have s5 : w3.heap.size < w4.heap.size := by omega
    go_wp2_with fail
    refine (next_any _ _ _ 6 _ HD.out (by omega) _ _ _ H6.out).mono ?_
    rintro e5 w5 ⟨rfl, hb⟩
    have zd := hb.size
    simp at zd
    have BA : Below w4.heap.size w4 w5 := by repeat (first | with_reducible exact Below.refl _ _ | ((with_reducible refine Below.setCell ?_ ?_ _); rotate_left; (· first | (simp; done) | omega | (simp; omega))) | with_reducible refine below_drewN ?_ _ | with_reducible refine Below.drew ?_ | ((with_reducible refine Below.trans ?_ (Below.mono hb ?_)); rotate_left; (· first | (simp; done) | omega | (simp; omega))) | ((with_reducible refine Below.alloc ?_ ?_ _); rotate_left; (· first | (simp; done) | omega | (simp; omega))) | exact Below.refl _ _ | refine Below.setCell ?_ (by first | (simp; done) | omega | (simp; omega)) _ | refine below_drewN ?_ _ | refine Below.drew ?_ | refine Below.trans ?_ (Below.mono hb (by first | (simp; done) | omega | (simp; omega))) | refine Below.alloc ?_ (by first | (simp; done) | omega | (simp; omega)) _)
    have B5 : Below w.heap.size w w5 := by repeat (first | with_reducible exact Below.refl _ _ | with_reducible exact B4 | ((with_reducible refine Below.setCell ?_ ?_ _); rotate_left; (· first | (simp; done) | omega | (simp; omega))) | with_reducible refine below_drewN ?_ _ | with_reducible refine Below.drew ?_ | ((with_reducible refine Below.trans ?_ (Below.mono BA ?_)); rotate_left; (· first | (simp; done) | omega | (simp; omega))) | ((with_reducible refine Below.alloc ?_ ?_ _); rotate_left; (· first | (simp; done) | omega | (simp; omega))) | exact Below.refl _ _ | exact B4 | refine Below.setCell ?_ (by first | (simp; done) | omega | (simp; omega)) _ | refine below_drewN ?_ _ | refine Below.drew ?_ | refine Below.trans ?_ (Below.mono BA (by first | (simp; done) | omega | (simp; omega))) | refine Below.alloc ?_ (by first | (simp; done) | omega | (simp; omega)) _)
    replace ca0 := cell_later BA ca0
    replace ca1 := cell_later BA ca1
    replace ca2 := cell_later BA ca2
    replace x0 := cell_later BA x0
    replace x1 := cell_later BA x1
    have y0 : w5.cell? ⟨w4.heap.size, 0, none⟩ = some (.int .i64 3) := cell_later hb (by go_simp)
    clear hb BA B4
    have s6 : w.heap.size < w5.heap.size := by omega
    have s7 : w3.heap.size < w5.heap.size := by omega
    have s8 : w4.heap.size < w5.heap.size := by omega
    go_wp2
    go_ret
    refine ⟨ret_bool (by first | rfl | (simp; done)), ?_⟩
    repeat (first | with_reducible exact Below.refl _ _ | with_reducible exact B5 | ((with_reducible refine Below.setCell ?_ ?_ _); rotate_left; (· first | (simp; done) | omega | (simp; omega))) | with_reducible refine below_drewN ?_ _ | with_reducible refine Below.drew ?_ | ((with_reducible refine Below.alloc ?_ ?_ _); rotate_left; (· first | (simp; done) | omega | (simp; omega))) | exact Below.refl _ _ | exact B5 | refine Below.setCell ?_ (by first | (simp; done) | omega | (simp; omega)) _ | refine below_drewN ?_ _ | refine Below.drew ?_ | refine Below.alloc ?_ (by first | (simp; done) | omega | (simp; omega)) _)
  · go_enter Try.func3, Try.ntmps3
    go_wp2_with fail
    refine (next_any _ _ _ 4 _ K0.out (by omega) _ _ _ K1.out).mono ?_
    rintro e_w1 w1 ⟨rfl, hb⟩
    have zhb := hb.size
    obtain ⟨chb, fhb⟩ := Open.bcell hb
    try (simp at zhb)
    have ca0 : w1.cell? ⟨w.heap.size, 0, none⟩ = some (.int .i64 3) := by rw [chb _ _ (by first | (simp; done) | omega | (simp; omega))]; go_simp
    have ca1 : w1.cell? ⟨w.heap.size, 1, none⟩ = some (.bool true) := by rw [chb _ _ (by first | (simp; done) | omega | (simp; omega))]; go_simp
    have ca2 : w1.cell? ⟨w.heap.size, 2, none⟩ = some (.int .i64 r) := by rw [chb _ _ (by first | (simp; done) | omega | (simp; omega))]; go_simp
    have B1 : Below w.heap.size w w1 := by repeat (first | with_reducible exact Below.refl _ _ | ((with_reducible refine Below.setCell ?_ ?_ _); rotate_left; (· first | (simp; done) | omega | (simp; omega))) | with_reducible refine below_drewN ?_ _ | with_reducible refine Below.drew ?_ | ((with_reducible refine Below.trans ?_ (Below.mono hb ?_)); rotate_left; (· first | (simp; done) | omega | (simp; omega))) | ((with_reducible refine Below.alloc ?_ ?_ _); rotate_left; (· first | (simp; done) | omega | (simp; omega))) | exact Below.refl _ _ | refine Below.setCell ?_ (by first | (simp; done) | omega | (simp; omega)) _ | refine below_drewN ?_ _ | refine Below.drew ?_ | refine Below.trans ?_ (Below.mono hb (by first | (simp; done) | omega | (simp; omega))) | refine Below.alloc ?_ (by first | (simp; done) | omega | (simp; omega)) _)
    clear hb chb fhb
    have sw1_0_0 : w.heap.size < w1.heap.size := by omega
    go_wp2_with fail
    refine (laneCheck_yes _ _ _ _ H.out).mono ?_
    rintro e2 w2 ⟨rfl, rfl⟩
    go_wp2_with fail
    refine (next_any _ _ _ 7 _ H.out (by omega) _ _ _ H7.out).mono ?_
    rintro e3 w3 ⟨rfl, hb⟩
    have zb := hb.size
    simp at zb
    have BA : Below w1.heap.size w1 w3 := by repeat (first | with_reducible exact Below.refl _ _ | ((with_reducible refine Below.setCell ?_ ?_ _); rotate_left; (· first | (simp; done) | omega | (simp; omega))) | with_reducible refine below_drewN ?_ _ | with_reducible refine Below.drew ?_ | ((with_reducible refine Below.trans ?_ (Below.mono hb ?_)); rotate_left; (· first | (simp; done) | omega | (simp; omega))) | ((with_reducible refine Below.alloc ?_ ?_ _); rotate_left; (· first | (simp; done) | omega | (simp; omega))) | exact Below.refl _ _ | refine Below.setCell ?_ (by first | (simp; done) | omega | (simp; omega)) _ | refine below_drewN ?_ _ | refine Below.drew ?_ | refine Below.trans ?_ (Below.mono hb (by first | (simp; done) | omega | (simp; omega))) | refine Below.alloc ?_ (by first | (simp; done) | omega | (simp; omega)) _)
    have B3 : Below w.heap.size w w3 := by repeat (first | with_reducible exact Below.refl _ _ | with_reducible exact B1 | ((with_reducible refine Below.setCell ?_ ?_ _); rotate_left; (· first | (simp; done) | omega | (simp; omega))) | with_reducible refine below_drewN ?_ _ | with_reducible refine Below.drew ?_ | ((with_reducible refine Below.trans ?_ (Below.mono BA ?_)); rotate_left; (· first | (simp; done) | omega | (simp; omega))) | ((with_reducible refine Below.alloc ?_ ?_ _); rotate_left; (· first | (simp; done) | omega | (simp; omega))) | exact Below.refl _ _ | exact B1 | refine Below.setCell ?_ (by first | (simp; done) | omega | (simp; omega)) _ | refine below_drewN ?_ _ | refine Below.drew ?_ | refine Below.trans ?_ (Below.mono BA (by first | (simp; done) | omega | (simp; omega))) | refine Below.alloc ?_ (by first | (simp; done) | omega | (simp; omega)) _)
    replace ca0 := cell_later BA ca0
    replace ca1 := cell_later BA ca1
    replace ca2 := cell_later BA ca2
    clear hb BA B1
    have s3 : w.heap.size < w3.heap.size := by omega
    go_wp2_with fail
    refine (next_any _ _ _ 5 _ H.out (by omega) _ _ _ H5.out).mono ?_
    rintro e4 w4 ⟨rfl, hb⟩
    have zc := hb.size
    simp at zc
    have BA : Below w3.heap.size w3 w4 := by repeat (first | with_reducible exact Below.refl _ _ | ((with_reducible refine Below.setCell ?_ ?_ _); rotate_left; (· first | (simp; done) | omega | (simp; omega))) | with_reducible refine below_drewN ?_ _ | with_reducible refine Below.drew ?_ | ((with_reducible refine Below.trans ?_ (Below.mono hb ?_)); rotate_left; (· first | (simp; done) | omega | (simp; omega))) | ((with_reducible refine Below.alloc ?_ ?_ _); rotate_left; (· first | (simp; done) | omega | (simp; omega))) | exact Below.refl _ _ | refine Below.setCell ?_ (by first | (simp; done) | omega | (simp; omega)) _ | refine below_drewN ?_ _ | refine Below.drew ?_ | refine Below.trans ?_ (Below.mono hb (by first | (simp; done) | omega | (simp; omega))) | refine Below.alloc ?_ (by first | (simp; done) | omega | (simp; omega)) _)
    have B4 : Below w.heap.size w w4 := by repeat (first | with_reducible exact Below.refl _ _ | with_reducible exact B3 | ((with_reducible refine Below.setCell ?_ ?_ _); rotate_left; (· first | (simp; done) | omega | (simp; omega))) | with_reducible refine below_drewN ?_ _ | with_reducible refine Below.drew ?_ | ((with_reducible refine Below.trans ?_ (Below.mono BA ?_)); rotate_left; (· first | (simp; done) | omega | (simp; omega))) | ((with_reducible refine Below.alloc ?_ ?_ _); rotate_left; (· first | (simp; done) | omega | (simp; omega))) | exact Below.refl _ _ | exact B3 | refine Below.setCell ?_ (by first | (simp; done) | omega | (simp; omega)) _ | refine below_drewN ?_ _ | refine Below.drew ?_ | refine Below.trans ?_ (Below.mono BA (by first | (simp; done) | omega | (simp; omega))) | refine Below.alloc ?_ (by first | (simp; done) | omega | (simp; omega)) _)
    replace ca0 := cell_later BA ca0
    replace ca1 := cell_later BA ca1
    replace ca2 := cell_later BA ca2
    have x0 : w4.cell? ⟨w3.heap.size, 0, none⟩ = some (.int .i64 0) := cell_later hb (by go_simp)
    have x1 : w4.cell? ⟨w3.heap.size, 1, none⟩ = some (.bool false) := cell_later hb (by go_simp)
    clear hb BA B3
    have s4 : w.heap.size < w4.heap.size := by omega
    have s5 : w3.heap.size < w4.heap.size := by omega
    go_wp2_with fail
    refine (next_any _ _ _ 6 _ HD.out (by omega) _ _ _ H6.out).mono ?_
    rintro e5 w5 ⟨rfl, hb⟩
    have zd := hb.size
    simp at zd
    have BA : Below w4.heap.size w4 w5 := by repeat (first | with_reducible exact Below.refl _ _ | ((with_reducible refine Below.setCell ?_ ?_ _); rotate_left; (· first | (simp; done) | omega | (simp; omega))) | with_reducible refine below_drewN ?_ _ | with_reducible refine Below.drew ?_ | ((with_reducible refine Below.trans ?_ (Below.mono hb ?_)); rotate_left; (· first | (simp; done) | omega | (simp; omega))) | ((with_reducible refine Below.alloc ?_ ?_ _); rotate_left; (· first | (simp; done) | omega | (simp; omega))) | exact Below.refl _ _ | refine Below.setCell ?_ (by first | (simp; done) | omega | (simp; omega)) _ | refine below_drewN ?_ _ | refine Below.drew ?_ | refine Below.trans ?_ (Below.mono hb (by first | (simp; done) | omega | (simp; omega))) | refine Below.alloc ?_ (by first | (simp; done) | omega | (simp; omega)) _)
    have B5 : Below w.heap.size w w5 := by repeat (first | with_reducible exact Below.refl _ _ | with_reducible exact B4 | ((with_reducible refine Below.setCell ?_ ?_ _); rotate_left; (· first | (simp; done) | omega | (simp; omega))) | with_reducible refine below_drewN ?_ _ | with_reducible refine Below.drew ?_ | ((with_reducible refine Below.trans ?_ (Below.mono BA ?_)); rotate_left; (· first | (simp; done) | omega | (simp; omega))) | ((with_reducible refine Below.alloc ?_ ?_ _); rotate_left; (· first | (simp; done) | omega | (simp; omega))) | exact Below.refl _ _ | exact B4 | refine Below.setCell ?_ (by first | (simp; done) | omega | (simp; omega)) _ | refine below_drewN ?_ _ | refine Below.drew ?_ | refine Below.trans ?_ (Below.mono BA (by first | (simp; done) | omega | (simp; omega))) | refine Below.alloc ?_ (by first | (simp; done) | omega | (simp; omega)) _)
    replace ca0 := cell_later BA ca0
    replace ca1 := cell_later BA ca1
    replace ca2 := cell_later BA ca2
    replace x0 := cell_later BA x0
    replace x1 := cell_later BA x1
    have y0 : w5.cell? ⟨w4.heap.size, 0, none⟩ = some (.int .i64 3) := cell_later hb (by go_simp)
    clear hb BA B4
    have s6 : w.heap.size < w5.heap.size := by omega
    have s7 : w3.heap.size < w5.heap.size := by omega
    have s8 : w4.heap.size < w5.heap.size := by omega
    go_wp2
    go_ret
    refine ⟨ret_bool (by first | rfl | (simp; done)), ?_⟩
    repeat (first | with_reducible exact Below.refl _ _ | with_reducible exact B5 | ((with_reducible refine Below.setCell ?_ ?_ _); rotate_left; (· first | (simp; done) | omega | (simp; omega))) | with_reducible refine below_drewN ?_ _ | with_reducible refine Below.drew ?_ | ((with_reducible refine Below.alloc ?_ ?_ _); rotate_left; (· first | (simp; done) | omega | (simp; omega))) | exact Below.refl _ _ | exact B5 | refine Below.setCell ?_ (by first | (simp; done) | omega | (simp; omega)) _ | refine below_drewN ?_ _ | refine Below.drew ?_ | refine Below.alloc ?_ (by first | (simp; done) | omega | (simp; omega)) _)
set_option maxHeartbeats 4000000 in
set_option maxRecDepth 100000 in
theorem no (m : Int) (f : Bool) (r : Int) (w : World) (hm : -9223372036854775808 ≤ m ∧ m ≤ 9223372036854775807) (hr : -9223372036854775808 ≤ r ∧ r ≤ 9223372036854775807) (h : laneChk m f r ≠ 0) :
    Calls Try.prog 3 #[.agg #[.int .i64 m, .bool f, .int .i64 r]] w fun e w' => e = .returned (.bool true) ∧ Below w.heap.size w w' := by
  have K0 : Hid (LaneOk 1 false 0) := (⟨by decide, by decide, by decide⟩ : LaneOk 1 false 0)
  have K1 : Hid (nextI 1 false 0 4 = (0, false, 0)) := (rfl : nextI 1 false 0 4 = (0, false, 0))
  have d : (laneChk m f r != 0) = true := by simpa using h
  clear h
  go_enter Try.func3, Try.ntmps3
  go_wp2_with fail
  refine (next_any _ _ _ 4 _ K0.out (by omega) _ _ _ K1.out).mono ?_
  rintro e_w1 w1 ⟨rfl, hb⟩
  have zhb := hb.size
  obtain ⟨chb, fhb⟩ := Open.bcell hb
  try (simp at zhb)
  have ca0 : w1.cell? ⟨w.heap.size, 0, none⟩ = some (.int .i64 m) := by rw [chb _ _ (by first | (simp; done) | omega | (simp; omega))]; go_simp
  have ca1 : w1.cell? ⟨w.heap.size, 1, none⟩ = some (.bool f) := by rw [chb _ _ (by first | (simp; done) | omega | (simp; omega))]; go_simp
  have ca2 : w1.cell? ⟨w.heap.size, 2, none⟩ = some (.int .i64 r) := by rw [chb _ _ (by first | (simp; done) | omega | (simp; omega))]; go_simp
  have B1 : Below w.heap.size w w1 := by repeat (first | with_reducible exact Below.refl _ _ | ((with_reducible refine Below.setCell ?_ ?_ _); rotate_left; (· first | (simp; done) | omega | (simp; omega))) | with_reducible refine below_drewN ?_ _ | with_reducible refine Below.drew ?_ | ((with_reducible refine Below.trans ?_ (Below.mono hb ?_)); rotate_left; (· first | (simp; done) | omega | (simp; omega))) | ((with_reducible refine Below.alloc ?_ ?_ _); rotate_left; (· first | (simp; done) | omega | (simp; omega))) | exact Below.refl _ _ | refine Below.setCell ?_ (by first | (simp; done) | omega | (simp; omega)) _ | refine below_drewN ?_ _ | refine Below.drew ?_ | refine Below.trans ?_ (Below.mono hb (by first | (simp; done) | omega | (simp; omega))) | refine Below.alloc ?_ (by first | (simp; done) | omega | (simp; omega)) _)
  clear hb chb fhb
  have sw1_0_0 : w.heap.size < w1.heap.size := by omega
  go_wp2_with fail
  refine (laneCheck_any _ _ _ _ hm hr).mono ?_
  rintro e2 w2 ⟨rfl, rfl⟩
  go_wp2
  go_ret
  refine ⟨ret_bool (by first | rfl | (simp; done)), ?_⟩
  repeat (first | with_reducible exact Below.refl _ _ | with_reducible exact B1 | ((with_reducible refine Below.setCell ?_ ?_ _); rotate_left; (· first | (simp; done) | omega | (simp; omega))) | with_reducible refine below_drewN ?_ _ | with_reducible refine Below.drew ?_ | ((with_reducible refine Below.alloc ?_ ?_ _); rotate_left; (· first | (simp; done) | omega | (simp; omega))) | exact Below.refl _ _ | exact B1 | refine Below.setCell ?_ (by first | (simp; done) | omega | (simp; omega)) _ | refine below_drewN ?_ _ | refine Below.drew ?_ | refine Below.alloc ?_ (by first | (simp; done) | omega | (simp; omega)) _)
theorem law (m : Int) (f : Bool) (r : Int) (w : World) (hm : -9223372036854775808 ≤ m ∧ m ≤ 9223372036854775807) (hr : -9223372036854775808 ≤ r ∧ r ≤ 9223372036854775807) :
    Calls Try.prog 3 #[.agg #[.int .i64 m, .bool f, .int .i64 r]] w fun e w' => e = .returned (.bool true) ∧ Below w.heap.size w w' := by
  by_cases h : laneChk m f r = 0
  · exact yes m f r w (laneChk_of h)
  · exact no m f r w hm hr h
set_option maxRecDepth 100000 in
theorem lifted (os : Os) (started : os.Started) (H : Type) (enc : TypeId × Value → H) :
    ReturnsInHanded {} Try.checked os 3 .any (Rows.laneTurnsSpec.pre6 enc Try.prog Try.f3 Rows.laneTurnsRow.domain false) (Rows.laneTurnsSpec.post enc Try.prog Try.f3 false true false false) := by
  refine returnsInHanded_of_change (C := Try.checked) own started (by kernel_rfl) Try.func3
    (ChangeSpec.witness6 (enc := enc) (C := Try.checked) false ⟨#[], #[.agg #[.int .i64 0, .bool false, .int .i64 0]], []⟩ 8 (by kernel_rfl) (by kernel_rfl) (by kernel_rfl) (by kernel_rfl)) ?_
  intro W base args ds gs before hval0 hW hcnd _
  have hval : ∀ (j : Nat) t v, Try.f3.params[j]? = some t → args[j]? = some v → Value.okWide Try.prog W .any base t v := hval0
  have hW' := hW
  obtain ⟨p, q, hA0, hV, rfl, hfz, hnd⟩ := hW
  have hA : DataW.TrodAll enc Try.prog W 0 (fun _ => true) true Try.f3.params.toList args.toList ds p := hA0
  rw [Try.params3] at hA hval
  obtain ⟨v0, vs0, d0, ds0, p0, q0, hargs, rfl, rfl, h0, r0⟩ := trodAll_cons hA
  obtain ⟨rfl, rfl, rfl⟩ := trodAll_nil r0
  obtain rfl : args = #[v0] := by cases args; simp_all
  obtain ⟨rfl, rfl⟩ := trodVars_none hV
  have k0 := h0
  have lt0 : ∀ x ∈ p0, x.block < W.heap.size := by obtain ⟨m, hm⟩ := k0; exact DataW.trod_lt m _ _ _ hm
  obtain ⟨cs0, rfl, lf0_0⟩ := open_flat 12 [3, 4, 3] (by kernel_rfl) (by kernel_rfl) (by kernel_rfl) (hval 0 23 v0 rfl rfl) h0
  obtain ⟨c0_0, r0_0, rfl, y0_0, lf0_1⟩ := leafs_cons lf0_0
  obtain ⟨a0_0, rfl, w0_0⟩ := leaf_int Try.underlying3 y0_0
  obtain ⟨c0_1, r0_1, rfl, y0_1, lf0_2⟩ := leafs_cons lf0_1
  obtain ⟨a0_1, rfl⟩ := leaf_bool Try.underlying4 y0_1
  obtain ⟨c0_2, r0_2, rfl, y0_2, lf0_3⟩ := leafs_cons lf0_2
  obtain ⟨a0_2, rfl, w0_2⟩ := leaf_int Try.underlying3 y0_2
  obtain rfl := leafs_nil lf0_3
  clear hA0 hval0
  refine (law a0_0 a0_1 a0_2 W (bounds_i64 w0_0) (bounds_i64 w0_2)).mono fun e W' ⟨he, bel⟩ => ?_
  subst he
  exact ⟨_, rfl, _, _, _, [], _, [], hW', trodAll_mk1 (shut_bool Try.underlying4 _), (trodAll_cons_mk (Below.trod laidOut (by kernel_rfl) (of_decide_eq_true (by kernel_rfl)) k0 bel lt0) trodAll_mk0), rfl, bel.frame _, fun h => by cases h⟩
theorem over : Rows.laneTurnsRow.holds Try.pinned (OpenSpec.ofChange Rows.laneTurnsSpec) :=
  OpenClaim.holds_of_wide 3 Try.f3 rfl rfl rfl rfl rfl rfl rfl ⟨rfl, rfl, rfl, rfl, rfl⟩ rfl rfl rfl rfl rfl (by kernel_rfl) Try.func3 (by kernel_rfl)
    (of_decide_eq_true (by kernel_rfl)) (by unfold Func.isWrapper; first | (rw [if_pos (by decide +kernel)]; kernel_rfl) | (rw [if_neg (by decide +kernel)]; exact ⟨rfl, rfl⟩))
    (fun os started H enc _ => lifted os started H enc)
theorem proved : Rows.LaneTurnsSaid := over
#print axioms proved

end Go.Proofs.Ytfifckcjadbiiaa.laneTurns
