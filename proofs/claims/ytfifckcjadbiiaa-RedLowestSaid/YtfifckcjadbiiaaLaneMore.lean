/- What lane.Next computes of what it refuses; lane.All at the one list that LaneFails hands it; lane.Tick. -/
import Derived.Test.YtfifckcjadbiiaaLaneNext
namespace Go.Proofs.Ytfifckcjadbiiaa
open Go.ChangeShapes Go.WideShapes Go.ChangeAt Go.RowKit
set_option linter.unusedVariables false

theorem next_ok {m r e : Int} {f : Bool} (h : LaneOk m f r) (he : e = 1 ∨ e = 2 ∨ e = 3 ∨ e = 4 ∨ e = 5 ∨ e = 6 ∨ e = 7) {m' r' : Int} {f' : Bool} (hr : nextI m f r e = (m', f', r')) :
    LaneOk m' f' r' ∧ f' = ((f && e != 7) || e == 3) := by
  obtain ⟨hm, h1, h2⟩ := h
  have h00 : (0 : Int) ≤ 0 ∧ (0 : Int) ≤ 10000 := by decide
  rcases hm with ⟨rfl, rfl⟩ | ⟨rfl, rfl⟩ | ⟨rfl, rfl⟩ | ⟨rfl, rfl⟩ | ⟨rfl, rfl⟩ <;> rcases he with rfl | rfl | rfl | rfl | rfl | rfl | rfl <;> simp [nextI, turnB, turnV, turnI] at hr <;>
    (obtain ⟨rfl, rfl, rfl⟩ := hr; exact ⟨⟨by decide, by omega⟩, rfl⟩)
set_option maxHeartbeats 4000000 in
theorem next_bad (m : Int) (f : Bool) (r e : Int) (w : World) (h : LaneOk m f r) (he : e < 1 ∨ 7 < e) :
    Calls Try.prog 9 #[.agg #[.int .i64 m, .bool f, .int .i64 r], .int .i64 e] w fun e' w' => e' = .returned (.tuple #[.agg #[.int .i64 0, .bool false, .int .i64 0], .int .i64 1]) ∧ Below w.heap.size w w' := by
  have H := Lib.hid h
  clear h
  rcases he with he | he
  · have d0 : decide (e < 1) = true := decide_eq_true he
    go_enter Try.func9, Try.ntmps9
    go_wp2_with fail
    refine (laneCheck_yes _ _ _ _ H.out).mono ?_
    rintro e1 w1 ⟨rfl, rfl⟩
    go_wp2
    refine bodyPost_ret (v := .tuple #[.agg #[_, _, _], _]) (by simp [results, Try.results9, go_sem]) rfl ⟨rfl, ?_⟩
    repeat (first | with_reducible exact Below.refl _ _ | ((with_reducible refine Below.setCell ?_ ?_ _); rotate_left; (· first | (simp; done) | omega | (simp; omega))) | with_reducible refine below_drewN ?_ _ | with_reducible refine Below.drew ?_ | ((with_reducible refine Below.alloc ?_ ?_ _); rotate_left; (· first | (simp; done) | omega | (simp; omega))) | exact Below.refl _ _ | refine Below.setCell ?_ (by first | (simp; done) | omega | (simp; omega)) _ | refine below_drewN ?_ _ | refine Below.drew ?_ | refine Below.alloc ?_ (by first | (simp; done) | omega | (simp; omega)) _)
  · have d0 : decide (e < 1) = false := decide_eq_false (by omega)
    have d1 : decide (7 < e) = true := decide_eq_true he
    go_enter Try.func9, Try.ntmps9
    go_wp2_with fail
    refine (laneCheck_yes _ _ _ _ H.out).mono ?_
    rintro e1 w1 ⟨rfl, rfl⟩
    go_wp2
    refine bodyPost_ret (v := .tuple #[.agg #[_, _, _], _]) (by simp [results, Try.results9, go_sem]) rfl ⟨rfl, ?_⟩
    repeat (first | with_reducible exact Below.refl _ _ | ((with_reducible refine Below.setCell ?_ ?_ _); rotate_left; (· first | (simp; done) | omega | (simp; omega))) | with_reducible refine below_drewN ?_ _ | with_reducible refine Below.drew ?_ | ((with_reducible refine Below.alloc ?_ ?_ _); rotate_left; (· first | (simp; done) | omega | (simp; omega))) | exact Below.refl _ _ | refine Below.setCell ?_ (by first | (simp; done) | omega | (simp; omega)) _ | refine below_drewN ?_ _ | refine Below.drew ?_ | refine Below.alloc ?_ (by first | (simp; done) | omega | (simp; omega)) _)

set_option maxHeartbeats 4000000 in
theorem tick_any (m : Int) (f : Bool) (r : Int) (w : World) (h : LaneOk m f r) (r' : Int) (hr : min 10000 (r + 1) = r') :
    Calls Try.prog 25 #[.agg #[.int .i64 m, .bool f, .int .i64 r]] w fun e' w' => e' = .returned (.tuple #[.agg #[.int .i64 m, .bool f, .int .i64 r'], .int .i64 0]) ∧ Below w.heap.size w w' := by
  have H := Lib.hid h
  have h2 : 0 ≤ r ∧ r ≤ 10000 := h.2
  clear h
  rcases (by omega : r + 1 < 10000 ∨ r = 9999 ∨ r = 10000) with hlt | rfl | rfl
  · obtain rfl : r + 1 = r' := by omega
    clear hr
    go_enter Try.func25, Try.ntmps25
    go_wp2_with fail
    refine (laneCheck_yes _ _ _ _ H.out).mono ?_
    rintro e1 w1 ⟨rfl, rfl⟩
    have hge : ¬ 10000 < r + 1 := by omega
    go_wp2
    refine bodyPost_ret (v := .tuple #[.agg #[_, _, _], _]) (by simp [results, Try.results25, go_sem]) rfl ⟨rfl, ?_⟩
    repeat (first | with_reducible exact Below.refl _ _ | ((with_reducible refine Below.setCell ?_ ?_ _); rotate_left; (· first | (simp; done) | omega | (simp; omega))) | with_reducible refine below_drewN ?_ _ | with_reducible refine Below.drew ?_ | ((with_reducible refine Below.alloc ?_ ?_ _); rotate_left; (· first | (simp; done) | omega | (simp; omega))) | exact Below.refl _ _ | refine Below.setCell ?_ (by first | (simp; done) | omega | (simp; omega)) _ | refine below_drewN ?_ _ | refine Below.drew ?_ | refine Below.alloc ?_ (by first | (simp; done) | omega | (simp; omega)) _)
  · obtain rfl : 10000 = r' := by omega
    clear hr
    go_enter Try.func25, Try.ntmps25
    go_wp2_with fail
    refine (laneCheck_yes _ _ _ _ H.out).mono ?_
    rintro e1 w1 ⟨rfl, rfl⟩
    go_wp2
    refine bodyPost_ret (v := .tuple #[.agg #[_, _, _], _]) (by simp [results, Try.results25, go_sem]) rfl ⟨rfl, ?_⟩
    repeat (first | with_reducible exact Below.refl _ _ | ((with_reducible refine Below.setCell ?_ ?_ _); rotate_left; (· first | (simp; done) | omega | (simp; omega))) | with_reducible refine below_drewN ?_ _ | with_reducible refine Below.drew ?_ | ((with_reducible refine Below.alloc ?_ ?_ _); rotate_left; (· first | (simp; done) | omega | (simp; omega))) | exact Below.refl _ _ | refine Below.setCell ?_ (by first | (simp; done) | omega | (simp; omega)) _ | refine below_drewN ?_ _ | refine Below.drew ?_ | refine Below.alloc ?_ (by first | (simp; done) | omega | (simp; omega)) _)
  · obtain rfl : 10000 = r' := by omega
    clear hr
    go_enter Try.func25, Try.ntmps25
    go_wp2_with fail
    refine (laneCheck_yes _ _ _ _ H.out).mono ?_
    rintro e1 w1 ⟨rfl, rfl⟩
    go_wp2
    refine bodyPost_ret (v := .tuple #[.agg #[_, _, _], _]) (by simp [results, Try.results25, go_sem]) rfl ⟨rfl, ?_⟩
    repeat (first | with_reducible exact Below.refl _ _ | ((with_reducible refine Below.setCell ?_ ?_ _); rotate_left; (· first | (simp; done) | omega | (simp; omega))) | with_reducible refine below_drewN ?_ _ | with_reducible refine Below.drew ?_ | ((with_reducible refine Below.alloc ?_ ?_ _); rotate_left; (· first | (simp; done) | omega | (simp; omega))) | exact Below.refl _ _ | refine Below.setCell ?_ (by first | (simp; done) | omega | (simp; omega)) _ | refine below_drewN ?_ _ | refine Below.drew ?_ | refine Below.alloc ?_ (by first | (simp; done) | omega | (simp; omega)) _)

set_option maxHeartbeats 4000000 in
theorem all_two (b : Nat) (w : World) (c0 : w.cell? ⟨b, 0, none⟩ = some (.int .i64 1)) (c1 : w.cell? ⟨b, 1, none⟩ = some (.int .i64 3)) :
    Calls Try.prog 11 #[.agg #[.int .i64 0, .bool false, .int .i64 0], .slice (some ⟨b, 0, none⟩) 2 2] w fun e' w' => e' = .returned (.tuple #[.agg #[.int .i64 2, .bool true, .int .i64 0], .int .i64 2, .int .i64 0]) ∧ Below w.heap.size w w' := by
  have K0 : Hid (LaneOk 0 false 0) := (⟨by decide, by decide, by decide⟩ : LaneOk 0 false 0)
  have K1 : Hid (LaneOk 1 false 0) := (⟨by decide, by decide, by decide⟩ : LaneOk 1 false 0)
  have N0 : Hid (nextI 0 false 0 1 = (1, false, 0)) := (rfl : nextI 0 false 0 1 = (1, false, 0))
  have N1 : Hid (nextI 1 false 0 3 = (2, true, 0)) := (rfl : nextI 1 false 0 3 = (2, true, 0))
  have hb : b < w.heap.size := World.block_lt_of_cell? _ _ c0
  have BX : Below w.heap.size w (((w.alloc (.cells #[.int .i64 0, .bool false, .int .i64 0] 23)).alloc (.cells #[.int .i64 0, .bool false, .int .i64 0] 23)).alloc (.cells #[.int .i64 0, .bool false, .int .i64 0] 23)) := by repeat (first | with_reducible exact Below.refl _ _ | ((with_reducible refine Below.setCell ?_ ?_ _); rotate_left; (· first | (simp; done) | omega | (simp; omega))) | with_reducible refine below_drewN ?_ _ | with_reducible refine Below.drew ?_ | ((with_reducible refine Below.alloc ?_ ?_ _); rotate_left; (· first | (simp; done) | omega | (simp; omega))) | exact Below.refl _ _ | refine Below.setCell ?_ (by first | (simp; done) | omega | (simp; omega)) _ | refine below_drewN ?_ _ | refine Below.drew ?_ | refine Below.alloc ?_ (by first | (simp; done) | omega | (simp; omega)) _)
  have e0 := cell_later BX c0
  have e1 := cell_later BX c1
  clear BX
  go_enter Try.func11, Try.ntmps11
  go_wp2_with fail
  refine (laneCheck_yes _ _ _ _ K0.out).mono ?_
  rintro e1 w1 ⟨rfl, rfl⟩
  go_wp2_with fail
  refine wp_loop_rounds 3 ?_
  rw [rounds_succ]
  go_wp2_with fail
  refine (next_any _ _ _ 1 _ K0.out (by omega) _ _ _ N0.out).mono ?_
  rintro e2 w2 ⟨rfl, hb2⟩
  have z2 := hb2.size
  simp at z2
  have B2 : Below w.heap.size w w2 := by repeat (first | with_reducible exact Below.refl _ _ | ((with_reducible refine Below.setCell ?_ ?_ _); rotate_left; (· first | (simp; done) | omega | (simp; omega))) | with_reducible refine below_drewN ?_ _ | with_reducible refine Below.drew ?_ | ((with_reducible refine Below.trans ?_ (Below.mono hb2 ?_)); rotate_left; (· first | (simp; done) | omega | (simp; omega))) | ((with_reducible refine Below.alloc ?_ ?_ _); rotate_left; (· first | (simp; done) | omega | (simp; omega))) | exact Below.refl _ _ | refine Below.setCell ?_ (by first | (simp; done) | omega | (simp; omega)) _ | refine below_drewN ?_ _ | refine Below.drew ?_ | refine Below.trans ?_ (Below.mono hb2 (by first | (simp; done) | omega | (simp; omega))) | refine Below.alloc ?_ (by first | (simp; done) | omega | (simp; omega)) _)
  have g1 := cell_later B2 c1
  have a0 : w2.cell? ⟨w.heap.size, 0, none⟩ = some (.int .i64 0) := cell_later hb2 (by go_simp)
  have a1 : w2.cell? ⟨w.heap.size, 1, none⟩ = some (.bool false) := cell_later hb2 (by go_simp)
  have a2 : w2.cell? ⟨w.heap.size, 2, none⟩ = some (.int .i64 0) := cell_later hb2 (by go_simp)
  have af : ∀ o, w2.frozen? ⟨w.heap.size, o, none⟩ = false := fun o => by rw [hb2.frozen (by first | (simp; done) | omega | (simp; omega))]; go_simp
  have r0 : w2.cell? ⟨w.heap.size + 1, 0, none⟩ = some (.int .i64 0) := cell_later hb2 (by go_simp)
  have r1 : w2.cell? ⟨w.heap.size + 1, 1, none⟩ = some (.bool false) := cell_later hb2 (by go_simp)
  have r2 : w2.cell? ⟨w.heap.size + 1, 2, none⟩ = some (.int .i64 0) := cell_later hb2 (by go_simp)
  have rf : ∀ o, w2.frozen? ⟨w.heap.size + 1, o, none⟩ = false := fun o => by rw [hb2.frozen (by first | (simp; done) | omega | (simp; omega))]; go_simp
  clear hb2
  have s0 : b < w2.heap.size := by omega
  have s1 : w.heap.size < w2.heap.size := by omega
  have s2 : w.heap.size + 1 < w2.heap.size := by omega
  have BX : Below w.heap.size w ((((w2.setCell ⟨w.heap.size, 0, none⟩ (.int .i64 1)).setCell ⟨w.heap.size, 1, none⟩ (.bool false)).setCell ⟨w.heap.size, 2, none⟩ (.int .i64 0)).alloc (.cells #[.int .i64 1, .bool false, .int .i64 0] 23)) := by repeat (first | with_reducible exact Below.refl _ _ | with_reducible exact B2 | ((with_reducible refine Below.setCell ?_ ?_ _); rotate_left; (· first | (simp; done) | omega | (simp; omega))) | with_reducible refine below_drewN ?_ _ | with_reducible refine Below.drew ?_ | ((with_reducible refine Below.alloc ?_ ?_ _); rotate_left; (· first | (simp; done) | omega | (simp; omega))) | exact Below.refl _ _ | exact B2 | refine Below.setCell ?_ (by first | (simp; done) | omega | (simp; omega)) _ | refine below_drewN ?_ _ | refine Below.drew ?_ | refine Below.alloc ?_ (by first | (simp; done) | omega | (simp; omega)) _)
  have e1' := cell_later BX c1
  go_wp2_with fail
  rw [rounds_succ]
  go_wp2_with fail
  refine (next_any _ _ _ 3 _ K1.out (by omega) _ _ _ N1.out).mono ?_
  rintro e3 w3 ⟨rfl, hb3⟩
  have z3 := hb3.size
  simp at z3
  have B3 : Below w.heap.size w w3 := BX.trans (hb3.mono (by first | (simp; done) | omega | (simp; omega)))
  have d0 : w3.cell? ⟨w.heap.size, 0, none⟩ = some (.int .i64 1) := cell_later hb3 (by go_simp)
  have d1 : w3.cell? ⟨w.heap.size, 1, none⟩ = some (.bool false) := cell_later hb3 (by go_simp)
  have d2 : w3.cell? ⟨w.heap.size, 2, none⟩ = some (.int .i64 0) := cell_later hb3 (by go_simp)
  have df : ∀ o, w3.frozen? ⟨w.heap.size, o, none⟩ = false := fun o => by rw [hb3.frozen (by first | (simp; done) | omega | (simp; omega))]; go_simp
  have x0 : w3.cell? ⟨w.heap.size + 1, 0, none⟩ = some (.int .i64 0) := cell_later hb3 (by go_simp)
  have x1 : w3.cell? ⟨w.heap.size + 1, 1, none⟩ = some (.bool false) := cell_later hb3 (by go_simp)
  have x2 : w3.cell? ⟨w.heap.size + 1, 2, none⟩ = some (.int .i64 0) := cell_later hb3 (by go_simp)
  have xf : ∀ o, w3.frozen? ⟨w.heap.size + 1, o, none⟩ = false := fun o => by rw [hb3.frozen (by first | (simp; done) | omega | (simp; omega))]; go_simp
  have s3 : w.heap.size < w3.heap.size := by omega
  have s4 : w.heap.size + 1 < w3.heap.size := by omega
  clear hb3 BX a0 a1 a2 af r0 r1 r2 rf B2 e1' g1 c0 c1
  go_wp2_with fail
  rw [rounds_succ]
  go_wp2
  refine bodyPost_ret (v := .tuple #[.agg #[_, _, _], _, _]) (by simp [results, Try.results11, go_sem, x0, x1, x2, s4]) rfl ⟨rfl, ?_⟩
  repeat (first | with_reducible exact Below.refl _ _ | with_reducible exact B3 | ((with_reducible refine Below.setCell ?_ ?_ _); rotate_left; (· first | (simp; done) | omega | (simp; omega))) | with_reducible refine below_drewN ?_ _ | with_reducible refine Below.drew ?_ | ((with_reducible refine Below.alloc ?_ ?_ _); rotate_left; (· first | (simp; done) | omega | (simp; omega))) | exact Below.refl _ _ | exact B3 | refine Below.setCell ?_ (by first | (simp; done) | omega | (simp; omega)) _ | refine below_drewN ?_ _ | refine Below.drew ?_ | refine Below.alloc ?_ (by first | (simp; done) | omega | (simp; omega)) _)

end Go.Proofs.Ytfifckcjadbiiaa
