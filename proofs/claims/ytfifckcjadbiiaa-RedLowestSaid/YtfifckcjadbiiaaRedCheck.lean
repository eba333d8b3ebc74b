/- What red.Check computes. -/
import Derived.Test.YtfifckcjadbiiaaRed
namespace Go.Proofs.Ytfifckcjadbiiaa
open Go.ChangeShapes Go.WideShapes Go.ChangeAt Go.RowKit
set_option linter.unusedVariables false

/-- four lanes as a value -/
abbrev teamV (T : Team) : Value := .agg #[.int .i64 (T 0).1, .bool (T 0).2.1, .int .i64 (T 0).2.2, .int .i64 (T 1).1, .bool (T 1).2.1, .int .i64 (T 1).2.2, .int .i64 (T 2).1, .bool (T 2).2.1, .int .i64 (T 2).2.2, .int .i64 (T 3).1, .bool (T 3).2.1, .int .i64 (T 3).2.2]
set_option maxHeartbeats 4000000 in
set_option maxRecDepth 100000 in
theorem redCheck_yes (m0 r0 m1 r1 m2 r2 m3 r3 : Int) (f0 f1 f2 f3 : Bool) (w : World) (h0 : LaneOk m0 f0 r0) (h1 : LaneOk m1 f1 r1) (h2 : LaneOk m2 f2 r2) (h3 : LaneOk m3 f3 r3) :
    Calls Try.prog 22 #[.agg #[.int .i64 m0, .bool f0, .int .i64 r0, .int .i64 m1, .bool f1, .int .i64 r1, .int .i64 m2, .bool f2, .int .i64 r2, .int .i64 m3, .bool f3, .int .i64 r3]] w
      fun e w' => e = .returned (.int .i64 0) ∧ Below w.heap.size w w' := by
  have H0 := Lib.hid h0; have H1 := Lib.hid h1; have H2 := Lib.hid h2; have H3 := Lib.hid h3
  clear h0 h1 h2 h3
  have ix0 : ∀ w : World, (Instr.index 41 (.agg #[.int .i64 m0, .bool f0, .int .i64 r0, .int .i64 m1, .bool f1, .int .i64 r1, .int .i64 m2, .bool f2, .int .i64 r2, .int .i64 m3, .bool f3, .int .i64 r3]) (.int .i64 0)).run Try.prog w = .ok (.agg #[.int .i64 m0, .bool f0, .int .i64 r0]) w := fun _ => by kernel_rfl
  have ix1 : ∀ w : World, (Instr.index 41 (.agg #[.int .i64 m0, .bool f0, .int .i64 r0, .int .i64 m1, .bool f1, .int .i64 r1, .int .i64 m2, .bool f2, .int .i64 r2, .int .i64 m3, .bool f3, .int .i64 r3]) (.int .i64 1)).run Try.prog w = .ok (.agg #[.int .i64 m1, .bool f1, .int .i64 r1]) w := fun _ => by kernel_rfl
  have ix2 : ∀ w : World, (Instr.index 41 (.agg #[.int .i64 m0, .bool f0, .int .i64 r0, .int .i64 m1, .bool f1, .int .i64 r1, .int .i64 m2, .bool f2, .int .i64 r2, .int .i64 m3, .bool f3, .int .i64 r3]) (.int .i64 2)).run Try.prog w = .ok (.agg #[.int .i64 m2, .bool f2, .int .i64 r2]) w := fun _ => by kernel_rfl
  have ix3 : ∀ w : World, (Instr.index 41 (.agg #[.int .i64 m0, .bool f0, .int .i64 r0, .int .i64 m1, .bool f1, .int .i64 r1, .int .i64 m2, .bool f2, .int .i64 r2, .int .i64 m3, .bool f3, .int .i64 r3]) (.int .i64 3)).run Try.prog w = .ok (.agg #[.int .i64 m3, .bool f3, .int .i64 r3]) w := fun _ => by kernel_rfl
  go_enter Try.func22, Try.ntmps22
  go_wp2
  refine wp_loop_rounds 5 ?_
  rw [rounds_succ]
  go_wp2_with fail
  refine (laneCheck_yes _ _ _ _ H0.out).mono ?_
  rintro e0 w0 ⟨rfl, rfl⟩
  go_wp2_with fail
  rw [rounds_succ]
  go_wp2_with fail
  refine (laneCheck_yes _ _ _ _ H1.out).mono ?_
  rintro e1 w1 ⟨rfl, rfl⟩
  go_wp2_with fail
  rw [rounds_succ]
  go_wp2_with fail
  refine (laneCheck_yes _ _ _ _ H2.out).mono ?_
  rintro e2 w2 ⟨rfl, rfl⟩
  go_wp2_with fail
  rw [rounds_succ]
  go_wp2_with fail
  refine (laneCheck_yes _ _ _ _ H3.out).mono ?_
  rintro e3 w3 ⟨rfl, rfl⟩
  go_wp2_with fail
  rw [rounds_succ]
  go_wp2
  go_ret
  refine ⟨rfl, ?_⟩
  repeat (first | with_reducible exact Below.refl _ _ | ((with_reducible refine Below.setCell ?_ ?_ _); rotate_left; (· first | (simp; done) | omega | (simp; omega))) | with_reducible refine below_drewN ?_ _ | with_reducible refine Below.drew ?_ | ((with_reducible refine Below.alloc ?_ ?_ _); rotate_left; (· first | (simp; done) | omega | (simp; omega))) | exact Below.refl _ _ | refine Below.setCell ?_ (by first | (simp; done) | omega | (simp; omega)) _ | refine below_drewN ?_ _ | refine Below.drew ?_ | refine Below.alloc ?_ (by first | (simp; done) | omega | (simp; omega)) _)
set_option maxHeartbeats 4000000 in
set_option maxRecDepth 100000 in
theorem redCheck_no (m0 r0 m1 r1 m2 r2 m3 r3 : Int) (f0 f1 f2 f3 : Bool) (w : World) (hm0 : -9223372036854775808 ≤ m0 ∧ m0 ≤ 9223372036854775807) (hr0 : -9223372036854775808 ≤ r0 ∧ r0 ≤ 9223372036854775807) (hm1 : -9223372036854775808 ≤ m1 ∧ m1 ≤ 9223372036854775807) (hr1 : -9223372036854775808 ≤ r1 ∧ r1 ≤ 9223372036854775807) (hm2 : -9223372036854775808 ≤ m2 ∧ m2 ≤ 9223372036854775807) (hr2 : -9223372036854775808 ≤ r2 ∧ r2 ≤ 9223372036854775807) (hm3 : -9223372036854775808 ≤ m3 ∧ m3 ≤ 9223372036854775807) (hr3 : -9223372036854775808 ≤ r3 ∧ r3 ≤ 9223372036854775807) (c : Int)
    (h : (laneChk m0 f0 r0 = c ∧ c ≠ 0) ∨ (LaneOk m0 f0 r0 ∧ laneChk m1 f1 r1 = c ∧ c ≠ 0) ∨ (LaneOk m0 f0 r0 ∧ LaneOk m1 f1 r1 ∧ laneChk m2 f2 r2 = c ∧ c ≠ 0) ∨ (LaneOk m0 f0 r0 ∧ LaneOk m1 f1 r1 ∧ LaneOk m2 f2 r2 ∧ laneChk m3 f3 r3 = c ∧ c ≠ 0)) :
    Calls Try.prog 22 #[.agg #[.int .i64 m0, .bool f0, .int .i64 r0, .int .i64 m1, .bool f1, .int .i64 r1, .int .i64 m2, .bool f2, .int .i64 r2, .int .i64 m3, .bool f3, .int .i64 r3]] w fun e w' => e = .returned (.int .i64 c) ∧ Below w.heap.size w w' := by
  have ix0 : ∀ w : World, (Instr.index 41 (.agg #[.int .i64 m0, .bool f0, .int .i64 r0, .int .i64 m1, .bool f1, .int .i64 r1, .int .i64 m2, .bool f2, .int .i64 r2, .int .i64 m3, .bool f3, .int .i64 r3]) (.int .i64 0)).run Try.prog w = .ok (.agg #[.int .i64 m0, .bool f0, .int .i64 r0]) w := fun _ => by kernel_rfl
  have ix1 : ∀ w : World, (Instr.index 41 (.agg #[.int .i64 m0, .bool f0, .int .i64 r0, .int .i64 m1, .bool f1, .int .i64 r1, .int .i64 m2, .bool f2, .int .i64 r2, .int .i64 m3, .bool f3, .int .i64 r3]) (.int .i64 1)).run Try.prog w = .ok (.agg #[.int .i64 m1, .bool f1, .int .i64 r1]) w := fun _ => by kernel_rfl
  have ix2 : ∀ w : World, (Instr.index 41 (.agg #[.int .i64 m0, .bool f0, .int .i64 r0, .int .i64 m1, .bool f1, .int .i64 r1, .int .i64 m2, .bool f2, .int .i64 r2, .int .i64 m3, .bool f3, .int .i64 r3]) (.int .i64 2)).run Try.prog w = .ok (.agg #[.int .i64 m2, .bool f2, .int .i64 r2]) w := fun _ => by kernel_rfl
  have ix3 : ∀ w : World, (Instr.index 41 (.agg #[.int .i64 m0, .bool f0, .int .i64 r0, .int .i64 m1, .bool f1, .int .i64 r1, .int .i64 m2, .bool f2, .int .i64 r2, .int .i64 m3, .bool f3, .int .i64 r3]) (.int .i64 3)).run Try.prog w = .ok (.agg #[.int .i64 m3, .bool f3, .int .i64 r3]) w := fun _ => by kernel_rfl
  rcases h with h | h | h | h
  · obtain ⟨hd, hc⟩ := h
    have d : (c != 0) = true := by simpa using hc
    have HD := Lib.hid hd
    clear hc hd
    go_enter Try.func22, Try.ntmps22
    go_wp2
    refine wp_loop_rounds 5 ?_
    rw [rounds_succ]
    go_wp2_with fail
    refine (laneCheck_any _ _ _ _ hm0 hr0).mono ?_
    rintro e0 w0 ⟨rfl, rfl⟩
    rw [HD.out]
    go_wp2
    go_ret
    refine ⟨rfl, ?_⟩
    repeat (first | with_reducible exact Below.refl _ _ | ((with_reducible refine Below.setCell ?_ ?_ _); rotate_left; (· first | (simp; done) | omega | (simp; omega))) | with_reducible refine below_drewN ?_ _ | with_reducible refine Below.drew ?_ | ((with_reducible refine Below.alloc ?_ ?_ _); rotate_left; (· first | (simp; done) | omega | (simp; omega))) | exact Below.refl _ _ | refine Below.setCell ?_ (by first | (simp; done) | omega | (simp; omega)) _ | refine below_drewN ?_ _ | refine Below.drew ?_ | refine Below.alloc ?_ (by first | (simp; done) | omega | (simp; omega)) _)
  · obtain ⟨h0, hd, hc⟩ := h
    have d : (c != 0) = true := by simpa using hc
    have HD := Lib.hid hd
    clear hc hd
    have H0 := Lib.hid h0
    clear h0
    go_enter Try.func22, Try.ntmps22
    go_wp2
    refine wp_loop_rounds 5 ?_
    rw [rounds_succ]
    go_wp2_with fail
    refine (laneCheck_yes _ _ _ _ H0.out).mono ?_
    rintro e0 w0 ⟨rfl, rfl⟩
    go_wp2_with fail
    rw [rounds_succ]
    go_wp2_with fail
    refine (laneCheck_any _ _ _ _ hm1 hr1).mono ?_
    rintro e1 w1 ⟨rfl, rfl⟩
    rw [HD.out]
    go_wp2
    go_ret
    refine ⟨rfl, ?_⟩
    repeat (first | with_reducible exact Below.refl _ _ | ((with_reducible refine Below.setCell ?_ ?_ _); rotate_left; (· first | (simp; done) | omega | (simp; omega))) | with_reducible refine below_drewN ?_ _ | with_reducible refine Below.drew ?_ | ((with_reducible refine Below.alloc ?_ ?_ _); rotate_left; (· first | (simp; done) | omega | (simp; omega))) | exact Below.refl _ _ | refine Below.setCell ?_ (by first | (simp; done) | omega | (simp; omega)) _ | refine below_drewN ?_ _ | refine Below.drew ?_ | refine Below.alloc ?_ (by first | (simp; done) | omega | (simp; omega)) _)
  · obtain ⟨h0, h1, hd, hc⟩ := h
    have d : (c != 0) = true := by simpa using hc
    have HD := Lib.hid hd
    clear hc hd
    have H0 := Lib.hid h0
    clear h0
    have H1 := Lib.hid h1
    clear h1
    go_enter Try.func22, Try.ntmps22
    go_wp2
    refine wp_loop_rounds 5 ?_
    rw [rounds_succ]
    go_wp2_with fail
    refine (laneCheck_yes _ _ _ _ H0.out).mono ?_
    rintro e0 w0 ⟨rfl, rfl⟩
    go_wp2_with fail
    rw [rounds_succ]
    go_wp2_with fail
    refine (laneCheck_yes _ _ _ _ H1.out).mono ?_
    rintro e1 w1 ⟨rfl, rfl⟩
    go_wp2_with fail
    rw [rounds_succ]
    go_wp2_with fail
    refine (laneCheck_any _ _ _ _ hm2 hr2).mono ?_
    rintro e2 w2 ⟨rfl, rfl⟩
    rw [HD.out]
    go_wp2
    go_ret
    refine ⟨rfl, ?_⟩
    repeat (first | with_reducible exact Below.refl _ _ | ((with_reducible refine Below.setCell ?_ ?_ _); rotate_left; (· first | (simp; done) | omega | (simp; omega))) | with_reducible refine below_drewN ?_ _ | with_reducible refine Below.drew ?_ | ((with_reducible refine Below.alloc ?_ ?_ _); rotate_left; (· first | (simp; done) | omega | (simp; omega))) | exact Below.refl _ _ | refine Below.setCell ?_ (by first | (simp; done) | omega | (simp; omega)) _ | refine below_drewN ?_ _ | refine Below.drew ?_ | refine Below.alloc ?_ (by first | (simp; done) | omega | (simp; omega)) _)
  · obtain ⟨h0, h1, h2, hd, hc⟩ := h
    have d : (c != 0) = true := by simpa using hc
    have HD := Lib.hid hd
    clear hc hd
    have H0 := Lib.hid h0
    clear h0
    have H1 := Lib.hid h1
    clear h1
    have H2 := Lib.hid h2
    clear h2
    go_enter Try.func22, Try.ntmps22
    go_wp2
    refine wp_loop_rounds 5 ?_
    rw [rounds_succ]
    go_wp2_with fail
    refine (laneCheck_yes _ _ _ _ H0.out).mono ?_
    rintro e0 w0 ⟨rfl, rfl⟩
    go_wp2_with fail
    rw [rounds_succ]
    go_wp2_with fail
    refine (laneCheck_yes _ _ _ _ H1.out).mono ?_
    rintro e1 w1 ⟨rfl, rfl⟩
    go_wp2_with fail
    rw [rounds_succ]
    go_wp2_with fail
    refine (laneCheck_yes _ _ _ _ H2.out).mono ?_
    rintro e2 w2 ⟨rfl, rfl⟩
    go_wp2_with fail
    rw [rounds_succ]
    go_wp2_with fail
    refine (laneCheck_any _ _ _ _ hm3 hr3).mono ?_
    rintro e3 w3 ⟨rfl, rfl⟩
    rw [HD.out]
    go_wp2
    go_ret
    refine ⟨rfl, ?_⟩
    repeat (first | with_reducible exact Below.refl _ _ | ((with_reducible refine Below.setCell ?_ ?_ _); rotate_left; (· first | (simp; done) | omega | (simp; omega))) | with_reducible refine below_drewN ?_ _ | with_reducible refine Below.drew ?_ | ((with_reducible refine Below.alloc ?_ ?_ _); rotate_left; (· first | (simp; done) | omega | (simp; omega))) | exact Below.refl _ _ | refine Below.setCell ?_ (by first | (simp; done) | omega | (simp; omega)) _ | refine below_drewN ?_ _ | refine Below.drew ?_ | refine Below.alloc ?_ (by first | (simp; done) | omega | (simp; omega)) _)

end Go.Proofs.Ytfifckcjadbiiaa
