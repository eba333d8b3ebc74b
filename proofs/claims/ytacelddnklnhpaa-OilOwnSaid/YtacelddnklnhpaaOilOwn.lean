/- OilOwn: whatever systems are on, and whatever they push with, the law answers true and leaves memory as it was. -/
import Derived.Test.YtacelddnklnhpaaOil
namespace Go.Proofs.Ytacelddnklnhpaa.oilOwn
open Go.ChangeShapes Go.WideShapes Go.ChangeAt Go.RowKit Go.Proofs.Ytacelddnklnhpaa Go.Proofs.Ytacelddnklnhpaa.Open
set_option linter.unusedVariables false
set_option maxHeartbeats 4000000 in
set_option maxRecDepth 100000 in
theorem way_00 (p q : Int) (w : World) :
    Calls Try.prog 4 #[.agg #[.bool false, .bool false], .agg #[.int .i32 p, .int .i32 q]] w fun e' w' => e' = .returned (.bool true) ∧ Below w.heap.size w w' := by
  have ix0 : ∀ w : World, (Instr.index 34 (.agg #[.bool false, .bool false]) (.int .i64 0)).run Try.prog w = .ok (.bool false) w := fun _ => by kernel_rfl
  have ix1 : ∀ w : World, (Instr.index 34 (.agg #[.bool false, .bool false]) (.int .i64 1)).run Try.prog w = .ok (.bool false) w := fun _ => by kernel_rfl
  go_enter Try.func4, Try.ntmps4
  go_wp2_with fail
  refine (source_in _ _ _ _ _ _ (by omega) (by rfl)).mono ?_
  rintro e w' ⟨rfl, rfl⟩
  go_wp2_with fail
  refine (supply_00 p q _).mono ?_
  rintro e1 w1 ⟨rfl, hb⟩
  have zb := hb.size
  try (simp at zb)
  have on0 : w1.cell? ⟨w.heap.size, 0, none⟩ = some (.bool false) := cell_later hb (by go_simp)
  have on1 : w1.cell? ⟨w.heap.size, 1, none⟩ = some (.bool false) := cell_later hb (by go_simp)
  have pq0 : w1.cell? ⟨w.heap.size + 1, 0, none⟩ = some (.int .i32 p) := cell_later hb (by go_simp)
  have pq1 : w1.cell? ⟨w.heap.size + 1, 1, none⟩ = some (.int .i32 q) := cell_later hb (by go_simp)
  have B1 : Below w.heap.size w w1 := by repeat (first | exact Below.refl _ _ | refine Below.setCell ?_ (by first | (simp; done) | omega | (simp; omega)) _ | refine below_drewN ?_ _ | refine Below.drew ?_ | refine Below.trans ?_ (Below.mono hb (by first | (simp; done) | omega | (simp; omega))) | refine Below.alloc ?_ (by first | (simp; done) | omega | (simp; omega)) _)
  clear hb
  have sw1_0_0 : w.heap.size < w1.heap.size := by omega
  have sw1_0_1 : w.heap.size < w1.heap.size + 1 := by omega
  have sw1_0_2 : w.heap.size < w1.heap.size + 1 + 1 := by omega
  have sw1_0_3 : w.heap.size < w1.heap.size + 1 + 1 + 1 := by omega
  have sw1_0_4 : w.heap.size < w1.heap.size + 1 + 1 + 1 + 1 := by omega
  have sw1_0_5 : w.heap.size < w1.heap.size + 1 + 1 + 1 + 1 + 1 := by omega
  have sw1_0_6 : w.heap.size < w1.heap.size + 1 + 1 + 1 + 1 + 1 + 1 := by omega
  have sw1_1_0 : w.heap.size + 1 < w1.heap.size := by omega
  have sw1_1_1 : w.heap.size + 1 < w1.heap.size + 1 := by omega
  have sw1_1_2 : w.heap.size + 1 < w1.heap.size + 1 + 1 := by omega
  have sw1_1_3 : w.heap.size + 1 < w1.heap.size + 1 + 1 + 1 := by omega
  have sw1_1_4 : w.heap.size + 1 < w1.heap.size + 1 + 1 + 1 + 1 := by omega
  have sw1_1_5 : w.heap.size + 1 < w1.heap.size + 1 + 1 + 1 + 1 + 1 := by omega
  have sw1_1_6 : w.heap.size + 1 < w1.heap.size + 1 + 1 + 1 + 1 + 1 + 1 := by omega
  go_wp2
  refine wp_loop_rounds 5 ?_
  iterate 4
    rw [rounds_succ]
    go_wp2_with fail
    refine (source_in _ _ _ _ _ _ (by omega) (by rfl)).mono ?_
    rintro e w' ⟨rfl, rfl⟩
    go_wp2
    go_quiet (fail)
    go_wp2
  rw [rounds_succ]
  go_wp2
  refine wp_loop_rounds 3 ?_
  iterate 3
    rw [rounds_succ]
    go_wp2
  go_ret
  refine ⟨ret_bool (by first | rfl | (simp; done)), ?_⟩
  repeat (first | exact Below.refl _ _ | exact B1 | refine Below.setCell ?_ (by first | (simp; done) | omega | (simp; omega)) _ | refine below_drewN ?_ _ | refine Below.drew ?_ | refine Below.alloc ?_ (by first | (simp; done) | omega | (simp; omega)) _)
set_option maxHeartbeats 4000000 in
set_option maxRecDepth 100000 in
theorem way_10 (p q : Int) (w : World) :
    Calls Try.prog 4 #[.agg #[.bool true, .bool false], .agg #[.int .i32 p, .int .i32 q]] w fun e' w' => e' = .returned (.bool true) ∧ Below w.heap.size w w' := by
  have ix0 : ∀ w : World, (Instr.index 34 (.agg #[.bool true, .bool false]) (.int .i64 0)).run Try.prog w = .ok (.bool true) w := fun _ => by kernel_rfl
  have ix1 : ∀ w : World, (Instr.index 34 (.agg #[.bool true, .bool false]) (.int .i64 1)).run Try.prog w = .ok (.bool false) w := fun _ => by kernel_rfl
  go_enter Try.func4, Try.ntmps4
  go_wp2_with fail
  refine (source_in _ _ _ _ _ _ (by omega) (by rfl)).mono ?_
  rintro e w' ⟨rfl, rfl⟩
  go_wp2_with fail
  refine (supply_10 p q _).mono ?_
  rintro e1 w1 ⟨rfl, hb⟩
  have zb := hb.size
  try (simp at zb)
  have on0 : w1.cell? ⟨w.heap.size, 0, none⟩ = some (.bool true) := cell_later hb (by go_simp)
  have on1 : w1.cell? ⟨w.heap.size, 1, none⟩ = some (.bool false) := cell_later hb (by go_simp)
  have pq0 : w1.cell? ⟨w.heap.size + 1, 0, none⟩ = some (.int .i32 p) := cell_later hb (by go_simp)
  have pq1 : w1.cell? ⟨w.heap.size + 1, 1, none⟩ = some (.int .i32 q) := cell_later hb (by go_simp)
  have B1 : Below w.heap.size w w1 := by repeat (first | exact Below.refl _ _ | refine Below.setCell ?_ (by first | (simp; done) | omega | (simp; omega)) _ | refine below_drewN ?_ _ | refine Below.drew ?_ | refine Below.trans ?_ (Below.mono hb (by first | (simp; done) | omega | (simp; omega))) | refine Below.alloc ?_ (by first | (simp; done) | omega | (simp; omega)) _)
  clear hb
  have sw1_0_0 : w.heap.size < w1.heap.size := by omega
  have sw1_0_1 : w.heap.size < w1.heap.size + 1 := by omega
  have sw1_0_2 : w.heap.size < w1.heap.size + 1 + 1 := by omega
  have sw1_0_3 : w.heap.size < w1.heap.size + 1 + 1 + 1 := by omega
  have sw1_0_4 : w.heap.size < w1.heap.size + 1 + 1 + 1 + 1 := by omega
  have sw1_0_5 : w.heap.size < w1.heap.size + 1 + 1 + 1 + 1 + 1 := by omega
  have sw1_0_6 : w.heap.size < w1.heap.size + 1 + 1 + 1 + 1 + 1 + 1 := by omega
  have sw1_1_0 : w.heap.size + 1 < w1.heap.size := by omega
  have sw1_1_1 : w.heap.size + 1 < w1.heap.size + 1 := by omega
  have sw1_1_2 : w.heap.size + 1 < w1.heap.size + 1 + 1 := by omega
  have sw1_1_3 : w.heap.size + 1 < w1.heap.size + 1 + 1 + 1 := by omega
  have sw1_1_4 : w.heap.size + 1 < w1.heap.size + 1 + 1 + 1 + 1 := by omega
  have sw1_1_5 : w.heap.size + 1 < w1.heap.size + 1 + 1 + 1 + 1 + 1 := by omega
  have sw1_1_6 : w.heap.size + 1 < w1.heap.size + 1 + 1 + 1 + 1 + 1 + 1 := by omega
  go_wp2
  refine wp_loop_rounds 5 ?_
  iterate 4
    rw [rounds_succ]
    go_wp2_with fail
    refine (source_in _ _ _ _ _ _ (by omega) (by rfl)).mono ?_
    rintro e w' ⟨rfl, rfl⟩
    go_wp2
    go_quiet (fail)
    go_wp2
  rw [rounds_succ]
  go_wp2
  refine wp_loop_rounds 3 ?_
  iterate 3
    rw [rounds_succ]
    go_wp2
  go_ret
  refine ⟨ret_bool (by first | rfl | (simp; done)), ?_⟩
  repeat (first | exact Below.refl _ _ | exact B1 | refine Below.setCell ?_ (by first | (simp; done) | omega | (simp; omega)) _ | refine below_drewN ?_ _ | refine Below.drew ?_ | refine Below.alloc ?_ (by first | (simp; done) | omega | (simp; omega)) _)
set_option maxHeartbeats 4000000 in
set_option maxRecDepth 100000 in
theorem way_01 (p q : Int) (w : World) :
    Calls Try.prog 4 #[.agg #[.bool false, .bool true], .agg #[.int .i32 p, .int .i32 q]] w fun e' w' => e' = .returned (.bool true) ∧ Below w.heap.size w w' := by
  have ix0 : ∀ w : World, (Instr.index 34 (.agg #[.bool false, .bool true]) (.int .i64 0)).run Try.prog w = .ok (.bool false) w := fun _ => by kernel_rfl
  have ix1 : ∀ w : World, (Instr.index 34 (.agg #[.bool false, .bool true]) (.int .i64 1)).run Try.prog w = .ok (.bool true) w := fun _ => by kernel_rfl
  go_enter Try.func4, Try.ntmps4
  go_wp2_with fail
  refine (source_in _ _ _ _ _ _ (by omega) (by rfl)).mono ?_
  rintro e w' ⟨rfl, rfl⟩
  go_wp2_with fail
  refine (supply_01 p q _).mono ?_
  rintro e1 w1 ⟨rfl, hb⟩
  have zb := hb.size
  try (simp at zb)
  have on0 : w1.cell? ⟨w.heap.size, 0, none⟩ = some (.bool false) := cell_later hb (by go_simp)
  have on1 : w1.cell? ⟨w.heap.size, 1, none⟩ = some (.bool true) := cell_later hb (by go_simp)
  have pq0 : w1.cell? ⟨w.heap.size + 1, 0, none⟩ = some (.int .i32 p) := cell_later hb (by go_simp)
  have pq1 : w1.cell? ⟨w.heap.size + 1, 1, none⟩ = some (.int .i32 q) := cell_later hb (by go_simp)
  have B1 : Below w.heap.size w w1 := by repeat (first | exact Below.refl _ _ | refine Below.setCell ?_ (by first | (simp; done) | omega | (simp; omega)) _ | refine below_drewN ?_ _ | refine Below.drew ?_ | refine Below.trans ?_ (Below.mono hb (by first | (simp; done) | omega | (simp; omega))) | refine Below.alloc ?_ (by first | (simp; done) | omega | (simp; omega)) _)
  clear hb
  have sw1_0_0 : w.heap.size < w1.heap.size := by omega
  have sw1_0_1 : w.heap.size < w1.heap.size + 1 := by omega
  have sw1_0_2 : w.heap.size < w1.heap.size + 1 + 1 := by omega
  have sw1_0_3 : w.heap.size < w1.heap.size + 1 + 1 + 1 := by omega
  have sw1_0_4 : w.heap.size < w1.heap.size + 1 + 1 + 1 + 1 := by omega
  have sw1_0_5 : w.heap.size < w1.heap.size + 1 + 1 + 1 + 1 + 1 := by omega
  have sw1_0_6 : w.heap.size < w1.heap.size + 1 + 1 + 1 + 1 + 1 + 1 := by omega
  have sw1_1_0 : w.heap.size + 1 < w1.heap.size := by omega
  have sw1_1_1 : w.heap.size + 1 < w1.heap.size + 1 := by omega
  have sw1_1_2 : w.heap.size + 1 < w1.heap.size + 1 + 1 := by omega
  have sw1_1_3 : w.heap.size + 1 < w1.heap.size + 1 + 1 + 1 := by omega
  have sw1_1_4 : w.heap.size + 1 < w1.heap.size + 1 + 1 + 1 + 1 := by omega
  have sw1_1_5 : w.heap.size + 1 < w1.heap.size + 1 + 1 + 1 + 1 + 1 := by omega
  have sw1_1_6 : w.heap.size + 1 < w1.heap.size + 1 + 1 + 1 + 1 + 1 + 1 := by omega
  go_wp2
  refine wp_loop_rounds 5 ?_
  iterate 4
    rw [rounds_succ]
    go_wp2_with fail
    refine (source_in _ _ _ _ _ _ (by omega) (by rfl)).mono ?_
    rintro e w' ⟨rfl, rfl⟩
    go_wp2
    go_quiet (fail)
    go_wp2
  rw [rounds_succ]
  go_wp2
  refine wp_loop_rounds 3 ?_
  iterate 3
    rw [rounds_succ]
    go_wp2
  go_ret
  refine ⟨ret_bool (by first | rfl | (simp; done)), ?_⟩
  repeat (first | exact Below.refl _ _ | exact B1 | refine Below.setCell ?_ (by first | (simp; done) | omega | (simp; omega)) _ | refine below_drewN ?_ _ | refine Below.drew ?_ | refine Below.alloc ?_ (by first | (simp; done) | omega | (simp; omega)) _)
set_option maxHeartbeats 4000000 in
set_option maxRecDepth 100000 in
theorem way_11 (p q : Int) (w : World) :
    Calls Try.prog 4 #[.agg #[.bool true, .bool true], .agg #[.int .i32 p, .int .i32 q]] w fun e' w' => e' = .returned (.bool true) ∧ Below w.heap.size w w' := by
  have ix0 : ∀ w : World, (Instr.index 34 (.agg #[.bool true, .bool true]) (.int .i64 0)).run Try.prog w = .ok (.bool true) w := fun _ => by kernel_rfl
  have ix1 : ∀ w : World, (Instr.index 34 (.agg #[.bool true, .bool true]) (.int .i64 1)).run Try.prog w = .ok (.bool true) w := fun _ => by kernel_rfl
  go_enter Try.func4, Try.ntmps4
  go_wp2_with fail
  refine (source_in _ _ _ _ _ _ (by omega) (by rfl)).mono ?_
  rintro e w' ⟨rfl, rfl⟩
  go_wp2_with fail
  refine (supply_11 p q _).mono ?_
  rintro e1 w1 ⟨rfl, hb⟩
  have zb := hb.size
  try (simp at zb)
  have on0 : w1.cell? ⟨w.heap.size, 0, none⟩ = some (.bool true) := cell_later hb (by go_simp)
  have on1 : w1.cell? ⟨w.heap.size, 1, none⟩ = some (.bool true) := cell_later hb (by go_simp)
  have pq0 : w1.cell? ⟨w.heap.size + 1, 0, none⟩ = some (.int .i32 p) := cell_later hb (by go_simp)
  have pq1 : w1.cell? ⟨w.heap.size + 1, 1, none⟩ = some (.int .i32 q) := cell_later hb (by go_simp)
  have B1 : Below w.heap.size w w1 := by repeat (first | exact Below.refl _ _ | refine Below.setCell ?_ (by first | (simp; done) | omega | (simp; omega)) _ | refine below_drewN ?_ _ | refine Below.drew ?_ | refine Below.trans ?_ (Below.mono hb (by first | (simp; done) | omega | (simp; omega))) | refine Below.alloc ?_ (by first | (simp; done) | omega | (simp; omega)) _)
  clear hb
  have sw1_0_0 : w.heap.size < w1.heap.size := by omega
  have sw1_0_1 : w.heap.size < w1.heap.size + 1 := by omega
  have sw1_0_2 : w.heap.size < w1.heap.size + 1 + 1 := by omega
  have sw1_0_3 : w.heap.size < w1.heap.size + 1 + 1 + 1 := by omega
  have sw1_0_4 : w.heap.size < w1.heap.size + 1 + 1 + 1 + 1 := by omega
  have sw1_0_5 : w.heap.size < w1.heap.size + 1 + 1 + 1 + 1 + 1 := by omega
  have sw1_0_6 : w.heap.size < w1.heap.size + 1 + 1 + 1 + 1 + 1 + 1 := by omega
  have sw1_1_0 : w.heap.size + 1 < w1.heap.size := by omega
  have sw1_1_1 : w.heap.size + 1 < w1.heap.size + 1 := by omega
  have sw1_1_2 : w.heap.size + 1 < w1.heap.size + 1 + 1 := by omega
  have sw1_1_3 : w.heap.size + 1 < w1.heap.size + 1 + 1 + 1 := by omega
  have sw1_1_4 : w.heap.size + 1 < w1.heap.size + 1 + 1 + 1 + 1 := by omega
  have sw1_1_5 : w.heap.size + 1 < w1.heap.size + 1 + 1 + 1 + 1 + 1 := by omega
  have sw1_1_6 : w.heap.size + 1 < w1.heap.size + 1 + 1 + 1 + 1 + 1 + 1 := by omega
  go_wp2
  refine wp_loop_rounds 5 ?_
  iterate 4
    rw [rounds_succ]
    go_wp2_with fail
    refine (source_in _ _ _ _ _ _ (by omega) (by rfl)).mono ?_
    rintro e w' ⟨rfl, rfl⟩
    go_wp2
    go_quiet (fail)
    go_wp2
  rw [rounds_succ]
  go_wp2
  refine wp_loop_rounds 3 ?_
  iterate 3
    rw [rounds_succ]
    go_wp2
  go_ret
  refine ⟨ret_bool (by first | rfl | (simp; done)), ?_⟩
  repeat (first | exact Below.refl _ _ | exact B1 | refine Below.setCell ?_ (by first | (simp; done) | omega | (simp; omega)) _ | refine below_drewN ?_ _ | refine Below.drew ?_ | refine Below.alloc ?_ (by first | (simp; done) | omega | (simp; omega)) _)
theorem law (a b : Bool) (p q : Int) (w : World) (hp : -2147483648 ≤ p ∧ p ≤ 2147483647) (hq : -2147483648 ≤ q ∧ q ≤ 2147483647) :
    Calls Try.prog 4 #[.agg #[.bool a, .bool b], .agg #[.int .i32 p, .int .i32 q]] w fun e' w' => e' = .returned (.bool true) ∧ Below w.heap.size w w' := by
  cases a <;> cases b
  · exact way_00 p q w
  · exact way_01 p q w
  · exact way_10 p q w
  · exact way_11 p q w
set_option maxRecDepth 100000 in
theorem lifted (os : Os) (started : os.Started) (H : Type) (enc : TypeId × Value → H) :
    ReturnsInHanded {} Try.checked os 4 .any (Rows.oilOwnSpec.pre6 enc Try.prog Try.f4 Rows.oilOwnRow.domain false) (Rows.oilOwnSpec.post enc Try.prog Try.f4 false true false false) := by
  refine returnsInHanded_of_change (C := Try.checked) own started (by kernel_rfl) Try.func4
    (ChangeSpec.witness6 (enc := enc) (C := Try.checked) false ⟨#[], #[.agg #[.bool false, .bool false], .agg #[.int .i32 0, .int .i32 0]], []⟩ 8 (by kernel_rfl) (by kernel_rfl) (by kernel_rfl) (by kernel_rfl)) ?_
  intro W base args ds gs before hval0 hW hcnd _
  have hval : ∀ (j : Nat) t v, Try.f4.params[j]? = some t → args[j]? = some v → Value.okWide Try.prog W .any base t v := hval0
  have hW' := hW
  obtain ⟨p, q, hA0, hV, rfl, hfz, hnd⟩ := hW
  have hA : DataW.TrodAll enc Try.prog W 0 (fun _ => true) true Try.f4.params.toList args.toList ds p := hA0
  rw [Try.params4] at hA hval
  obtain ⟨v0, vs0, d0, ds0, p0, q0, hargs, rfl, rfl, h0, r0⟩ := trodAll_cons hA
  obtain ⟨v1, vs1, d1, ds1, p1, q1, rfl, rfl, rfl, h1, r1⟩ := trodAll_cons r0
  obtain ⟨rfl, rfl, rfl⟩ := trodAll_nil r1
  obtain rfl : args = #[v0, v1] := by cases args; simp_all
  obtain ⟨rfl, rfl⟩ := trodVars_none hV
  have k0 := h0
  have lt0 : ∀ x ∈ p0, x.block < W.heap.size := by obtain ⟨m, hm⟩ := k0; exact DataW.trod_lt m _ _ _ hm
  have k1 := h1
  have lt1 : ∀ x ∈ p1, x.block < W.heap.size := by obtain ⟨m, hm⟩ := k1; exact DataW.trod_lt m _ _ _ hm
  obtain ⟨cs0, rfl, lf0_0⟩ := open_flat 12 [4, 4] (by kernel_rfl) (by kernel_rfl) (by kernel_rfl) (hval 0 34 v0 rfl rfl) h0
  obtain ⟨c0_0, r0_0, rfl, y0_0, lf0_1⟩ := leafs_cons lf0_0
  obtain ⟨a0_0, rfl⟩ := leaf_bool Try.underlying4 y0_0
  obtain ⟨c0_1, r0_1, rfl, y0_1, lf0_2⟩ := leafs_cons lf0_1
  obtain ⟨a0_1, rfl⟩ := leaf_bool Try.underlying4 y0_1
  obtain rfl := leafs_nil lf0_2
  obtain ⟨cs1, rfl, lf1_0⟩ := open_flat 12 [21, 21] (by kernel_rfl) (by kernel_rfl) (by kernel_rfl) (hval 1 35 v1 rfl rfl) h1
  obtain ⟨c1_0, r1_0, rfl, y1_0, lf1_1⟩ := leafs_cons lf1_0
  obtain ⟨a1_0, rfl, w1_0⟩ := leaf_int Try.underlying21 y1_0
  obtain ⟨c1_1, r1_1, rfl, y1_1, lf1_2⟩ := leafs_cons lf1_1
  obtain ⟨a1_1, rfl, w1_1⟩ := leaf_int Try.underlying21 y1_1
  obtain rfl := leafs_nil lf1_2
  clear hA0 hval0
  refine (law a0_0 a0_1 a1_0 a1_1 W (bounds_i32 w1_0) (bounds_i32 w1_1)).mono fun e W' ⟨he, bel⟩ => ?_
  subst he
  exact ⟨_, rfl, _, _, _, [], _, [], hW', trodAll_mk1 (shut_bool Try.underlying4 _), (trodAll_cons_mk (Below.trod laidOut (by kernel_rfl) (of_decide_eq_true (by kernel_rfl)) k0 bel lt0) (trodAll_cons_mk (Below.trod laidOut (by kernel_rfl) (of_decide_eq_true (by kernel_rfl)) k1 bel lt1) trodAll_mk0)), rfl, bel.frame _, fun h => by cases h⟩
theorem over : Rows.oilOwnRow.holds Try.pinned (OpenSpec.ofChange Rows.oilOwnSpec) :=
  OpenClaim.holds_of_wide 4 Try.f4 rfl rfl rfl rfl rfl rfl rfl ⟨rfl, rfl, rfl, rfl, rfl⟩ rfl rfl rfl rfl rfl (by kernel_rfl) Try.func4 (by kernel_rfl)
    (of_decide_eq_true (by kernel_rfl)) (by unfold Func.isWrapper; first | (rw [if_pos (by decide +kernel)]; kernel_rfl) | (rw [if_neg (by decide +kernel)]; exact ⟨rfl, rfl⟩))
    (fun os started H enc _ => lifted os started H enc)
theorem proved : Rows.OilOwnSaid := over
#print axioms proved

end Go.Proofs.Ytacelddnklnhpaa.oilOwn
