/- AgreeFair: whatever the lanes' numbers, the liar and its lies are, the law answers true and leaves memory as it was. -/
import Derived.Test.YtijoalaijkobpaaOdd
import Derived.Test.YtijoalaijkobpaaSat
namespace Go.Proofs.Ytijoalaijkobpaa.agreeFair
open Go.ChangeShapes Go.WideShapes Go.ChangeAt Go.RowKit Go.Proofs.Ytijoalaijkobpaa Go.Proofs.Ytijoalaijkobpaa.Open
set_option linter.unusedVariables false
theorem saidF_none (V S : List Int) (i j : Nat) : saidF V (-1) S i j = V.getD i 0 := if_neg (fun h => by have := h.1; omega)
theorem toldF_none (V S T : List Int) (i j k : Nat) : toldF V (-1) S T i j k = V.getD i 0 := by
  unfold toldF; rw [if_neg (by omega), saidF_none]
def plainT (V : List Int) : List Int := (List.range 80).map fun m => if m < 16 then V.getD (m / 4) 0 else V.getD ((m - 16) / 16) 0
theorem talk_none (V S T : List Int) : talkTo V (-1) S T 80 = plainT V := by
  unfold talkTo plainT
  refine List.map_congr_left fun m hm => ?_
  rw [if_pos (List.mem_range.1 hm)]
  unfold talkAt
  split
  · exact saidF_none _ _ _ _
  · exact toldF_none _ _ _ _ _ _
def badT : List Int := (((plainT [1, 2, 3, 4]).set 22 9).set 70 9).set 30 9
theorem bad_odd : oddF badT 2 0 = false ∧ oddF badT 2 1 = true ∧ oddF badT 2 2 = false ∧ oddF badT 2 3 = false := by decide +kernel
theorem bad_len : badT.length = 80 := by decide +kernel
/-- who does not lie is not odd to any that does not -/
theorem fair (V S T : List Int) (liar : Int) (k j : Nat) (hk : k < 4) (hj : j < 4) (h1 : (k : Int) ≠ liar) (h2 : (j : Int) ≠ liar) : oddF (talkTo V liar S T 80) k j = false := by
  unfold oddF
  by_cases e : j = k
  · rw [if_pos e]
  · rw [if_neg e]
    obtain ⟨m, hm, m1, m2, m3⟩ : ∃ m : Nat, m < 4 ∧ m ≠ j ∧ m ≠ k ∧ (m : Int) ≠ liar := by
      by_cases a0 : (0 ≠ j ∧ 0 ≠ k ∧ (0 : Int) ≠ liar); · exact ⟨0, by omega, a0.1, a0.2.1, a0.2.2⟩
      by_cases a1 : (1 ≠ j ∧ 1 ≠ k ∧ (1 : Int) ≠ liar); · exact ⟨1, by omega, a1.1, a1.2.1, a1.2.2⟩
      by_cases a2 : (2 ≠ j ∧ 2 ≠ k ∧ (2 : Int) ≠ liar); · exact ⟨2, by omega, a2.1, a2.2.1, a2.2.2⟩
      exact ⟨3, by omega, by omega, by omega, by omega⟩
    unfold oddTo
    rw [List.all_eq_false]
    refine ⟨m, List.mem_range.2 hm, ?_⟩
    have g1 : (talkTo V liar S T 80).getD (16 + m * 16 + j * 4 + k) 0 = V.getD m 0 := by
      rw [List.getD_eq_getElem?_getD, talkTo_at _ _ _ _ _ _ (by omega) (by omega), Option.getD_some, show 16 + m * 16 + j * 4 + k = 16 + (m * 16 + j * 4 + k) by omega, told_at _ _ _ _ _ _ _ hm hj hk, toldF, if_neg h2, saidF, if_neg (fun x => m3 x.1)]
    have g2 : (talkTo V liar S T 80).getD (m * 4 + k) 0 = V.getD m 0 := by
      rw [List.getD_eq_getElem?_getD, talkTo_at _ _ _ _ _ _ (by omega) (by omega), Option.getD_some, said_at _ _ _ _ _ _ hm hk, saidF, if_neg (fun x => m3 x.1)]
    rw [g1, g2]
    simp [m1, m2]
theorem rest5 (n : Int) : 0 ≤ restI n 5 ∧ restI n 5 < 5 := restI_bd n 5 (by omega)
theorem CellsAt.row (w : World) (b c : Nat) (vs : List Value) (h : CellsAt w b vs) (e : b ≠ c) (cs : Array Value) : CellsAt (w.setRow c cs) b vs :=
  ⟨fun j v hj => by rw [cell_setRow_other _ _ _ _ e]; exact h.1 j v hj, fun o => by have := h.2.1 o; unfold World.frozen? at this ⊢; rw [setRow_other _ _ _ _ e]; exact this, by simpa [World.setRow] using h.2.2⟩
theorem odd_bad (w : World) : Calls Try.prog 11 #[.agg (i32s badT).toArray, .int .i64 2] w fun e w' => e = .returned (.tuple #[.agg #[.bool false, .bool true, .bool false, .bool false], .int .i64 0]) ∧ Below w.heap.size w w' := by
  have h := odd_is badT 2 bad_len (by omega) w
  rw [bad_odd.1, bad_odd.2.1, bad_odd.2.2.1, bad_odd.2.2.2] at h
  exact h
/-- what stands behind the calls of talk -/
structure St (w0 w : World) (V S T : List Int) : Prop where
  v : CellsAt w w0.heap.size (i32s V)
  s : CellsAt w (w0.heap.size + 1) (i32s S)
  t : CellsAt w (w0.heap.size + 1 + 1) (i32s T)
  b : Below w0.heap.size w0 w
theorem St.call {w0 w w' : World} {V S T : List Int} (h : St w0 w V S T) (hb : Below w.heap.size w w') : St w0 w' V S T := ⟨h.v.call hb, h.s.call hb, h.t.call hb, h.b.trans (hb.mono h.b.size)⟩
theorem St.alloc {w0 w : World} {V S T : List Int} (h : St w0 w V S T) (o : Obj) : St w0 (w.alloc o) V S T := h.call ((Below.refl _ _).alloc (Nat.le_refl _) o)
theorem St.row {w0 w : World} {V S T : List Int} (h : St w0 w V S T) {c : Nat} (hc : w0.heap.size + 1 + 1 < c) (cs : Array Value) : St w0 (w.setRow c cs) V S T :=
  ⟨CellsAt.row _ _ _ _ h.v (by omega) cs, CellsAt.row _ _ _ _ h.s (by omega) cs, CellsAt.row _ _ _ _ h.t (by omega) cs, below_setRow h.b (by omega) cs⟩
theorem St.set_ {w0 w : World} {V S T : List Int} (h : St w0 w V S T) {c : Nat} (hc : w0.heap.size + 1 + 1 < c) (n : Nat) (u : Value) : St w0 (w.setCell ⟨c, n, none⟩ u) V S T :=
  ⟨h.v.other (by omega) n u, h.s.other (by omega) n u, h.t.other (by omega) n u, h.b.setCell (p := ⟨c, n, none⟩) (by simp; omega) u⟩
theorem one_cells (L : List Int) : (i32s L).toArray.all (·.oneCell') = true := by
  rw [List.all_toArray, List.all_eq_true]
  intro x hx
  obtain ⟨y, _, rfl⟩ := List.mem_map.1 hx
  rfl
theorem bad_row : (((i32s (plainT [1, 2, 3, 4])).toArray.setIfInBounds 22 (.int .i32 9)).setIfInBounds 70 (.int .i32 9)).setIfInBounds 30 (.int .i32 9) = (i32s badT).toArray := by
  simp only [List.setIfInBounds_toArray, i32s, badT, List.map_set]
set_option maxHeartbeats 8000000 in
set_option maxRecDepth 100000 in
theorem law (v0 v1 v2 v3 n s0 s1 s2 s3 t0 t1 t2 t3 t4 t5 t6 t7 t8 t9 t10 t11 t12 t13 t14 t15 : Int) (w : World) (hv0 : -2147483648 ≤ v0 ∧ v0 ≤ 2147483647) (hv1 : -2147483648 ≤ v1 ∧ v1 ≤ 2147483647) (hv2 : -2147483648 ≤ v2 ∧ v2 ≤ 2147483647) (hv3 : -2147483648 ≤ v3 ∧ v3 ≤ 2147483647) (hn : -9223372036854775808 ≤ n ∧ n ≤ 9223372036854775807) (hs0 : -2147483648 ≤ s0 ∧ s0 ≤ 2147483647) (hs1 : -2147483648 ≤ s1 ∧ s1 ≤ 2147483647) (hs2 : -2147483648 ≤ s2 ∧ s2 ≤ 2147483647) (hs3 : -2147483648 ≤ s3 ∧ s3 ≤ 2147483647) (ht0 : -2147483648 ≤ t0 ∧ t0 ≤ 2147483647) (ht1 : -2147483648 ≤ t1 ∧ t1 ≤ 2147483647) (ht2 : -2147483648 ≤ t2 ∧ t2 ≤ 2147483647) (ht3 : -2147483648 ≤ t3 ∧ t3 ≤ 2147483647) (ht4 : -2147483648 ≤ t4 ∧ t4 ≤ 2147483647) (ht5 : -2147483648 ≤ t5 ∧ t5 ≤ 2147483647) (ht6 : -2147483648 ≤ t6 ∧ t6 ≤ 2147483647) (ht7 : -2147483648 ≤ t7 ∧ t7 ≤ 2147483647) (ht8 : -2147483648 ≤ t8 ∧ t8 ≤ 2147483647) (ht9 : -2147483648 ≤ t9 ∧ t9 ≤ 2147483647) (ht10 : -2147483648 ≤ t10 ∧ t10 ≤ 2147483647) (ht11 : -2147483648 ≤ t11 ∧ t11 ≤ 2147483647) (ht12 : -2147483648 ≤ t12 ∧ t12 ≤ 2147483647) (ht13 : -2147483648 ≤ t13 ∧ t13 ≤ 2147483647) (ht14 : -2147483648 ≤ t14 ∧ t14 ≤ 2147483647) (ht15 : -2147483648 ≤ t15 ∧ t15 ≤ 2147483647) :
    Calls Try.prog 3 #[.agg #[.int .i32 v0, .int .i32 v1, .int .i32 v2, .int .i32 v3], .int .i64 n, .agg #[.int .i32 s0, .int .i32 s1, .int .i32 s2, .int .i32 s3], .agg #[.int .i32 t0, .int .i32 t1, .int .i32 t2, .int .i32 t3, .int .i32 t4, .int .i32 t5, .int .i32 t6, .int .i32 t7, .int .i32 t8, .int .i32 t9, .int .i32 t10, .int .i32 t11, .int .i32 t12, .int .i32 t13, .int .i32 t14, .int .i32 t15]] w fun e w' => e = .returned (.bool true) ∧ Below w.heap.size w w' := by
  have hz := zTalk_run
  have hinfo : (Try.prog.info? 26).map (·.size) = some 80 := by kernel_rfl
  go_enter Try.func3, Try.ntmps3
  go_wp2_with fail
  refine (talk_is 1 2 3 4 (-1) s0 s1 s2 s3 t0 t1 t2 t3 t4 t5 t6 t7 t8 t9 t10 t11 t12 t13 t14 t15 _).mono ?_
  rintro e1 w1 ⟨rfl, hb1⟩
  rw [talk_none]
  have zb1 := hb1.size
  simp at zb1
  have S1 : St w w1 [v0, v1, v2, v3] [s0, s1, s2, s3] [t0, t1, t2, t3, t4, t5, t6, t7, t8, t9, t10, t11, t12, t13, t14, t15] := ⟨CellsAt.call (((i32s_new w _ _ _ rfl).alloc _).alloc _) hb1, CellsAt.call ((CellsAt.new' (by simp) rfl).alloc _) hb1, CellsAt.call (CellsAt.new' (by simp) rfl) hb1, by repeat (first | with_reducible exact Below.refl _ _ | ((with_reducible refine Below.setCell ?_ ?_ _); rotate_left; (· first | (simp; done) | omega | (simp; omega))) | with_reducible refine below_drewN ?_ _ | with_reducible refine Below.drew ?_ | ((with_reducible refine Below.trans ?_ (Below.mono hb1 ?_)); rotate_left; (· first | (simp; done) | omega | (simp; omega))) | ((with_reducible refine Below.alloc ?_ ?_ _); rotate_left; (· first | (simp; done) | omega | (simp; omega))) | exact Below.refl _ _ | refine Below.setCell ?_ (by first | (simp; done) | omega | (simp; omega)) _ | refine below_drewN ?_ _ | refine Below.drew ?_ | refine Below.trans ?_ (Below.mono hb1 (by first | (simp; done) | omega | (simp; omega))) | refine Below.alloc ?_ (by first | (simp; done) | omega | (simp; omega)) _)⟩
  clear hb1
  obtain ⟨P, hP⟩ : ∃ P, P = plainT [1, 2, 3, 4] := ⟨_, rfl⟩
  have LS : (i32s P).toArray.size = 80 := by rw [hP]; decide +kernel
  have HP := Lib.hid hP
  have h1 : (w1.alloc (.cells zTalk 26)).heap[w1.heap.size]? = some (.cells zTalk 26 (0, 0)) := heap_alloc_new _ _
  rw [← hP]
  clear hP
  go_upto_region 2 with (first | (refine wpList_store_row rfl 26 (.tmp 9) (.tmp 21) rfl (w1.heap.size) (i32s P).toArray (by simp [Act.eval]) (by simp [Act.eval]) 26 zTalk h1 (by rw [hinfo]; exact congrArg some LS.symm) (by rw [LS, zTalk_size]) (one_cells _) ?_; go_frame))
  have S2 := (S1.alloc (.cells zTalk 26)).row (c := w1.heap.size) (by omega) (i32s P).toArray
  have h2 := setRow_heap _ w1.heap.size zTalk (i32s P).toArray _ _ h1
  have z2 : ((w1.alloc (.cells zTalk 26)).setRow w1.heap.size (i32s P).toArray).heap.size = w1.heap.size + 1 := by simp [World.setRow]
  generalize (w1.alloc (.cells zTalk 26)).setRow w1.heap.size (i32s P).toArray = w2 at *
  have LP : P.length = 80 := by simpa [i32s] using LS
  have cs : ∀ n, n < 80 → w2.cell? ⟨w1.heap.size, n, none⟩ = some (.int .i32 (P.getD n 0)) := fun n hn => by
    rw [cell_of_row _ _ n _ _ _ h2, List.getElem?_toArray, i32s, List.getElem?_map, List.getD_eq_getElem?_getD, List.getElem?_eq_getElem (by omega)]; rfl
  have c22 := cs 22 (by omega)
  have c70 := cs 70 (by omega)
  have c30 := cs 30 (by omega)
  have fz : ∀ o, w2.frozen? ⟨w1.heap.size, o, none⟩ = false := fun o => frozen_of_row _ _ o _ _ h2
  generalize P.getD 22 0 = y0 at *
  generalize P.getD 70 0 = y1 at *
  generalize P.getD 30 0 = y2 at *
  have S3 := ((S2.set_ (c := w1.heap.size) (by omega) 22 (.int .i32 9)).set_ (c := w1.heap.size) (by omega) 70 (.int .i32 9)).set_ (c := w1.heap.size) (by omega) 30 (.int .i32 9)
  have h3 := heap_setCell_same _ _ 30 _ _ (.int .i32 9) (heap_setCell_same _ _ 70 _ _ (.int .i32 9) (heap_setCell_same _ _ 22 _ _ (.int .i32 9) h2))
  rw [HP.out, bad_row] at h3
  have z3 : (((w2.setCell ⟨w1.heap.size, 22, none⟩ (.int .i32 9)).setCell ⟨w1.heap.size, 70, none⟩ (.int .i32 9)).setCell ⟨w1.heap.size, 30, none⟩ (.int .i32 9)).heap.size = w1.heap.size + 1 := by simpa [World.setCell] using z2
  have HZ2 := Lib.hid z2
  have HS3 := Lib.hid S3
  have H3 := Lib.hid h3
  have HZ3 := Lib.hid z3
  clear cs h1 h2 S1 S2 S3 h3 z3 z2 LS LP
  go_upto_region 3 with (fail)
  have LB : (i32s badT).toArray.size = 80 := by decide +kernel
  have hh := H3.out
  generalize ((w2.setCell ⟨w1.heap.size, 22, none⟩ (.int .i32 9)).setCell ⟨w1.heap.size, 70, none⟩ (.int .i32 9)).setCell ⟨w1.heap.size, 30, none⟩ (.int .i32 9) = w3 at *
  go_wp2_with (first | (refine wpList_load_row rfl 26 (.tmp 9) rfl (w1.heap.size) (by simp [Act.eval]) 26 (i32s badT).toArray (0, 0) _ hh Try.underlying26 rfl (by rw [hinfo]; exact congrArg some LB.symm) ?_; go_frame))
  refine (odd_bad _).mono ?_
  rintro e4 w4 ⟨rfl, hb4⟩
  have S4 := HS3.out.call hb4
  have zb4 := hb4.size
  rw [HZ3.out] at zb4
  clear hb4 hh H3 HS3 HZ3 HZ2 c22 c70 c30 fz
  have q1 : ∀ w : World, (Op.equalIn 10000 28 (.agg #[.bool false, .bool true, .bool false, .bool false]) (.agg #[.bool false, .bool true, .bool false, .bool false])).run Try.prog w = .ok true w := fun _ => by kernel_rfl
  have RB := rest5 n
  go_wp2_with fail
  refine (rest_any _ _ (by omega) _).mono ?_
  rintro e5 w5 ⟨rfl, rfl⟩
  go_upto_region 7 with (fail)
  obtain ⟨q, hq⟩ : ∃ q, restI n 5 - 1 = q := ⟨_, rfl⟩
  have hq1 : -1 ≤ q ∧ q ≤ 3 := by omega
  rw [hq]
  generalize restI n 5 = r5 at *
  clear hq RB
  have S5 := S4.alloc (.cells #[.bool false, .bool true, .bool false, .bool false] 28)
  have z5 : (w4.alloc (.cells #[.bool false, .bool true, .bool false, .bool false] 28)).heap.size = w4.heap.size + 1 := by simp
  generalize w4.alloc (.cells #[.bool false, .bool true, .bool false, .bool false] 28) = w5 at *
  have ZZ : w.heap.size + 1 + 1 < w5.heap.size := by omega
  clear S4 zb4 z5 LB
  have dv0 : w5.cell? ⟨w.heap.size, 0, none⟩ = some (.int .i32 v0) := S5.v.at_ 0 rfl
  have dv1 : w5.cell? ⟨w.heap.size, 1, none⟩ = some (.int .i32 v1) := S5.v.at_ 1 rfl
  have dv2 : w5.cell? ⟨w.heap.size, 2, none⟩ = some (.int .i32 v2) := S5.v.at_ 2 rfl
  have dv3 : w5.cell? ⟨w.heap.size, 3, none⟩ = some (.int .i32 v3) := S5.v.at_ 3 rfl
  have ds0 : w5.cell? ⟨w.heap.size + 1, 0, none⟩ = some (.int .i32 s0) := S5.s.at_ 0 rfl
  have ds1 : w5.cell? ⟨w.heap.size + 1, 1, none⟩ = some (.int .i32 s1) := S5.s.at_ 1 rfl
  have ds2 : w5.cell? ⟨w.heap.size + 1, 2, none⟩ = some (.int .i32 s2) := S5.s.at_ 2 rfl
  have ds3 : w5.cell? ⟨w.heap.size + 1, 3, none⟩ = some (.int .i32 s3) := S5.s.at_ 3 rfl
  have dt0 : w5.cell? ⟨w.heap.size + 1 + 1, 0, none⟩ = some (.int .i32 t0) := S5.t.at_ 0 rfl
  have dt1 : w5.cell? ⟨w.heap.size + 1 + 1, 1, none⟩ = some (.int .i32 t1) := S5.t.at_ 1 rfl
  have dt2 : w5.cell? ⟨w.heap.size + 1 + 1, 2, none⟩ = some (.int .i32 t2) := S5.t.at_ 2 rfl
  have dt3 : w5.cell? ⟨w.heap.size + 1 + 1, 3, none⟩ = some (.int .i32 t3) := S5.t.at_ 3 rfl
  have dt4 : w5.cell? ⟨w.heap.size + 1 + 1, 4, none⟩ = some (.int .i32 t4) := S5.t.at_ 4 rfl
  have dt5 : w5.cell? ⟨w.heap.size + 1 + 1, 5, none⟩ = some (.int .i32 t5) := S5.t.at_ 5 rfl
  have dt6 : w5.cell? ⟨w.heap.size + 1 + 1, 6, none⟩ = some (.int .i32 t6) := S5.t.at_ 6 rfl
  have dt7 : w5.cell? ⟨w.heap.size + 1 + 1, 7, none⟩ = some (.int .i32 t7) := S5.t.at_ 7 rfl
  have dt8 : w5.cell? ⟨w.heap.size + 1 + 1, 8, none⟩ = some (.int .i32 t8) := S5.t.at_ 8 rfl
  have dt9 : w5.cell? ⟨w.heap.size + 1 + 1, 9, none⟩ = some (.int .i32 t9) := S5.t.at_ 9 rfl
  have dt10 : w5.cell? ⟨w.heap.size + 1 + 1, 10, none⟩ = some (.int .i32 t10) := S5.t.at_ 10 rfl
  have dt11 : w5.cell? ⟨w.heap.size + 1 + 1, 11, none⟩ = some (.int .i32 t11) := S5.t.at_ 11 rfl
  have dt12 : w5.cell? ⟨w.heap.size + 1 + 1, 12, none⟩ = some (.int .i32 t12) := S5.t.at_ 12 rfl
  have dt13 : w5.cell? ⟨w.heap.size + 1 + 1, 13, none⟩ = some (.int .i32 t13) := S5.t.at_ 13 rfl
  have dt14 : w5.cell? ⟨w.heap.size + 1 + 1, 14, none⟩ = some (.int .i32 t14) := S5.t.at_ 14 rfl
  have dt15 : w5.cell? ⟨w.heap.size + 1 + 1, 15, none⟩ = some (.int .i32 t15) := S5.t.at_ 15 rfl
  go_wp2_with fail
  refine (talk_is v0 v1 v2 v3 q s0 s1 s2 s3 t0 t1 t2 t3 t4 t5 t6 t7 t8 t9 t10 t11 t12 t13 t14 t15 _).mono ?_
  rintro e6 w6 ⟨rfl, hb6⟩
  have S6 := S5.call hb6
  have zb6 := hb6.size
  clear dv0 ds0 dv1 ds1 dv2 ds2 dv3 ds3 dt0 dt1 dt2 dt3 dt4 dt5 dt6 dt7 dt8 dt9 dt10 dt11 dt12 dt13 dt14 dt15 hb6 S5
  have FAIR := Lib.hid (fair [v0, v1, v2, v3] [s0, s1, s2, s3] [t0, t1, t2, t3, t4, t5, t6, t7, t8, t9, t10, t11, t12, t13, t14, t15] q)
  have LT := talkTo_len [v0, v1, v2, v3] q [s0, s1, s2, s3] [t0, t1, t2, t3, t4, t5, t6, t7, t8, t9, t10, t11, t12, t13, t14, t15] 80
  obtain ⟨L, hL⟩ : ∃ L, talkTo [v0, v1, v2, v3] q [s0, s1, s2, s3] [t0, t1, t2, t3, t4, t5, t6, t7, t8, t9, t10, t11, t12, t13, t14, t15] 80 = L := ⟨_, rfl⟩
  rw [hL] at FAIR LT
  rw [hL]
  have LS : (i32s L).toArray.size = 80 := by rw [List.size_toArray, i32s, List.length_map, LT]
  clear hL
  have h6 : (w6.alloc (.cells zTalk 26)).heap[w6.heap.size]? = some (.cells zTalk 26 (0, 0)) := heap_alloc_new _ _
  go_upto_region 8 with (first | (refine wpList_store_row rfl 26 (.tmp 13) (.tmp 53) rfl (w6.heap.size) (i32s L).toArray (by simp [Act.eval]) (by simp [Act.eval]) 26 zTalk h6 (by rw [hinfo]; exact congrArg some LS.symm) (by rw [LS, zTalk_size]) (one_cells _) ?_; go_frame))
  have S7 := (S6.alloc (.cells zTalk 26)).row (c := w6.heap.size) (by omega) (i32s L).toArray
  have h7 := setRow_heap _ w6.heap.size zTalk (i32s L).toArray _ _ h6
  have B7 := S7.b
  have z7 : w6.heap.size < ((w6.alloc (.cells zTalk 26)).setRow w6.heap.size (i32s L).toArray).heap.size := by simp [World.setRow]
  generalize (w6.alloc (.cells zTalk 26)).setRow w6.heap.size (i32s L).toArray = w7 at *
  have H7 := Lib.hid h7
  have B7' := Lib.hid B7
  have zw : w.heap.size ≤ w6.heap.size := by omega
  have hLT := Lib.hid LT
  clear h6 h7 S6 S7 B7 LT
  go_wp2
  go_loopw [54] (fun x wr => ∃ k : Nat, k ≤ 4 ∧ x = .int .i64 k ∧ w6.heap.size < wr.heap.size ∧ wr.heap[w6.heap.size]? = some (.cells (i32s L).toArray 26 (0, 0)) ∧ Below w.heap.size w wr) (fun x _ => 4 - (intOf x).toNat)
  case atStart => exact ⟨0, by omega, rfl, z7, H7.out, B7'.out⟩
  case round =>
    obtain ⟨k, hk, rfl, hz1, hr, hB⟩ := hrel
    have HB := Lib.hid hB
    have HR := Lib.hid hr
    clear hB H7 B7' z7
    by_cases hlt : k < 4
    · go_wp2_with (first | (refine wpList_load_row rfl 26 (.tmp 13) rfl (w6.heap.size) (by simp [Act.eval]) 26 (i32s L).toArray (0, 0) _ hr Try.underlying26 rfl (by rw [hinfo]; exact congrArg some LS.symm) ?_; go_frame))
      refine (odd_is L k hLT.out hlt _).mono ?_
      rintro e8 w8 ⟨rfl, hb8⟩
      have r8 : w8.heap[w6.heap.size]? = _ := (hb8.block _ hz1).trans HR.out
      have B8 : Below w.heap.size w w8 := HB.out.trans (hb8.mono (by omega))
      have zb8 := hb8.size
      have HR8 := Lib.hid r8
      have HB8 := Lib.hid B8
      clear hb8 r8 B8 hr HR HB
      go_wp2
      have hc : ∀ i, i < 4 → (w8.alloc (.cells #[.bool (oddF L k 0), .bool (oddF L k 1), .bool (oddF L k 2), .bool (oddF L k 3)] 28)).cell? ⟨w8.heap.size, i, none⟩ = some (.bool (oddF L k i)) := fun i hi => by
        rw [cell_of_row _ _ i _ _ _ (heap_alloc_new _ _)]
        rcases (by omega : i = 0 ∨ i = 1 ∨ i = 2 ∨ i = 3) with rfl | rfl | rfl | rfl <;> rfl
      have hr9 := heap_old' (o := .cells #[.bool (oddF L k 0), .bool (oddF L k 1), .bool (oddF L k 2), .bool (oddF L k 3)] 28) HR8.out
      have hB9 := HB8.out.alloc (by omega) (.cells #[.bool (oddF L k 0), .bool (oddF L k 1), .bool (oddF L k 2), .bool (oddF L k 3)] 28)
      have z9 : w6.heap.size < (w8.alloc (.cells #[.bool (oddF L k 0), .bool (oddF L k 1), .bool (oddF L k 2), .bool (oddF L k 3)] 28)).heap.size := by simp; omega
      generalize w8.alloc (.cells #[.bool (oddF L k 0), .bool (oddF L k 1), .bool (oddF L k 2), .bool (oddF L k 3)] 28) = w9 at *
      have HC := Lib.hid hc; have HR9 := Lib.hid hr9; have HB9 := Lib.hid hB9
      clear hc hr9 hB9 HR8 HB8
      go_loop [63] (fun x => ∃ i : Nat, i ≤ 4 ∧ x = .int .i64 i) (fun x => 4 - (intOf x).toNat)
      case atStart => exact ⟨0, by omega, rfl⟩
      case round =>
        obtain ⟨i, hi, rfl⟩ := hrel
        by_cases hlt2 : i < 4
        · have ci := HC.out i hlt2
          by_cases hkq : (k : Int) = q
          · have g1 : ((k : Int) != q) = false := by simpa using hkq
            have HK := Lib.hid hkq
            clear hkq ci
            go_wp2
            go_round
            case rel => exact ⟨i + 1, by omega, by go_num⟩
            case measure => simp [intOf]; omega
          · have g1 : ((k : Int) != q) = true := by simpa using hkq
            by_cases hiq : (i : Int) = q
            · have g2 : ((i : Int) != q) = false := by simpa using hiq
              have HK := Lib.hid hiq
              clear hiq ci
              go_wp2
              go_round
              case rel => exact ⟨i + 1, by omega, by go_num⟩
              case measure => simp [intOf]; omega
            · have g2 : ((i : Int) != q) = true := by simpa using hiq
              rw [FAIR.out k i hlt hlt2 hkq hiq] at ci
              go_wp2
              go_round
              case rel => exact ⟨i + 1, by omega, by go_num⟩
              case measure => simp [intOf]; omega
        · obtain rfl : i = 4 := by omega
          go_wp2
          go_round
          case rel => exact ⟨k + 1, by omega, by go_num, z9, HR9.out, HB9.out⟩
          case measure => simp [intOf]; omega
    · obtain rfl : k = 4 := by omega
      clear hr
      go_wp2
      go_ret
      exact ⟨rfl, HB.out⟩
set_option maxRecDepth 100000 in
theorem lifted (os : Os) (started : os.Started) (H : Type) (enc : TypeId × Value → H) :
    ReturnsInHanded {} Try.checked os 3 .any (Rows.agreeFairSpec.pre6 enc Try.prog Try.f3 Rows.agreeFairRow.domain false) (Rows.agreeFairSpec.post enc Try.prog Try.f3 false true false false) := by
  refine returnsInHanded_of_change (C := Try.checked) own started (by kernel_rfl) Try.func3
    (ChangeSpec.witness6 (enc := enc) (C := Try.checked) false ⟨#[], #[.agg #[.int .i32 0, .int .i32 0, .int .i32 0, .int .i32 0], .int .i64 0, .agg #[.int .i32 0, .int .i32 0, .int .i32 0, .int .i32 0], .agg #[.int .i32 0, .int .i32 0, .int .i32 0, .int .i32 0, .int .i32 0, .int .i32 0, .int .i32 0, .int .i32 0, .int .i32 0, .int .i32 0, .int .i32 0, .int .i32 0, .int .i32 0, .int .i32 0, .int .i32 0, .int .i32 0]], []⟩ 8 (by kernel_rfl) (by kernel_rfl) (by kernel_rfl) (by kernel_rfl)) ?_
  intro W base args ds gs before hval0 hW hcnd _
  have hval : ∀ (j : Nat) t v, Try.f3.params[j]? = some t → args[j]? = some v → Value.okWide Try.prog W .any base t v := hval0
  have hW' := hW
  obtain ⟨p, q, hA0, hV, rfl, hfz, hnd⟩ := hW
  have hA : DataW.TrodAll enc Try.prog W 0 (fun _ => true) true Try.f3.params.toList args.toList ds p := hA0
  rw [Try.params3] at hA hval
  obtain ⟨v0, vs0, d0, ds0, p0, q0, hargs, rfl, rfl, h0, r0⟩ := trodAll_cons hA
  obtain ⟨v1, vs1, d1, ds1, p1, q1, rfl, rfl, rfl, h1, r1⟩ := trodAll_cons r0
  obtain ⟨v2, vs2, d2, ds2, p2, q2, rfl, rfl, rfl, h2, r2⟩ := trodAll_cons r1
  obtain ⟨v3, vs3, d3, ds3, p3, q3, rfl, rfl, rfl, h3, r3⟩ := trodAll_cons r2
  obtain ⟨rfl, rfl, rfl⟩ := trodAll_nil r3
  obtain rfl : args = #[v0, v1, v2, v3] := by cases args; simp_all
  obtain ⟨rfl, rfl⟩ := trodVars_none hV
  have k0 := h0
  have lt0 : ∀ x ∈ p0, x.block < W.heap.size := by obtain ⟨m, hm⟩ := k0; exact DataW.trod_lt m _ _ _ hm
  have k1 := h1
  have lt1 : ∀ x ∈ p1, x.block < W.heap.size := by obtain ⟨m, hm⟩ := k1; exact DataW.trod_lt m _ _ _ hm
  have k2 := h2
  have lt2 : ∀ x ∈ p2, x.block < W.heap.size := by obtain ⟨m, hm⟩ := k2; exact DataW.trod_lt m _ _ _ hm
  have k3 := h3
  have lt3 : ∀ x ∈ p3, x.block < W.heap.size := by obtain ⟨m, hm⟩ := k3; exact DataW.trod_lt m _ _ _ hm
  obtain ⟨cs0, rfl, lf0_0⟩ := open_flat 12 [21, 21, 21, 21] (by kernel_rfl) (by kernel_rfl) (by kernel_rfl) (hval 0 22 v0 rfl rfl) h0
  obtain ⟨c0_0, r0_0, rfl, y0_0, lf0_1⟩ := leafs_cons lf0_0
  obtain ⟨a0_0, rfl, w0_0⟩ := leaf_int Try.underlying21 y0_0
  obtain ⟨c0_1, r0_1, rfl, y0_1, lf0_2⟩ := leafs_cons lf0_1
  obtain ⟨a0_1, rfl, w0_1⟩ := leaf_int Try.underlying21 y0_1
  obtain ⟨c0_2, r0_2, rfl, y0_2, lf0_3⟩ := leafs_cons lf0_2
  obtain ⟨a0_2, rfl, w0_2⟩ := leaf_int Try.underlying21 y0_2
  obtain ⟨c0_3, r0_3, rfl, y0_3, lf0_4⟩ := leafs_cons lf0_3
  obtain ⟨a0_3, rfl, w0_3⟩ := leaf_int Try.underlying21 y0_3
  obtain rfl := leafs_nil lf0_4
  obtain ⟨a1, rfl, rfl, rfl, w1⟩ := open_int Try.underlying3 (hval 1 3 v1 rfl rfl) h1
  obtain ⟨cs2, rfl, lf2_0⟩ := open_flat 12 [21, 21, 21, 21] (by kernel_rfl) (by kernel_rfl) (by kernel_rfl) (hval 2 22 v2 rfl rfl) h2
  obtain ⟨c2_0, r2_0, rfl, y2_0, lf2_1⟩ := leafs_cons lf2_0
  obtain ⟨a2_0, rfl, w2_0⟩ := leaf_int Try.underlying21 y2_0
  obtain ⟨c2_1, r2_1, rfl, y2_1, lf2_2⟩ := leafs_cons lf2_1
  obtain ⟨a2_1, rfl, w2_1⟩ := leaf_int Try.underlying21 y2_1
  obtain ⟨c2_2, r2_2, rfl, y2_2, lf2_3⟩ := leafs_cons lf2_2
  obtain ⟨a2_2, rfl, w2_2⟩ := leaf_int Try.underlying21 y2_2
  obtain ⟨c2_3, r2_3, rfl, y2_3, lf2_4⟩ := leafs_cons lf2_3
  obtain ⟨a2_3, rfl, w2_3⟩ := leaf_int Try.underlying21 y2_3
  obtain rfl := leafs_nil lf2_4
  obtain ⟨cs3, rfl, lf3_0⟩ := open_flat 12 [21, 21, 21, 21, 21, 21, 21, 21, 21, 21, 21, 21, 21, 21, 21, 21] (by kernel_rfl) (by kernel_rfl) (by kernel_rfl) (hval 3 23 v3 rfl rfl) h3
  obtain ⟨c3_0, r3_0, rfl, y3_0, lf3_1⟩ := leafs_cons lf3_0
  obtain ⟨a3_0, rfl, w3_0⟩ := leaf_int Try.underlying21 y3_0
  obtain ⟨c3_1, r3_1, rfl, y3_1, lf3_2⟩ := leafs_cons lf3_1
  obtain ⟨a3_1, rfl, w3_1⟩ := leaf_int Try.underlying21 y3_1
  obtain ⟨c3_2, r3_2, rfl, y3_2, lf3_3⟩ := leafs_cons lf3_2
  obtain ⟨a3_2, rfl, w3_2⟩ := leaf_int Try.underlying21 y3_2
  obtain ⟨c3_3, r3_3, rfl, y3_3, lf3_4⟩ := leafs_cons lf3_3
  obtain ⟨a3_3, rfl, w3_3⟩ := leaf_int Try.underlying21 y3_3
  obtain ⟨c3_4, r3_4, rfl, y3_4, lf3_5⟩ := leafs_cons lf3_4
  obtain ⟨a3_4, rfl, w3_4⟩ := leaf_int Try.underlying21 y3_4
  obtain ⟨c3_5, r3_5, rfl, y3_5, lf3_6⟩ := leafs_cons lf3_5
  obtain ⟨a3_5, rfl, w3_5⟩ := leaf_int Try.underlying21 y3_5
  obtain ⟨c3_6, r3_6, rfl, y3_6, lf3_7⟩ := leafs_cons lf3_6
  obtain ⟨a3_6, rfl, w3_6⟩ := leaf_int Try.underlying21 y3_6
  obtain ⟨c3_7, r3_7, rfl, y3_7, lf3_8⟩ := leafs_cons lf3_7
  obtain ⟨a3_7, rfl, w3_7⟩ := leaf_int Try.underlying21 y3_7
  obtain ⟨c3_8, r3_8, rfl, y3_8, lf3_9⟩ := leafs_cons lf3_8
  obtain ⟨a3_8, rfl, w3_8⟩ := leaf_int Try.underlying21 y3_8
  obtain ⟨c3_9, r3_9, rfl, y3_9, lf3_10⟩ := leafs_cons lf3_9
  obtain ⟨a3_9, rfl, w3_9⟩ := leaf_int Try.underlying21 y3_9
  obtain ⟨c3_10, r3_10, rfl, y3_10, lf3_11⟩ := leafs_cons lf3_10
  obtain ⟨a3_10, rfl, w3_10⟩ := leaf_int Try.underlying21 y3_10
  obtain ⟨c3_11, r3_11, rfl, y3_11, lf3_12⟩ := leafs_cons lf3_11
  obtain ⟨a3_11, rfl, w3_11⟩ := leaf_int Try.underlying21 y3_11
  obtain ⟨c3_12, r3_12, rfl, y3_12, lf3_13⟩ := leafs_cons lf3_12
  obtain ⟨a3_12, rfl, w3_12⟩ := leaf_int Try.underlying21 y3_12
  obtain ⟨c3_13, r3_13, rfl, y3_13, lf3_14⟩ := leafs_cons lf3_13
  obtain ⟨a3_13, rfl, w3_13⟩ := leaf_int Try.underlying21 y3_13
  obtain ⟨c3_14, r3_14, rfl, y3_14, lf3_15⟩ := leafs_cons lf3_14
  obtain ⟨a3_14, rfl, w3_14⟩ := leaf_int Try.underlying21 y3_14
  obtain ⟨c3_15, r3_15, rfl, y3_15, lf3_16⟩ := leafs_cons lf3_15
  obtain ⟨a3_15, rfl, w3_15⟩ := leaf_int Try.underlying21 y3_15
  obtain rfl := leafs_nil lf3_16
  clear hA0 hval0
  refine (law a0_0 a0_1 a0_2 a0_3 a1 a2_0 a2_1 a2_2 a2_3 a3_0 a3_1 a3_2 a3_3 a3_4 a3_5 a3_6 a3_7 a3_8 a3_9 a3_10 a3_11 a3_12 a3_13 a3_14 a3_15 W (bounds_i32 w0_0) (bounds_i32 w0_1) (bounds_i32 w0_2) (bounds_i32 w0_3) (bounds_i64 w1) (bounds_i32 w2_0) (bounds_i32 w2_1) (bounds_i32 w2_2) (bounds_i32 w2_3) (bounds_i32 w3_0) (bounds_i32 w3_1) (bounds_i32 w3_2) (bounds_i32 w3_3) (bounds_i32 w3_4) (bounds_i32 w3_5) (bounds_i32 w3_6) (bounds_i32 w3_7) (bounds_i32 w3_8) (bounds_i32 w3_9) (bounds_i32 w3_10) (bounds_i32 w3_11) (bounds_i32 w3_12) (bounds_i32 w3_13) (bounds_i32 w3_14) (bounds_i32 w3_15)).mono fun e W' ⟨he, bel⟩ => ?_
  subst he
  exact ⟨_, rfl, _, _, _, [], _, [], hW', trodAll_mk1 (shut_bool Try.underlying4 _), (trodAll_cons_mk (Below.trod laidOut (by kernel_rfl) (of_decide_eq_true (by kernel_rfl)) k0 bel lt0) (trodAll_cons_mk (Below.trod laidOut (by kernel_rfl) (of_decide_eq_true (by kernel_rfl)) k1 bel lt1) (trodAll_cons_mk (Below.trod laidOut (by kernel_rfl) (of_decide_eq_true (by kernel_rfl)) k2 bel lt2) (trodAll_cons_mk (Below.trod laidOut (by kernel_rfl) (of_decide_eq_true (by kernel_rfl)) k3 bel lt3) trodAll_mk0)))), rfl, bel.frame _, fun h => by cases h⟩
theorem over : Rows.agreeFairRow.holds Try.pinned (OpenSpec.ofChange Rows.agreeFairSpec) :=
  OpenClaim.holds_of_wide 3 Try.f3 rfl rfl rfl rfl rfl rfl rfl ⟨rfl, rfl, rfl, rfl, rfl⟩ rfl rfl rfl rfl rfl (by kernel_rfl) Try.func3 (by kernel_rfl)
    (of_decide_eq_true (by kernel_rfl)) (by unfold Func.isWrapper; first | (rw [if_pos (by decide +kernel)]; kernel_rfl) | (rw [if_neg (by decide +kernel)]; exact ⟨rfl, rfl⟩))
    (fun os started H enc _ => lifted os started H enc)
theorem proved : Rows.AgreeFairSaid := over
#print axioms proved

end Go.Proofs.Ytijoalaijkobpaa.agreeFair
