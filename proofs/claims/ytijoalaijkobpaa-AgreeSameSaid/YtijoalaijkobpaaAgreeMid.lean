/- What agree.Mid computes. -/
import Derived.Test.YtijoalaijkobpaaView
import Derived.Test.YtijoalaijkobpaaMids
namespace Go.Proofs.Ytijoalaijkobpaa
open Go.ChangeShapes Go.WideShapes Go.ChangeAt Go.RowKit
set_option linter.unusedVariables false

abbrev view4 (L : List Int) (k : Nat) : List Int := [viewF L k 0, viewF L k 1, viewF L k 2, viewF L k 3]
theorem hear_all (xs : List Int) (k : Nat) (hx : xs.length = 4) (hk : k ≤ 4) : hearK xs [true, true, true, true] k = xs.take k := by
  induction k with
  | zero => rfl
  | succ k ih =>
    rw [hearK, ih (by omega), List.take_succ_eq_append_getElem (by omega)]
    have : ([true, true, true, true] : List Bool).getD k false = true := by
      rcases (by omega : k = 0 ∨ k = 1 ∨ k = 2 ∨ k = 3) with rfl | rfl | rfl | rfl <;> rfl
    rw [this, if_pos rfl, List.getD_eq_getElem?_getD, List.getElem?_eq_getElem (by omega)]; rfl
set_option maxHeartbeats 4000000 in
set_option maxRecDepth 100000 in
theorem amid_is (L : List Int) (k : Nat) (hL : L.length = 80) (hLb : ∀ n, -2147483648 ≤ L.getD n 0 ∧ L.getD n 0 ≤ 2147483647) (hk : k < 4) (w : World) :
    Calls Try.prog 27 #[.agg (i32s L).toArray, .int .i64 k] w fun e w' => e = .returned (.tuple #[.int .i32 (midI (view4 L k)), .int .i64 0]) ∧ Below w.heap.size w w' := by
  have LS : (i32s L).toArray.size = 80 := by rw [List.size_toArray, i32s, List.length_map, hL]
  have hinfo : (Try.prog.info? 26).map (·.size) = some 80 := by kernel_rfl
  have HL := Lib.hid hL; have HLB := Lib.hid hLb
  have hr : (w.alloc (.cells (i32s L).toArray 26)).heap[w.heap.size]? = some (.cells (i32s L).toArray 26 (0, 0)) := heap_alloc_new _ _
  clear hL hLb
  go_enter Try.func27, Try.ntmps27
  go_wp2_with (first | (refine wpList_load_row rfl 26 (.tmp 2) rfl (w.heap.size) (by simp [Act.eval]) 26 (i32s L).toArray (0, 0) _ hr Try.underlying26 rfl (by rw [hinfo]; exact congrArg some LS.symm) ?_; go_frame))
  refine (view_is L k HL.out HLB.out hk _).mono ?_
  rintro e1 w1 ⟨rfl, hb1⟩
  have HB1 := Lib.hid (show Below w.heap.size w w1 by repeat (first | with_reducible exact Below.refl _ _ | ((with_reducible refine Below.setCell ?_ ?_ _); rotate_left; (· first | (simp; done) | omega | (simp; omega))) | with_reducible refine below_drewN ?_ _ | with_reducible refine Below.drew ?_ | ((with_reducible refine Below.trans ?_ (Below.mono hb1 ?_)); rotate_left; (· first | (simp; done) | omega | (simp; omega))) | ((with_reducible refine Below.alloc ?_ ?_ _); rotate_left; (· first | (simp; done) | omega | (simp; omega))) | exact Below.refl _ _ | refine Below.setCell ?_ (by first | (simp; done) | omega | (simp; omega)) _ | refine below_drewN ?_ _ | refine Below.drew ?_ | refine Below.trans ?_ (Below.mono hb1 (by first | (simp; done) | omega | (simp; omega))) | refine Below.alloc ?_ (by first | (simp; done) | omega | (simp; omega)) _))
  have zb1 := HB1.out.size
  clear hb1 hr LS
  have hmid : midI (view4 L k) = midI (hearK (view4 L k) [true, true, true, true] (view4 L k).length) := by rw [show (view4 L k).length = 4 from rfl, hear_all _ 4 rfl (Nat.le_refl _)]; rfl
  have hpos : 0 < (hearK (view4 L k) [true, true, true, true] (view4 L k).length).length := by rw [show (view4 L k).length = 4 from rfl, hear_all _ 4 rfl (Nat.le_refl _)]; simp
  have HM := Lib.hid hmid; have HP := Lib.hid hpos
  clear hmid hpos
  go_wp2_with fail
  refine (mid12 (view4 L k) [true, true, true, true] _ _ _
    (.inr ⟨by simp, w1.heap.size, 0, 4, rfl, by simp, by omega, fun i hi => by
      rw [Nat.zero_add]
      refine cell_new' ?_
      rw [cell_of_row _ _ i _ _ _ (heap_alloc_new _ _)]
      simp at hi
      rcases (by omega : i = 0 ∨ i = 1 ∨ i = 2 ∨ i = 3) with rfl | rfl | rfl | rfl <;> rfl⟩)
    (.inr ⟨by simp, w1.heap.size + 1, 0, 4, rfl, by simp, by omega, fun i hi => by
      rw [Nat.zero_add]
      have h := heap_alloc_new (w1.alloc (.cells #[.int .i32 (viewF L k 0), .int .i32 (viewF L k 1), .int .i32 (viewF L k 2), .int .i32 (viewF L k 3)] 22)) (.cells #[.bool true, .bool true, .bool true, .bool true] 4)
      rw [show (w1.alloc (.cells #[.int .i32 (viewF L k 0), .int .i32 (viewF L k 1), .int .i32 (viewF L k 2), .int .i32 (viewF L k 3)] 22)).heap.size = w1.heap.size + 1 by simp] at h
      rw [cell_of_row _ _ i _ _ _ h]
      simp at hi
      rcases (by omega : i = 0 ∨ i = 1 ∨ i = 2 ∨ i = 3) with rfl | rfl | rfl | rfl <;> rfl⟩) (by simp) rfl HP.out).mono ?_
  rw [← HM.out]
  rintro e2 w2 ⟨rfl, hb2⟩
  have HB2 := Lib.hid (HB1.out.trans (show Below w.heap.size w1 w2 by repeat (first | with_reducible exact Below.refl _ _ | ((with_reducible refine Below.setCell ?_ ?_ _); rotate_left; (· first | (simp; done) | omega | (simp; omega))) | with_reducible refine below_drewN ?_ _ | with_reducible refine Below.drew ?_ | ((with_reducible refine Below.trans ?_ (Below.mono hb2 ?_)); rotate_left; (· first | (simp; done) | omega | (simp; omega))) | ((with_reducible refine Below.alloc ?_ ?_ _); rotate_left; (· first | (simp; done) | omega | (simp; omega))) | exact Below.refl _ _ | refine Below.setCell ?_ (by first | (simp; done) | omega | (simp; omega)) _ | refine below_drewN ?_ _ | refine Below.drew ?_ | refine Below.trans ?_ (Below.mono hb2 (by first | (simp; done) | omega | (simp; omega))) | refine Below.alloc ?_ (by first | (simp; done) | omega | (simp; omega)) _)))
  clear hb2
  go_wp2
  go_ret2
  exact ⟨rfl, HB2.out⟩

end Go.Proofs.Ytijoalaijkobpaa
