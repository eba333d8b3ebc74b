/- What agree.Odd computes. -/
import Derived.Test.YtijoalaijkobpaaTalk
import Derived.Deep.QuietTactic
namespace Go.Proofs.Ytijoalaijkobpaa
open Go.ChangeShapes Go.WideShapes Go.ChangeAt Go.RowKit
set_option linter.unusedVariables false

def oddTo (L : List Int) (k j i : Nat) : Bool := (List.range i).all fun m => !(decide (m ≠ j) && (decide (m ≠ k) && decide (L.getD (16 + m * 16 + j * 4 + k) 0 = L.getD (m * 4 + k) 0)))
def oddF (L : List Int) (k j : Nat) : Bool := if j = k then false else oddTo L k j 4
def oddL (L : List Int) (k j : Nat) (c : Bool) : List Value := (List.range 4).map fun m => .bool (if m < j then oddF L k m else if m = j then c else false)
theorem oddTo_succ (L : List Int) (k j i : Nat) : oddTo L k j (i + 1) = (oddTo L k j i && !(decide (i ≠ j) && (decide (i ≠ k) && decide (L.getD (16 + i * 16 + j * 4 + k) 0 = L.getD (i * 4 + k) 0)))) := by
  simp [oddTo, List.range_succ, List.all_append]
theorem oddL_len (L : List Int) (k j : Nat) (c : Bool) : (oddL L k j c).length = 4 := by simp [oddL]
theorem oddL_set (L : List Int) (k j : Nat) (c d : Bool) (h : j < 4) : (oddL L k j c).set j (.bool d) = oddL L k j d := by
  rcases (by omega : j = 0 ∨ j = 1 ∨ j = 2 ∨ j = 3) with rfl | rfl | rfl | rfl <;> simp [oddL, List.range, List.range.loop]
theorem oddL_next (L : List Int) (k j : Nat) (h : j < 4) : oddL L k j (oddF L k j) = oddL L k (j + 1) false := by
  rcases (by omega : j = 0 ∨ j = 1 ∨ j = 2 ∨ j = 3) with rfl | rfl | rfl | rfl <;> simp [oddL, List.range, List.range.loop]
structure OdL (w0 : World) (L : List Int) (o : List Value) (w : World) : Prop where
  t : CellsAt w w0.heap.size (i32s L)
  r : CellsAt w (w0.heap.size + 1) [.bool false, .bool false, .bool false, .bool false]
  o : CellsAt w (w0.heap.size + 1 + 1) o
  b : Below w0.heap.size w0 w
theorem OdL.drew {w0 w : World} {L : List Int} {o : List Value} (h : OdL w0 L o w) : OdL w0 L o w.drew := ⟨h.t.drew, h.r.drew, h.o.drew, h.b.drew⟩
theorem OdL.drewN {w0 w : World} {L : List Int} {o : List Value} (h : OdL w0 L o w) (n : Nat) : OdL w0 L o (w.drewN n) := ⟨h.t.drewN n, h.r.drewN n, h.o.drewN n, below_drewN h.b n⟩
theorem OdL.set_ {w0 w : World} {L : List Int} {o : List Value} (h : OdL w0 L o w) (n : Nat) (hn : n < o.length) (u : Value) : OdL w0 L (o.set n u) (w.setCell ⟨w0.heap.size + 1 + 1, n, none⟩ u) :=
  ⟨h.t.other (by omega) n u, h.r.other (by omega) n u, h.o.set_ n hn u, h.b.setCell (p := ⟨w0.heap.size + 1 + 1, n, none⟩) (by simp; omega) u⟩
theorem int_cells (w : World) (b : Nat) (L : List Int) (h : CellsAt w b (i32s L)) (n : Nat) (hn : n < L.length) : w.cell? ⟨b, n, none⟩ = some (.int .i32 (L.getD n 0)) :=
  h.at_ n (by rw [i32s, List.getElem?_map, List.getD_eq_getElem?_getD, List.getElem?_eq_getElem hn]; rfl)
set_option maxHeartbeats 8000000 in
set_option maxRecDepth 100000 in
theorem odd_is (L : List Int) (k : Nat) (hL : L.length = 80) (hk : k < 4) (w : World) :
    Calls Try.prog 11 #[.agg (i32s L).toArray, .int .i64 k] w fun e w' => e = .returned (.tuple #[.agg #[.bool (oddF L k 0), .bool (oddF L k 1), .bool (oddF L k 2), .bool (oddF L k 3)], .int .i64 0]) ∧ Below w.heap.size w w' := by
  have HL := Lib.hid hL
  clear hL
  have hk1 : (k : Int) < 4 := by omega
  go_enter Try.func11, Try.ntmps11
  go_wp2
  go_loopw [16] (fun x wr => ∃ j : Nat, j ≤ 4 ∧ x = .int .i64 j ∧ OdL w L (oddL L k j false) wr) (fun x _ => 4 - (intOf x).toNat)
  case atStart =>
    refine ⟨0, by omega, rfl, ?_, ?_, ?_, ?_⟩
    · exact ((CellsAt.new w _ _ _ rfl).alloc _).alloc _
    · exact (CellsAt.new' (by simp) rfl).alloc _
    · exact CellsAt.new' (by simp) rfl
    · repeat (first | with_reducible exact Below.refl _ _ | ((with_reducible refine Below.setCell ?_ ?_ _); rotate_left; (· first | (simp; done) | omega | (simp; omega))) | with_reducible refine below_drewN ?_ _ | with_reducible refine Below.drew ?_ | ((with_reducible refine Below.alloc ?_ ?_ _); rotate_left; (· first | (simp; done) | omega | (simp; omega))) | exact Below.refl _ _ | refine Below.setCell ?_ (by first | (simp; done) | omega | (simp; omega)) _ | refine below_drewN ?_ _ | refine Below.drew ?_ | refine Below.alloc ?_ (by first | (simp; done) | omega | (simp; omega)) _)
  case round =>
    obtain ⟨j, hj, rfl, hT⟩ := hrel
    have HT := Lib.hid hT
    clear hT
    by_cases hlt : j < 4
    · by_cases hjk : j = k
      · subst hjk
        have q1 : ((j : Int) == (j : Int)) = true := by simp
        go_wp2
        go_round
        case rel => exact ⟨j + 1, by omega, by go_num, by rw [← oddL_next L j j hlt, oddF, if_pos rfl]; exact HT.out⟩
        case measure => simp [intOf]; omega
      · have q1 : ((j : Int) == (k : Int)) = false := by rw [beq_eq_false_iff_ne]; omega
        have hfz := HT.out.o.2.1
        have hfl := HT.out.o.lt
        have c0 : wr.cell? ⟨w.heap.size + 1 + 1, j, none⟩ = some (.bool false) := HT.out.o.at_ j (by rcases (by omega : j = 0 ∨ j = 1 ∨ j = 2 ∨ j = 3) with rfl | rfl | rfl | rfl <;> simp [oddL, List.range, List.range.loop])
        go_wp2
        go_loopw [24] (fun x wi => ∃ i : Nat, i ≤ 4 ∧ x = .int .i64 i ∧ OdL w L (oddL L k j (oddTo L k j i)) wi) (fun x _ => 4 - (intOf x).toNat)
        case atStart =>
          refine ⟨0, by omega, rfl, ?_⟩
          have h9 := HT.out.set_ j (by rw [oddL_len]; exact hlt) (.bool true)
          rw [oddL_set _ _ _ _ _ hlt] at h9
          exact h9
        case round =>
          obtain ⟨i, hi, rfl, hT⟩ := hrel
          clear HT c0 hfz hfl
          have HT := Lib.hid hT
          clear hT
          by_cases hlt2 : i < 4
          · have h80 := HL.out
            have hi0 : (0 : Int) ≤ (i : Int) := by omega
            have hj0 : (0 : Int) ≤ (j : Int) := by omega
            have hk0 : (0 : Int) ≤ (k : Int) := by omega
            have hi1 : (i : Int) < 4 := by omega
            have hj1 : (j : Int) < 4 := by omega
            by_cases hij : i = j
            · subst hij
              have q2 : ((i : Int) != (i : Int)) = false := by simp
              clear h80
              go_wp2
              go_region
              go_wp2
              go_round
              case rel => exact ⟨i + 1, by omega, by go_num, by rw [oddTo_succ]; simpa using HT.out.drew⟩
              case measure => simp [intOf]; omega
            · have q2 : ((i : Int) != (j : Int)) = true := by rw [bne_iff_ne]; omega
              by_cases hik : i = k
              · subst hik
                have q3 : ((i : Int) != (i : Int)) = false := by simp
                clear h80
                go_wp2
                go_region
                go_wp2
                go_round
                case rel => exact ⟨i + 1, by omega, by go_num, by rw [oddTo_succ]; simpa using HT.out.drew⟩
                case measure => simp [intOf]; omega
              · have q3 : ((i : Int) != (k : Int)) = true := by rw [bne_iff_ne]; omega
                have c1 := int_cells _ _ _ HT.out.t (16 + i * 16 + j * 4 + k) (by omega)
                have c2 := int_cells _ _ _ HT.out.t (i * 4 + k) (by omega)
                have hs := oddTo_succ L k j i
                obtain ⟨x, hx⟩ : ∃ x, L.getD (16 + i * 16 + j * 4 + k) 0 = x := ⟨_, rfl⟩
                obtain ⟨y, hy⟩ : ∃ y, L.getD (i * 4 + k) 0 = y := ⟨_, rfl⟩
                rw [hx, hy] at hs
                rw [hx] at c1
                rw [hy] at c2
                have HS := Lib.hid hs
                clear hx hy hs h80
                by_cases hxy : x = y
                · have q4 : (x == y) = true := by simpa using hxy
                  have HX := Lib.hid hxy
                  have hfz := HT.out.o.2.1
                  have hfl := HT.out.o.lt
                  have c0 : wr.cell? ⟨w.heap.size + 1 + 1, j, none⟩ = some (.bool (oddTo L k j i)) := HT.out.o.at_ j (by rcases (by omega : j = 0 ∨ j = 1 ∨ j = 2 ∨ j = 3) with rfl | rfl | rfl | rfl <;> simp [oddL, List.range, List.range.loop])
                  clear hxy
                  go_wp2
                  go_region
                  go_wp2
                  go_round
                  case rel =>
                    have h9 := (HT.out.set_ j (by rw [oddL_len]; exact hlt) (.bool false)).drew
                    rw [oddL_set _ _ _ _ _ hlt] at h9
                    exact ⟨i + 1, by omega, by go_num, by rw [HS.out, HX.out]; simpa [hij, hik] using h9⟩
                  case measure => simp [intOf]; omega
                · have q4 : (x == y) = false := by simpa using hxy
                  have HX := Lib.hid hxy
                  clear hxy
                  go_wp2
                  go_region
                  go_wp2
                  go_round
                  case rel => exact ⟨i + 1, by omega, by go_num, by rw [HS.out]; simpa [hij, hik, HX.out] using HT.out.drew⟩
                  case measure => simp [intOf]; omega
          · obtain rfl : i = 4 := by omega
            go_wp2
            go_round
            case rel => exact ⟨j + 1, by omega, by go_num, by rw [← oddL_next L k j hlt, oddF, if_neg hjk]; exact HT.out⟩
            case measure => simp [intOf]; omega
    · obtain rfl : j = 4 := by omega
      have r0 := HT.out.r.at_ 0 rfl
      have r1 := HT.out.r.at_ 1 rfl
      have r2 := HT.out.r.at_ 2 rfl
      have r3 := HT.out.r.at_ 3 rfl
      have o0 : wr.cell? ⟨w.heap.size + 1 + 1, 0, none⟩ = some (.bool (oddF L k 0)) := HT.out.o.at_ 0 (by simp [oddL, List.range, List.range.loop])
      have o1 : wr.cell? ⟨w.heap.size + 1 + 1, 1, none⟩ = some (.bool (oddF L k 1)) := HT.out.o.at_ 1 (by simp [oddL, List.range, List.range.loop])
      have o2 : wr.cell? ⟨w.heap.size + 1 + 1, 2, none⟩ = some (.bool (oddF L k 2)) := HT.out.o.at_ 2 (by simp [oddL, List.range, List.range.loop])
      have o3 : wr.cell? ⟨w.heap.size + 1 + 1, 3, none⟩ = some (.bool (oddF L k 3)) := HT.out.o.at_ 3 (by simp [oddL, List.range, List.range.loop])
      have fr := HT.out.r.2.1
      have fo := HT.out.o.2.1
      have zr := HT.out.r.lt
      have zo := HT.out.o.lt
      have hB := HT.out.b
      clear HT
      go_wp2
      exact bodyPost_ret (v := .tuple #[.agg #[.bool (oddF L k 0), .bool (oddF L k 1), .bool (oddF L k 2), .bool (oddF L k 3)], .int .i64 0]) (by simp [results, Try.results11, go_sem, r0, r1, r2, r3]) rfl ⟨rfl, by repeat (first | with_reducible exact Below.refl _ _ | with_reducible exact hB | ((with_reducible refine Below.setCell ?_ ?_ _); rotate_left; (· first | (simp; done) | omega | (simp; omega))) | with_reducible refine below_drewN ?_ _ | with_reducible refine Below.drew ?_ | ((with_reducible refine Below.alloc ?_ ?_ _); rotate_left; (· first | (simp; done) | omega | (simp; omega))) | exact Below.refl _ _ | exact hB | refine Below.setCell ?_ (by first | (simp; done) | omega | (simp; omega)) _ | refine below_drewN ?_ _ | refine Below.drew ?_ | refine Below.alloc ?_ (by first | (simp; done) | omega | (simp; omega)) _)⟩

end Go.Proofs.Ytijoalaijkobpaa
