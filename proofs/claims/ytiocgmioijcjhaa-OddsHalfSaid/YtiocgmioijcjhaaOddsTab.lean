/- A table of 256 numbers in a block, and as a value. -/
import Derived.Test.YtiocgmioijcjhaaOddsLaw
import Derived.Test.YtiocgmioijcjhaaCutsIdx
import Derived.Laws.Rows
import Derived.Laws.Tables
import Derived.Deep.WholeRow
namespace Go.Proofs.Ytiocgmioijcjhaa
open Go.ChangeShapes Go.WideShapes Go.ChangeAt Go.RowKit
set_option linter.unusedVariables false

abbrev TTab : TypeId := 74
def tabV (T : Tab) : Array Value := ((List.range 256).map fun u => Value.int .i64 (W64 (T u))).toArray
theorem tabV_size (T : Tab) : (tabV T).size = 256 := by simp [tabV]
theorem tabV_at (T : Tab) {u : Nat} (h : u < 256) : (tabV T)[u]? = some (.int .i64 (W64 (T u))) := by
  simp [tabV, h]
theorem tabV_one (T : Tab) : (tabV T).all (·.oneCell') = true := by
  unfold tabV
  rw [List.all_toArray, List.all_eq_true]
  intro x hx
  obtain ⟨y, _, rfl⟩ := List.mem_map.1 hx
  rfl
theorem tabV_set (T : Tab) {u : Nat} (h : u < 256) (x : Int) : (tabV T).setIfInBounds u (.int .i64 (W64 x)) = tabV (fun v => if v = u then x else T v) := by
  apply Array.ext_getElem?
  intro i
  by_cases hi : i < 256
  · rw [tabV_at _ hi]
    by_cases e : i = u
    · subst e
      rw [Array.getElem?_setIfInBounds_self_of_lt (by rw [tabV_size]; exact hi), if_pos rfl]
    · rw [Array.getElem?_setIfInBounds_ne (fun h => e h.symm), tabV_at _ hi, if_neg e]
  · rw [Array.getElem?_eq_none (by rw [Array.size_setIfInBounds, tabV_size]; omega), Array.getElem?_eq_none (by rw [tabV_size]; omega)]
theorem tabV_zero : tabV (fun _ => 0) = (List.replicate 256 (Value.int .i64 0)).toArray := by
  unfold tabV
  rw [List.map_const', List.length_range, show W64 0 = 0 from by decide]
theorem tab_zero (w : World) : Sem.run Try.prog (zeroValue TTab) w = Result.ok (.agg (tabV fun _ => 0)) w := by
  rw [tabV_zero]
  kernel_rfl
theorem tab_info : (Try.prog.info? TTab).map (·.size) = some 256 := by kernel_rfl
theorem tab_info' (T : Tab) : (Try.prog.info? TTab).map (·.size) = some (tabV T).size := by rw [tabV_size]; exact tab_info
theorem tab_index (T : Tab) {k : Nat} (hk : k < 256) (w : World) : (Instr.index TTab (.agg (tabV T)) (.int .i64 (k : Int))).run Try.prog w = .ok (.int .i64 (W64 (T k))) w := by
  have hs : (sizeOf 3).run Try.prog w = .ok 1 w := by kernel_rfl
  have ha : (isAgg 3).run Try.prog w = .ok false w := by kernel_rfl
  have e1 : (0 : Int) ≤ (k : Int) ∧ (k : Int) < ((256 : Nat) : Int) := by omega
  unfold Instr.index
  simp only [asIntOf, Sem.run_bind, Sem.run_pure, Result.andThen_ok, run_underlying Try.underlying74 w]
  rw [if_pos e1]
  simp only [Sem.run_bind, hs, Result.andThen_ok, part, ha, Int.toNat_natCast, Nat.mul_one, tabV_at T hk]
  rfl
/-- the table lies in a block -/
def TabAt (w : World) (g : Nat) (T : Tab) : Prop := w.heap[g]? = some (.cells (tabV T) TTab (0, 0))
theorem TabAt.lt {w : World} {g : Nat} {T : Tab} (h : TabAt w g T) : g < w.heap.size := (Array.getElem?_eq_some_iff.1 h).1
theorem TabAt.cell {w : World} {g u : Nat} {T : Tab} (h : TabAt w g T) (hu : u < 256) : w.cell? ⟨g, u, none⟩ = some (.int .i64 (W64 (T u))) := by
  rw [cell_of_row w g u _ _ _ h, tabV_at T hu]
theorem TabAt.frozen {w : World} {g u : Nat} {T : Tab} (h : TabAt w g T) : w.frozen? ⟨g, u, none⟩ = false := frozen_of_row w g u _ _ h
theorem TabAt.set {w : World} {g u : Nat} {T : Tab} (h : TabAt w g T) (hu : u < 256) (x : Int) : TabAt (w.setCell ⟨g, u, none⟩ (.int .i64 (W64 x))) g (fun v => if v = u then x else T v) := by
  unfold TabAt
  rw [heap_setCell_same w g u _ _ _ h, tabV_set T hu]
theorem TabAt.other {w : World} {g b u : Nat} {v : Value} {T : Tab} (h : TabAt w g T) (hb : g ≠ b) : TabAt (w.setCell ⟨b, u, none⟩ v) g T := by
  unfold TabAt
  rw [heap_setCell_other w _ _ _ hb]; exact h
theorem TabAt.alloc {w : World} {g : Nat} {T : Tab} (h : TabAt w g T) (o : Obj) : TabAt (w.alloc o) g T := by
  unfold TabAt
  rw [show (w.alloc o).heap = w.heap.push o from rfl, Array.getElem?_push, if_neg (Nat.ne_of_lt h.lt)]; exact h
theorem TabAt.new (w : World) (T : Tab) : TabAt (w.alloc (.cells (tabV T) TTab)) w.heap.size T := by
  unfold TabAt
  rw [show (w.alloc (.cells (tabV T) TTab)).heap = w.heap.push (.cells (tabV T) TTab) from rfl, Array.getElem?_push, if_pos rfl]
theorem TabAt.drewN {w : World} {g n : Nat} {T : Tab} (h : TabAt w g T) : TabAt (w.drewN n) g T := h

end Go.Proofs.Ytiocgmioijcjhaa
