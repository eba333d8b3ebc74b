/- A block of the call's own, told by the list of its cells. -/
import Derived.Test.YtiocgmioijcjhaaOpen
import Derived.Lib.Hide
import Derived.WalkSmall
namespace Go.Proofs.Ytiocgmioijcjhaa
open Go.ChangeShapes Go.WideShapes Go.ChangeAt Go.RowKit
set_option linter.unusedVariables false

def CellsAt (w : World) (b : Nat) (vs : List Value) : Prop := (∀ (j : Nat) v, vs[j]? = some v → w.cell? ⟨b, j, none⟩ = some v) ∧ (∀ o, w.frozen? ⟨b, o, none⟩ = false) ∧ b < w.heap.size
/-- a cell stays behind a store elsewhere, and behind a new block -/
theorem cell_off {w : World} {b c x y : Nat} {v u : Value} (e : b < c) (h : w.cell? ⟨b, x, none⟩ = some v) : (w.setCell ⟨c, y, none⟩ u).cell? ⟨b, x, none⟩ = some v := by
  rw [World.cell?_setCell_other _ _ _ _ (by intro z; injection z with z; omega)]; exact h
theorem cell_new' {w : World} {a : Addr} {v : Value} {o : Obj} (h : w.cell? a = some v) : (w.alloc o).cell? a = some v := cell_later (Below.alloc (Below.refl _ _) (Nat.le_refl _) o) h
section
variable {w w' : World} {b c B : Nat} {vs : List Value}
theorem CellsAt.at_ (h : CellsAt w b vs) (j : Nat) {v : Value} (hj : vs[j]? = some v) : w.cell? ⟨b, j, none⟩ = some v := h.1 j v hj
theorem CellsAt.lt (h : CellsAt w b vs) : b < w.heap.size := h.2.2
theorem CellsAt.later (h : CellsAt w b vs) (hb : Below B w w') (hB : b < B) : CellsAt w' b vs :=
  ⟨fun j v hj => by rw [hb.cell (p := ⟨b, j, none⟩) hB]; exact h.1 j v hj, fun o => by rw [hb.frozen (p := ⟨b, o, none⟩) hB]; exact h.2.1 o, Nat.lt_of_lt_of_le h.2.2 hb.size⟩
theorem CellsAt.call (h : CellsAt w b vs) (hb : Below w.heap.size w w') : CellsAt w' b vs := h.later hb h.2.2
theorem CellsAt.drewN (h : CellsAt w b vs) (n : Nat) : CellsAt (w.drewN n) b vs := h
theorem CellsAt.drew (h : CellsAt w b vs) : CellsAt w.drew b vs := h
theorem CellsAt.alloc (h : CellsAt w b vs) (o : Obj) : CellsAt (w.alloc o) b vs := h.call ((Below.refl _ _).alloc (Nat.le_refl _) o)
theorem CellsAt.other (h : CellsAt w b vs) (e : b ≠ c) (j : Nat) (u : Value) : CellsAt (w.setCell ⟨c, j, none⟩ u) b vs :=
  ⟨fun i v hi => by rw [World.cell?_setCell_other _ _ _ _ (by intro x; injection x with x; exact e x.symm)]; exact h.1 i v hi, fun o => by rw [World.frozen?_setCell]; exact h.2.1 o, by simpa [World.setCell] using h.2.2⟩
theorem CellsAt.set_ (h : CellsAt w b vs) (j : Nat) (hj : j < vs.length) (u : Value) : CellsAt (w.setCell ⟨b, j, none⟩ u) b (vs.set j u) := by
  refine ⟨fun i v hi => ?_, fun o => by rw [World.frozen?_setCell]; exact h.2.1 o, by simpa [World.setCell] using h.2.2⟩
  by_cases e : i = j
  · subst e
    rw [List.getElem?_set_self hj] at hi
    injection hi with hi
    subst hi
    have h0 := h.1 i _ (List.getElem?_eq_getElem hj)
    exact World.cell?_setCell_same' _ _ _ (by rw [h0]; rfl)
  · rw [List.getElem?_set_ne (fun x => e x.symm)] at hi
    rw [World.cell?_setCell_other _ _ _ _ (by intro x; injection x with _ x; exact e x.symm)]
    exact h.1 i v hi
theorem CellsAt.new (w : World) (vs : List Value) (cs : Array Value) (T : TypeId) (h : cs.toList = vs) : CellsAt (w.alloc (.cells cs T)) w.heap.size vs := by
  refine ⟨fun j v hj => ?_, fun o => ?_, by simp⟩
  · rw [cell_of_row _ _ j cs T (0, 0) (heap_alloc_new w _)]
    subst h
    simpa using hj
  · have h1 := heap_alloc_new w (.cells cs T)
    unfold World.frozen?
    simp only [h1]
    simp
theorem CellsAt.new' {cs : Array Value} {T : TypeId} (hb : b = w.heap.size) (h : cs.toList = vs) : CellsAt (w.alloc (.cells cs T)) b vs := by
  subst hb; exact CellsAt.new w vs cs T h
theorem CellsAt.set2_0 {x v0 v1 : Value} (h : CellsAt w b [x, v1]) : CellsAt (w.setCell ⟨b, 0, none⟩ v0) b [v0, v1] := h.set_ 0 (by simp) v0
theorem CellsAt.set2_1 {x v0 v1 : Value} (h : CellsAt w b [v0, x]) : CellsAt (w.setCell ⟨b, 1, none⟩ v1) b [v0, v1] := h.set_ 1 (by simp) v1
theorem CellsAt.set4_0 {x v0 v1 v2 v3 : Value} (h : CellsAt w b [x, v1, v2, v3]) : CellsAt (w.setCell ⟨b, 0, none⟩ v0) b [v0, v1, v2, v3] := h.set_ 0 (by simp) v0
theorem CellsAt.set4_1 {x v0 v1 v2 v3 : Value} (h : CellsAt w b [v0, x, v2, v3]) : CellsAt (w.setCell ⟨b, 1, none⟩ v1) b [v0, v1, v2, v3] := h.set_ 1 (by simp) v1
theorem CellsAt.set4_2 {x v0 v1 v2 v3 : Value} (h : CellsAt w b [v0, v1, x, v3]) : CellsAt (w.setCell ⟨b, 2, none⟩ v2) b [v0, v1, v2, v3] := h.set_ 2 (by simp) v2
theorem CellsAt.set4_3 {x v0 v1 v2 v3 : Value} (h : CellsAt w b [v0, v1, v2, x]) : CellsAt (w.setCell ⟨b, 3, none⟩ v3) b [v0, v1, v2, v3] := h.set_ 3 (by simp) v3
theorem CellsAt.mk2 {v0 v1 : Value} (h0 : w.cell? ⟨b, 0, none⟩ = some v0) (h1 : w.cell? ⟨b, 1, none⟩ = some v1) (hf : ∀ o, w.frozen? ⟨b, o, none⟩ = false) (hl : b < w.heap.size) : CellsAt w b [v0, v1] := by
  refine ⟨fun j v hj => ?_, hf, hl⟩
  match j, hj with
  | 0, hj => cases hj; exact h0
  | 1, hj => cases hj; exact h1
theorem CellsAt.mk4 {v0 v1 v2 v3 : Value} (h0 : w.cell? ⟨b, 0, none⟩ = some v0) (h1 : w.cell? ⟨b, 1, none⟩ = some v1) (h2 : w.cell? ⟨b, 2, none⟩ = some v2) (h3 : w.cell? ⟨b, 3, none⟩ = some v3) (hf : ∀ o, w.frozen? ⟨b, o, none⟩ = false) (hl : b < w.heap.size) : CellsAt w b [v0, v1, v2, v3] := by
  refine ⟨fun j v hj => ?_, hf, hl⟩
  match j, hj with
  | 0, hj => cases hj; exact h0
  | 1, hj => cases hj; exact h1
  | 2, hj => cases hj; exact h2
  | 3, hj => cases hj; exact h3
end

end Go.Proofs.Ytiocgmioijcjhaa
