/- Contracts of the library's small functions on slices: Equal, Index, Contains. -/
import Derived.Test.YtacelddnklnhpaaOpen
import Derived.Test.YtacelddnklnhpaaNum
import Derived.Lib.Hide
import Derived.OwnWalk
import Derived.WalkSpells
namespace Go.Proofs.Ytacelddnklnhpaa
open Go.ChangeShapes Go.WideShapes Go.ChangeAt Go.RowKit
set_option linter.unusedVariables false

/-- a slice of integers that reads as a list -/
def IntsAt (K : IntKind) (w : World) (v : Value) (xs : List Int) : Prop :=
  (xs = [] ∧ (v = .slice none 0 0 ∨ ∃ a cap, v = .slice (some a) 0 cap)) ∨
  (0 < xs.length ∧ ∃ b off cap, v = .slice (some ⟨b, off, none⟩) xs.length cap ∧ xs.length ≤ cap ∧ cap ≤ 9223372036854775807 ∧ ∀ i, i < xs.length → w.cell? ⟨b, off + i, none⟩ = some (.int K (xs.getD i 0)))
theorem IntsAt.drewN {K : IntKind} {w : World} {v : Value} {xs : List Int} (h : IntsAt K w v xs) (m : Nat) : IntsAt K (w.drewN m) v xs := h
theorem IntsAt.later {K : IntKind} {B : Nat} {w w' : World} {v : Value} {xs : List Int} (h : IntsAt K w v xs) (hb : Below B w w') (hB : w.heap.size ≤ B) : IntsAt K w' v xs := by
  rcases h with h | ⟨h0, b, off, cap, hv, hl, hm, hc⟩
  · exact .inl h
  · refine .inr ⟨h0, b, off, cap, hv, hl, hm, fun i hi => ?_⟩
    have := hc i hi
    rw [hb.cell (Nat.lt_of_lt_of_le (World.block_lt_of_cell? _ _ this) hB)]
    exact this
theorem IntsAt.len {K : IntKind} {w : World} {v : Value} {xs : List Int} (h : IntsAt K w v xs) : ∃ a cap, v = .slice a xs.length cap := by
  rcases h with ⟨rfl, rfl | ⟨a, cap, rfl⟩⟩ | ⟨h0, b, off, cap, rfl, -⟩
  · exact ⟨none, 0, rfl⟩
  · exact ⟨_, cap, rfl⟩
  · exact ⟨_, cap, rfl⟩
/-- a slice of bools that reads as a list -/
def BoolsAt (w : World) (v : Value) (xs : List Bool) : Prop :=
  (xs = [] ∧ (v = .slice none 0 0 ∨ ∃ a cap, v = .slice (some a) 0 cap)) ∨
  (0 < xs.length ∧ ∃ b off cap, v = .slice (some ⟨b, off, none⟩) xs.length cap ∧ xs.length ≤ cap ∧ cap ≤ 9223372036854775807 ∧ ∀ i, i < xs.length → w.cell? ⟨b, off + i, none⟩ = some (.bool (xs.getD i false)))
theorem BoolsAt.later {B : Nat} {w w' : World} {v : Value} {xs : List Bool} (h : BoolsAt w v xs) (hb : Below B w w') (hB : w.heap.size ≤ B) : BoolsAt w' v xs := by
  rcases h with h | ⟨h0, b, off, cap, hv, hl, hm, hc⟩
  · exact .inl h
  · refine .inr ⟨h0, b, off, cap, hv, hl, hm, fun i hi => ?_⟩
    have := hc i hi
    rw [hb.cell (Nat.lt_of_lt_of_le (World.block_lt_of_cell? _ _ this) hB)]
    exact this
theorem BoolsAt.len {w : World} {v : Value} {xs : List Bool} (h : BoolsAt w v xs) : ∃ a cap, v = .slice a xs.length cap := by
  rcases h with ⟨rfl, rfl | ⟨a, cap, rfl⟩⟩ | ⟨h0, b, off, cap, rfl, -⟩
  · exact ⟨none, 0, rfl⟩
  · exact ⟨_, cap, rfl⟩
  · exact ⟨_, cap, rfl⟩
theorem own_ints' {K : IntKind} {E : TypeId} {w : World} {base : Nat} {xs : List Int} {v : Value} (h : w.ownsRow base E 1 v xs.length (xs.map (.int K))) : IntsAt K w v xs := by
  by_cases h0 : xs = []
  · subst h0
    rcases h.2 with ⟨hv, -⟩ | ⟨g, cap, cur, hv, -⟩
    · exact .inl ⟨rfl, .inl hv⟩
    · exact .inl ⟨rfl, .inr ⟨_, cap, hv⟩⟩
  · rcases h.2 with ⟨-, hn⟩ | ⟨g, cap, cur, hv, hb, hblk, hl, hm, -, -⟩
    · exact absurd (List.eq_nil_of_length_eq_zero hn) h0
    · subst hv
      refine .inr ⟨List.length_pos_iff.2 h0, g, 0, cap, rfl, hl, by unfold maxLen at hm; exact hm, fun i hi => ?_⟩
      rw [Nat.zero_add, h.cellAt i (by omega)]
      simp [hi]
theorem own_bools' {E : TypeId} {w : World} {base : Nat} {xs : List Bool} {v : Value} (h : w.ownsRow base E 1 v xs.length (xs.map .bool)) : BoolsAt w v xs := by
  by_cases h0 : xs = []
  · subst h0
    rcases h.2 with ⟨hv, -⟩ | ⟨g, cap, cur, hv, -⟩
    · exact .inl ⟨rfl, .inl hv⟩
    · exact .inl ⟨rfl, .inr ⟨_, cap, hv⟩⟩
  · rcases h.2 with ⟨-, hn⟩ | ⟨g, cap, cur, hv, hb, hblk, hl, hm, -, -⟩
    · exact absurd (List.eq_nil_of_length_eq_zero hn) h0
    · subst hv
      refine .inr ⟨List.length_pos_iff.2 h0, g, 0, cap, rfl, hl, by unfold maxLen at hm; exact hm, fun i hi => ?_⟩
      rw [Nat.zero_add, h.cellAt i (by omega)]
      simp [hi]
theorem own_empty (w : World) (E : TypeId) (size : Nat) : (w.alloc (.cells #[] E)).ownsRow w.heap.size E size (.slice (some ⟨w.heap.size, 0, none⟩) 0 0) 0 [] :=
  ⟨by simp, .inr ⟨w.heap.size, 0, #[], rfl, Nat.le_refl _, (by show (w.heap.push _)[w.heap.size]? = _; simp), Nat.le_refl _, by unfold maxLen; omega, by simp, by simp⟩⟩
theorem isRow_ints {K : IntKind} {w : World} {a : Option Addr} {len cap : Nat} {zs : List Int} (h : Open.IsRow K w a len cap zs) : IntsAt K w (.slice a len cap) (zs.take len) ∧ (zs.take len).length = len := by
  by_cases h0 : len = 0
  · subst h0
    refine ⟨.inl ⟨by simp, ?_⟩, by simp⟩
    rcases h with ⟨rfl, -, rfl, -⟩ | ⟨x, rfl, -⟩
    · exact .inl rfl
    · exact .inr ⟨x, cap, rfl⟩
  · obtain ⟨b, off, rfl, hl, hm, hz, hc, -⟩ := h.pos (by omega)
    have e : (zs.take len).length = len := by simp; omega
    refine ⟨.inr ⟨by omega, b, off, cap, by rw [e], by omega, by unfold maxLen at hm; exact hm, fun i hi => ?_⟩, e⟩
    rw [hc i (by omega)]
    rw [List.getD_eq_getElem?_getD, List.getD_eq_getElem?_getD, List.getElem?_take]
    rw [if_pos (by omega)]
theorem isRow_bd {w : World} {a : Option Addr} {len cap : Nat} {zs : List Int} (h : Open.IsRow .i32 w a len cap zs) : ∀ x ∈ zs, -2147483648 ≤ x ∧ x ≤ 2147483647 := by
  rcases h with ⟨-, -, -, rfl⟩ | ⟨x, rfl, hl, hm, hz, hcell, hwz⟩
  · intro x hx; simp at hx
  · intro x hx; exact bounds_i32 (hwz x hx)
theorem isRowB_bools {w : World} {a : Option Addr} {len cap : Nat} {zs : List Bool} (h : Open.IsRowB w a len cap zs) : BoolsAt w (.slice a len cap) (zs.take len) ∧ (zs.take len).length = len := by
  by_cases h0 : len = 0
  · subst h0
    refine ⟨.inl ⟨by simp, ?_⟩, by simp⟩
    rcases h with ⟨rfl, -, rfl, -⟩ | ⟨x, rfl, -⟩
    · exact .inl rfl
    · exact .inr ⟨x, cap, rfl⟩
  · obtain ⟨b, off, rfl, hl, hm, hz, hc⟩ := h.pos (by omega)
    have e : (zs.take len).length = len := by simp; omega
    refine ⟨.inr ⟨by omega, b, off, cap, by rw [e], by omega, by unfold maxLen at hm; exact hm, fun i hi => ?_⟩, e⟩
    rw [hc i (by omega)]
    rw [List.getD_eq_getElem?_getD, List.getD_eq_getElem?_getD, List.getElem?_take]
    rw [if_pos (by omega)]
theorem own_later {w w' : World} {base B : Nat} {e : TypeId} {size : Nat} {v : Value} {n : Nat} {xs : List Value} (h : w.ownsRow base e size v n xs) (hb : Below B w w') (hB : w.heap.size ≤ B) : w'.ownsRow base e size v n xs := by
  obtain ⟨h0, h1 | ⟨g, cap, cur, e1, e2, e3, e4⟩⟩ := h
  · exact ⟨h0, .inl h1⟩
  · refine ⟨h0, .inr ⟨g, cap, cur, e1, e2, ?_, e4⟩⟩
    rw [hb.block g (Nat.lt_of_lt_of_le (Array.getElem?_eq_some_iff.1 e3).1 hB)]
    exact e3
theorem ints_nil {K : IntKind} {w w' : World} {v : Value} (h : IntsAt K w v []) : IntsAt K w' v [] := by
  rcases h with h | ⟨h, -⟩
  · exact .inl h
  · exact absurd h (by decide)
theorem eq_of_getD {α : Type} (d : α) {xs ys : List α} (hl : xs.length = ys.length) (h : ∀ j, j < xs.length → xs.getD j d = ys.getD j d) : xs = ys := by
  refine List.ext_getElem? fun j => ?_
  by_cases hj : j < xs.length
  · have := h j hj
    rw [List.getD_eq_getElem?_getD, List.getD_eq_getElem?_getD] at this
    rw [List.getElem?_eq_getElem hj, List.getElem?_eq_getElem (by omega)] at this ⊢
    simpa using this
  · rw [List.getElem?_eq_none (by omega), List.getElem?_eq_none (by omega)]
/-- where a number stands first in a list -/
def idxI (xs : List Int) (v : Int) : Int := match xs.findIdx? (· == v) with | some k => k | none => -1
theorem idxI_at {xs : List Int} {v : Int} {k : Nat} (hk : k < xs.length) (h : xs.getD k 0 = v) (hb : ∀ j, j < k → xs.getD j 0 ≠ v) : idxI xs v = k := by
  unfold idxI
  have : xs.findIdx? (· == v) = some k := by
    rw [List.findIdx?_eq_some_iff_getElem]
    refine ⟨hk, ?_, fun j hj => ?_⟩
    · rw [List.getD_eq_getElem?_getD, List.getElem?_eq_getElem hk] at h
      simpa using h
    · have h2 := hb j hj
      rw [List.getD_eq_getElem?_getD, List.getElem?_eq_getElem (by omega)] at h2
      simpa using h2
  rw [this]
theorem idxI_none {xs : List Int} {v : Int} (hb : ∀ j, j < xs.length → xs.getD j 0 ≠ v) : idxI xs v = -1 := by
  unfold idxI
  have : xs.findIdx? (· == v) = none := by
    rw [List.findIdx?_eq_none_iff]
    intro x hx
    obtain ⟨j, hj, rfl⟩ := List.getElem_of_mem hx
    have h2 := hb j hj
    rw [List.getD_eq_getElem?_getD, List.getElem?_eq_getElem hj] at h2
    simpa using h2
  rw [this]
def EqRel {α : Type} (d : α) (w : World) (xs ys : List α) (i : Value) (wr : World) : Prop := ∃ k m : Nat, k ≤ xs.length ∧ i = .int .i64 k ∧ wr = w.drewN m ∧ ∀ j, j < k → xs.getD j d = ys.getD j d
theorem EqRel.step {α : Type} {d : α} {xs ys : List α} {k : Nat} (h : ∀ j, j < k → xs.getD j d = ys.getD j d) (hk : xs.getD k d = ys.getD k d) : ∀ j, j < k + 1 → xs.getD j d = ys.getD j d := fun j hj => by
  by_cases e : j = k
  · rw [e]; exact hk
  · exact h j (by omega)
def IdxRel {α : Type} (d : α) (xs : List α) (v : α) (i : Value) : Prop := ∃ k : Nat, k ≤ xs.length ∧ i = .int .i64 k ∧ ∀ j, j < k → xs.getD j d ≠ v
theorem IdxRel.step {α : Type} {d v : α} {xs : List α} {k : Nat} (h : ∀ j, j < k → xs.getD j d ≠ v) (hk : xs.getD k d ≠ v) : ∀ j, j < k + 1 → xs.getD j d ≠ v := fun j hj => by
  by_cases e : j = k
  · rw [e]; exact hk
  · exact h j (by omega)
/-- behind a call of Equal -/
def EqPost {α : Type} [DecidableEq α] (w : World) (xs ys : List α) (e : Ending) (w' : World) : Prop := ∃ m, e = .returned (.bool (decide (xs = ys))) ∧ w' = w.drewN m

end Go.Proofs.Ytacelddnklnhpaa
