/- Slices of structs that read as lists; the types of structs that occur. -/
import Derived.Test.YtiocgmioijcjhaaOpen
import Derived.Test.YtiocgmioijcjhaaSlc
import Derived.WalkSmall
import Derived.Laws.MakeOwn
import Derived.Laws.OwnMore
namespace Go.Proofs.Ytiocgmioijcjhaa
open Go.ChangeShapes Go.WideShapes Go.ChangeAt Go.RowKit
set_option linter.unusedVariables false

theorem flatMap_at {α : Type} {k : Nat} {lay : α → List Value} {xs : List α} {i j : Nat} {y : α} (hl : ∀ y, (lay y).length = k) (hy : xs[i]? = some y) (hj : j < k) : (xs.flatMap lay)[i * k + j]? = (lay y)[j]? := by
  induction xs generalizing i with
  | nil => simp at hy
  | cons x xs ih =>
    rw [List.flatMap_cons]
    cases i with
    | zero =>
      simp only [List.getElem?_cons_zero, Option.some.injEq] at hy
      subst hy
      rw [Nat.zero_mul, Nat.zero_add, List.getElem?_append_left (by rw [hl]; exact hj)]
    | succ i =>
      rw [List.getElem?_cons_succ] at hy
      rw [List.getElem?_append_right (by rw [hl, Nat.succ_mul]; omega), hl, show (i + 1) * k + j - k = i * k + j by rw [Nat.succ_mul]; omega]
      exact ih hy
/-- a slice of structs that reads as a list -/
def RecsAt {α : Type} (k : Nat) (lay : α → List Value) (w : World) (v : Value) (xs : List α) : Prop :=
  (xs = [] ∧ (v = .slice none 0 0 ∨ ∃ a cap, v = .slice (some a) 0 cap)) ∨
  (0 < xs.length ∧ ∃ b off cap, v = .slice (some ⟨b, off, none⟩) xs.length cap ∧ xs.length ≤ cap ∧ cap ≤ 9223372036854775807 ∧ ∀ (i : Nat) y, xs[i]? = some y → ∀ j, j < k → w.cell? ⟨b, off + i * k + j, none⟩ = (lay y)[j]?)
section
variable {α : Type} {k : Nat} {lay : α → List Value} {w w' : World} {v : Value} {xs : List α}
theorem RecsAt.drewN (h : RecsAt k lay w v xs) (m : Nat) : RecsAt k lay (w.drewN m) v xs := h
theorem RecsAt.len (h : RecsAt k lay w v xs) : ∃ a cap, v = .slice a xs.length cap := by
  rcases h with ⟨rfl, rfl | ⟨a, cap, rfl⟩⟩ | ⟨h0, b, off, cap, rfl, -⟩
  · exact ⟨none, 0, rfl⟩
  · exact ⟨_, cap, rfl⟩
  · exact ⟨_, cap, rfl⟩
theorem RecsAt.later {B : Nat} (h : RecsAt k lay w v xs) (hl : ∀ y, (lay y).length = k) (hb : Below B w w') (hB : w.heap.size ≤ B) : RecsAt k lay w' v xs := by
  rcases h with h | ⟨h0, b, off, cap, hv, hl1, hm, hc⟩
  · exact .inl h
  · refine .inr ⟨h0, b, off, cap, hv, hl1, hm, fun i y hy j hj => ?_⟩
    have := hc i y hy j hj
    have e : (lay y)[j]? = some ((lay y)[j]'(by rw [hl]; exact hj)) := List.getElem?_eq_getElem _
    rw [hb.cell (Nat.lt_of_lt_of_le (World.block_lt_of_cell? _ _ (this.trans e)) hB)]
    exact this
theorem RecsAt.at_ (h : RecsAt k lay w v xs) {i : Nat} {y : α} (hy : xs[i]? = some y) :
    ∃ b off cap, v = .slice (some ⟨b, off, none⟩) xs.length cap ∧ xs.length ≤ cap ∧ cap ≤ 9223372036854775807 ∧ ∀ j, j < k → w.cell? ⟨b, off + i * k + j, none⟩ = (lay y)[j]? := by
  rcases h with ⟨rfl, -⟩ | ⟨h0, b, off, cap, hv, hl1, hm, hc⟩
  · simp at hy
  · exact ⟨b, off, cap, hv, hl1, hm, fun j hj => hc i y hy j hj⟩
theorem isRecs_recs {ok : α → Prop} {a : Option Addr} {len cap : Nat} (h : Open.IsRecs k lay ok w a len cap xs) (hk : 0 < k) (hl : ∀ y, (lay y).length = k) :
    RecsAt k lay w (.slice a len cap) (xs.take len) ∧ (xs.take len).length = len ∧ ∀ y ∈ xs.take len, ok y := by
  rcases h with ⟨rfl, rfl, rfl, rfl⟩ | ⟨x, rfl, h1, h2, h3, h4⟩
  · exact ⟨.inl ⟨by simp, .inl rfl⟩, by simp, by simp⟩
  · have e : (xs.take len).length = len := by simp; omega
    have hok : ∀ y ∈ xs.take len, ok y := by
      intro y hy
      obtain ⟨i, hi, rfl⟩ := List.getElem_of_mem (List.mem_of_mem_take hy)
      exact (h4 i _ (List.getElem?_eq_getElem hi)).1
    by_cases h0 : len = 0
    · subst h0
      exact ⟨.inl ⟨by simp, .inr ⟨x, cap, rfl⟩⟩, e, hok⟩
    · obtain ⟨b, off, spot⟩ := x
      have hs : spot = none := by
        have h5 := (h4 0 (xs[0]'(by omega)) (List.getElem?_eq_getElem _)).2 0 hk
        rw [List.getElem?_eq_getElem (by rw [hl]; exact hk)] at h5
        simpa [Addr.add] using World.cell?_spot h5
      subst hs
      refine ⟨.inr ⟨by omega, b, off, cap, by rw [e], by omega, by unfold maxLen at h2; exact h2, fun i y hy j hj => ?_⟩, e, hok⟩
      have hy' : xs[i]? = some y := by
        rw [List.getElem?_take] at hy
        split at hy
        · exact hy
        · simp at hy
      rw [← (h4 i y hy').2 j hj]
      congr 1
      simp only [Addr.add]
      by_cases ha : i * k = 0 <;> by_cases hb : j = 0 <;> simp [ha, hb]
theorem own_recs {E : TypeId} {base : Nat} (h : w.ownsRow base E k v xs.length (xs.flatMap lay)) (hl : ∀ y, (lay y).length = k) : RecsAt k lay w v xs := by
  by_cases h0 : xs = []
  · subst h0
    rcases h.2 with ⟨hv, -⟩ | ⟨g, cap, cur, hv, -⟩
    · exact .inl ⟨rfl, .inl hv⟩
    · exact .inl ⟨rfl, .inr ⟨_, cap, hv⟩⟩
  · rcases h.2 with ⟨-, hn⟩ | ⟨g, cap, cur, hv, hb, hblk, hl1, hm, -, -⟩
    · exact absurd (List.eq_nil_of_length_eq_zero hn) h0
    · subst hv
      refine .inr ⟨List.length_pos_iff.2 h0, g, 0, cap, rfl, hl1, by unfold maxLen at hm; exact hm, fun i y hy j hj => ?_⟩
      have hi : i < xs.length := by
        rcases Nat.lt_or_ge i xs.length with h | h
        · exact h
        · rw [List.getElem?_eq_none h] at hy; simp at hy
      have e := flatMap_at hl hy hj
      have hlen : (xs.flatMap lay).length = xs.length * k := h.1
      have hlt : i * k + j < (xs.flatMap lay).length := by
        rcases Nat.lt_or_ge (i * k + j) (xs.flatMap lay).length with h | h
        · exact h
        · rw [List.getElem?_eq_none h, List.getElem?_eq_getElem (by rw [hl]; exact hj)] at e; simp at e
      rw [Nat.zero_add, h.cellAt (i * k + j) (by rw [← hlen]; exact hlt)]
      rw [← e, List.getElem?_eq_getElem hlt]
end

theorem own_new {k : Nat} {E : TypeId} (w : World) (cs : Array Value) (n : Nat) (hn : cs.size = n * k) (hm : n ≤ maxLen) : (w.alloc (.cells cs E)).ownsRow w.heap.size E k (.slice (some ⟨w.heap.size, 0, none⟩) n n) n cs.toList :=
  ⟨by simpa using hn, .inr ⟨w.heap.size, n, cs, rfl, Nat.le_refl _, heap_alloc_new w _, Nat.le_refl _, hm, hn, by rw [List.take_of_length_le (by simp [hn])]⟩⟩
/-- a literal of structs -/
theorem recs_new {α : Type} {k : Nat} {lay : α → List Value} {E : TypeId} (w : World) (xs : List α) (cs : Array Value) (hcs : cs.toList = xs.flatMap lay) (hl : ∀ y, (lay y).length = k) (hn : cs.size = xs.length * k) (hm : xs.length ≤ maxLen) :
    RecsAt k lay (w.alloc (.cells cs E)) (.slice (some ⟨w.heap.size, 0, none⟩) xs.length xs.length) xs :=
  own_recs (E := E) (base := w.heap.size) (by rw [← hcs]; exact own_new w cs xs.length hn hm) hl

/-- a block of n bools of the call's own, the first of them told so far, the others false -/
def bcells (n : Nat) (l : List Bool) : Array Value := ((l ++ List.replicate (n - l.length) false).map Value.bool).toArray
def BoolBlk (w : World) (g : Nat) (T : TypeId) (n : Nat) (l : List Bool) : Prop := w.heap[g]? = some (.cells (bcells n l) T (0, 0)) ∧ l.length ≤ n
theorem bcells_at (n : Nat) (l : List Bool) (j : Nat) (hj : j < n) (hl : l.length ≤ n) : (bcells n l)[j]? = some (.bool (l.getD j false)) := by
  unfold bcells
  simp only [List.getElem?_toArray, List.getElem?_map, List.getD_eq_getElem?_getD]
  by_cases h : j < l.length
  · rw [List.getElem?_append_left h, List.getElem?_eq_getElem h]; rfl
  · rw [List.getElem?_append_right (by omega), List.getElem?_replicate, if_pos (by omega), List.getElem?_eq_none (by omega)]; rfl
theorem BoolBlk.lt {w : World} {g : Nat} {T : TypeId} {n : Nat} {l : List Bool} (h : BoolBlk w g T n l) : g < w.heap.size := (Array.getElem?_eq_some_iff.1 h.1).1
theorem BoolBlk.cell {w : World} {g : Nat} {T : TypeId} {n : Nat} {l : List Bool} (h : BoolBlk w g T n l) (j : Nat) (hj : j < n) : w.cell? ⟨g, j, none⟩ = some (.bool (l.getD j false)) := by
  rw [cell_of_row w g j _ T (0, 0) h.1, bcells_at n l j hj h.2]
theorem BoolBlk.frozen {w : World} {g : Nat} {T : TypeId} {n : Nat} {l : List Bool} (h : BoolBlk w g T n l) (j : Nat) : w.frozen? ⟨g, j, none⟩ = false := by
  simp [World.frozen?, h.1]
theorem BoolBlk.drewN {w : World} {g : Nat} {T : TypeId} {n : Nat} {l : List Bool} (h : BoolBlk w g T n l) (m : Nat) : BoolBlk (w.drewN m) g T n l := h
theorem BoolBlk.alloc {w : World} {g : Nat} {T : TypeId} {n : Nat} {l : List Bool} (h : BoolBlk w g T n l) (o : Obj) : BoolBlk (w.alloc o) g T n l := ⟨(Below.heap_alloc w o g h.lt).trans h.1, h.2⟩
theorem BoolBlk.later {w w' : World} {g B : Nat} {T : TypeId} {n : Nat} {l : List Bool} (h : BoolBlk w g T n l) (hb : Below B w w') (hg : g < B) : BoolBlk w' g T n l := ⟨(hb.block g hg).trans h.1, h.2⟩
theorem BoolBlk.push {w : World} {g : Nat} {T : TypeId} {n k : Nat} {l : List Bool} (h : BoolBlk w g T n l) (hk : l.length = k) (hl : k < n) (v : Bool) : BoolBlk (w.setCell ⟨g, k, none⟩ (.bool v)) g T n (l ++ [v]) := by
  refine ⟨?_, by simp; omega⟩
  have e : (bcells n l).setIfInBounds k (.bool v) = bcells n (l ++ [v]) := by
    have hs : ∀ l' : List Bool, l'.length ≤ n → (bcells n l').size = n := fun l' h' => by simp [bcells]; omega
    refine Array.ext (by rw [Array.size_setIfInBounds, hs _ h.2, hs _ (by simp; omega)]) fun i h1 h2 => ?_
    rw [hs _ (by simp; omega)] at h2
    have e1 := bcells_at n (l ++ [v]) i h2 (by simp; omega)
    have e2 := bcells_at n l i h2 h.2
    rw [Array.getElem?_eq_getElem (by rw [hs _ (by simp; omega)]; exact h2)] at e1
    rw [Array.getElem?_eq_getElem (by rw [hs _ h.2]; exact h2)] at e2
    injection e1 with e1; injection e2 with e2
    rw [Array.getElem_setIfInBounds (by rw [hs _ h.2]; exact h2), e1, e2]
    by_cases hi : k = i
    · subst hi
      rw [if_pos rfl, List.getD_eq_getElem?_getD, List.getElem?_append_right (by omega)]
      simp [hk]
    · rw [if_neg hi, List.getD_eq_getElem?_getD, List.getD_eq_getElem?_getD]
      by_cases h3 : i < l.length
      · rw [List.getElem?_append_left h3]
      · rw [List.getElem?_eq_none (by omega), List.getElem?_eq_none (by simp; omega)]
  have h1 := h.1
  simp [World.setCell, Array.getElem?_modify, h1, e]
theorem BoolBlk.own {w : World} {g base : Nat} {T : TypeId} {n : Nat} {l : List Bool} (h : BoolBlk w g T n l) (hl : l.length = n) (hb : base ≤ g) (hm : n ≤ maxLen) : w.ownsRow base T 1 (.slice (some ⟨g, 0, none⟩) n n) n (l.map .bool) := by
  refine ⟨by simp [hl], .inr ⟨g, n, _, rfl, hb, h.1, Nat.le_refl _, hm, by simp [bcells, hl], ?_⟩⟩
  simp [bcells, hl]
  exact List.take_of_length_le (by simp [hl])
theorem madeBools (n : Nat) : madeCells #[.bool false] n = bcells n [] := by
  have hs : (bcells n []).size = n := by simp [bcells]
  refine Array.ext (by rw [size_madeCells, hs]) fun i h1 h2 => ?_
  rw [hs] at h2
  have e1 := bcells_at n [] i h2 (by simp)
  rw [Array.getElem?_eq_getElem (by rw [hs]; exact h2)] at e1
  injection e1 with e1
  rw [e1]
  simp [madeCells, Nat.mod_one]
theorem BoolBlk.made (w : World) (T : TypeId) (n : Nat) : BoolBlk (w.alloc (.cells (madeCells #[.bool false] n) T)) w.heap.size T n [] := by
  rw [madeBools]
  exact ⟨heap_alloc_new w _, by simp⟩

end Go.Proofs.Ytiocgmioijcjhaa
