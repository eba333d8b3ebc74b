/- cuts.Cuts: the block of lists of sets that it fills, and the answer on no tree. -/
import Derived.Test.YtiocgmioijcjhaaCutsSome
import Derived.Test.YtiocgmioijcjhaaGateLaw
namespace Go.Proofs.Ytiocgmioijcjhaa
open Go.ChangeShapes Go.WideShapes Go.ChangeAt Go.RowKit
set_option linter.unusedVariables false

/-- a block of n lists of sets, the first of them told so far, the others nil -/
structure SetBlk (w : World) (g n : Nat) (L : List (List Nat)) : Prop where
  lt : g < w.heap.size
  fz : ∀ j, w.frozen? ⟨g, j, none⟩ = false
  le : L.length ≤ n
  at_ : ∀ j s, L[j]? = some s → ∃ x, w.cell? ⟨g, j, none⟩ = some x ∧ IntsAt .u16 w x (u16s s)
  rest : ∀ j, L.length ≤ j → j < n → w.cell? ⟨g, j, none⟩ = some (.slice none 0 0)
theorem SetBlk.later {w w' : World} {g n : Nat} {L : List (List Nat)} (h : SetBlk w g n L) (hb : Below w.heap.size w w') : SetBlk w' g n L where
  lt := Nat.lt_of_lt_of_le h.lt hb.size
  fz j := (hb.frozen (p := ⟨g, j, none⟩) h.lt).trans (h.fz j)
  le := h.le
  at_ j s hs := by
    obtain ⟨x, c, hi⟩ := h.at_ j s hs
    exact ⟨x, (hb.cell (p := ⟨g, j, none⟩) h.lt).trans c, hi.later hb (Nat.le_refl _)⟩
  rest j h1 h2 := (hb.cell (p := ⟨g, j, none⟩) h.lt).trans (h.rest j h1 h2)
theorem ints_set {K : IntKind} {w : World} {v y : Value} {xs : List Int} {g k : Nat} {a : Option Addr} {l c : Nat} (h : IntsAt K w v xs) (hc : w.cell? ⟨g, k, none⟩ = some (.slice a l c)) : IntsAt K (w.setCell ⟨g, k, none⟩ y) v xs := by
  rcases h with h | ⟨h0, b, off, cap, hv, hl, hm, hx⟩
  · exact .inl h
  · refine .inr ⟨h0, b, off, cap, hv, hl, hm, fun i hi => ?_⟩
    have h1 := hx i hi
    rw [World.cell?_setCell_other _ _ _ _ (fun e => by rw [← e, hc] at h1; cases h1)]
    exact h1
theorem SetBlk.push {w : World} {g n k : Nat} {L : List (List Nat)} {x : Value} {s : List Nat} (h : SetBlk w g n L) (hk : L.length = k) (hl : k < n) (hx : IntsAt .u16 w x (u16s s)) : SetBlk (w.setCell ⟨g, k, none⟩ x) g n (L ++ [s]) := by
  have hc := h.rest k (by omega) hl
  refine ⟨by simpa [World.setCell] using h.lt, fun j => ?_, by simp; omega, fun j t ht => ?_, fun j h1 h2 => ?_⟩
  · have := h.fz j
    simpa using this
  · by_cases hj : j < k
    · rw [List.getElem?_append_left (by omega)] at ht
      obtain ⟨y, c, hi⟩ := h.at_ j t ht
      exact ⟨y, (World.cell?_setCell_other _ _ _ _ (fun e => by have e2 := congrArg Addr.off e; simp at e2; omega)).trans c, ints_set hi hc⟩
    · have e : j = k := by
        have := (List.getElem?_eq_some_iff.1 ht).1
        simp at this; omega
      subst e
      rw [List.getElem?_append_right (by omega), hk, Nat.sub_self] at ht
      obtain rfl : s = t := by simpa using ht
      exact ⟨x, World.cell?_setCell_same _ _ _ hc, ints_set hx hc⟩
  · simp at h1
    exact (World.cell?_setCell_other _ _ _ _ (fun e => by have e2 := congrArg Addr.off e; simp at e2; omega)).trans (h.rest j (by omega) h2)
theorem SetBlk.made (w : World) (T : TypeId) (n : Nat) : SetBlk (w.alloc (.cells (madeCells #[.slice none 0 0] n) T)) w.heap.size n [] where
  lt := by simp
  fz j := by unfold World.frozen?; rw [heap_alloc_new]; simp
  le := Nat.zero_le _
  at_ j s hs := by simp at hs
  rest j h1 h2 := by
    rw [cell_of_row _ w.heap.size j _ T (0, 0) (heap_alloc_new w _)]
    simp [madeCells, h2, Nat.mod_one]
theorem cuts_no (ts : List GateR) (v : Value) (w : World) (hv : GatesAt w v ts) (hok : ¬ TreeOk ts) (hm : ts.length ≤ 281474976710656) :
    Calls Try.prog 16 #[v] w fun e w' => (∃ c : Int, c ≠ 0 ∧ e = .returned (.tuple #[.slice none 0 0, .int .i64 c])) ∧ Below w.heap.size w w' := by
  obtain ⟨a, cap, rfl⟩ := hv.len
  have HV := Lib.hid hv; have HOK := Lib.hid hok
  clear hv hok
  go_enter Try.func16, Try.ntmps16
  go_wp2_with fail
  refine (cutsCheck_is ts _ _ HV.out hm).mono ?_
  rintro e w1 ⟨-, h1, hb1⟩
  obtain ⟨c, hc, rfl⟩ := h1 HOK.out
  have hcb : (c == 0) = false := by simpa using hc
  have hc2 : (c != 0) = true := by simpa using hc
  have HC := Lib.hid hc
  clear h1 hc
  go_wp2
  go_ret2
  exact ⟨⟨c, HC.out, rfl⟩, hb1⟩

end Go.Proofs.Ytiocgmioijcjhaa
