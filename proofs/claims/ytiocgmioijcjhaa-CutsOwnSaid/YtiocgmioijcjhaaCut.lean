/- Cuts of slices that read as lists. -/
import Derived.Test.YtiocgmioijcjhaaRecs
namespace Go.Proofs.Ytiocgmioijcjhaa
open Go.ChangeShapes Go.WideShapes Go.ChangeAt Go.RowKit
set_option linter.unusedVariables false

theorem getD_take {α : Type} (d : α) (xs : List α) (k i : Nat) (h : i < k) : (xs.take k).getD i d = xs.getD i d := by
  rw [List.getD_eq_getElem?_getD, List.getD_eq_getElem?_getD, List.getElem?_take, if_pos h]
theorem getD_drop {α : Type} (d : α) (xs : List α) (k i : Nat) : (xs.drop k).getD i d = xs.getD (k + i) d := by
  rw [List.getD_eq_getElem?_getD, List.getD_eq_getElem?_getD, List.getElem?_drop]
theorem ints_take {K : IntKind} {w : World} {a : Option Addr} {n cap : Nat} {xs : List Int} (h : IntsAt K w (.slice a n cap) xs) (k : Nat) (hk : k ≤ n) : IntsAt K w (.slice a k cap) (xs.take k) := by
  rcases h with ⟨rfl, e | ⟨x, c, e⟩⟩ | ⟨h0, b, off, c, e, h1, h2, h3⟩
  · cases e; obtain rfl : k = 0 := by omega
    exact .inl ⟨rfl, .inl rfl⟩
  · cases e; obtain rfl : k = 0 := by omega
    exact .inl ⟨rfl, .inr ⟨_, _, rfl⟩⟩
  · cases e
    by_cases hz : k = 0
    · subst hz
      exact .inl ⟨by simp, .inr ⟨_, _, rfl⟩⟩
    · have e : (xs.take k).length = k := by simp; omega
      refine .inr ⟨by omega, b, off, _, by rw [e], by omega, h2, fun i hi => ?_⟩
      rw [getD_take 0 _ _ _ (by omega)]
      exact h3 i (by omega)
theorem ints_drop {K : IntKind} {w : World} {b off n cap : Nat} {xs : List Int} (h : IntsAt K w (.slice (some ⟨b, off, none⟩) n cap) xs) (k : Nat) (hk : k ≤ n) (hc : n ≤ cap) : IntsAt K w (.slice (some ⟨b, if cap = k then off else off + k, none⟩) (n - k) (cap - k)) (xs.drop k) := by
  rcases h with ⟨rfl, e | ⟨x, c, e⟩⟩ | ⟨h0, b, off, c, e, h1, h2, h3⟩
  · cases e
  · cases e; obtain rfl : k = 0 := by omega
    exact .inl ⟨rfl, .inr ⟨_, _, rfl⟩⟩
  · cases e
    by_cases hz : k = xs.length
    · subst hz
      rw [Nat.sub_self]
      exact .inl ⟨by simp, .inr ⟨_, _, rfl⟩⟩
    · have e : (xs.drop k).length = xs.length - k := by simp
      rw [if_neg (by omega)]
      refine .inr ⟨by omega, b, off + k, cap - k, by rw [e], by omega, by omega, fun i hi => ?_⟩
      rw [getD_drop, Nat.add_assoc]
      exact h3 (k + i) (by omega)
theorem bools_take {w : World} {a : Option Addr} {n cap : Nat} {xs : List Bool} (h : BoolsAt w (.slice a n cap) xs) (k : Nat) (hk : k ≤ n) : BoolsAt w (.slice a k cap) (xs.take k) := by
  rcases h with ⟨rfl, e | ⟨x, c, e⟩⟩ | ⟨h0, b, off, c, e, h1, h2, h3⟩
  · cases e; obtain rfl : k = 0 := by omega
    exact .inl ⟨rfl, .inl rfl⟩
  · cases e; obtain rfl : k = 0 := by omega
    exact .inl ⟨rfl, .inr ⟨_, _, rfl⟩⟩
  · cases e
    by_cases hz : k = 0
    · subst hz
      exact .inl ⟨by simp, .inr ⟨_, _, rfl⟩⟩
    · have e : (xs.take k).length = k := by simp; omega
      refine .inr ⟨by omega, b, off, _, by rw [e], by omega, h2, fun i hi => ?_⟩
      rw [getD_take false _ _ _ (by omega)]
      exact h3 i (by omega)
/-- a row of the call's own: its value, with what is known of its capacity -/
theorem own_form {w : World} {base : Nat} {e : TypeId} {size : Nat} {v : Value} {n : Nat} {xs : List Value} (h : w.ownsRow base e size v n xs) : (v = .slice none 0 0 ∧ n = 0) ∨ ∃ g cap, v = .slice (some ⟨g, 0, none⟩) n cap ∧ base ≤ g ∧ g < w.heap.size ∧ n ≤ cap ∧ cap ≤ 9223372036854775807 := by
  rcases h.2 with ⟨h1, h2⟩ | ⟨g, cap, cur, h1, h2, h3, h4, h5, -⟩
  · exact .inl ⟨h1, h2⟩
  · exact .inr ⟨g, cap, h1, h2, (Array.getElem?_eq_some_iff.1 h3).1, h4, by unfold maxLen at h5; exact h5⟩

end Go.Proofs.Ytiocgmioijcjhaa
