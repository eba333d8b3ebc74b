/- slices.Sort at []int, of a row of the call's own. -/
import Derived.Test.YtolihlnlblaihaaShelf
import Derived.Test.YtolihlnlblaihaaCut
import Derived.Sort.OwnSortedInts
namespace Go.Proofs.Ytolihlnlblaihaa
open Go.ChangeShapes Go.WideShapes Go.ChangeAt Go.RowKit
set_option linter.unusedVariables false
/-- sorted, ascending -/
def sortI (xs : List Int) : List Int := xs.mergeSort fun x y => decide (x ≤ y)
theorem sortI_len (xs : List Int) : (sortI xs).length = xs.length := List.length_mergeSort _
theorem sortI_perm (xs : List Int) : (sortI xs).Perm xs := List.mergeSort_perm _ _
theorem sortI_sorted (xs : List Int) : (sortI xs).Pairwise (· ≤ ·) := by
  have := List.pairwise_mergeSort (le := fun x y : Int => decide (x ≤ y)) (by intro a b c; simp; omega) (by intro a b; simp; omega) xs
  exact this.imp (by intro a b h; simpa using h)
def SortPost (w : World) (base : Nat) (E : TypeId) (v : Value) (xs : List Int) (e : Ending) (w' : World) : Prop :=
  e = .returned (.tuple #[]) ∧ w'.ownsRow base E 1 v xs.length ((sortI xs).map (.int .i64)) ∧ w.grownBy w' v.ownBlock
theorem sort_own (xs : List Int) (v : Value) (base : Nat) (w : World) (h : w.ownsRow base 3 1 v xs.length (xs.map (.int .i64))) (hx : xs.length < 4611686018427387904) :
    Calls Try.prog 13 #[v] w (SortPost w base 3 v xs) := by
  by_cases h0 : xs.length = 0
  · obtain rfl := List.eq_nil_of_length_eq_zero h0
    have hv : ∃ p cap, v = .slice p 0 cap := by
      rcases h.2 with ⟨h1, -⟩ | ⟨g, cap, cur, h1, -⟩
      · exact ⟨_, _, h1⟩
      · exact ⟨_, _, h1⟩
    obtain ⟨p, cap, rfl⟩ := hv
    refine (Try.slices_Sort_int_none p cap w).mono ?_
    rintro e w' ⟨rfl, rfl⟩
    exact ⟨rfl, by simpa [sortI] using h, World.grownBy.refl _ _⟩
  · rcases h.2 with ⟨-, h1⟩ | ⟨g, cap, cur, rfl, hb, hblk, hl, hm, hs, ht⟩
    · exact absurd h1 h0
    · rw [Nat.mul_one] at hs ht
      refine (Try.slices_Sort_int g 0 cap xs w (holds_of_blockI hblk ht) (Array.getElem?_eq_some_iff.1 hblk).1 hx).mono ?_
      rintro e w' ⟨rfl, n, os, rfl⟩
      refine ⟨rfl, ?_, grownBy_sortedI _⟩
      have := ownsRow_sortedI (n := n) (os := os) (ss := xs) (ts := sortI xs) (cap := cap) (sortI_len xs) hb hblk hl hm (by omega)
      exact this
end Go.Proofs.Ytolihlnlblaihaa
