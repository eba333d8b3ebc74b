/- slices.Max and slices.Min at []int; Welch's and Lynch's bound. -/
import Derived.Test.YtolihlnlblaihaaTick
namespace Go.Proofs.Ytolihlnlblaihaa
open Go.ChangeShapes Go.WideShapes Go.ChangeAt Go.RowKit
set_option linter.unusedVariables false
def maxTo (xs : List Int) : Nat → Int
  | 0 => xs.getD 0 0
  | k + 1 => max (maxTo xs k) (xs.getD k 0)
def minTo (xs : List Int) : Nat → Int
  | 0 => xs.getD 0 0
  | k + 1 => min (minTo xs k) (xs.getD k 0)
def maxI (xs : List Int) : Int := maxTo xs xs.length
def minI (xs : List Int) : Int := minTo xs xs.length
theorem maxTo_le (xs : List Int) (k j : Nat) (h : j < k) : xs.getD j 0 ≤ maxTo xs k := by
  induction k with
  | zero => omega
  | succ k ih =>
    simp only [maxTo]
    by_cases e : j = k
    · subst e; omega
    · have := ih (by omega); omega
theorem minTo_le (xs : List Int) (k j : Nat) (h : j < k) : minTo xs k ≤ xs.getD j 0 := by
  induction k with
  | zero => omega
  | succ k ih =>
    simp only [minTo]
    by_cases e : j = k
    · subst e; omega
    · have := ih (by omega); omega
theorem maxTo_in (xs : List Int) (k : Nat) (h0 : 0 < xs.length) (hk : k ≤ xs.length) : maxTo xs k ∈ xs := by
  have hm : ∀ j, j < xs.length → xs.getD j 0 ∈ xs := fun j hj => by rw [List.getD_eq_getElem?_getD, List.getElem?_eq_getElem hj]; exact List.getElem_mem hj
  induction k with
  | zero => exact hm 0 h0
  | succ k ih =>
    simp only [maxTo]
    rcases Int.max_def (maxTo xs k) (xs.getD k 0) ▸ (by split <;> simp : (if maxTo xs k ≤ xs.getD k 0 then xs.getD k 0 else maxTo xs k) = xs.getD k 0 ∨ (if maxTo xs k ≤ xs.getD k 0 then xs.getD k 0 else maxTo xs k) = maxTo xs k) with h | h
    · rw [h]; exact hm k (by omega)
    · rw [h]; exact ih (by omega)
theorem minTo_in (xs : List Int) (k : Nat) (h0 : 0 < xs.length) (hk : k ≤ xs.length) : minTo xs k ∈ xs := by
  have hm : ∀ j, j < xs.length → xs.getD j 0 ∈ xs := fun j hj => by rw [List.getD_eq_getElem?_getD, List.getElem?_eq_getElem hj]; exact List.getElem_mem hj
  induction k with
  | zero => exact hm 0 h0
  | succ k ih =>
    simp only [minTo]
    rcases Int.min_def (minTo xs k) (xs.getD k 0) ▸ (by split <;> simp : (if minTo xs k ≤ xs.getD k 0 then minTo xs k else xs.getD k 0) = xs.getD k 0 ∨ (if minTo xs k ≤ xs.getD k 0 then minTo xs k else xs.getD k 0) = minTo xs k) with h | h
    · rw [h]; exact hm k (by omega)
    · rw [h]; exact ih (by omega)
theorem maxI_ge {xs : List Int} {x : Int} (h : x ∈ xs) : x ≤ maxI xs := by
  obtain ⟨j, hj, rfl⟩ := List.getElem_of_mem h
  have := maxTo_le xs xs.length j hj
  rwa [List.getD_eq_getElem?_getD, List.getElem?_eq_getElem hj] at this
theorem minI_le {xs : List Int} {x : Int} (h : x ∈ xs) : minI xs ≤ x := by
  obtain ⟨j, hj, rfl⟩ := List.getElem_of_mem h
  have := minTo_le xs xs.length j hj
  rwa [List.getD_eq_getElem?_getD, List.getElem?_eq_getElem hj] at this
set_option maxHeartbeats 2000000 in
theorem slicesMax_i64 (xs : List Int) (v : Value) (w : World) (hv : IntsAt .i64 w v xs) (h0 : 0 < xs.length) (hm : xs.length ≤ 4611686018427387904) :
    Calls Try.prog 16 #[v] w fun e w' => e = .returned (.int .i64 (maxI xs)) ∧ w = w' := by
  rcases hv with ⟨h1, -⟩ | ⟨-, b, off, cap, rfl, hl1, hl2, hc⟩
  · rw [h1] at h0; simp at h0
  have HC := Lib.hid hc
  have c0 := hc 0 h0
  rw [Nat.add_zero] at c0
  have d1 : decide ((xs.length : Int) < 1) = false := by simp; omega
  obtain ⟨x0, hx0⟩ : ∃ x, xs.getD 0 0 = x := ⟨_, rfl⟩
  rw [hx0] at c0
  have HX0 := Lib.hid hx0
  clear hc hx0
  go_enter Try.func16, Try.ntmps16
  go_wp2
  go_loop [3, 4] (fun m i => ∃ k : Nat, 1 ≤ k ∧ k ≤ xs.length ∧ i = .int .i64 k ∧ m = .int .i64 (maxTo xs k)) (fun _ i => xs.length - (intOf i).toNat)
  case atStart => exact ⟨1, by omega, by omega, rfl, by simp only [maxTo]; rw [HX0.out]; simp⟩
  case round =>
    obtain ⟨k, hk1, hk, rfl, rfl⟩ := hrel
    by_cases hlt : k < xs.length
    · have c1 := HC.out k hlt
      have S : Hid (maxTo xs (k + 1) = max (maxTo xs k) (xs.getD k 0)) := rfl
      obtain ⟨x, hx⟩ : ∃ x, xs.getD k 0 = x := ⟨_, rfl⟩
      rw [hx] at c1 S
      clear hx c0
      generalize hy : maxTo xs k = y at *
      go_wp2
      all_goals
        go_round
        case rel => exact ⟨k + 1, by omega, by omega, by go_num, by first | (rw [S.out]; done) | (rw [S.out]; congr 1; omega)⟩
        case measure => simp [intOf]; omega
    · obtain rfl : k = xs.length := by omega
      go_wp2
      go_ret
      exact ⟨rfl, rfl⟩
set_option maxHeartbeats 2000000 in
theorem slicesMin_i64 (xs : List Int) (v : Value) (w : World) (hv : IntsAt .i64 w v xs) (h0 : 0 < xs.length) (hm : xs.length ≤ 4611686018427387904) :
    Calls Try.prog 17 #[v] w fun e w' => e = .returned (.int .i64 (minI xs)) ∧ w = w' := by
  rcases hv with ⟨h1, -⟩ | ⟨-, b, off, cap, rfl, hl1, hl2, hc⟩
  · rw [h1] at h0; simp at h0
  have HC := Lib.hid hc
  have c0 := hc 0 h0
  rw [Nat.add_zero] at c0
  have d1 : decide ((xs.length : Int) < 1) = false := by simp; omega
  obtain ⟨x0, hx0⟩ : ∃ x, xs.getD 0 0 = x := ⟨_, rfl⟩
  rw [hx0] at c0
  have HX0 := Lib.hid hx0
  clear hc hx0
  go_enter Try.func17, Try.ntmps17
  go_wp2
  go_loop [3, 4] (fun m i => ∃ k : Nat, 1 ≤ k ∧ k ≤ xs.length ∧ i = .int .i64 k ∧ m = .int .i64 (minTo xs k)) (fun _ i => xs.length - (intOf i).toNat)
  case atStart => exact ⟨1, by omega, by omega, rfl, by simp only [minTo]; rw [HX0.out]; simp⟩
  case round =>
    obtain ⟨k, hk1, hk, rfl, rfl⟩ := hrel
    by_cases hlt : k < xs.length
    · have c1 := HC.out k hlt
      have S : Hid (minTo xs (k + 1) = min (minTo xs k) (xs.getD k 0)) := rfl
      obtain ⟨x, hx⟩ : ∃ x, xs.getD k 0 = x := ⟨_, rfl⟩
      rw [hx] at c1 S
      clear hx c0
      generalize hy : minTo xs k = y at *
      go_wp2
      all_goals
        go_round
        case rel => exact ⟨k + 1, by omega, by omega, by go_num, by first | (rw [S.out]; done) | (rw [S.out]; congr 1; omega)⟩
        case measure => simp [intOf]; omega
    · obtain rfl : k = xs.length := by omega
      go_wp2
      go_ret
      exact ⟨rfl, rfl⟩
/-- in a sorted list: as many are at most t as stand ahead -/
theorem sorted_count (l : List Int) (hs : l.Pairwise (· ≤ ·)) (t : Int) (i : Nat) (hi : i < l.length) : l.getD i 0 ≤ t ↔ i < l.countP (fun x => decide (x ≤ t)) := by
  induction l generalizing i with
  | nil => simp at hi
  | cons x l ih =>
    obtain ⟨h1, h2⟩ := List.pairwise_cons.1 hs
    rw [List.countP_cons]
    by_cases hx : x ≤ t
    · simp only [hx, decide_true, if_true]
      cases i with
      | zero => simp [hx]
      | succ i =>
        have := ih h2 i (by simpa using hi)
        rw [List.getD_cons_succ, this]
        omega
    · have h0 : l.countP (fun x => decide (x ≤ t)) = 0 := by
        rw [List.countP_eq_zero]
        intro y hy
        have := h1 y hy
        simp; omega
      simp only [hx, decide_false, Bool.false_eq_true, if_false, h0]
      cases i with
      | zero => simp; omega
      | succ i =>
        rw [List.getD_cons_succ]
        have hi' : i < l.length := by simpa using hi
        have : l.getD i 0 ∈ l := by rw [List.getD_eq_getElem?_getD, List.getElem?_eq_getElem hi']; exact List.getElem_mem hi'
        have := h1 _ this
        omega
theorem count_sort (l : List Int) (t : Int) : (sortI l).countP (fun x => decide (x ≤ t)) = l.countP (fun x => decide (x ≤ t)) := (sortI_perm l).countP_eq _
/-- more numbers: none of the sorted ones goes up .. -/
theorem more_le (S A : List Int) (i : Nat) (hi : i < S.length) : (sortI (S ++ A)).getD i 0 ≤ (sortI S).getD i 0 := by
  rw [sorted_count _ (sortI_sorted _) _ _ (by rw [sortI_len]; simp; omega), count_sort, List.countP_append]
  have := (sorted_count _ (sortI_sorted S) ((sortI S).getD i 0) i (by rw [sortI_len]; exact hi)).1 (Int.le_refl _)
  rw [count_sort] at this
  omega
/-- .. and none goes down by more places than there are new ones -/
theorem more_ge (S A : List Int) (i : Nat) (hi : i < S.length) : (sortI S).getD i 0 ≤ (sortI (S ++ A)).getD (i + A.length) 0 := by
  rw [sorted_count _ (sortI_sorted _) _ _ (by rw [sortI_len]; exact hi), count_sort]
  have := (sorted_count _ (sortI_sorted (S ++ A)) ((sortI (S ++ A)).getD (i + A.length) 0) (i + A.length) (by rw [sortI_len]; simp; omega)).1 (Int.le_refl _)
  rw [count_sort, List.countP_append] at this
  have h2 : A.countP (fun x => decide (x ≤ (sortI (S ++ A)).getD (i + A.length) 0)) ≤ A.length := List.countP_le_length
  omega
theorem sorted_mem (l : List Int) (i : Nat) (hi : i < l.length) : (sortI l).getD i 0 ∈ l := by
  rw [List.getD_eq_getElem?_getD, List.getElem?_eq_getElem (by rw [sortI_len]; exact hi)]
  exact (sortI_perm l).mem_iff.1 (List.getElem_mem _)
theorem half_le (S A B : List Int) (n : Nat) (hA : A.length = n) (hB : B.length = n) (hn : 2 * n < S.length) :
    (midI (S ++ A) n - midI (S ++ B) n) ≤ (maxI S - minI S + 1) / 2 ∧ minI S ≤ midI (S ++ A) n ∧ midI (S ++ A) n ≤ maxI S := by
  have l1 : (S ++ A).length - 1 - n = S.length - 1 := by simp; omega
  have l2 : (S ++ B).length - 1 - n = S.length - 1 := by simp; omega
  have e : S.length - 1 = (S.length - 1 - n) + n := by omega
  have a1 := more_le S A n (by omega)
  have a2 := more_ge S A 0 (by omega)
  have a3 := more_le S A (S.length - 1) (by omega)
  have a4 := more_ge S A (S.length - 1 - n) (by omega)
  have b1 := more_le S B n (by omega)
  have b2 := more_ge S B 0 (by omega)
  have b3 := more_le S B (S.length - 1) (by omega)
  have b4 := more_ge S B (S.length - 1 - n) (by omega)
  rw [hA, Nat.zero_add] at a2
  rw [hA, ← e] at a4
  rw [hB, Nat.zero_add] at b2
  rw [hB, ← e] at b4
  have m1 := minI_le (sorted_mem S 0 (by omega))
  have m2 := maxI_ge (sorted_mem S (S.length - 1) (by omega))
  have m3 : (sortI S).getD n 0 ≤ (sortI S).getD (S.length - 1 - n) 0 := by
    rw [List.getD_eq_getElem?_getD, List.getD_eq_getElem?_getD, List.getElem?_eq_getElem (by rw [sortI_len]; omega), List.getElem?_eq_getElem (by rw [sortI_len]; omega)]
    by_cases e2 : n = S.length - 1 - n
    · simp only [← e2]; exact Int.le_refl _
    · exact List.pairwise_iff_getElem.1 (sortI_sorted S) n (S.length - 1 - n) (by rw [sortI_len]; omega) (by rw [sortI_len]; omega) (by omega)
  unfold midI
  rw [Int.toNat_natCast, l1, l2]
  omega
end Go.Proofs.Ytolihlnlblaihaa
