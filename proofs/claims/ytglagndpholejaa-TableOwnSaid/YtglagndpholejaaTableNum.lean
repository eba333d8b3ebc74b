/- What the functions of package table compute: plain facts. -/
import Derived.Test.YtglagndpholejaaNum
namespace Go.Proofs.Ytglagndpholejaa
set_option linter.unusedVariables false

/-- how many of the first k rise -/
def Rising (n : Nat) (xs : List Int) : Prop := ∀ i, i + 1 < n → xs.getD i 0 < xs.getD (i + 1) 0
def risB (xs : List Int) : Nat → Bool
  | 0 => true
  | k + 1 => risB xs k && (k == 0 || decide (xs.getD (k - 1) 0 < xs.getD k 0))
theorem risB_iff (xs : List Int) (k : Nat) : risB xs k = true ↔ Rising k xs := by
  induction k with
  | zero => simp [risB, Rising]
  | succ k ih =>
    simp only [risB, Bool.and_eq_true, ih, Bool.or_eq_true, beq_iff_eq, decide_eq_true_eq]
    constructor
    · rintro ⟨h1, h2⟩ i hi
      by_cases he : i + 1 = k
      · subst he
        rcases h2 with h2 | h2
        · omega
        · simpa using h2
      · exact h1 i (by omega)
    · intro h
      refine ⟨fun i hi => h i (by omega), ?_⟩
      by_cases hk : k = 0
      · exact .inl hk
      · right
        have := h (k - 1) (by omega)
        rwa [show k - 1 + 1 = k by omega] at this
theorem rising_le {n : Nat} {xs : List Int} (h : Rising n xs) {i j : Nat} (hij : i ≤ j) (hj : j < n) : xs.getD i 0 ≤ xs.getD j 0 := by
  induction j with
  | zero => cases Nat.le_zero.1 hij; exact Int.le_refl _
  | succ j ih =>
    by_cases he : i = j + 1
    · subst he; exact Int.le_refl _
    · have := ih (by omega) (by omega)
      have := h j hj
      omega
theorem rising_lt {n : Nat} {xs : List Int} (h : Rising n xs) {i j : Nat} (hij : i < j) (hj : j < n) : xs.getD i 0 < xs.getD j 0 := by
  have h1 := rising_le h (i := i + 1) (j := j) hij hj
  have h2 := h i (by omega)
  omega
/-- what is wrong with a table -/
def tabChk (lx ly : Nat) (xs : List Int) : Int := if 64 < lx then 2 else if lx = 0 ∨ lx ≠ ly then 4 else if risB xs lx = true then 0 else 4
def TabOk (lx ly : Nat) (xs : List Int) : Prop := 1 ≤ lx ∧ lx ≤ 64 ∧ lx = ly ∧ Rising lx xs
theorem tabChk_ok {lx ly : Nat} {xs : List Int} : tabChk lx ly xs = 0 ↔ TabOk lx ly xs := by
  unfold tabChk TabOk
  rw [← risB_iff]
  by_cases h1 : 64 < lx
  · rw [if_pos h1]; constructor
    · intro h; omega
    · intro h; omega
  · rw [if_neg h1]
    by_cases h2 : lx = 0 ∨ lx ≠ ly
    · rw [if_pos h2]; constructor
      · intro h; omega
      · intro h; omega
    · rw [if_neg h2]
      cases h3 : risB xs lx
      · simp
      · simp; omega
/-- how many of the first n are at most x, in a rising row -/
def place (xs : List Int) (x : Int) : Nat → Nat
  | 0 => 0
  | k + 1 => if xs.getD k 0 ≤ x then k + 1 else place xs x k
theorem place_le (xs : List Int) (x : Int) (n : Nat) : place xs x n ≤ n := by
  induction n with
  | zero => exact Nat.le_refl _
  | succ k ih => simp only [place]; split <;> omega
theorem place_spec {n : Nat} {xs : List Int} (h : Rising n xs) (x : Int) : (∀ i, i < place xs x n → xs.getD i 0 ≤ x) ∧ (∀ i, place xs x n ≤ i → i < n → x < xs.getD i 0) := by
  induction n with
  | zero => exact ⟨fun i hi => by simp [place] at hi, fun i _ hi => by omega⟩
  | succ k ih =>
    have hk : Rising k xs := fun i hi => h i (by omega)
    simp only [place]
    by_cases hx : xs.getD k 0 ≤ x
    · rw [if_pos hx]
      refine ⟨fun i hi => ?_, fun i h1 h2 => by omega⟩
      have := rising_le h (i := i) (j := k) (by omega) (by omega)
      omega
    · rw [if_neg hx]
      obtain ⟨h1, h2⟩ := ih hk
      refine ⟨h1, fun i hi hi2 => ?_⟩
      by_cases he : i = k
      · subst he; omega
      · exact h2 i hi (by omega)
theorem place_uniq {n : Nat} {xs : List Int} (h : Rising n xs) (x : Int) (m : Nat) (hm : m ≤ n) (h1 : ∀ i, i < m → xs.getD i 0 ≤ x) (h2 : ∀ i, m ≤ i → i < n → x < xs.getD i 0) : place xs x n = m := by
  have hp := place_spec h x
  have hl := place_le xs x n
  rcases Nat.lt_trichotomy (place xs x n) m with hlt | he | hgt
  · have a := h1 _ hlt
    have b := hp.2 _ (Nat.le_refl _) (by omega)
    omega
  · exact he
  · have a := hp.1 _ hgt
    have b := h2 _ (Nat.le_refl _) (by omega)
    omega
/-- a times b by c, rounded down -/
def partI (a b c : Int) : Int := a * b / c
theorem part_bd (a b c : Int) (ha : 0 ≤ a) (hc : a ≤ c) (hc0 : 0 < c) : min 0 b ≤ partI a b c ∧ partI a b c ≤ max 0 b := by
  unfold partI
  by_cases hb : 0 ≤ b
  · have h1 : 0 ≤ a * b := Int.mul_nonneg ha hb
    have h2 : a * b ≤ c * b := Int.mul_le_mul_of_nonneg_right hc hb
    have h3 : 0 ≤ a * b / c := Int.ediv_nonneg h1 (by omega)
    have h4 : a * b / c ≤ b := by
      have := Int.ediv_le_ediv hc0 h2
      rwa [Int.mul_ediv_cancel_left _ (by omega)] at this
    omega
  · have h1 : a * b ≤ 0 := by
      have := Int.mul_nonneg ha (show 0 ≤ -b by omega)
      rw [Int.mul_neg] at this; omega
    have h2 : c * b ≤ a * b := by
      have := Int.mul_le_mul_of_nonneg_right hc (show 0 ≤ -b by omega)
      rw [Int.mul_neg, Int.mul_neg] at this; omega
    have h3 : a * b / c ≤ 0 := by
      have := Int.ediv_le_ediv hc0 h1
      simpa using this
    have h4 : b ≤ a * b / c := by
      have := Int.ediv_le_ediv hc0 h2
      rwa [Int.mul_ediv_cancel_left _ (by omega)] at this
    omega
/-- the value of a table at x -/
def atI (xs ys : List Int) (n : Nat) (x : Int) : Int :=
  if place xs x n = 0 then ys.getD 0 0 else if place xs x n = n then ys.getD (n - 1) 0
  else ys.getD (place xs x n - 1) 0 + partI (x - xs.getD (place xs x n - 1) 0) (ys.getD (place xs x n) 0 - ys.getD (place xs x n - 1) 0) (xs.getD (place xs x n) 0 - xs.getD (place xs x n - 1) 0)
/-- the segment in which x lies -/
theorem at_seg {n : Nat} {xs ys : List Int} (h : Rising n xs) (x : Int) (i : Nat) (hi : i + 1 < n) (h1 : xs.getD i 0 ≤ x) (h2 : x < xs.getD (i + 1) 0) :
    atI xs ys n x = ys.getD i 0 + partI (x - xs.getD i 0) (ys.getD (i + 1) 0 - ys.getD i 0) (xs.getD (i + 1) 0 - xs.getD i 0) := by
  have hp : place xs x n = i + 1 := place_uniq h x (i + 1) (by omega) (fun j hj => by have := rising_le h (i := j) (j := i) (by omega) (by omega); omega)
    (fun j hj hj2 => by have := rising_le h (i := i + 1) (j := j) (by omega) hj2; omega)
  unfold atI
  rw [hp, if_neg (by omega), if_neg (by omega)]
  simp
theorem at_low {n : Nat} {xs ys : List Int} (h : Rising n xs) (h0 : 0 < n) (x : Int) (h1 : x < xs.getD 0 0) : atI xs ys n x = ys.getD 0 0 := by
  have hp : place xs x n = 0 := place_uniq h x 0 (by omega) (fun j hj => by omega) (fun j hj hj2 => by have := rising_le h (i := 0) (j := j) (by omega) hj2; omega)
  unfold atI
  rw [hp, if_pos rfl]
theorem at_high {n : Nat} {xs ys : List Int} (h : Rising n xs) (h0 : 0 < n) (x : Int) (h1 : xs.getD (n - 1) 0 ≤ x) : atI xs ys n x = ys.getD (n - 1) 0 := by
  have hp : place xs x n = n := place_uniq h x n (by omega) (fun j hj => by have := rising_le h (i := j) (j := n - 1) (by omega) (by omega); omega) (fun j hj hj2 => by omega)
  unfold atI
  rw [hp, if_neg (by omega), if_pos rfl]
/-- x lies below all, at or above all, or in one segment -/
theorem seg_cases {n : Nat} {xs : List Int} (h : Rising n xs) (h0 : 0 < n) (x : Int) : x < xs.getD 0 0 ∨ xs.getD (n - 1) 0 ≤ x ∨ ∃ i, i + 1 < n ∧ xs.getD i 0 ≤ x ∧ x < xs.getD (i + 1) 0 := by
  have hp := place_spec h x
  have hl := place_le xs x n
  by_cases h1 : place xs x n = 0
  · left; exact hp.2 0 (by omega) h0
  · by_cases h2 : place xs x n = n
    · right; left; exact hp.1 _ (by omega)
    · right; right
      refine ⟨place xs x n - 1, by omega, hp.1 _ (by omega), ?_⟩
      have := hp.2 (place xs x n) (Nat.le_refl _) (by omega)
      rwa [show place xs x n - 1 + 1 = place xs x n by omega]
/-- at a point it is that point -/
theorem at_knot {n : Nat} {xs ys : List Int} (h : Rising n xs) (i : Nat) (hi : i < n) : atI xs ys n (xs.getD i 0) = ys.getD i 0 := by
  by_cases he : i + 1 = n
  · subst he
    exact at_high h (by omega) _ (Int.le_refl _)
  · rw [at_seg h _ i (by omega) (Int.le_refl _) (h i (by omega))]
    simp [partI]
theorem at_between {n : Nat} {xs ys : List Int} (h : Rising n xs) (x : Int) (i : Nat) (hi : i + 1 < n) (h1 : xs.getD i 0 ≤ x) (h2 : x ≤ xs.getD (i + 1) 0) :
    min (ys.getD i 0) (ys.getD (i + 1) 0) ≤ atI xs ys n x ∧ atI xs ys n x ≤ max (ys.getD i 0) (ys.getD (i + 1) 0) := by
  by_cases he : x = xs.getD (i + 1) 0
  · subst he; rw [at_knot h (i + 1) hi]; omega
  · rw [at_seg h x i hi h1 (by omega)]
    have := part_bd (x - xs.getD i 0) (ys.getD (i + 1) 0 - ys.getD i 0) (xs.getD (i + 1) 0 - xs.getD i 0) (by omega) (by omega) (by omega)
    omega
theorem at_bd {n : Nat} {xs ys : List Int} (h : Rising n xs) (h0 : 0 < n) (x : Int) (hy : ∀ j, -2147483648 ≤ ys.getD j 0 ∧ ys.getD j 0 ≤ 2147483647) : -2147483648 ≤ atI xs ys n x ∧ atI xs ys n x ≤ 2147483647 := by
  rcases seg_cases h h0 x with h1 | h1 | ⟨i, hi, h1, h2⟩
  · rw [at_low h h0 x h1]; exact hy 0
  · rw [at_high h h0 x h1]; exact hy _
  · have := at_between h (ys := ys) x i hi h1 (by omega)
    have := hy i; have := hy (i + 1)
    omega
/-- of points that rise, what lies behind a point is told above it -/
theorem at_ge {n : Nat} {xs ys : List Int} (h : Rising n xs) (hy : Rising n ys) (x : Int) (i : Nat) (hi : i < n) (h1 : xs.getD i 0 ≤ x) : ys.getD i 0 ≤ atI xs ys n x := by
  rcases seg_cases h (by omega) x with h2 | h2 | ⟨j, hj, h2, h3⟩
  · have := rising_le h (i := 0) (j := i) (by omega) hi; omega
  · rw [at_high h (by omega) x h2]; exact rising_le hy (by omega) (by omega)
  · have hij : i ≤ j := by
      rcases Nat.lt_or_ge j i with hlt | hge
      · have := rising_le h (i := j + 1) (j := i) hlt hi; omega
      · exact hge
    have h4 := at_between h (ys := ys) x j hj h2 (by omega)
    have h5 := hy j hj
    have h6 := rising_le hy (i := i) (j := j) hij (by omega)
    omega
theorem at_le {n : Nat} {xs ys : List Int} (h : Rising n xs) (hy : Rising n ys) (x : Int) (i : Nat) (hi : i < n) (h1 : x ≤ xs.getD i 0) : atI xs ys n x ≤ ys.getD i 0 := by
  rcases seg_cases h (by omega) x with h2 | h2 | ⟨j, hj, h2, h3⟩
  · rw [at_low h (by omega) x h2]; exact rising_le hy (by omega) hi
  · rw [at_high h (by omega) x h2]
    have h4 : i = n - 1 := by
      rcases Nat.lt_or_ge i (n - 1) with hlt | hge
      · have := rising_lt h hlt (by omega); omega
      · omega
    subst h4; exact Int.le_refl _
  · have hij : j ≤ i := by
      rcases Nat.lt_or_ge i j with hlt | hge
      · have := rising_lt h hlt (by omega); omega
      · exact hge
    by_cases he : j = i
    · subst he
      have : x = xs.getD j 0 := by omega
      subst this
      rw [at_knot h j hi]; exact Int.le_refl _
    · have h4 := at_between h (ys := ys) x j hj h2 (by omega)
      have h5 := hy j hj
      have h6 := rising_le hy (i := j + 1) (j := i) (by omega) hi
      omega
theorem part_mono {a a' b c : Int} (h : a ≤ a') (hb : 0 ≤ b) (hc : 0 < c) : partI a b c ≤ partI a' b c := by
  unfold partI
  exact Int.ediv_le_ediv hc (Int.mul_le_mul_of_nonneg_right h hb)
theorem at_mono {n : Nat} {xs ys : List Int} (h : Rising n xs) (hy : Rising n ys) (h0 : 0 < n) {x z : Int} (hxz : x ≤ z) : atI xs ys n x ≤ atI xs ys n z := by
  rcases seg_cases h h0 x with h2 | h2 | ⟨i, hi, h2, h3⟩
  · rw [at_low h h0 x h2]
    by_cases hz : z < xs.getD 0 0
    · rw [at_low h h0 z hz]; exact Int.le_refl _
    · exact at_ge h hy z 0 h0 (by omega)
  · rw [at_high h h0 x h2, at_high h h0 z (by omega)]; exact Int.le_refl _
  · by_cases hz : z < xs.getD (i + 1) 0
    · rw [at_seg h x i hi h2 h3, at_seg h z i hi (by omega) hz]
      have h5 := hy i hi
      have h6 := h i hi
      have := part_mono (a := x - xs.getD i 0) (a' := z - xs.getD i 0) (b := ys.getD (i + 1) 0 - ys.getD i 0) (c := xs.getD (i + 1) 0 - xs.getD i 0) (by omega) (by omega) (by omega)
      omega
    · have h5 := at_le h hy x (i + 1) hi (by omega)
      have h6 := at_ge h hy z (i + 1) hi (by omega)
      omega
/-- back from there it is no farther than it was -/
theorem at_back {n : Nat} {xs ys : List Int} (h : Rising n xs) (hy : Rising n ys) (h0 : 0 < n) (x : Int) :
    xs.getD 0 0 ≤ atI ys xs n (atI xs ys n x) ∧ atI ys xs n (atI xs ys n x) ≤ clampI x (xs.getD 0 0) (xs.getD (n - 1) 0) := by
  have g := rising_le h (i := 0) (j := n - 1) (by omega) (by omega)
  rcases seg_cases h h0 x with h2 | h2 | ⟨i, hi, h2, h3⟩
  · rw [at_low h h0 x h2, at_knot hy 0 h0]
    unfold clampI; omega
  · rw [at_high h h0 x h2, at_knot hy (n - 1) (by omega)]
    unfold clampI; omega
  · have h5 := hy i hi
    have h6 := h i hi
    rw [at_seg h x i hi h2 h3]
    obtain ⟨a, ha⟩ : ∃ a, x - xs.getD i 0 = a := ⟨_, rfl⟩
    obtain ⟨b, hb⟩ : ∃ b, ys.getD (i + 1) 0 - ys.getD i 0 = b := ⟨_, rfl⟩
    obtain ⟨c, hc⟩ : ∃ c, xs.getD (i + 1) 0 - xs.getD i 0 = c := ⟨_, rfl⟩
    rw [ha, hb, hc]
    have hp0 : 0 ≤ partI a b c := by unfold partI; exact Int.ediv_nonneg (Int.mul_nonneg (by omega) (by omega)) (by omega)
    have hp1 : partI a b c * c ≤ a * b := by unfold partI; exact Int.ediv_mul_le _ (by omega)
    have hp2 : partI a b c < b := by
      have h7 : a * b < c * b := Int.mul_lt_mul_of_pos_right (by omega) (by omega)
      by_cases hl : partI a b c < b
      · exact hl
      · have h8 : b * c ≤ partI a b c * c := Int.mul_le_mul_of_nonneg_right (by omega) (by omega)
        rw [Int.mul_comm b c] at h8
        omega
    generalize partI a b c = p at *
    rw [at_seg hy (ys.getD i 0 + p) i hi (by omega) (by omega), hb, hc, show ys.getD i 0 + p - ys.getD i 0 = p by omega]
    have hq0 : 0 ≤ partI p c b := by unfold partI; exact Int.ediv_nonneg (Int.mul_nonneg hp0 (by omega)) (by omega)
    have hq1 : partI p c b ≤ a := by
      unfold partI
      have h9 := Int.ediv_le_ediv (show 0 < b by omega) hp1
      rwa [Int.mul_ediv_cancel _ (by omega)] at h9
    have g1 := rising_le h (i := 0) (j := i) (by omega) (by omega)
    have g2 := rising_le h (i := i + 1) (j := n - 1) (by omega) (by omega)
    unfold clampI; omega

end Go.Proofs.Ytglagndpholejaa
