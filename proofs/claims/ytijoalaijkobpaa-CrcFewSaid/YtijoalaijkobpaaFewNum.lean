/- What turning bits of a text over, one by one, makes of it: how many stay turned. No program in sight. -/
import Derived.Test.YtijoalaijkobpaaFlip
namespace Go.Proofs.Ytijoalaijkobpaa
set_option linter.unusedVariables false
def oddAt (ks : List Nat) (j : Nat) : Bool := decide (ks.count j % 2 = 1)
def errOf (N : Nat) (ks : List Nat) : List Bool := (List.range N).map (oddAt ks)
def turnN (t : List Nat) (ks : List Nat) : List Nat := ks.foldl (fun l k => flipN l (k / 8) (k % 8)) t
theorem errOf_length (N : Nat) (ks : List Nat) : (errOf N ks).length = N := by simp [errOf]
theorem errOf_nil (N : Nat) : errOf N [] = List.replicate N false := by
  apply List.ext_getElem?
  intro i
  by_cases h : i < N
  · simp [errOf, oddAt, h]
  · rw [List.getElem?_eq_none (by simp [errOf]; omega), List.getElem?_eq_none (by simp; omega)]
theorem tog_get (k : Nat) (l : List Bool) (j : Nat) : (tog k l)[j]? = if j = k then l[j]?.map (!·) else l[j]? := by
  induction l generalizing k j with
  | nil => cases k <;> simp [tog]
  | cons b l ih =>
    cases k with
    | zero =>
      cases j with
      | zero => simp [tog]
      | succ j => simp [tog]
    | succ k =>
      cases j with
      | zero => simp [tog]
      | succ j => simp only [tog, List.getElem?_cons_succ, ih]; simp
theorem oddAt_snoc (ks : List Nat) (k j : Nat) : oddAt (ks ++ [k]) j = if j = k then !oddAt ks j else oddAt ks j := by
  unfold oddAt
  rw [List.count_append]
  by_cases h : j = k
  · subst h
    simp only [List.count_singleton_self, if_true]
    rw [Bool.eq_iff_iff]
    simp
    omega
  · have : List.count j [k] = 0 := by
      rw [List.count_eq_zero]; simp; exact h
    simp [this, h]
theorem errOf_snoc (N : Nat) (ks : List Nat) (k : Nat) (h : k < N) : errOf N (ks ++ [k]) = tog k (errOf N ks) := by
  apply List.ext_getElem?
  intro j
  rw [tog_get]
  by_cases hj : j < N
  · simp only [errOf, List.getElem?_map, List.getElem?_range hj, Option.map_some, oddAt_snoc]
    split <;> rfl
  · rw [List.getElem?_eq_none (by rw [errOf_length]; omega), List.getElem?_eq_none (l := errOf N ks) (by rw [errOf_length]; omega)]
    simp
theorem turnN_snoc (t ks : List Nat) (k : Nat) : turnN t (ks ++ [k]) = flipN (turnN t ks) (k / 8) (k % 8) := by simp [turnN, List.foldl_append]
theorem turnN_length (t ks : List Nat) : (turnN t ks).length = t.length := by
  induction ks generalizing t with
  | nil => rfl
  | cons k ks ih => simp only [turnN, List.foldl_cons] at ih ⊢; rw [ih, flipN_length]
theorem turnN_lt (t ks : List Nat) (h : ∀ x ∈ t, x < 256) : ∀ x ∈ turnN t ks, x < 256 := by
  induction ks generalizing t with
  | nil => exact h
  | cons k ks ih => simp only [turnN, List.foldl_cons] at ih ⊢; exact ih _ (flipN_lt t _ _ h)
theorem snoc_ind {P : List Nat → Prop} (h0 : P []) (h1 : ∀ ks k, P ks → P (ks ++ [k])) (ks : List Nat) : P ks := by
  have : ∀ n, ∀ ks : List Nat, ks.length = n → P ks := by
    intro n
    induction n with
    | zero => intro ks h; rw [List.length_eq_zero_iff.1 h]; exact h0
    | succ n ih =>
      intro ks h
      have hne : ks ≠ [] := by intro e; subst e; simp at h
      rw [← List.dropLast_concat_getLast hne]
      exact h1 _ _ (ih _ (by simp [h]))
  exact this _ ks rfl
theorem turn_bits (t ks : List Nat) (ht : ∀ x ∈ t, x < 256) (hk : ∀ k ∈ ks, k < 8 * t.length) : bitsOf (turnN t ks) = zipX (bitsOf t) (errOf (8 * t.length) ks) := by
  revert hk
  refine snoc_ind (P := fun ks => (∀ k ∈ ks, k < 8 * t.length) → bitsOf (turnN t ks) = zipX (bitsOf t) (errOf (8 * t.length) ks)) ?_ ?_ ks
  · intro _
    rw [errOf_nil, zipX_false _ _ (bits_length t)]; rfl
  · intro ks k ih hk
    have h1 : k < 8 * t.length := hk k (by simp)
    rw [turnN_snoc, bits_flip _ _ _ (turnN_lt t ks ht) (by rw [turnN_length]; omega) (by omega), show 8 * (k / 8) + k % 8 = k by omega, ih (fun x hx => hk x (by simp [hx])), errOf_snoc _ _ _ h1, zipX_tog _ _ _ (by rw [bits_length, errOf_length])]
theorem ones_zero (e : List Bool) (h : ones e = 0) : e = List.replicate e.length false := by
  induction e with
  | nil => rfl
  | cons b e ih =>
    cases b with
    | true => simp [ones] at h
    | false =>
      rw [List.length_cons, List.replicate_succ]
      congr 1
      exact ih (by simpa [ones] using h)
theorem ones_succ (e : List Bool) (n : Nat) (h : ones e = n + 1) : ∃ a r, e = List.replicate a false ++ true :: r ∧ ones r = n := by
  induction e with
  | nil => simp [ones] at h
  | cons b e ih =>
    cases b with
    | true => exact ⟨0, e, rfl, by simpa [ones] using h⟩
    | false =>
      obtain ⟨a, r, he, hr⟩ := ih (by simpa [ones] using h)
      exact ⟨a + 1, r, by rw [he]; simp [List.replicate_succ], hr⟩
theorem syn_twos (e : List Bool) (h : ones e = 2) (hl : e.length ≤ 32760) : syn e ≠ 0 := by
  obtain ⟨a, r, he, hr⟩ := ones_succ e 1 h
  obtain ⟨m, q, hq, hz⟩ := ones_succ r 0 hr
  have h0 := ones_zero q hz
  rw [hq] at he
  rw [h0] at he
  have hlen := congrArg List.length he
  simp at hlen
  rw [he]
  have := syn_two a m q.length (by omega)
  simpa using this
theorem syn_none (N : Nat) : syn (List.replicate N false) = 0 := by
  unfold syn; rw [fold_zeros, crcBits_zero]
/-- how many bits stay turned -/
def oddsN (N : Nat) (ks : List Nat) : Nat := (List.range N).countP (oddAt ks)
theorem ones_errOf (N : Nat) (ks : List Nat) : ones (errOf N ks) = oddsN N ks := by
  unfold ones errOf oddsN
  rw [List.countP_map]
  congr 1
  funext j
  simp
theorem few_bad (s : ByteArray) (ks : List Nat) (hs : s.size ≤ 4093) (hk : ∀ k ∈ ks, k < 8 * (s.size + 2)) (h : oddsN (8 * (s.size + 2)) ks = 2 ∨ oddsN (8 * (s.size + 2)) ks % 2 = 1) : ¬ sumFits (strN (turnN (bytesN (putS s)) ks)) := by
  have hl : (bytesN (putS s)).length = s.size + 2 := by rw [bytesN_length, put_size]
  refine bad_of_syn s _ (errOf (8 * (s.size + 2)) ks) (turnN_lt _ _ (bytesN_lt _)) (by rw [turnN_length, hl]) ?_ (errOf_length _ _) ?_
  · have := turn_bits (bytesN (putS s)) ks (bytesN_lt _) (by rw [hl]; exact hk)
    rw [hl] at this; exact this
  · rcases h with h | h
    · exact syn_twos _ (by rw [ones_errOf]; exact h) (by rw [errOf_length]; omega)
    · exact syn_odd _ (by rw [ones_errOf]; exact h)
theorem few_good (s : ByteArray) (ks : List Nat) (hs : s.size ≤ 4093) (hk : ∀ k ∈ ks, k < 8 * (s.size + 2)) (h : oddsN (8 * (s.size + 2)) ks = 0) : sumFits (strN (turnN (bytesN (putS s)) ks)) := by
  have hl : (bytesN (putS s)).length = s.size + 2 := by rw [bytesN_length, put_size]
  have hz : errOf (8 * (s.size + 2)) ks = List.replicate (8 * (s.size + 2)) false := by
    have := ones_zero (errOf (8 * (s.size + 2)) ks) (by rw [ones_errOf]; exact h)
    rwa [errOf_length] at this
  have hb := turn_bits (bytesN (putS s)) ks (bytesN_lt _) (by rw [hl]; exact hk)
  rw [hl, hz, zipX_false _ _ (by rw [bits_length, hl])] at hb
  refine (fits_iff _ (by rw [strN_size, turnN_length, hl]; omega)).2 ?_
  rw [bytesN_strN _ (turnN_lt _ _ (bytesN_lt _)), from_bits _ _ (by omega) (turnN_lt _ _ (bytesN_lt _)), hb, ← from_bits _ _ (by omega) (bytesN_lt _)]
  exact put_zero s
/-- what is done of the map, a key after the other -/
def doneN (N : Nat) (f : Nat → Bool) (left : Nat → Bool) : Nat := (List.range N).countP fun j => f j && !left j
theorem countP_one (N : Nat) (f g : Nat → Bool) (x : Nat) (hx : x < N) (h : ∀ j, j ≠ x → g j = f j) (hf : f x = false) : (List.range N).countP g = (List.range N).countP f + if g x then 1 else 0 := by
  induction N with
  | zero => omega
  | succ N ih =>
    rw [List.range_succ, List.countP_append, List.countP_append]
    by_cases e : x = N
    · subst e
      have h1 : (List.range x).countP g = (List.range x).countP f := by
        apply List.countP_congr
        intro j hj
        rw [h j (by have := List.mem_range.1 hj; omega)]
      rw [h1]
      simp [List.countP_cons, hf]
    · rw [ih (by omega)]
      simp [List.countP_cons, h N (fun q => e q.symm)]
      omega
theorem doneN_step (N : Nat) (f left left' : Nat → Bool) (x : Nat) (hx : x < N) (hl : left x = true) (hl' : left' x = false) (h : ∀ j, j ≠ x → left' j = left j) : doneN N f left' = doneN N f left + if f x then 1 else 0 := by
  unfold doneN
  rw [countP_one N (fun j => f j && !left j) (fun j => f j && !left' j) x hx (fun j hj => by rw [h j hj]) (by simp [hl])]
  simp [hl']
theorem doneN_start (N : Nat) (f left : Nat → Bool) (h : ∀ j, j < N → f j = true → left j = true) : doneN N f left = 0 := by
  unfold doneN
  rw [List.countP_eq_zero]
  intro j hj
  have := h j (List.mem_range.1 hj)
  revert this
  cases f j <;> cases left j <;> simp
theorem doneN_end (N : Nat) (ks : List Nat) (left : Nat → Bool) (h : ∀ j, left j = false) : doneN N (oddAt ks) left = oddsN N ks := by
  unfold doneN oddsN
  congr 1
  funext j
  simp [h]
end Go.Proofs.Ytijoalaijkobpaa
