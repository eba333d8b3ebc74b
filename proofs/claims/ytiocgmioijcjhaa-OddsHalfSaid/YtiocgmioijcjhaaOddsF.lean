/- The plain laws of odds.Odds: with parts that are sure, never, or one half, all numbers are exact. -/
import Derived.Test.YtiocgmioijcjhaaWeighLaw
import Derived.Laws.FloatArith
namespace Go.Proofs.Ytiocgmioijcjhaa
open Go.ChangeShapes Go.WideShapes Go.ChangeAt Go.RowKit
set_option linter.unusedVariables false

abbrev fHalf : Nat := 4602678819172646912
abbrev fOne : Nat := 4607182418800017408
/-- the bits of k / 2^h -/
def fB (k h : Nat) : Nat := FloatKind.f64.encode (.number false k (-(h : Int)))
def pv (κ : Nat) : Nat := if κ = 0 then 0 else if κ = 1 then fHalf else fOne
def mulP (o : Option Nat) (κ : Nat) : Option Nat := match o with
  | none => none
  | some j => if κ = 0 then none else if κ = 1 then some (j + 1) else some j
def pB : Option Nat → Nat
  | none => 0
  | some j => fB 1 j
def fac (b : Bool) (κ : Nat) : Nat := if b then κ else 2 - κ
def prodK (K : Nat → Nat) (s : Nat) : Nat → Option Nat
  | 0 => some 0
  | m + 1 => mulP (prodK K s m) (fac (s.testBit m) (K m))
def halves (K : Nat → Nat) : Nat → Nat
  | 0 => 0
  | m + 1 => if K m = 1 then halves K m + 1 else halves K m
theorem halves_le (K : Nat → Nat) (m : Nat) : halves K m ≤ m := by
  induction m with
  | zero => exact Nat.le_refl _
  | succ m ih => simp only [halves]; split <;> omega
theorem prod_half (K : Nat → Nat) (hK : ∀ i, i < 8 → K i ≤ 2) (s : Nat) : ∀ m j, m ≤ 8 → prodK K s m = some j → j = halves K m := by
  intro m
  induction m with
  | zero => intro j _ h; simp only [prodK, Option.some.injEq] at h; simp [halves, h.symm]
  | succ m ih =>
    intro j hm h
    have hk := hK m (by omega)
    simp only [prodK] at h
    cases hp : prodK K s m with
    | none => rw [hp] at h; cases h
    | some q =>
      rw [hp] at h
      have hq := ih q (by omega) hp
      have e : mulP (some q) (fac (s.testBit m) (K m)) = some j → j = if K m = 1 then q + 1 else q := by
        rcases (by omega : K m = 0 ∨ K m = 1 ∨ K m = 2) with e | e | e <;> rw [e] <;> cases s.testBit m <;> simp [mulP, fac] <;> omega
      have h2 := e h
      simp only [halves]
      rw [h2, hq]
theorem prod_le (K : Nat → Nat) (hK : ∀ i, i < 8 → K i ≤ 2) (s m : Nat) (hm : m ≤ 8) : ∀ j, prodK K s m = some j → j ≤ m := fun j h => by
  rw [prod_half K hK s m j hm h]; exact halves_le K m
/-- how many failing sets below n the odds of the parts allow -/
def cntP (K : Nat → Nat) (ts : List GateR) : Nat → Nat
  | 0 => 0
  | n + 1 => cntP K ts n + (if topB ts n && (prodK K n 8).isSome then 1 else 0)
theorem cntP_le (K : Nat → Nat) (ts : List GateR) (n : Nat) : cntP K ts n ≤ n := by
  induction n with
  | zero => exact Nat.le_refl _
  | succ n ih => simp only [cntP]; split <;> omega
theorem adds0 : ((List.range 256).all fun k => decide (floatBits .add .f64 (fB k 0) (fB 1 0) = some (fB (k + 1) 0)) && decide (floatBits .add .f64 (fB k 0) 0 = some (fB k 0))) = true := by decide +kernel
theorem add_0 {k : Nat} (hk : k < 256) : floatBits .add .f64 (fB k 0) (fB 1 0) = some (fB (k + 1) 0) ∧ floatBits .add .f64 (fB k 0) 0 = some (fB k 0) := by
  have := List.all_eq_true.1 adds0 k (List.mem_range.2 hk)
  simpa using this
theorem adds2 : ((List.range 256).all fun k => decide (floatBits .add .f64 (fB k 2) (fB 1 2) = some (fB (k + 1) 2)) && decide (floatBits .add .f64 (fB k 2) 0 = some (fB k 2))) = true := by decide +kernel
theorem add_2 {k : Nat} (hk : k < 256) : floatBits .add .f64 (fB k 2) (fB 1 2) = some (fB (k + 1) 2) ∧ floatBits .add .f64 (fB k 2) 0 = some (fB k 2) := by
  have := List.all_eq_true.1 adds2 k (List.mem_range.2 hk)
  simpa using this
theorem adds8 : ((List.range 256).all fun k => decide (floatBits .add .f64 (fB k 8) (fB 1 8) = some (fB (k + 1) 8)) && decide (floatBits .add .f64 (fB k 8) 0 = some (fB k 8))) = true := by decide +kernel
theorem add_8 {k : Nat} (hk : k < 256) : floatBits .add .f64 (fB k 8) (fB 1 8) = some (fB (k + 1) 8) ∧ floatBits .add .f64 (fB k 8) 0 = some (fB k 8) := by
  have := List.all_eq_true.1 adds8 k (List.mem_range.2 hk)
  simpa using this
/-- sums over 2^-h are exact -/
def AddOk (h : Nat) : Prop := ∀ k, k < 256 → floatBits .add .f64 (fB k h) (fB 1 h) = some (fB (k + 1) h) ∧ floatBits .add .f64 (fB k h) 0 = some (fB k h)
theorem muls : ((List.range 9).all fun j => (List.range 3).all fun κ => decide (floatBits .mul .f64 (fB 1 j) (pv κ) = some (pB (mulP (some j) κ))) && decide (floatBits .mul .f64 0 (pv κ) = some 0)) = true := by decide +kernel
theorem mul_is {o : Option Nat} {κ : Nat} (ho : ∀ j, o = some j → j ≤ 8) (hκ : κ ≤ 2) : floatBits .mul .f64 (pB o) (pv κ) = some (pB (mulP o κ)) := by
  cases o with
  | none =>
    have := List.all_eq_true.1 (List.all_eq_true.1 muls 0 (List.mem_range.2 (by omega))) κ (List.mem_range.2 (by omega))
    simp only [Bool.and_eq_true, decide_eq_true_eq] at this
    exact this.2
  | some j =>
    have := List.all_eq_true.1 (List.all_eq_true.1 muls j (List.mem_range.2 (by have := ho j rfl; omega))) κ (List.mem_range.2 (by omega))
    simp only [Bool.and_eq_true, decide_eq_true_eq] at this
    exact this.1
theorem sub_is {κ : Nat} (hκ : κ ≤ 2) : floatBits .sub .f64 fOne (pv κ) = some (pv (2 - κ)) := by
  rcases (by omega : κ = 0 ∨ κ = 1 ∨ κ = 2) with rfl | rfl | rfl <;> decide +kernel
theorem pB_zero : pB (some 0) = fOne := by decide +kernel
theorem fB_zero : ((List.range 9).all fun h => decide (fB 0 h = 0)) = true := by decide +kernel
theorem fB_zero' {h : Nat} (hh : h ≤ 8) : fB 0 h = 0 := by
  have := List.all_eq_true.1 fB_zero h (List.mem_range.2 (by omega))
  simpa using this
/-- the sum's step -/
theorem sum_is (K : Nat → Nat) (hK : ∀ i, i < 8 → K i ≤ 2) (hA : AddOk (halves K 8)) (ts : List GateR) (n : Nat) (hn : n < 256) (ht : topB ts n = true) : floatBits .add .f64 (fB (cntP K ts n) (halves K 8)) (pB (prodK K n 8)) = some (fB (cntP K ts (n + 1)) (halves K 8)) := by
  have h8 := halves_le K 8
  have hc := cntP_le K ts n
  obtain ⟨h1, h2⟩ := hA (cntP K ts n) (by omega)
  simp only [cntP, ht, Bool.true_and]
  cases hp : prodK K n 8 with
  | none => simpa [pB] using h2
  | some j =>
    have := prod_half K hK n 8 j (Nat.le_refl _) hp
    subst this
    simpa [pB] using h1
theorem cnt_skip (K : Nat → Nat) (ts : List GateR) (n : Nat) (ht : topB ts n = false) : cntP K ts (n + 1) = cntP K ts n := by simp [cntP, ht]
theorem cmps : ((List.range 3).all fun κ => (FloatKind.f64.format.order (pv κ) 0 == some .gt || FloatKind.f64.format.order (pv κ) 0 == some .eq) && (FloatKind.f64.format.order (pv κ) fOne == some .lt || FloatKind.f64.format.order (pv κ) fOne == some .eq)) = true := by decide +kernel
theorem cmp_is {κ : Nat} (hκ : κ ≤ 2) : (FloatKind.f64.format.order (pv κ) 0 == some .gt || FloatKind.f64.format.order (pv κ) 0 == some .eq) = true ∧ (FloatKind.f64.format.order (pv κ) fOne == some .lt || FloatKind.f64.format.order (pv κ) fOne == some .eq) = true := by
  have := List.all_eq_true.1 cmps κ (List.mem_range.2 (by omega))
  rw [Bool.and_eq_true] at this
  exact this
/-! All parts one half. -/
def kHalf : Nat → Nat := fun _ => 1
theorem half_some (s : Nat) : ∀ m, prodK kHalf s m = some m := by
  intro m
  induction m with
  | zero => rfl
  | succ m ih => simp only [prodK, ih, kHalf, fac]; cases s.testBit m <;> rfl
theorem half_cnt (ts : List GateR) : ∀ n, ((cntP kHalf ts n : Nat) : Int) = sumTo n fun s => one (topB ts s) := by
  intro n
  induction n with
  | zero => rfl
  | succ n ih =>
    simp only [cntP, sumTo, half_some, Option.isSome_some, Bool.and_true]
    cases topB ts n <;> simp [one, ih]
theorem half_8 : halves kHalf 8 = 8 := rfl
theorem quos : ((List.range 257).all fun n => decide (floatBits .quo .f64 (floatOfInt .f64 (n : Int)) 4643211215818981376 = some (fB n 8)) && (FloatKind.f64.format.order (fB n 8) (fB n 8) == some .eq)) = true := by decide +kernel
theorem quo_is {n : Nat} (h : n ≤ 256) : floatBits .quo .f64 (floatOfInt .f64 (n : Int)) 4643211215818981376 = some (fB n 8) ∧ (FloatKind.f64.format.order (fB n 8) (fB n 8) == some .eq) = true := by
  have := List.all_eq_true.1 quos n (List.mem_range.2 (by omega))
  simpa using this
/-! All parts sure or never. -/
def kSure (p : Nat) : Nat → Nat := fun i => if p.testBit i then 2 else 0
theorem sure_le (p i : Nat) : kSure p i ≤ 2 := by unfold kSure; split <;> omega
theorem sure_0 (p : Nat) : ∀ m, halves (kSure p) m = 0 := by
  intro m
  induction m with
  | zero => rfl
  | succ m ih => simp only [halves, kSure]; split <;> (try split at *) <;> simp_all
theorem sure_some (p s : Nat) : ∀ m, (prodK (kSure p) s m).isSome = true ↔ ∀ i, i < m → s.testBit i = p.testBit i := by
  intro m
  induction m with
  | zero => simp [prodK]
  | succ m ih =>
    simp only [prodK]
    cases hp : prodK (kSure p) s m with
    | none =>
      rw [hp] at ih
      simp only [mulP, Option.isSome_none, Bool.false_eq_true, false_iff] at ih ⊢
      exact fun h => ih fun i hi => h i (by omega)
    | some j =>
      rw [hp] at ih
      simp only [Option.isSome_some, true_iff] at ih
      have e : (mulP (some j) (fac (s.testBit m) (kSure p m))).isSome = true ↔ s.testBit m = p.testBit m := by
        have e2 : kSure p m = if p.testBit m then 2 else 0 := rfl
        rw [e2]
        generalize p.testBit m = a
        generalize s.testBit m = b
        cases a <;> cases b <;> simp [mulP, fac]
      rw [e]
      constructor
      · intro h i hi
        by_cases he : i = m
        · subst he; exact h
        · exact ih i (by omega)
      · intro h; exact h m (by omega)
theorem sure_eq {p s : Nat} (hs : s < 256) : (prodK (kSure p) s 8).isSome = true ↔ s = p % 256 := by
  rw [sure_some]
  constructor
  · intro h
    refine Nat.eq_of_testBit_eq fun i => ?_
    have hm := Nat.testBit_mod_two_pow p 8 i
    rw [show (2 : Nat) ^ 8 = 256 from rfl] at hm
    rw [hm]
    by_cases h8 : i < 8
    · rw [h i h8]; simp [h8]
    · rw [Nat.testBit_lt_two_pow (Nat.lt_of_lt_of_le hs (Nat.pow_le_pow_right (n := 2) (by decide) (by omega : 8 ≤ i)))]
      simp [h8]
  · rintro rfl i hi
    have hm := Nat.testBit_mod_two_pow p 8 i
    rw [show (2 : Nat) ^ 8 = 256 from rfl] at hm
    rw [hm]; simp [hi]
theorem sure_cnt (ts : List GateR) (p : Nat) : ∀ n, n ≤ 256 → cntP (kSure p) ts n = if p % 256 < n ∧ topB ts (p % 256) = true then 1 else 0 := by
  intro n
  induction n with
  | zero => intro _; simp [cntP]
  | succ n ih =>
    intro hn
    simp only [cntP]
    rw [ih (by omega)]
    by_cases e : n = p % 256
    · have h1 : (prodK (kSure p) n 8).isSome = true := (sure_eq (by omega)).2 e
      rw [h1, Bool.and_true, ← e, if_neg (by omega)]
      cases topB ts n <;> simp
    · have h1 : (prodK (kSure p) n 8).isSome = false := by
        rw [← Bool.not_eq_true]; exact fun h => e ((sure_eq (by omega)).1 h)
      rw [h1, Bool.and_false]
      have h2 : p % 256 < n + 1 ∧ topB ts (p % 256) = true ↔ p % 256 < n ∧ topB ts (p % 256) = true := by
        constructor
        · rintro ⟨h, h3⟩; exact ⟨by omega, h3⟩
        · rintro ⟨h, h3⟩; exact ⟨by omega, h3⟩
      simp [h2]
theorem sure_is (ts : List GateR) (p : Nat) : fB (cntP (kSure p) ts 256) (halves (kSure p) 8) = if topB ts (p % 256) then fOne else 0 := by
  rw [sure_0, sure_cnt ts p 256 (Nat.le_refl _)]
  have : p % 256 < 256 := Nat.mod_lt _ (by decide)
  cases topB ts (p % 256)
  · simp; decide +kernel
  · simp [this]; decide +kernel
/-! The tree 'either' with two parts of one half, the others never. -/
def kTwo : Nat → Nat := fun i => if i < 2 then 1 else 0
theorem two_is : fB (cntP kTwo eitherL 256) (halves kTwo 8) = 4604930618986332160 := by decide +kernel

end Go.Proofs.Ytiocgmioijcjhaa
