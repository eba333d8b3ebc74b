/- Plain facts on stroke.Test: what comes later, and a lane that is stuck. -/
import Derived.Test.YtacelddnklnhpaaStroke
import Derived.Test.YtacelddnklnhpaaConcat
namespace Go.Proofs.Ytacelddnklnhpaa
open Go.ChangeShapes Go.WideShapes Go.ChangeAt Go.RowKit
set_option linter.unusedVariables false

/-- the points ahead: where the trial ends among them, or what it has come to -/
theorem testS_append (T : Trl) (xs ys : List PointR) (i : Nat) (a : Rig) :
    ((testS T xs i a).1 < i + xs.length ∧ testS T (xs ++ ys) i a = testS T xs i a) ∨ ((testS T xs i a).1 = i + xs.length ∧ testS T (xs ++ ys) i a = testS T ys (i + xs.length) (testS T xs i a).2) := by
  induction xs generalizing i a with
  | nil => right; simp [testS]
  | cons p xs ih =>
    rw [List.cons_append]
    by_cases h : offS p (framesS T p.1 p.2.1.toNat a)
    · left
      rw [testS_off h, testS_off h]
      exact ⟨by simp, rfl⟩
    · rw [testS_on h, testS_on h]
      rcases ih (i + 1) (framesS T p.1 p.2.1.toNat a) with ⟨h1, h2⟩ | ⟨h1, h2⟩
      · left; exact ⟨by simp only [List.length_cons]; omega, h2⟩
      · right
        rw [show i + (p :: xs).length = i + 1 + xs.length by simp only [List.length_cons]; omega]
        exact ⟨h1, h2⟩
theorem testS_le (T : Trl) (xs : List PointR) (i : Nat) (a : Rig) : i ≤ (testS T xs i a).1 ∧ (testS T xs i a).1 ≤ i + xs.length := by
  induction xs generalizing i a with
  | nil => simp [testS]
  | cons p xs ih =>
    by_cases h : offS p (framesS T p.1 p.2.1.toNat a)
    · rw [testS_off h]; simp
    · rw [testS_on h]
      have := ih (i + 1) (framesS T p.1 p.2.1.toNat a)
      simp only [List.length_cons]; omega
theorem timeTo_front (xs ys : List PointR) (k : Nat) (hk : k ≤ xs.length) : timeTo (xs ++ ys) k = timeTo xs k := by
  induction k with
  | zero => rfl
  | succ k ih =>
    simp only [timeTo]
    rw [ih (by omega), List.getD_eq_getElem?_getD, List.getD_eq_getElem?_getD, List.getElem?_append_left (by omega)]
theorem timeTo_mono (xs : List PointR) (h : ∀ (i : Nat) x, xs[i]? = some x → ptOk x) (j k : Nat) (hj : j ≤ k) (hk : k ≤ xs.length) : timeTo xs j ≤ timeTo xs k := by
  induction k with
  | zero => obtain rfl : j = 0 := by omega
            exact Int.le_refl _
  | succ k ih =>
    by_cases e : j = k + 1
    · subst e; exact Int.le_refl _
    · have h1 := ih (by omega) (by omega)
      have e2 : xs[k]? = some (xs[k]'(by omega)) := List.getElem?_eq_getElem _
      have h2 := h k _ e2
      unfold ptOk at h2
      simp only [timeTo, List.getD_eq_getElem?_getD, e2, Option.getD_some]
      omega
theorem pointsOk_front {xs ys : List PointR} (h : PointsOk (xs ++ ys)) (h1 : 1 ≤ xs.length) : PointsOk xs := by
  refine ⟨h1, by have := h.2.1; simp at this; omega, fun i x hx => h.2.2 i x ?_⟩
  have hi : i < xs.length := by
    rcases Nat.lt_or_ge i xs.length with h | h
    · exact h
    · rw [List.getElem?_eq_none h] at hx; cases hx
  rw [List.getElem?_append_left hi]; exact hx
/-- one point that is met -/
theorem testS_one {T : Trl} {p : PointR} {a : Rig} (h : ¬ offS p (framesS T p.1 p.2.1.toNat a)) : testS T [p] 0 a = (1, framesS T p.1 p.2.1.toNat a) := by
  rw [testS_on h]; rfl
theorem clampI_id (x a b : Int) (h : a ≤ x ∧ x ≤ b) : clampI x a b = x := by unfold clampI; omega
/-- a lane that is stuck, without load: it stays -/
theorem stuck_pos (T : Trl) (want : Int) (a : Rig) (hs : T.stuck = true) (hl : T.load = 0) (hp : T.low ≤ a.pos ∧ a.pos ≤ T.high) (hb : -2147483648 ≤ a.pos ∧ a.pos ≤ 2147483647) : (frameS T want a).pos = a.pos := by
  show frX T want a = a.pos
  have hu : frU T want a = 0 := by
    unfold frU pushedI
    rw [hs]
    simp [mulI, nearI, sat32]
    omega
  unfold frX ramPos wayI
  rw [hu, hl]
  have hf : forceK (sel 1 0 0 0) (sel 0 0 0 0) 0 4 = 0 := by decide
  rw [hf]
  have hm : mulI T.gain 0 = 0 := by simp [mulI, nearI, sat32]; omega
  rw [hm]
  have hsh : ∀ n, shiftI 0 n = 0 := by
    intro n
    unfold shiftI
    split
    · simp
    · simp [sat32]; omega
  rw [hsh, Int.add_zero, sat32_in _ hb]
  exact clampI_id _ _ _ hp
theorem stuck_pos_n (T : Trl) (want : Int) (n : Nat) (a : Rig) (hs : T.stuck = true) (hl : T.load = 0) (hp : T.low ≤ a.pos ∧ a.pos ≤ T.high) (hb : -2147483648 ≤ a.pos ∧ a.pos ≤ 2147483647) : (framesS T want n a).pos = a.pos := by
  induction n generalizing a with
  | zero => rfl
  | succ n ih =>
    have h1 := stuck_pos T want a hs hl hp hb
    simp only [framesS]
    rw [ih _ (by rw [h1]; exact hp) (by rw [h1]; exact hb), h1]
def offP (p0 : Int) (p : PointR) : Prop := p.2.2 < absI (p0 - p.1)
instance (p0 : Int) (p : PointR) : Decidable (offP p0 p) := by unfold offP; infer_instance
/-- the first point that does not lie near enough -/
def firstOff (p0 : Int) (xs : List PointR) : Option Nat := xs.findIdx? (fun p => decide (offP p0 p))
theorem offS_iff (p : PointR) (a : Rig) : offS p a ↔ offP a.pos p := by unfold offS offP absI; omega
theorem stuck_test (T : Trl) (xs : List PointR) (i : Nat) (a : Rig) (hs : T.stuck = true) (hl : T.load = 0) (hp : T.low ≤ a.pos ∧ a.pos ≤ T.high) (hb : -2147483648 ≤ a.pos ∧ a.pos ≤ 2147483647) :
    (testS T xs i a).2.pos = a.pos ∧ (testS T xs i a).1 = i + (firstOff a.pos xs).getD xs.length := by
  induction xs generalizing i a with
  | nil => simp [testS, firstOff]
  | cons p xs ih =>
    have h1 := stuck_pos_n T p.1 p.2.1.toNat a hs hl hp hb
    by_cases h : offS p (framesS T p.1 p.2.1.toNat a)
    · rw [testS_off h]
      refine ⟨h1, ?_⟩
      rw [offS_iff, h1] at h
      simp [firstOff, List.findIdx?_cons, h]
    · rw [testS_on h]
      have h2 := ih (i + 1) (framesS T p.1 p.2.1.toNat a) (by rw [h1]; exact hp) (by rw [h1]; exact hb)
      rw [h1] at h2
      refine ⟨h2.1, ?_⟩
      rw [offS_iff, h1] at h
      rw [h2.2]
      unfold firstOff
      rw [List.findIdx?_cons]
      simp only [decide_eq_false h]
      cases List.findIdx? (fun p => decide (offP a.pos p)) xs with
      | none => simp; omega
      | some n => simp; omega

end Go.Proofs.Ytacelddnklnhpaa
