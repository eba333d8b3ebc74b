/- The plain laws of odds.Weighs: a part's weight is the number of sets in which it is critical, and 0 for a part in no cut. -/
import Derived.Test.YtiocgmioijcjhaaOddsLaw
namespace Go.Proofs.Ytiocgmioijcjhaa
open Go.ChangeShapes Go.WideShapes Go.ChangeAt Go.RowKit
set_option linter.unusedVariables false

theorem sumTo_invol {n : Nat} (σ : Nat → Nat) (h : ∀ s, s < n → σ s < n) (hh : ∀ s, s < n → σ (σ s) = s) (f : Nat → Int) : sumTo n f = sumTo n fun s => f (σ s) := by
  have h1 : sumTo n (fun s => f (σ s)) = sumTo n (fun s => sumTo n (fun t => if t = σ s then f t else 0)) := sumTo_congr fun s hs => by
    rw [sumTo_congr (g := fun t => if t = σ s then f (σ s) else 0) (fun t _ => by by_cases e : t = σ s; rw [if_pos e, if_pos e, e]; rw [if_neg e, if_neg e])]
    rw [sumTo_one _ (h s hs)]
  rw [h1, sumTo_comm]
  refine sumTo_congr fun t ht => ?_
  rw [sumTo_congr (g := fun s => if s = σ t then f t else 0) (fun s hs => ?_), sumTo_one _ (h t ht)]
  by_cases e : t = σ s
  · rw [if_pos e, if_pos (by rw [e, hh s hs])]
  · rw [if_neg e, if_neg (fun e2 => e (by rw [e2, hh t ht]))]
def sgn (b : Bool) : Int := if b then 1 else -1
/-- a set without a part -/
def drop (s i : Nat) : Nat := if s.testBit i then s - 2 ^ i else s
/-- the part is critical in the set -/
def crit (ts : List GateR) (i s : Nat) : Bool := s.testBit i && topB ts (s ||| 2 ^ i) && !topB ts (drop s i)
def weighK (ts : List GateR) (n i : Nat) : Int := sumTo n fun s => one (topB ts s) * sgn (s.testBit i)
def weigh (ts : List GateR) (i : Nat) : Int := weighK ts 256 i
def critN (ts : List GateR) (i : Nat) : Int := sumTo 256 fun s => one (crit ts i s)
theorem weighK_bd (ts : List GateR) (n i : Nat) : -(n : Int) ≤ weighK ts n i ∧ weighK ts n i ≤ n := by
  unfold weighK
  induction n with
  | zero => simp [sumTo]
  | succ n ih =>
    simp only [sumTo]
    have : -1 ≤ one (topB ts n) * sgn (n.testBit i) ∧ one (topB ts n) * sgn (n.testBit i) ≤ 1 := by
      cases topB ts n <;> cases n.testBit i <;> decide
    omega
theorem flips : ((List.range 8).all fun i => (List.range 256).all fun s => decide ((s ^^^ 2 ^ i) < 256) && decide ((s ^^^ 2 ^ i) ^^^ 2 ^ i = s) && ((s ^^^ 2 ^ i).testBit i == !s.testBit i) && (!s.testBit i || (decide (s ||| 2 ^ i = s) && decide (s ^^^ 2 ^ i = drop s i) && decide (s &&& drop s i = drop s i)))) = true := by decide +kernel
theorem flip_at {i s : Nat} (hi : i < 8) (hs : s < 256) : (s ^^^ 2 ^ i) < 256 ∧ (s ^^^ 2 ^ i) ^^^ 2 ^ i = s ∧ (s ^^^ 2 ^ i).testBit i = (!s.testBit i) ∧ (s.testBit i = true → s ||| 2 ^ i = s ∧ s ^^^ 2 ^ i = drop s i ∧ s &&& drop s i = drop s i) := by
  have h := List.all_eq_true.1 (List.all_eq_true.1 flips i (List.mem_range.2 hi)) s (List.mem_range.2 hs)
  simp only [Bool.and_eq_true, Bool.or_eq_true, decide_eq_true_eq, beq_iff_eq, Bool.not_eq_true'] at h
  obtain ⟨⟨⟨h1, h2⟩, h3⟩, h4⟩ := h
  refine ⟨h1, h2, h3, fun hb => ?_⟩
  rcases h4 with h4 | ⟨⟨h4, h5⟩, h6⟩
  · rw [hb] at h4; cases h4
  · exact ⟨h4, h5, h6⟩
theorem sub_or {s t : Nat} (h : s &&& t = t) : t ||| s = s := by
  refine Nat.eq_of_testBit_eq fun i => ?_
  have := congrArg (Nat.testBit · i) h
  simp only [Nat.testBit_and, Nat.testBit_or] at this ⊢
  revert this; cases s.testBit i <;> cases t.testBit i <;> simp
theorem hit_mono {xs : List Nat} {s t : Nat} (h : s &&& t = t) (ht : hit xs t = true) : hit xs s = true := by
  obtain ⟨c, hc, e⟩ := hit_iff.1 ht
  exact hit_iff.2 ⟨c, hc, sub_trans h e⟩
theorem top_mono {ts : List GateR} (hok : TreeOk ts) {s t : Nat} (h : s &&& t = t) (ht : topB ts t = true) : topB ts s = true := by
  rw [← hit_cuts hok] at ht ⊢
  exact hit_mono h ht
theorem weigh_crit {ts : List GateR} (hok : TreeOk ts) {i : Nat} (hi : i < 8) : weigh ts i = critN ts i := by
  have h1 : weigh ts i = sumTo 256 (fun s => (if s.testBit i then one (topB ts s) else 0)) - sumTo 256 (fun s => if s.testBit i then 0 else one (topB ts s)) := by
    unfold weigh weighK
    rw [← sumTo_sub]
    refine sumTo_congr fun s _ => ?_
    cases s.testBit i
    · show one (topB ts s) * (-1) = 0 - one (topB ts s); omega
    · show one (topB ts s) * 1 = one (topB ts s) - 0; omega
  rw [h1, sumTo_invol (fun s => s ^^^ 2 ^ i) (fun s hs => (flip_at hi hs).1) (fun s hs => (flip_at hi hs).2.1) (fun s => if s.testBit i then 0 else one (topB ts s)), ← sumTo_sub]
  refine sumTo_congr fun s hs => ?_
  obtain ⟨-, -, h3, h4⟩ := flip_at hi hs
  rw [h3]
  unfold crit
  cases hb : s.testBit i
  · rfl
  · obtain ⟨h5, h6, h7⟩ := h4 hb
    rw [h5, h6]
    have hm := @top_mono ts hok s (drop s i) h7
    cases hA : topB ts s <;> cases hB : topB ts (drop s i)
    · rfl
    · have := hm hB; rw [hA] at this; cases this
    · rfl
    · rfl
theorem sumTo_some {n : Nat} {p : Nat → Bool} : 0 < sumTo n (fun s => one (p s)) ↔ ∃ s, s < n ∧ p s = true := by
  induction n with
  | zero => simp [sumTo]
  | succ n ih =>
    simp only [sumTo]
    have hg := (sumTo_ge n p).1
    constructor
    · intro h
      cases hp : p n
      · rw [hp] at h
        obtain ⟨s, h1, h2⟩ := ih.1 (by unfold one at h ⊢; simpa using h)
        exact ⟨s, by omega, h2⟩
      · exact ⟨n, by omega, hp⟩
    · rintro ⟨s, h1, h2⟩
      have h3 : 0 ≤ one (p n) := by unfold one; split <;> decide
      by_cases e : s = n
      · subst e; rw [h2]; unfold one at *; simp; omega
      · have := ih.2 ⟨s, by omega, h2⟩; omega
/-- a part is in a cut just where it is critical in some set -/
theorem crit_cut {ts : List GateR} (hok : TreeOk ts) {i : Nat} (hi : i < 8) : (cutsL ts).any (fun c => c.testBit i) = decide (0 < critN ts i) := by
  have hA := cuts_anti hok
  rw [Bool.eq_iff_iff, List.any_eq_true, decide_eq_true_eq]
  unfold critN
  rw [sumTo_some]
  constructor
  · rintro ⟨c, hc, hb⟩
    have c6 := hA.1 c hc
    obtain ⟨-, -, -, h4⟩ := flip_at hi c6
    obtain ⟨h5, h6, h7⟩ := h4 hb
    refine ⟨c, c6, ?_⟩
    unfold crit
    rw [hb, h5, ← hit_cuts hok, ← hit_cuts hok, show hit (cutsL ts) c = true from hit_iff.2 ⟨c, hc, Nat.and_self c⟩]
    simp only [Bool.true_and, Bool.not_eq_true']
    rw [← Bool.not_eq_true, hit_iff]
    rintro ⟨d, hd, e⟩
    have e1 : c &&& d = d := sub_trans h7 e
    have e2 : c = d := by
      apply Classical.byContradiction
      intro hne
      obtain ⟨a, ha, rfl⟩ := List.getElem_of_mem hc
      obtain ⟨b, hb2, rfl⟩ := List.getElem_of_mem hd
      have hab : a ≠ b := fun e => hne (by subst e; rfl)
      rcases Nat.lt_or_gt_of_ne hab with hlt | hlt
      · exact (List.pairwise_iff_getElem.1 hA.2 a b ha hb2 hlt).2 e1
      · exact (List.pairwise_iff_getElem.1 hA.2 b a hb2 ha hlt).1 e1
    subst e2
    have h8 := (flip_at hi c6).2.2.1
    rw [h6, hb] at h8
    have h9 := congrArg (Nat.testBit · i) e
    simp only [Nat.testBit_and, h8, hb] at h9
    cases h9
  · rintro ⟨s, hs, hcr⟩
    unfold crit at hcr
    simp only [Bool.and_eq_true, Bool.not_eq_true'] at hcr
    obtain ⟨⟨hb, h1⟩, h2⟩ := hcr
    obtain ⟨-, -, h3, h4⟩ := flip_at hi hs
    obtain ⟨h5, h6, h7⟩ := h4 hb
    rw [h5, ← hit_cuts hok] at h1
    obtain ⟨c, hc, e⟩ := hit_iff.1 h1
    refine ⟨c, hc, ?_⟩
    cases hcb : c.testBit i
    · rw [← hit_cuts hok, ← Bool.not_eq_true, hit_iff] at h2
      refine absurd ⟨c, hc, ?_⟩ h2
      rw [← h6]
      refine Nat.eq_of_testBit_eq fun j => ?_
      have h9 := congrArg (Nat.testBit · j) e
      simp only [Nat.testBit_and, Nat.testBit_xor, Nat.testBit_two_pow] at h9 ⊢
      by_cases ej : i = j
      · subst ej; rw [hcb]; simp
      · simpa [ej] using h9
    · rfl
theorem weigh_either : (List.range 8).map (weigh eitherL) = [64, 64, 0, 0, 0, 0, 0, 0] := by
  decide +kernel
theorem drops : ((List.range 8).all fun i => (List.range 256).all fun s => decide (bits BinOp.andNot IntKind.u16 (s : Int) ((2 ^ i : Nat) : Int) = ((drop s i : Nat) : Int))) = true := by decide +kernel
theorem andNot_is {i s : Nat} (hi : i < 8) (hs : s < 256) : bits BinOp.andNot IntKind.u16 (s : Int) ((2 ^ i : Nat) : Int) = ((drop s i : Nat) : Int) := by
  have h := List.all_eq_true.1 (List.all_eq_true.1 drops i (List.mem_range.2 hi)) s (List.mem_range.2 hs)
  exact of_decide_eq_true h
theorem drop_lt {i s : Nat} (hs : s < 256) : drop s i < 256 := by
  unfold drop; split
  · exact Nat.lt_of_le_of_lt (Nat.sub_le _ _) hs
  · exact hs

end Go.Proofs.Ytiocgmioijcjhaa
