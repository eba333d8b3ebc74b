/- The least sets of the tree 'either', and what CutsWithin's closure answers. -/
import Derived.Test.YtiocgmioijcjhaaCutsYes
namespace Go.Proofs.Ytiocgmioijcjhaa
open Go.ChangeShapes Go.WideShapes Go.ChangeAt Go.RowKit
set_option linter.unusedVariables false

theorem least_one (x : Nat) : leastL [x] = [x] := by simp [leastL, sortN, keep1]
theorem least_two : leastL [1, 2] = [1, 2] := by
  have h : sortN [1, 2] = [1, 2] := by
    unfold sortN
    refine List.mergeSort_of_pairwise ?_
    simp only [List.pairwise_cons, List.mem_cons, List.not_mem_nil, or_false, forall_eq, false_implies, implies_true, List.Pairwise.nil, and_true]
    decide +kernel
  unfold leastL
  rw [h]
  decide
theorem cuts_either : cutsL eitherL = [1, 2] := by
  have h0 : cutG [] ((1, 0, []) : GateR) = [1] := rfl
  have h1 : cutG [[1]] ((1, 1, []) : GateR) = [2] := rfl
  have a0 : someL [] 0 = [0] := rfl
  have a1 : someL [] 1 = [] := rfl
  have b0 : someL [[2]] 0 = [0] := rfl
  have b1 : someL [[2]] 1 = [2] := by
    show leastL (bothL [2] (someL [] 0) ++ someL [] 1) = [2]
    rw [a0, a1, List.append_nil, show bothL [2] [0] = leastL [2] from rfl, least_one, least_one]
  have h2 : cutG [[1], [2]] ((3, 0, [0, 1]) : GateR) = [1, 2] := by
    show leastL (bothL [1] (someL [[2]] 0) ++ someL [[2]] 1) = [1, 2]
    rw [b0, b1, show bothL [1] [0] = leastL [1] from rfl, least_one]
    exact least_two
  show (([] ++ [cutG [] ((1, 0, []) : GateR)]) ++ [cutG ([] ++ [cutG [] ((1, 0, []) : GateR)]) ((1, 1, []) : GateR)] ++ [cutG (([] ++ [cutG [] ((1, 0, []) : GateR)]) ++ [cutG ([] ++ [cutG [] ((1, 0, []) : GateR)]) ((1, 1, []) : GateR)]) ((3, 0, [0, 1]) : GateR)]).getD 2 [] = [1, 2]
  rw [h0]
  show ([[1]] ++ [cutG [[1]] ((1, 1, []) : GateR)] ++ [cutG ([[1]] ++ [cutG [[1]] ((1, 1, []) : GateR)]) ((3, 0, [0, 1]) : GateR)]).getD 2 [] = [1, 2]
  rw [h1]
  show ([[1]] ++ [[2]] ++ [cutG [[1], [2]] ((3, 0, [0, 1]) : GateR)]).getD 2 [] = [1, 2]
  rw [h2]
  rfl
/-- more failures fail no less -/
theorem hit_more {xs : List Nat} {p q : Nat} (h : hit xs p = true) : hit xs (p ||| q) = true := by
  obtain ⟨c, hc, e⟩ := hit_iff.1 h
  refine hit_iff.2 ⟨c, hc, ?_⟩
  refine Nat.eq_of_testBit_eq fun i => ?_
  have := congrArg (Nat.testBit · i) e
  simp only [Nat.testBit_and, Nat.testBit_or] at this ⊢
  revert this; cases p.testBit i <;> cases q.testBit i <;> cases c.testBit i <;> simp

end Go.Proofs.Ytiocgmioijcjhaa
