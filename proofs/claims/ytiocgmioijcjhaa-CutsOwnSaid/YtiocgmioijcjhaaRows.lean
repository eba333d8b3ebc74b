/-
  No cell of these rows narrows 'for every input' (looked for: loops, veiled, ifaces, maps, wideKeys, modest, calm, conditions, laid).
  DERIVED. THE GIVEN ROWS OF THIS SEAT. 7 by the template 'for every input the law returns true; each argument reads behind the call as it read before'; 0 by the template 'total and deterministic' (their statements: YtiocgmioijcjhaaTotals.lean).
  GIVEN WITH THE SEED: the statements are not yours to turn. If you find one false, say at which input.
  Laid BY PROGRAM, IN A SANDBOX (cutbox-rows.mjs): the forced cells as the released guide's own fill.sh prints them over the translation 3f3aea4373abeaca… (all of the seat's roots in one cut). By AI agents, Wed Nov 11 2026. No macro, syntax, notation, axiom, sorry.
-/
import Derived.Test.YtiocgmioijcjhaaChecked
import GoSem.Claim
import GoSem.ClaimJoined
import GoSem.ClaimMapViews
import Derived.JoinedTies
import Derived.KernelRfl
namespace Go.Proofs.Ytiocgmioijcjhaa
/- THE CELL 'sum', in the pinned program and in every row, IS THE sha256 OF THE DUMP (.gsa) THAT YtiocgmioijcjhaaProg.lean LOADS. Nothing in Lean hashes anything: it is a label: what it is worth is what the hold of that sum in a sandbox is worth. -/
noncomputable def Try.pinned : Pinned := { name := "ytiocgmioijcjhaa", sum := "3f3aea4373abeaca338b64a7cfa96becea6e6942fdf9c46f151cae3b8a2d6b8e", checked := Try.checked }
namespace Rows
def none {H : Type} : Left H := { results := [], args := [] }

/-- 'steadkeep.CutsDual': WHATEVER THE INPUT: true; the input reads as it did. -/
def cutsDualSpec : ChangeSpec := { name := "cutsDual", fn := fun _ => fun
  | [d1, d2] => { results := [.lit (.bool true)], args := [d1, d2] }
  | _ => none }
def cutsDualRow : OpenClaim := { program := "ytiocgmioijcjhaa", sum := "3f3aea4373abeaca338b64a7cfa96becea6e6942fdf9c46f151cae3b8a2d6b8e", func := "steadyhand/steadkeep.CutsDual", spec := "cutsDual", unfollowed := true, recurses := true, apart := false }
def CutsDualSaid : Prop := cutsDualRow.holds Try.pinned (OpenSpec.ofChange cutsDualSpec)

/-- ITS FALSE NEIGHBOUR: 'it returns false'. Refute it at one input. -/
def cutsDualWrong : ChangeSpec := { name := "cutsDual", fn := fun _ => fun
  | [d1, d2] => { results := [.lit (.bool false)], args := [d1, d2] }
  | _ => none }
def CutsDualWrongFalsely : Prop := cutsDualRow.holds Try.pinned (OpenSpec.ofChange cutsDualWrong)

/-- 'steadkeep.CutsWithin': WHATEVER THE INPUT: true; the input reads as it did. -/
def cutsWithinSpec : ChangeSpec := { name := "cutsWithin", fn := fun _ => fun
  | [d1, d2, d3] => { results := [.lit (.bool true)], args := [d1, d2, d3] }
  | _ => none }
def cutsWithinRow : OpenClaim := { program := "ytiocgmioijcjhaa", sum := "3f3aea4373abeaca338b64a7cfa96becea6e6942fdf9c46f151cae3b8a2d6b8e", func := "steadyhand/steadkeep.CutsWithin", spec := "cutsWithin", unfollowed := true, recurses := true, apart := false }
def CutsWithinSaid : Prop := cutsWithinRow.holds Try.pinned (OpenSpec.ofChange cutsWithinSpec)

/-- ITS FALSE NEIGHBOUR: 'it returns false'. Refute it at one input. -/
def cutsWithinWrong : ChangeSpec := { name := "cutsWithin", fn := fun _ => fun
  | [d1, d2, d3] => { results := [.lit (.bool false)], args := [d1, d2, d3] }
  | _ => none }
def CutsWithinWrongFalsely : Prop := cutsWithinRow.holds Try.pinned (OpenSpec.ofChange cutsWithinWrong)

/-- 'steadkeep.CutsAcross': WHATEVER THE INPUT: true; the input reads as it did. -/
def cutsAcrossSpec : ChangeSpec := { name := "cutsAcross", fn := fun _ => fun
  | [d] => { results := [.lit (.bool true)], args := [d] }
  | _ => none }
def cutsAcrossRow : OpenClaim := { program := "ytiocgmioijcjhaa", sum := "3f3aea4373abeaca338b64a7cfa96becea6e6942fdf9c46f151cae3b8a2d6b8e", func := "steadyhand/steadkeep.CutsAcross", spec := "cutsAcross", unfollowed := true, recurses := true, apart := false }
def CutsAcrossSaid : Prop := cutsAcrossRow.holds Try.pinned (OpenSpec.ofChange cutsAcrossSpec)

/-- ITS FALSE NEIGHBOUR: 'it returns false'. Refute it at one input. -/
def cutsAcrossWrong : ChangeSpec := { name := "cutsAcross", fn := fun _ => fun
  | [d] => { results := [.lit (.bool false)], args := [d] }
  | _ => none }
def CutsAcrossWrongFalsely : Prop := cutsAcrossRow.holds Try.pinned (OpenSpec.ofChange cutsAcrossWrong)

/-- 'steadkeep.CutsOwn': WHATEVER THE INPUT: true; the input reads as it did. -/
def cutsOwnSpec : ChangeSpec := { name := "cutsOwn", fn := fun _ => fun
  | [d1, d2] => { results := [.lit (.bool true)], args := [d1, d2] }
  | _ => none }
def cutsOwnRow : OpenClaim := { program := "ytiocgmioijcjhaa", sum := "3f3aea4373abeaca338b64a7cfa96becea6e6942fdf9c46f151cae3b8a2d6b8e", func := "steadyhand/steadkeep.CutsOwn", spec := "cutsOwn", unfollowed := true, recurses := true, apart := false }
def CutsOwnSaid : Prop := cutsOwnRow.holds Try.pinned (OpenSpec.ofChange cutsOwnSpec)

/-- ITS FALSE NEIGHBOUR: 'it returns false'. Refute it at one input. -/
def cutsOwnWrong : ChangeSpec := { name := "cutsOwn", fn := fun _ => fun
  | [d1, d2] => { results := [.lit (.bool false)], args := [d1, d2] }
  | _ => none }
def CutsOwnWrongFalsely : Prop := cutsOwnRow.holds Try.pinned (OpenSpec.ofChange cutsOwnWrong)

/-- 'steadkeep.OddsCount': WHATEVER THE INPUT: true; the input reads as it did. -/
def oddsCountSpec : ChangeSpec := { name := "oddsCount", fn := fun _ => fun
  | [d] => { results := [.lit (.bool true)], args := [d] }
  | _ => none }
def oddsCountRow : OpenClaim := { program := "ytiocgmioijcjhaa", sum := "3f3aea4373abeaca338b64a7cfa96becea6e6942fdf9c46f151cae3b8a2d6b8e", func := "steadyhand/steadkeep.OddsCount", spec := "oddsCount", unfollowed := true, recurses := true, apart := false }
def OddsCountSaid : Prop := oddsCountRow.holds Try.pinned (OpenSpec.ofChange oddsCountSpec)

/-- ITS FALSE NEIGHBOUR: 'it returns false'. Refute it at one input. -/
def oddsCountWrong : ChangeSpec := { name := "oddsCount", fn := fun _ => fun
  | [d] => { results := [.lit (.bool false)], args := [d] }
  | _ => none }
def OddsCountWrongFalsely : Prop := oddsCountRow.holds Try.pinned (OpenSpec.ofChange oddsCountWrong)

/-- 'steadkeep.OddsWeigh': WHATEVER THE INPUT: true; the input reads as it did. -/
def oddsWeighSpec : ChangeSpec := { name := "oddsWeigh", fn := fun _ => fun
  | [d] => { results := [.lit (.bool true)], args := [d] }
  | _ => none }
def oddsWeighRow : OpenClaim := { program := "ytiocgmioijcjhaa", sum := "3f3aea4373abeaca338b64a7cfa96becea6e6942fdf9c46f151cae3b8a2d6b8e", func := "steadyhand/steadkeep.OddsWeigh", spec := "oddsWeigh", unfollowed := true, recurses := true, apart := false }
def OddsWeighSaid : Prop := oddsWeighRow.holds Try.pinned (OpenSpec.ofChange oddsWeighSpec)

/-- ITS FALSE NEIGHBOUR: 'it returns false'. Refute it at one input. -/
def oddsWeighWrong : ChangeSpec := { name := "oddsWeigh", fn := fun _ => fun
  | [d] => { results := [.lit (.bool false)], args := [d] }
  | _ => none }
def OddsWeighWrongFalsely : Prop := oddsWeighRow.holds Try.pinned (OpenSpec.ofChange oddsWeighWrong)

/-- 'steadkeep.OddsHalf': WHATEVER THE INPUT: true; the input reads as it did. -/
def oddsHalfSpec : ChangeSpec := { name := "oddsHalf", fn := fun _ => fun
  | [d1, d2] => { results := [.lit (.bool true)], args := [d1, d2] }
  | _ => none }
def oddsHalfRow : OpenClaim := { program := "ytiocgmioijcjhaa", sum := "3f3aea4373abeaca338b64a7cfa96becea6e6942fdf9c46f151cae3b8a2d6b8e", func := "steadyhand/steadkeep.OddsHalf", spec := "oddsHalf", unfollowed := true, recurses := true, apart := false }
def OddsHalfSaid : Prop := oddsHalfRow.holds Try.pinned (OpenSpec.ofChange oddsHalfSpec)

/-- ITS FALSE NEIGHBOUR: 'it returns false'. Refute it at one input. -/
def oddsHalfWrong : ChangeSpec := { name := "oddsHalf", fn := fun _ => fun
  | [d1, d2] => { results := [.lit (.bool false)], args := [d1, d2] }
  | _ => none }
def OddsHalfWrongFalsely : Prop := oddsHalfRow.holds Try.pinned (OpenSpec.ofChange oddsHalfWrong)

/- THE SECOND FORM. 'bulk': how many values and letters a reading holds, each counted each time it is reached (what is shared counts as often as it is met; a slice's spare places count too). A statement '..UptoSaid' is the law's where the arguments, and the package variables that the reading takes, are together of bulk at most 1048576: NARROWER than '..Said'. Prove '..Said' where nothing that the law and all that it calls make is longer than what came in: it says more and counts as full. Else prove '..UptoSaid'. A law counts once. -/
mutual
def uptoBulk {H : Type} : DataW H → Nat
  | .lit (.string bytes) => bytes.length + 1
  | .lit _ => 1
  | .nil => 1
  | .ptr d => uptoBulk d + 1
  | .slice elems spare => uptoBulkAll elems + uptoBulkAll spare + 1
  | .agg parts => uptoBulkAll parts + 1
  | .iface _ d => uptoBulk d + 1
  | .map entries => uptoBulkEntries entries + 1
  | .held _ => 1
def uptoBulkAll {H : Type} : List (DataW H) → Nat
  | [] => 0
  | d :: r => uptoBulk d + uptoBulkAll r
def uptoBulkEntries {H : Type} : List (Lit × DataW H) → Nat
  | [] => 0
  | x :: r => uptoBulkEntry x + uptoBulkEntries r
def uptoBulkEntry {H : Type} : Lit × DataW H → Nat
  | (.string bytes, d) => bytes.length + uptoBulk d + 1
  | (_, d) => uptoBulk d + 1
 end
def uptoSmall : (H : Type) → List (DataW H) → Bool := fun _ ds => decide (uptoBulkAll ds ≤ 1048576)
def OpenSpec.upto (s : _root_.Go.ChangeSpec) : _root_.Go.OpenSpec := { _root_.Go.OpenSpec.ofChange s with cond := some uptoSmall }

/-- 'steadkeep.CutsDual', WHERE WHAT IT READS IS OF BULK AT MOST 1048576: true; the input reads as it did. -/
def cutsDualUptoRow : OpenClaim := { program := "ytiocgmioijcjhaa", sum := "3f3aea4373abeaca338b64a7cfa96becea6e6942fdf9c46f151cae3b8a2d6b8e", func := "steadyhand/steadkeep.CutsDual", spec := "cutsDual", unfollowed := true, recurses := true, apart := false, narrowed := true }
def CutsDualUptoSaid : Prop := cutsDualUptoRow.holds Try.pinned (OpenSpec.upto cutsDualSpec)

/-- 'steadkeep.CutsWithin', WHERE WHAT IT READS IS OF BULK AT MOST 1048576: true; the input reads as it did. -/
def cutsWithinUptoRow : OpenClaim := { program := "ytiocgmioijcjhaa", sum := "3f3aea4373abeaca338b64a7cfa96becea6e6942fdf9c46f151cae3b8a2d6b8e", func := "steadyhand/steadkeep.CutsWithin", spec := "cutsWithin", unfollowed := true, recurses := true, apart := false, narrowed := true }
def CutsWithinUptoSaid : Prop := cutsWithinUptoRow.holds Try.pinned (OpenSpec.upto cutsWithinSpec)

/-- 'steadkeep.CutsAcross', WHERE WHAT IT READS IS OF BULK AT MOST 1048576: true; the input reads as it did. -/
def cutsAcrossUptoRow : OpenClaim := { program := "ytiocgmioijcjhaa", sum := "3f3aea4373abeaca338b64a7cfa96becea6e6942fdf9c46f151cae3b8a2d6b8e", func := "steadyhand/steadkeep.CutsAcross", spec := "cutsAcross", unfollowed := true, recurses := true, apart := false, narrowed := true }
def CutsAcrossUptoSaid : Prop := cutsAcrossUptoRow.holds Try.pinned (OpenSpec.upto cutsAcrossSpec)

/-- 'steadkeep.CutsOwn', WHERE WHAT IT READS IS OF BULK AT MOST 1048576: true; the input reads as it did. -/
def cutsOwnUptoRow : OpenClaim := { program := "ytiocgmioijcjhaa", sum := "3f3aea4373abeaca338b64a7cfa96becea6e6942fdf9c46f151cae3b8a2d6b8e", func := "steadyhand/steadkeep.CutsOwn", spec := "cutsOwn", unfollowed := true, recurses := true, apart := false, narrowed := true }
def CutsOwnUptoSaid : Prop := cutsOwnUptoRow.holds Try.pinned (OpenSpec.upto cutsOwnSpec)

/-- 'steadkeep.OddsCount', WHERE WHAT IT READS IS OF BULK AT MOST 1048576: true; the input reads as it did. -/
def oddsCountUptoRow : OpenClaim := { program := "ytiocgmioijcjhaa", sum := "3f3aea4373abeaca338b64a7cfa96becea6e6942fdf9c46f151cae3b8a2d6b8e", func := "steadyhand/steadkeep.OddsCount", spec := "oddsCount", unfollowed := true, recurses := true, apart := false, narrowed := true }
def OddsCountUptoSaid : Prop := oddsCountUptoRow.holds Try.pinned (OpenSpec.upto oddsCountSpec)

/-- 'steadkeep.OddsWeigh', WHERE WHAT IT READS IS OF BULK AT MOST 1048576: true; the input reads as it did. -/
def oddsWeighUptoRow : OpenClaim := { program := "ytiocgmioijcjhaa", sum := "3f3aea4373abeaca338b64a7cfa96becea6e6942fdf9c46f151cae3b8a2d6b8e", func := "steadyhand/steadkeep.OddsWeigh", spec := "oddsWeigh", unfollowed := true, recurses := true, apart := false, narrowed := true }
def OddsWeighUptoSaid : Prop := oddsWeighUptoRow.holds Try.pinned (OpenSpec.upto oddsWeighSpec)

/-- 'steadkeep.OddsHalf', WHERE WHAT IT READS IS OF BULK AT MOST 1048576: true; the input reads as it did. -/
def oddsHalfUptoRow : OpenClaim := { program := "ytiocgmioijcjhaa", sum := "3f3aea4373abeaca338b64a7cfa96becea6e6942fdf9c46f151cae3b8a2d6b8e", func := "steadyhand/steadkeep.OddsHalf", spec := "oddsHalf", unfollowed := true, recurses := true, apart := false, narrowed := true }
def OddsHalfUptoSaid : Prop := oddsHalfUptoRow.holds Try.pinned (OpenSpec.upto oddsHalfSpec)

end Rows
end Go.Proofs.Ytiocgmioijcjhaa
