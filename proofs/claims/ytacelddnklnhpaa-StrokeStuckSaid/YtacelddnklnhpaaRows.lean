/-
  No cell of these rows narrows 'for every input' (looked for: loops, veiled, ifaces, maps, wideKeys, modest, calm, conditions, laid).
  DERIVED. THE GIVEN ROWS OF THIS SEAT. 12 by the template 'for every input the law returns true; each argument reads behind the call as it read before'; 0 by the template 'total and deterministic' (their statements: YtacelddnklnhpaaTotals.lean).
  GIVEN WITH THE SEED: the statements are not yours to turn. If you find one false, say at which input.
  Laid BY PROGRAM, IN A SANDBOX (cutbox-rows.mjs): the forced cells as the released guide's own fill.sh prints them over the translation 1b3ce74066b5bd1b… (all of the seat's roots in one cut). By AI agents, Wed Nov 11 2026. No macro, syntax, notation, axiom, sorry.
-/
import Derived.Test.YtacelddnklnhpaaChecked
import GoSem.Claim
import GoSem.ClaimJoined
import GoSem.ClaimMapViews
import Derived.JoinedTies
import Derived.KernelRfl
namespace Go.Proofs.Ytacelddnklnhpaa
/- THE CELL 'sum', in the pinned program and in every row, IS THE sha256 OF THE DUMP (.gsa) THAT YtacelddnklnhpaaProg.lean LOADS. Nothing in Lean hashes anything: it is a label: what it is worth is what the hold of that sum in a sandbox is worth. -/
noncomputable def Try.pinned : Pinned := { name := "ytacelddnklnhpaa", sum := "1b3ce74066b5bd1b10e207b37b302707b27ee8df2a007cbbcf572eaaf48f4e69", checked := Try.checked }
namespace Rows
def none {H : Type} : Left H := { results := [], args := [] }

/-- 'steadkeep.AgreeFair': WHATEVER THE INPUT: true; the input reads as it did. -/
def agreeFairSpec : ChangeSpec := { name := "agreeFair", fn := fun _ => fun
  | [d1, d2, d3, d4] => { results := [.lit (.bool true)], args := [d1, d2, d3, d4] }
  | _ => none }
def agreeFairRow : OpenClaim := { program := "ytacelddnklnhpaa", sum := "1b3ce74066b5bd1b10e207b37b302707b27ee8df2a007cbbcf572eaaf48f4e69", func := "steadyhand/steadkeep.AgreeFair", spec := "agreeFair", apart := false }
def AgreeFairSaid : Prop := agreeFairRow.holds Try.pinned (OpenSpec.ofChange agreeFairSpec)

/-- ITS FALSE NEIGHBOUR: 'it returns false'. Refute it at one input. -/
def agreeFairWrong : ChangeSpec := { name := "agreeFair", fn := fun _ => fun
  | [d1, d2, d3, d4] => { results := [.lit (.bool false)], args := [d1, d2, d3, d4] }
  | _ => none }
def AgreeFairWrongFalsely : Prop := agreeFairRow.holds Try.pinned (OpenSpec.ofChange agreeFairWrong)

/-- 'steadkeep.OilOwn': WHATEVER THE INPUT: true; the input reads as it did. -/
def oilOwnSpec : ChangeSpec := { name := "oilOwn", fn := fun _ => fun
  | [d1, d2] => { results := [.lit (.bool true)], args := [d1, d2] }
  | _ => none }
def oilOwnRow : OpenClaim := { program := "ytacelddnklnhpaa", sum := "1b3ce74066b5bd1b10e207b37b302707b27ee8df2a007cbbcf572eaaf48f4e69", func := "steadyhand/steadkeep.OilOwn", spec := "oilOwn", apart := false }
def OilOwnSaid : Prop := oilOwnRow.holds Try.pinned (OpenSpec.ofChange oilOwnSpec)

/-- ITS FALSE NEIGHBOUR: 'it returns false'. Refute it at one input. -/
def oilOwnWrong : ChangeSpec := { name := "oilOwn", fn := fun _ => fun
  | [d1, d2] => { results := [.lit (.bool false)], args := [d1, d2] }
  | _ => none }
def OilOwnWrongFalsely : Prop := oilOwnRow.holds Try.pinned (OpenSpec.ofChange oilOwnWrong)

/-- 'steadkeep.WatchBounds': WHATEVER THE INPUT: true; the input reads as it did. -/
def watchBoundsSpec : ChangeSpec := { name := "watchBounds", fn := fun _ => fun
  | [d1, d2, d3] => { results := [.lit (.bool true)], args := [d1, d2, d3] }
  | _ => none }
def watchBoundsRow : OpenClaim := { program := "ytacelddnklnhpaa", sum := "1b3ce74066b5bd1b10e207b37b302707b27ee8df2a007cbbcf572eaaf48f4e69", func := "steadyhand/steadkeep.WatchBounds", spec := "watchBounds", apart := false }
def WatchBoundsSaid : Prop := watchBoundsRow.holds Try.pinned (OpenSpec.ofChange watchBoundsSpec)

/-- ITS FALSE NEIGHBOUR: 'it returns false'. Refute it at one input. -/
def watchBoundsWrong : ChangeSpec := { name := "watchBounds", fn := fun _ => fun
  | [d1, d2, d3] => { results := [.lit (.bool false)], args := [d1, d2, d3] }
  | _ => none }
def WatchBoundsWrongFalsely : Prop := watchBoundsRow.holds Try.pinned (OpenSpec.ofChange watchBoundsWrong)

/-- 'steadkeep.RamFights': WHATEVER THE INPUT: true; the input reads as it did. -/
def ramFightsSpec : ChangeSpec := { name := "ramFights", fn := fun _ => fun
  | [d1, d2] => { results := [.lit (.bool true)], args := [d1, d2] }
  | _ => none }
def ramFightsRow : OpenClaim := { program := "ytacelddnklnhpaa", sum := "1b3ce74066b5bd1b10e207b37b302707b27ee8df2a007cbbcf572eaaf48f4e69", func := "steadyhand/steadkeep.RamFights", spec := "ramFights", apart := false }
def RamFightsSaid : Prop := ramFightsRow.holds Try.pinned (OpenSpec.ofChange ramFightsSpec)

/-- ITS FALSE NEIGHBOUR: 'it returns false'. Refute it at one input. -/
def ramFightsWrong : ChangeSpec := { name := "ramFights", fn := fun _ => fun
  | [d1, d2] => { results := [.lit (.bool false)], args := [d1, d2] }
  | _ => none }
def RamFightsWrongFalsely : Prop := ramFightsRow.holds Try.pinned (OpenSpec.ofChange ramFightsWrong)

/-- 'steadkeep.RamEnds': WHATEVER THE INPUT: true; the input reads as it did. -/
def ramEndsSpec : ChangeSpec := { name := "ramEnds", fn := fun _ => fun
  | [d1, d2, d3, d4, d5] => { results := [.lit (.bool true)], args := [d1, d2, d3, d4, d5] }
  | _ => none }
def ramEndsRow : OpenClaim := { program := "ytacelddnklnhpaa", sum := "1b3ce74066b5bd1b10e207b37b302707b27ee8df2a007cbbcf572eaaf48f4e69", func := "steadyhand/steadkeep.RamEnds", spec := "ramEnds", apart := false }
def RamEndsSaid : Prop := ramEndsRow.holds Try.pinned (OpenSpec.ofChange ramEndsSpec)

/-- ITS FALSE NEIGHBOUR: 'it returns false'. Refute it at one input. -/
def ramEndsWrong : ChangeSpec := { name := "ramEnds", fn := fun _ => fun
  | [d1, d2, d3, d4, d5] => { results := [.lit (.bool false)], args := [d1, d2, d3, d4, d5] }
  | _ => none }
def RamEndsWrongFalsely : Prop := ramEndsRow.holds Try.pinned (OpenSpec.ofChange ramEndsWrong)

/-- 'steadkeep.PidBounds': WHATEVER THE INPUT: true; the input reads as it did. -/
def pidBoundsSpec : ChangeSpec := { name := "pidBounds", fn := fun _ => fun
  | [d1, d2, d3] => { results := [.lit (.bool true)], args := [d1, d2, d3] }
  | _ => none }
def pidBoundsRow : OpenClaim := { program := "ytacelddnklnhpaa", sum := "1b3ce74066b5bd1b10e207b37b302707b27ee8df2a007cbbcf572eaaf48f4e69", func := "steadyhand/steadkeep.PidBounds", spec := "pidBounds", apart := false }
def PidBoundsSaid : Prop := pidBoundsRow.holds Try.pinned (OpenSpec.ofChange pidBoundsSpec)

/-- ITS FALSE NEIGHBOUR: 'it returns false'. Refute it at one input. -/
def pidBoundsWrong : ChangeSpec := { name := "pidBounds", fn := fun _ => fun
  | [d1, d2, d3] => { results := [.lit (.bool false)], args := [d1, d2, d3] }
  | _ => none }
def PidBoundsWrongFalsely : Prop := pidBoundsRow.holds Try.pinned (OpenSpec.ofChange pidBoundsWrong)

/-- 'steadkeep.EvenBounds': WHATEVER THE INPUT: true; the input reads as it did. -/
def evenBoundsSpec : ChangeSpec := { name := "evenBounds", fn := fun _ => fun
  | [d1, d2, d3, d4, d5] => { results := [.lit (.bool true)], args := [d1, d2, d3, d4, d5] }
  | _ => none }
def evenBoundsRow : OpenClaim := { program := "ytacelddnklnhpaa", sum := "1b3ce74066b5bd1b10e207b37b302707b27ee8df2a007cbbcf572eaaf48f4e69", func := "steadyhand/steadkeep.EvenBounds", spec := "evenBounds", apart := false }
def EvenBoundsSaid : Prop := evenBoundsRow.holds Try.pinned (OpenSpec.ofChange evenBoundsSpec)

/-- ITS FALSE NEIGHBOUR: 'it returns false'. Refute it at one input. -/
def evenBoundsWrong : ChangeSpec := { name := "evenBounds", fn := fun _ => fun
  | [d1, d2, d3, d4, d5] => { results := [.lit (.bool false)], args := [d1, d2, d3, d4, d5] }
  | _ => none }
def EvenBoundsWrongFalsely : Prop := evenBoundsRow.holds Try.pinned (OpenSpec.ofChange evenBoundsWrong)

/-- 'steadkeep.WatchQuiet': WHATEVER THE INPUT: true; the input reads as it did. -/
def watchQuietSpec : ChangeSpec := { name := "watchQuiet", fn := fun _ => fun
  | [d1, d2, d3] => { results := [.lit (.bool true)], args := [d1, d2, d3] }
  | _ => none }
def watchQuietRow : OpenClaim := { program := "ytacelddnklnhpaa", sum := "1b3ce74066b5bd1b10e207b37b302707b27ee8df2a007cbbcf572eaaf48f4e69", func := "steadyhand/steadkeep.WatchQuiet", spec := "watchQuiet", apart := false }
def WatchQuietSaid : Prop := watchQuietRow.holds Try.pinned (OpenSpec.ofChange watchQuietSpec)

/-- ITS FALSE NEIGHBOUR: 'it returns false'. Refute it at one input. -/
def watchQuietWrong : ChangeSpec := { name := "watchQuiet", fn := fun _ => fun
  | [d1, d2, d3] => { results := [.lit (.bool false)], args := [d1, d2, d3] }
  | _ => none }
def WatchQuietWrongFalsely : Prop := watchQuietRow.holds Try.pinned (OpenSpec.ofChange watchQuietWrong)

/-- 'steadkeep.ServoGoal': WHATEVER THE INPUT: true; the input reads as it did. -/
def servoGoalSpec : ChangeSpec := { name := "servoGoal", fn := fun _ => fun
  | [d1, d2, d3, d4] => { results := [.lit (.bool true)], args := [d1, d2, d3, d4] }
  | _ => none }
def servoGoalRow : OpenClaim := { program := "ytacelddnklnhpaa", sum := "1b3ce74066b5bd1b10e207b37b302707b27ee8df2a007cbbcf572eaaf48f4e69", func := "steadyhand/steadkeep.ServoGoal", spec := "servoGoal", apart := false }
def ServoGoalSaid : Prop := servoGoalRow.holds Try.pinned (OpenSpec.ofChange servoGoalSpec)

/-- ITS FALSE NEIGHBOUR: 'it returns false'. Refute it at one input. -/
def servoGoalWrong : ChangeSpec := { name := "servoGoal", fn := fun _ => fun
  | [d1, d2, d3, d4] => { results := [.lit (.bool false)], args := [d1, d2, d3, d4] }
  | _ => none }
def ServoGoalWrongFalsely : Prop := servoGoalRow.holds Try.pinned (OpenSpec.ofChange servoGoalWrong)

/-- 'steadkeep.StrokeStuck': WHATEVER THE INPUT: true; the input reads as it did. -/
def strokeStuckSpec : ChangeSpec := { name := "strokeStuck", fn := fun _ => fun
  | [d1, d2] => { results := [.lit (.bool true)], args := [d1, d2] }
  | _ => none }
def strokeStuckRow : OpenClaim := { program := "ytacelddnklnhpaa", sum := "1b3ce74066b5bd1b10e207b37b302707b27ee8df2a007cbbcf572eaaf48f4e69", func := "steadyhand/steadkeep.StrokeStuck", spec := "strokeStuck", unfollowed := true, recurses := true, apart := false }
def StrokeStuckSaid : Prop := strokeStuckRow.holds Try.pinned (OpenSpec.ofChange strokeStuckSpec)

/-- ITS FALSE NEIGHBOUR: 'it returns false'. Refute it at one input. -/
def strokeStuckWrong : ChangeSpec := { name := "strokeStuck", fn := fun _ => fun
  | [d1, d2] => { results := [.lit (.bool false)], args := [d1, d2] }
  | _ => none }
def StrokeStuckWrongFalsely : Prop := strokeStuckRow.holds Try.pinned (OpenSpec.ofChange strokeStuckWrong)

/-- 'steadkeep.StrokeFront': WHATEVER THE INPUT: true; the input reads as it did. -/
def strokeFrontSpec : ChangeSpec := { name := "strokeFront", fn := fun _ => fun
  | [d1, d2, d3] => { results := [.lit (.bool true)], args := [d1, d2, d3] }
  | _ => none }
def strokeFrontRow : OpenClaim := { program := "ytacelddnklnhpaa", sum := "1b3ce74066b5bd1b10e207b37b302707b27ee8df2a007cbbcf572eaaf48f4e69", func := "steadyhand/steadkeep.StrokeFront", spec := "strokeFront", apart := false }
def StrokeFrontSaid : Prop := strokeFrontRow.holds Try.pinned (OpenSpec.ofChange strokeFrontSpec)

/-- ITS FALSE NEIGHBOUR: 'it returns false'. Refute it at one input. -/
def strokeFrontWrong : ChangeSpec := { name := "strokeFront", fn := fun _ => fun
  | [d1, d2, d3] => { results := [.lit (.bool false)], args := [d1, d2, d3] }
  | _ => none }
def StrokeFrontWrongFalsely : Prop := strokeFrontRow.holds Try.pinned (OpenSpec.ofChange strokeFrontWrong)

/-- 'steadkeep.VoteMost': WHATEVER THE INPUT: true; the input reads as it did. -/
def voteMostSpec : ChangeSpec := { name := "voteMost", fn := fun _ => fun
  | [d1, d2] => { results := [.lit (.bool true)], args := [d1, d2] }
  | _ => none }
def voteMostRow : OpenClaim := { program := "ytacelddnklnhpaa", sum := "1b3ce74066b5bd1b10e207b37b302707b27ee8df2a007cbbcf572eaaf48f4e69", func := "steadyhand/steadkeep.VoteMost", spec := "voteMost", unfollowed := true, recurses := true, apart := false }
def VoteMostSaid : Prop := voteMostRow.holds Try.pinned (OpenSpec.ofChange voteMostSpec)

/-- ITS FALSE NEIGHBOUR: 'it returns false'. Refute it at one input. -/
def voteMostWrong : ChangeSpec := { name := "voteMost", fn := fun _ => fun
  | [d1, d2] => { results := [.lit (.bool false)], args := [d1, d2] }
  | _ => none }
def VoteMostWrongFalsely : Prop := voteMostRow.holds Try.pinned (OpenSpec.ofChange voteMostWrong)

/- THE SECOND FORM. 'bulk': how many values and letters a reading holds, each counted each time it is reached (what is shared counts as often as it is met; a slice's spare places count too). A statement '..UptoSaid' is the law's where the arguments, and the package variables that the reading takes, are together of bulk at most 1048576: NARROWER than '..Said'. Prove '..Said' where nothing that the law and all that it calls make is longer than what came in: it says more and counts as full. Else prove '..UptoSaid'. A law counts once. -/
mutual
def uptoBulk {H : Type} : DataW H → Nat
  | .lit (.string bytes) => bytes.length + 1
  | .lit _ => 1
  | .nil => 1
  | .ptr d => uptoBulk d + 1
  | .slice elems spare => uptoBulkAll elems + uptoBulkAll spare + 1
  | .agg parts => uptoBulkAll parts + 1
  | .iface _ d => uptoBulk d + 1
  | .map entries => uptoBulkEntries entries + 1
  | .held _ => 1
def uptoBulkAll {H : Type} : List (DataW H) → Nat
  | [] => 0
  | d :: r => uptoBulk d + uptoBulkAll r
def uptoBulkEntries {H : Type} : List (Lit × DataW H) → Nat
  | [] => 0
  | x :: r => uptoBulkEntry x + uptoBulkEntries r
def uptoBulkEntry {H : Type} : Lit × DataW H → Nat
  | (.string bytes, d) => bytes.length + uptoBulk d + 1
  | (_, d) => uptoBulk d + 1
 end
def uptoSmall : (H : Type) → List (DataW H) → Bool := fun _ ds => decide (uptoBulkAll ds ≤ 1048576)
def OpenSpec.upto (s : _root_.Go.ChangeSpec) : _root_.Go.OpenSpec := { _root_.Go.OpenSpec.ofChange s with cond := some uptoSmall }

/-- 'steadkeep.AgreeFair', WHERE WHAT IT READS IS OF BULK AT MOST 1048576: true; the input reads as it did. -/
def agreeFairUptoRow : OpenClaim := { program := "ytacelddnklnhpaa", sum := "1b3ce74066b5bd1b10e207b37b302707b27ee8df2a007cbbcf572eaaf48f4e69", func := "steadyhand/steadkeep.AgreeFair", spec := "agreeFair", apart := false, narrowed := true }
def AgreeFairUptoSaid : Prop := agreeFairUptoRow.holds Try.pinned (OpenSpec.upto agreeFairSpec)

/-- 'steadkeep.OilOwn', WHERE WHAT IT READS IS OF BULK AT MOST 1048576: true; the input reads as it did. -/
def oilOwnUptoRow : OpenClaim := { program := "ytacelddnklnhpaa", sum := "1b3ce74066b5bd1b10e207b37b302707b27ee8df2a007cbbcf572eaaf48f4e69", func := "steadyhand/steadkeep.OilOwn", spec := "oilOwn", apart := false, narrowed := true }
def OilOwnUptoSaid : Prop := oilOwnUptoRow.holds Try.pinned (OpenSpec.upto oilOwnSpec)

/-- 'steadkeep.WatchBounds', WHERE WHAT IT READS IS OF BULK AT MOST 1048576: true; the input reads as it did. -/
def watchBoundsUptoRow : OpenClaim := { program := "ytacelddnklnhpaa", sum := "1b3ce74066b5bd1b10e207b37b302707b27ee8df2a007cbbcf572eaaf48f4e69", func := "steadyhand/steadkeep.WatchBounds", spec := "watchBounds", apart := false, narrowed := true }
def WatchBoundsUptoSaid : Prop := watchBoundsUptoRow.holds Try.pinned (OpenSpec.upto watchBoundsSpec)

/-- 'steadkeep.RamFights', WHERE WHAT IT READS IS OF BULK AT MOST 1048576: true; the input reads as it did. -/
def ramFightsUptoRow : OpenClaim := { program := "ytacelddnklnhpaa", sum := "1b3ce74066b5bd1b10e207b37b302707b27ee8df2a007cbbcf572eaaf48f4e69", func := "steadyhand/steadkeep.RamFights", spec := "ramFights", apart := false, narrowed := true }
def RamFightsUptoSaid : Prop := ramFightsUptoRow.holds Try.pinned (OpenSpec.upto ramFightsSpec)

/-- 'steadkeep.RamEnds', WHERE WHAT IT READS IS OF BULK AT MOST 1048576: true; the input reads as it did. -/
def ramEndsUptoRow : OpenClaim := { program := "ytacelddnklnhpaa", sum := "1b3ce74066b5bd1b10e207b37b302707b27ee8df2a007cbbcf572eaaf48f4e69", func := "steadyhand/steadkeep.RamEnds", spec := "ramEnds", apart := false, narrowed := true }
def RamEndsUptoSaid : Prop := ramEndsUptoRow.holds Try.pinned (OpenSpec.upto ramEndsSpec)

/-- 'steadkeep.PidBounds', WHERE WHAT IT READS IS OF BULK AT MOST 1048576: true; the input reads as it did. -/
def pidBoundsUptoRow : OpenClaim := { program := "ytacelddnklnhpaa", sum := "1b3ce74066b5bd1b10e207b37b302707b27ee8df2a007cbbcf572eaaf48f4e69", func := "steadyhand/steadkeep.PidBounds", spec := "pidBounds", apart := false, narrowed := true }
def PidBoundsUptoSaid : Prop := pidBoundsUptoRow.holds Try.pinned (OpenSpec.upto pidBoundsSpec)

/-- 'steadkeep.EvenBounds', WHERE WHAT IT READS IS OF BULK AT MOST 1048576: true; the input reads as it did. -/
def evenBoundsUptoRow : OpenClaim := { program := "ytacelddnklnhpaa", sum := "1b3ce74066b5bd1b10e207b37b302707b27ee8df2a007cbbcf572eaaf48f4e69", func := "steadyhand/steadkeep.EvenBounds", spec := "evenBounds", apart := false, narrowed := true }
def EvenBoundsUptoSaid : Prop := evenBoundsUptoRow.holds Try.pinned (OpenSpec.upto evenBoundsSpec)

/-- 'steadkeep.WatchQuiet', WHERE WHAT IT READS IS OF BULK AT MOST 1048576: true; the input reads as it did. -/
def watchQuietUptoRow : OpenClaim := { program := "ytacelddnklnhpaa", sum := "1b3ce74066b5bd1b10e207b37b302707b27ee8df2a007cbbcf572eaaf48f4e69", func := "steadyhand/steadkeep.WatchQuiet", spec := "watchQuiet", apart := false, narrowed := true }
def WatchQuietUptoSaid : Prop := watchQuietUptoRow.holds Try.pinned (OpenSpec.upto watchQuietSpec)

/-- 'steadkeep.ServoGoal', WHERE WHAT IT READS IS OF BULK AT MOST 1048576: true; the input reads as it did. -/
def servoGoalUptoRow : OpenClaim := { program := "ytacelddnklnhpaa", sum := "1b3ce74066b5bd1b10e207b37b302707b27ee8df2a007cbbcf572eaaf48f4e69", func := "steadyhand/steadkeep.ServoGoal", spec := "servoGoal", apart := false, narrowed := true }
def ServoGoalUptoSaid : Prop := servoGoalUptoRow.holds Try.pinned (OpenSpec.upto servoGoalSpec)

/-- 'steadkeep.StrokeStuck', WHERE WHAT IT READS IS OF BULK AT MOST 1048576: true; the input reads as it did. -/
def strokeStuckUptoRow : OpenClaim := { program := "ytacelddnklnhpaa", sum := "1b3ce74066b5bd1b10e207b37b302707b27ee8df2a007cbbcf572eaaf48f4e69", func := "steadyhand/steadkeep.StrokeStuck", spec := "strokeStuck", unfollowed := true, recurses := true, apart := false, narrowed := true }
def StrokeStuckUptoSaid : Prop := strokeStuckUptoRow.holds Try.pinned (OpenSpec.upto strokeStuckSpec)

/-- 'steadkeep.StrokeFront', WHERE WHAT IT READS IS OF BULK AT MOST 1048576: true; the input reads as it did. -/
def strokeFrontUptoRow : OpenClaim := { program := "ytacelddnklnhpaa", sum := "1b3ce74066b5bd1b10e207b37b302707b27ee8df2a007cbbcf572eaaf48f4e69", func := "steadyhand/steadkeep.StrokeFront", spec := "strokeFront", apart := false, narrowed := true }
def StrokeFrontUptoSaid : Prop := strokeFrontUptoRow.holds Try.pinned (OpenSpec.upto strokeFrontSpec)

/-- 'steadkeep.VoteMost', WHERE WHAT IT READS IS OF BULK AT MOST 1048576: true; the input reads as it did. -/
def voteMostUptoRow : OpenClaim := { program := "ytacelddnklnhpaa", sum := "1b3ce74066b5bd1b10e207b37b302707b27ee8df2a007cbbcf572eaaf48f4e69", func := "steadyhand/steadkeep.VoteMost", spec := "voteMost", unfollowed := true, recurses := true, apart := false, narrowed := true }
def VoteMostUptoSaid : Prop := voteMostUptoRow.holds Try.pinned (OpenSpec.upto voteMostSpec)

end Rows
end Go.Proofs.Ytacelddnklnhpaa
