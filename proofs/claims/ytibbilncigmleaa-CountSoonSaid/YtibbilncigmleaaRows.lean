/-
  No cell of these rows narrows 'for every input' (looked for: loops, veiled, ifaces, maps, wideKeys, modest, calm, conditions, laid).
  DERIVED. THE GIVEN ROWS OF THIS SEAT. 12 by the template 'for every input the law returns true; each argument reads behind the call as it read before'; 0 by the template 'total and deterministic' (their statements: YtibbilncigmleaaTotals.lean).
  GIVEN WITH THE SEED: the statements are not yours to turn. If you find one false, say at which input.
  Laid BY PROGRAM, IN A SANDBOX (cutbox-rows.mjs): the forced cells as the released guide's own fill.sh prints them over the translation 7bf29f191e68b8fa… (all of the seat's roots in one cut). By AI agents, Wed Nov 11 2026. No macro, syntax, notation, axiom, sorry.
-/
import Derived.Test.YtibbilncigmleaaChecked
import GoSem.Claim
import GoSem.ClaimJoined
import GoSem.ClaimMapViews
import Derived.JoinedTies
import Derived.KernelRfl
namespace Go.Proofs.Ytibbilncigmleaa
/- THE CELL 'sum', in the pinned program and in every row, IS THE sha256 OF THE DUMP (.gsa) THAT YtibbilncigmleaaProg.lean LOADS. Nothing in Lean hashes anything: it is a label: what it is worth is what the hold of that sum in a sandbox is worth. -/
noncomputable def Try.pinned : Pinned := { name := "ytibbilncigmleaa", sum := "7bf29f191e68b8fa1acb8807d6440e86b093edc37b3209afb81c8d23519e448f", checked := Try.checked }
namespace Rows
def none {H : Type} : Left H := { results := [], args := [] }

/-- 'steadkeep.FixBetween': WHATEVER THE INPUT: true; the input reads as it did. -/
def fixBetweenSpec : ChangeSpec := { name := "fixBetween", fn := fun _ => fun
  | [d1, d2, d3, d4] => { results := [.lit (.bool true)], args := [d1, d2, d3, d4] }
  | _ => none }
def fixBetweenRow : OpenClaim := { program := "ytibbilncigmleaa", sum := "7bf29f191e68b8fa1acb8807d6440e86b093edc37b3209afb81c8d23519e448f", func := "steadyhand/steadkeep.FixBetween", spec := "fixBetween", apart := false }
def FixBetweenSaid : Prop := fixBetweenRow.holds Try.pinned (OpenSpec.ofChange fixBetweenSpec)

/-- ITS FALSE NEIGHBOUR: 'it returns false'. Refute it at one input. -/
def fixBetweenWrong : ChangeSpec := { name := "fixBetween", fn := fun _ => fun
  | [d1, d2, d3, d4] => { results := [.lit (.bool false)], args := [d1, d2, d3, d4] }
  | _ => none }
def FixBetweenWrongFalsely : Prop := fixBetweenRow.holds Try.pinned (OpenSpec.ofChange fixBetweenWrong)

/-- 'steadkeep.SatTwice': WHATEVER THE INPUT: true; the input reads as it did. -/
def satTwiceSpec : ChangeSpec := { name := "satTwice", fn := fun _ => fun
  | [d1, d2, d3] => { results := [.lit (.bool true)], args := [d1, d2, d3] }
  | _ => none }
def satTwiceRow : OpenClaim := { program := "ytibbilncigmleaa", sum := "7bf29f191e68b8fa1acb8807d6440e86b093edc37b3209afb81c8d23519e448f", func := "steadyhand/steadkeep.SatTwice", spec := "satTwice", apart := false }
def SatTwiceSaid : Prop := satTwiceRow.holds Try.pinned (OpenSpec.ofChange satTwiceSpec)

/-- ITS FALSE NEIGHBOUR: 'it returns false'. Refute it at one input. -/
def satTwiceWrong : ChangeSpec := { name := "satTwice", fn := fun _ => fun
  | [d1, d2, d3] => { results := [.lit (.bool false)], args := [d1, d2, d3] }
  | _ => none }
def SatTwiceWrongFalsely : Prop := satTwiceRow.holds Try.pinned (OpenSpec.ofChange satTwiceWrong)

/-- 'steadkeep.OilOwn': WHATEVER THE INPUT: true; the input reads as it did. -/
def oilOwnSpec : ChangeSpec := { name := "oilOwn", fn := fun _ => fun
  | [d1, d2] => { results := [.lit (.bool true)], args := [d1, d2] }
  | _ => none }
def oilOwnRow : OpenClaim := { program := "ytibbilncigmleaa", sum := "7bf29f191e68b8fa1acb8807d6440e86b093edc37b3209afb81c8d23519e448f", func := "steadyhand/steadkeep.OilOwn", spec := "oilOwn", apart := false }
def OilOwnSaid : Prop := oilOwnRow.holds Try.pinned (OpenSpec.ofChange oilOwnSpec)

/-- ITS FALSE NEIGHBOUR: 'it returns false'. Refute it at one input. -/
def oilOwnWrong : ChangeSpec := { name := "oilOwn", fn := fun _ => fun
  | [d1, d2] => { results := [.lit (.bool false)], args := [d1, d2] }
  | _ => none }
def OilOwnWrongFalsely : Prop := oilOwnRow.holds Try.pinned (OpenSpec.ofChange oilOwnWrong)

/-- 'steadkeep.WatchBounds': WHATEVER THE INPUT: true; the input reads as it did. -/
def watchBoundsSpec : ChangeSpec := { name := "watchBounds", fn := fun _ => fun
  | [d1, d2, d3] => { results := [.lit (.bool true)], args := [d1, d2, d3] }
  | _ => none }
def watchBoundsRow : OpenClaim := { program := "ytibbilncigmleaa", sum := "7bf29f191e68b8fa1acb8807d6440e86b093edc37b3209afb81c8d23519e448f", func := "steadyhand/steadkeep.WatchBounds", spec := "watchBounds", apart := false }
def WatchBoundsSaid : Prop := watchBoundsRow.holds Try.pinned (OpenSpec.ofChange watchBoundsSpec)

/-- ITS FALSE NEIGHBOUR: 'it returns false'. Refute it at one input. -/
def watchBoundsWrong : ChangeSpec := { name := "watchBounds", fn := fun _ => fun
  | [d1, d2, d3] => { results := [.lit (.bool false)], args := [d1, d2, d3] }
  | _ => none }
def WatchBoundsWrongFalsely : Prop := watchBoundsRow.holds Try.pinned (OpenSpec.ofChange watchBoundsWrong)

/-- 'steadkeep.SatOrder': WHATEVER THE INPUT: true; the input reads as it did. -/
def satOrderSpec : ChangeSpec := { name := "satOrder", fn := fun _ => fun
  | [d1, d2, d3, d4, d5, d6] => { results := [.lit (.bool true)], args := [d1, d2, d3, d4, d5, d6] }
  | _ => none }
def satOrderRow : OpenClaim := { program := "ytibbilncigmleaa", sum := "7bf29f191e68b8fa1acb8807d6440e86b093edc37b3209afb81c8d23519e448f", func := "steadyhand/steadkeep.SatOrder", spec := "satOrder", apart := false }
def SatOrderSaid : Prop := satOrderRow.holds Try.pinned (OpenSpec.ofChange satOrderSpec)

/-- ITS FALSE NEIGHBOUR: 'it returns false'. Refute it at one input. -/
def satOrderWrong : ChangeSpec := { name := "satOrder", fn := fun _ => fun
  | [d1, d2, d3, d4, d5, d6] => { results := [.lit (.bool false)], args := [d1, d2, d3, d4, d5, d6] }
  | _ => none }
def SatOrderWrongFalsely : Prop := satOrderRow.holds Try.pinned (OpenSpec.ofChange satOrderWrong)

/-- 'steadkeep.CountSoon': WHATEVER THE INPUT: true; the input reads as it did. -/
def countSoonSpec : ChangeSpec := { name := "countSoon", fn := fun _ => fun
  | [d1, d2] => { results := [.lit (.bool true)], args := [d1, d2] }
  | _ => none }
def countSoonRow : OpenClaim := { program := "ytibbilncigmleaa", sum := "7bf29f191e68b8fa1acb8807d6440e86b093edc37b3209afb81c8d23519e448f", func := "steadyhand/steadkeep.CountSoon", spec := "countSoon", apart := false }
def CountSoonSaid : Prop := countSoonRow.holds Try.pinned (OpenSpec.ofChange countSoonSpec)

/-- ITS FALSE NEIGHBOUR: 'it returns false'. Refute it at one input. -/
def countSoonWrong : ChangeSpec := { name := "countSoon", fn := fun _ => fun
  | [d1, d2] => { results := [.lit (.bool false)], args := [d1, d2] }
  | _ => none }
def CountSoonWrongFalsely : Prop := countSoonRow.holds Try.pinned (OpenSpec.ofChange countSoonWrong)

/-- 'steadkeep.CountHeld': WHATEVER THE INPUT: true; the input reads as it did. -/
def countHeldSpec : ChangeSpec := { name := "countHeld", fn := fun _ => fun
  | [d1, d2, d3] => { results := [.lit (.bool true)], args := [d1, d2, d3] }
  | _ => none }
def countHeldRow : OpenClaim := { program := "ytibbilncigmleaa", sum := "7bf29f191e68b8fa1acb8807d6440e86b093edc37b3209afb81c8d23519e448f", func := "steadyhand/steadkeep.CountHeld", spec := "countHeld", apart := false }
def CountHeldSaid : Prop := countHeldRow.holds Try.pinned (OpenSpec.ofChange countHeldSpec)

/-- ITS FALSE NEIGHBOUR: 'it returns false'. Refute it at one input. -/
def countHeldWrong : ChangeSpec := { name := "countHeld", fn := fun _ => fun
  | [d1, d2, d3] => { results := [.lit (.bool false)], args := [d1, d2, d3] }
  | _ => none }
def CountHeldWrongFalsely : Prop := countHeldRow.holds Try.pinned (OpenSpec.ofChange countHeldWrong)

/-- 'steadkeep.ServoSense': WHATEVER THE INPUT: true; the input reads as it did. -/
def servoSenseSpec : ChangeSpec := { name := "servoSense", fn := fun _ => fun
  | [d1, d2, d3] => { results := [.lit (.bool true)], args := [d1, d2, d3] }
  | _ => none }
def servoSenseRow : OpenClaim := { program := "ytibbilncigmleaa", sum := "7bf29f191e68b8fa1acb8807d6440e86b093edc37b3209afb81c8d23519e448f", func := "steadyhand/steadkeep.ServoSense", spec := "servoSense", apart := false }
def ServoSenseSaid : Prop := servoSenseRow.holds Try.pinned (OpenSpec.ofChange servoSenseSpec)

/-- ITS FALSE NEIGHBOUR: 'it returns false'. Refute it at one input. -/
def servoSenseWrong : ChangeSpec := { name := "servoSense", fn := fun _ => fun
  | [d1, d2, d3] => { results := [.lit (.bool false)], args := [d1, d2, d3] }
  | _ => none }
def ServoSenseWrongFalsely : Prop := servoSenseRow.holds Try.pinned (OpenSpec.ofChange servoSenseWrong)

/-- 'steadkeep.PidWinds': WHATEVER THE INPUT: true; the input reads as it did. -/
def pidWindsSpec : ChangeSpec := { name := "pidWinds", fn := fun _ => fun
  | [d1, d2, d3] => { results := [.lit (.bool true)], args := [d1, d2, d3] }
  | _ => none }
def pidWindsRow : OpenClaim := { program := "ytibbilncigmleaa", sum := "7bf29f191e68b8fa1acb8807d6440e86b093edc37b3209afb81c8d23519e448f", func := "steadyhand/steadkeep.PidWinds", spec := "pidWinds", apart := false }
def PidWindsSaid : Prop := pidWindsRow.holds Try.pinned (OpenSpec.ofChange pidWindsSpec)

/-- ITS FALSE NEIGHBOUR: 'it returns false'. Refute it at one input. -/
def pidWindsWrong : ChangeSpec := { name := "pidWinds", fn := fun _ => fun
  | [d1, d2, d3] => { results := [.lit (.bool false)], args := [d1, d2, d3] }
  | _ => none }
def PidWindsWrongFalsely : Prop := pidWindsRow.holds Try.pinned (OpenSpec.ofChange pidWindsWrong)

/-- 'steadkeep.RamFights': WHATEVER THE INPUT: true; the input reads as it did. -/
def ramFightsSpec : ChangeSpec := { name := "ramFights", fn := fun _ => fun
  | [d1, d2] => { results := [.lit (.bool true)], args := [d1, d2] }
  | _ => none }
def ramFightsRow : OpenClaim := { program := "ytibbilncigmleaa", sum := "7bf29f191e68b8fa1acb8807d6440e86b093edc37b3209afb81c8d23519e448f", func := "steadyhand/steadkeep.RamFights", spec := "ramFights", apart := false }
def RamFightsSaid : Prop := ramFightsRow.holds Try.pinned (OpenSpec.ofChange ramFightsSpec)

/-- ITS FALSE NEIGHBOUR: 'it returns false'. Refute it at one input. -/
def ramFightsWrong : ChangeSpec := { name := "ramFights", fn := fun _ => fun
  | [d1, d2] => { results := [.lit (.bool false)], args := [d1, d2] }
  | _ => none }
def RamFightsWrongFalsely : Prop := ramFightsRow.holds Try.pinned (OpenSpec.ofChange ramFightsWrong)

/-- 'steadkeep.FiltRate': WHATEVER THE INPUT: true; the input reads as it did. -/
def filtRateSpec : ChangeSpec := { name := "filtRate", fn := fun _ => fun
  | [d1, d2, d3, d4] => { results := [.lit (.bool true)], args := [d1, d2, d3, d4] }
  | _ => none }
def filtRateRow : OpenClaim := { program := "ytibbilncigmleaa", sum := "7bf29f191e68b8fa1acb8807d6440e86b093edc37b3209afb81c8d23519e448f", func := "steadyhand/steadkeep.FiltRate", spec := "filtRate", apart := false }
def FiltRateSaid : Prop := filtRateRow.holds Try.pinned (OpenSpec.ofChange filtRateSpec)

/-- ITS FALSE NEIGHBOUR: 'it returns false'. Refute it at one input. -/
def filtRateWrong : ChangeSpec := { name := "filtRate", fn := fun _ => fun
  | [d1, d2, d3, d4] => { results := [.lit (.bool false)], args := [d1, d2, d3, d4] }
  | _ => none }
def FiltRateWrongFalsely : Prop := filtRateRow.holds Try.pinned (OpenSpec.ofChange filtRateWrong)

/-- 'steadkeep.PidBounds': WHATEVER THE INPUT: true; the input reads as it did. -/
def pidBoundsSpec : ChangeSpec := { name := "pidBounds", fn := fun _ => fun
  | [d1, d2, d3] => { results := [.lit (.bool true)], args := [d1, d2, d3] }
  | _ => none }
def pidBoundsRow : OpenClaim := { program := "ytibbilncigmleaa", sum := "7bf29f191e68b8fa1acb8807d6440e86b093edc37b3209afb81c8d23519e448f", func := "steadyhand/steadkeep.PidBounds", spec := "pidBounds", apart := false }
def PidBoundsSaid : Prop := pidBoundsRow.holds Try.pinned (OpenSpec.ofChange pidBoundsSpec)

/-- ITS FALSE NEIGHBOUR: 'it returns false'. Refute it at one input. -/
def pidBoundsWrong : ChangeSpec := { name := "pidBounds", fn := fun _ => fun
  | [d1, d2, d3] => { results := [.lit (.bool false)], args := [d1, d2, d3] }
  | _ => none }
def PidBoundsWrongFalsely : Prop := pidBoundsRow.holds Try.pinned (OpenSpec.ofChange pidBoundsWrong)

/- THE SECOND FORM. 'bulk': how many values and letters a reading holds, each counted each time it is reached (what is shared counts as often as it is met; a slice's spare places count too). A statement '..UptoSaid' is the law's where the arguments, and the package variables that the reading takes, are together of bulk at most 1048576: NARROWER than '..Said'. Prove '..Said' where nothing that the law and all that it calls make is longer than what came in: it says more and counts as full. Else prove '..UptoSaid'. A law counts once. -/
mutual
def uptoBulk {H : Type} : DataW H → Nat
  | .lit (.string bytes) => bytes.length + 1
  | .lit _ => 1
  | .nil => 1
  | .ptr d => uptoBulk d + 1
  | .slice elems spare => uptoBulkAll elems + uptoBulkAll spare + 1
  | .agg parts => uptoBulkAll parts + 1
  | .iface _ d => uptoBulk d + 1
  | .map entries => uptoBulkEntries entries + 1
  | .held _ => 1
def uptoBulkAll {H : Type} : List (DataW H) → Nat
  | [] => 0
  | d :: r => uptoBulk d + uptoBulkAll r
def uptoBulkEntries {H : Type} : List (Lit × DataW H) → Nat
  | [] => 0
  | x :: r => uptoBulkEntry x + uptoBulkEntries r
def uptoBulkEntry {H : Type} : Lit × DataW H → Nat
  | (.string bytes, d) => bytes.length + uptoBulk d + 1
  | (_, d) => uptoBulk d + 1
 end
def uptoSmall : (H : Type) → List (DataW H) → Bool := fun _ ds => decide (uptoBulkAll ds ≤ 1048576)
def OpenSpec.upto (s : _root_.Go.ChangeSpec) : _root_.Go.OpenSpec := { _root_.Go.OpenSpec.ofChange s with cond := some uptoSmall }

/-- 'steadkeep.FixBetween', WHERE WHAT IT READS IS OF BULK AT MOST 1048576: true; the input reads as it did. -/
def fixBetweenUptoRow : OpenClaim := { program := "ytibbilncigmleaa", sum := "7bf29f191e68b8fa1acb8807d6440e86b093edc37b3209afb81c8d23519e448f", func := "steadyhand/steadkeep.FixBetween", spec := "fixBetween", apart := false, narrowed := true }
def FixBetweenUptoSaid : Prop := fixBetweenUptoRow.holds Try.pinned (OpenSpec.upto fixBetweenSpec)

/-- 'steadkeep.SatTwice', WHERE WHAT IT READS IS OF BULK AT MOST 1048576: true; the input reads as it did. -/
def satTwiceUptoRow : OpenClaim := { program := "ytibbilncigmleaa", sum := "7bf29f191e68b8fa1acb8807d6440e86b093edc37b3209afb81c8d23519e448f", func := "steadyhand/steadkeep.SatTwice", spec := "satTwice", apart := false, narrowed := true }
def SatTwiceUptoSaid : Prop := satTwiceUptoRow.holds Try.pinned (OpenSpec.upto satTwiceSpec)

/-- 'steadkeep.OilOwn', WHERE WHAT IT READS IS OF BULK AT MOST 1048576: true; the input reads as it did. -/
def oilOwnUptoRow : OpenClaim := { program := "ytibbilncigmleaa", sum := "7bf29f191e68b8fa1acb8807d6440e86b093edc37b3209afb81c8d23519e448f", func := "steadyhand/steadkeep.OilOwn", spec := "oilOwn", apart := false, narrowed := true }
def OilOwnUptoSaid : Prop := oilOwnUptoRow.holds Try.pinned (OpenSpec.upto oilOwnSpec)

/-- 'steadkeep.WatchBounds', WHERE WHAT IT READS IS OF BULK AT MOST 1048576: true; the input reads as it did. -/
def watchBoundsUptoRow : OpenClaim := { program := "ytibbilncigmleaa", sum := "7bf29f191e68b8fa1acb8807d6440e86b093edc37b3209afb81c8d23519e448f", func := "steadyhand/steadkeep.WatchBounds", spec := "watchBounds", apart := false, narrowed := true }
def WatchBoundsUptoSaid : Prop := watchBoundsUptoRow.holds Try.pinned (OpenSpec.upto watchBoundsSpec)

/-- 'steadkeep.SatOrder', WHERE WHAT IT READS IS OF BULK AT MOST 1048576: true; the input reads as it did. -/
def satOrderUptoRow : OpenClaim := { program := "ytibbilncigmleaa", sum := "7bf29f191e68b8fa1acb8807d6440e86b093edc37b3209afb81c8d23519e448f", func := "steadyhand/steadkeep.SatOrder", spec := "satOrder", apart := false, narrowed := true }
def SatOrderUptoSaid : Prop := satOrderUptoRow.holds Try.pinned (OpenSpec.upto satOrderSpec)

/-- 'steadkeep.CountSoon', WHERE WHAT IT READS IS OF BULK AT MOST 1048576: true; the input reads as it did. -/
def countSoonUptoRow : OpenClaim := { program := "ytibbilncigmleaa", sum := "7bf29f191e68b8fa1acb8807d6440e86b093edc37b3209afb81c8d23519e448f", func := "steadyhand/steadkeep.CountSoon", spec := "countSoon", apart := false, narrowed := true }
def CountSoonUptoSaid : Prop := countSoonUptoRow.holds Try.pinned (OpenSpec.upto countSoonSpec)

/-- 'steadkeep.CountHeld', WHERE WHAT IT READS IS OF BULK AT MOST 1048576: true; the input reads as it did. -/
def countHeldUptoRow : OpenClaim := { program := "ytibbilncigmleaa", sum := "7bf29f191e68b8fa1acb8807d6440e86b093edc37b3209afb81c8d23519e448f", func := "steadyhand/steadkeep.CountHeld", spec := "countHeld", apart := false, narrowed := true }
def CountHeldUptoSaid : Prop := countHeldUptoRow.holds Try.pinned (OpenSpec.upto countHeldSpec)

/-- 'steadkeep.ServoSense', WHERE WHAT IT READS IS OF BULK AT MOST 1048576: true; the input reads as it did. -/
def servoSenseUptoRow : OpenClaim := { program := "ytibbilncigmleaa", sum := "7bf29f191e68b8fa1acb8807d6440e86b093edc37b3209afb81c8d23519e448f", func := "steadyhand/steadkeep.ServoSense", spec := "servoSense", apart := false, narrowed := true }
def ServoSenseUptoSaid : Prop := servoSenseUptoRow.holds Try.pinned (OpenSpec.upto servoSenseSpec)

/-- 'steadkeep.PidWinds', WHERE WHAT IT READS IS OF BULK AT MOST 1048576: true; the input reads as it did. -/
def pidWindsUptoRow : OpenClaim := { program := "ytibbilncigmleaa", sum := "7bf29f191e68b8fa1acb8807d6440e86b093edc37b3209afb81c8d23519e448f", func := "steadyhand/steadkeep.PidWinds", spec := "pidWinds", apart := false, narrowed := true }
def PidWindsUptoSaid : Prop := pidWindsUptoRow.holds Try.pinned (OpenSpec.upto pidWindsSpec)

/-- 'steadkeep.RamFights', WHERE WHAT IT READS IS OF BULK AT MOST 1048576: true; the input reads as it did. -/
def ramFightsUptoRow : OpenClaim := { program := "ytibbilncigmleaa", sum := "7bf29f191e68b8fa1acb8807d6440e86b093edc37b3209afb81c8d23519e448f", func := "steadyhand/steadkeep.RamFights", spec := "ramFights", apart := false, narrowed := true }
def RamFightsUptoSaid : Prop := ramFightsUptoRow.holds Try.pinned (OpenSpec.upto ramFightsSpec)

/-- 'steadkeep.FiltRate', WHERE WHAT IT READS IS OF BULK AT MOST 1048576: true; the input reads as it did. -/
def filtRateUptoRow : OpenClaim := { program := "ytibbilncigmleaa", sum := "7bf29f191e68b8fa1acb8807d6440e86b093edc37b3209afb81c8d23519e448f", func := "steadyhand/steadkeep.FiltRate", spec := "filtRate", apart := false, narrowed := true }
def FiltRateUptoSaid : Prop := filtRateUptoRow.holds Try.pinned (OpenSpec.upto filtRateSpec)

/-- 'steadkeep.PidBounds', WHERE WHAT IT READS IS OF BULK AT MOST 1048576: true; the input reads as it did. -/
def pidBoundsUptoRow : OpenClaim := { program := "ytibbilncigmleaa", sum := "7bf29f191e68b8fa1acb8807d6440e86b093edc37b3209afb81c8d23519e448f", func := "steadyhand/steadkeep.PidBounds", spec := "pidBounds", apart := false, narrowed := true }
def PidBoundsUptoSaid : Prop := pidBoundsUptoRow.holds Try.pinned (OpenSpec.upto pidBoundsSpec)

end Rows
end Go.Proofs.Ytibbilncigmleaa
