/-
  No cell of these rows narrows 'for every input' (looked for: loops, veiled, ifaces, maps, wideKeys, modest, calm, conditions, laid).
  DERIVED. THE GIVEN ROWS OF THIS SEAT. 6 by the template 'for every input the law returns true; each argument reads behind the call as it read before'; 0 by the template 'total and deterministic' (their statements: YtfifckcjadbiiaaTotals.lean).
  GIVEN WITH THE SEED: the statements are not yours to turn. If you find one false, say at which input.
  Laid BY PROGRAM, IN A SANDBOX (cutbox-rows.mjs): the forced cells as the released guide's own fill.sh prints them over the translation 761a5f49e9225a22… (all of the seat's roots in one cut). By AI agents, Wed Nov 11 2026. No macro, syntax, notation, axiom, sorry.
-/
import Derived.Test.YtfifckcjadbiiaaChecked
import GoSem.Claim
import GoSem.ClaimJoined
import GoSem.ClaimMapViews
import Derived.JoinedTies
import Derived.KernelRfl
namespace Go.Proofs.Ytfifckcjadbiiaa
/- THE CELL 'sum', in the pinned program and in every row, IS THE sha256 OF THE DUMP (.gsa) THAT YtfifckcjadbiiaaProg.lean LOADS. Nothing in Lean hashes anything: it is a label: what it is worth is what the hold of that sum in a sandbox is worth. -/
noncomputable def Try.pinned : Pinned := { name := "ytfifckcjadbiiaa", sum := "761a5f49e9225a22ea067229d2e165678278203b63c6b90ff7d987b40f2fd433", checked := Try.checked }
namespace Rows
def none {H : Type} : Left H := { results := [], args := [] }

/-- 'steadkeep.LaneTurns': WHATEVER THE INPUT: true; the input reads as it did. -/
def laneTurnsSpec : ChangeSpec := { name := "laneTurns", fn := fun _ => fun
  | [d] => { results := [.lit (.bool true)], args := [d] }
  | _ => none }
def laneTurnsRow : OpenClaim := { program := "ytfifckcjadbiiaa", sum := "761a5f49e9225a22ea067229d2e165678278203b63c6b90ff7d987b40f2fd433", func := "steadyhand/steadkeep.LaneTurns", spec := "laneTurns", plainKeys := false, apart := false }
def LaneTurnsSaid : Prop := laneTurnsRow.holds Try.pinned (OpenSpec.ofChange laneTurnsSpec)

/-- ITS FALSE NEIGHBOUR: 'it returns false'. Refute it at one input. -/
def laneTurnsWrong : ChangeSpec := { name := "laneTurns", fn := fun _ => fun
  | [d] => { results := [.lit (.bool false)], args := [d] }
  | _ => none }
def LaneTurnsWrongFalsely : Prop := laneTurnsRow.holds Try.pinned (OpenSpec.ofChange laneTurnsWrong)

/-- 'steadkeep.LaneFails': WHATEVER THE INPUT: true; the input reads as it did. -/
def laneFailsSpec : ChangeSpec := { name := "laneFails", fn := fun _ => fun
  | [d] => { results := [.lit (.bool true)], args := [d] }
  | _ => none }
def laneFailsRow : OpenClaim := { program := "ytfifckcjadbiiaa", sum := "761a5f49e9225a22ea067229d2e165678278203b63c6b90ff7d987b40f2fd433", func := "steadyhand/steadkeep.LaneFails", spec := "laneFails", plainKeys := false, apart := false }
def LaneFailsSaid : Prop := laneFailsRow.holds Try.pinned (OpenSpec.ofChange laneFailsSpec)

/-- ITS FALSE NEIGHBOUR: 'it returns false'. Refute it at one input. -/
def laneFailsWrong : ChangeSpec := { name := "laneFails", fn := fun _ => fun
  | [d] => { results := [.lit (.bool false)], args := [d] }
  | _ => none }
def LaneFailsWrongFalsely : Prop := laneFailsRow.holds Try.pinned (OpenSpec.ofChange laneFailsWrong)

/-- 'steadkeep.ModeSafe': WHATEVER THE INPUT: true; the input reads as it did. -/
def modeSafeSpec : ChangeSpec := { name := "modeSafe", fn := fun _ => fun
  | [d] => { results := [.lit (.bool true)], args := [d] }
  | _ => none }
def modeSafeRow : OpenClaim := { program := "ytfifckcjadbiiaa", sum := "761a5f49e9225a22ea067229d2e165678278203b63c6b90ff7d987b40f2fd433", func := "steadyhand/steadkeep.ModeSafe", spec := "modeSafe", plainKeys := false, apart := false }
def ModeSafeSaid : Prop := modeSafeRow.holds Try.pinned (OpenSpec.ofChange modeSafeSpec)

/-- ITS FALSE NEIGHBOUR: 'it returns false'. Refute it at one input. -/
def modeSafeWrong : ChangeSpec := { name := "modeSafe", fn := fun _ => fun
  | [d] => { results := [.lit (.bool false)], args := [d] }
  | _ => none }
def ModeSafeWrongFalsely : Prop := modeSafeRow.holds Try.pinned (OpenSpec.ofChange modeSafeWrong)

/-- 'steadkeep.RedSafe': WHATEVER THE INPUT: true; the input reads as it did. -/
def redSafeSpec : ChangeSpec := { name := "redSafe", fn := fun _ => fun
  | [d1, d2, d3] => { results := [.lit (.bool true)], args := [d1, d2, d3] }
  | _ => none }
def redSafeRow : OpenClaim := { program := "ytfifckcjadbiiaa", sum := "761a5f49e9225a22ea067229d2e165678278203b63c6b90ff7d987b40f2fd433", func := "steadyhand/steadkeep.RedSafe", spec := "redSafe", plainKeys := false, apart := false }
def RedSafeSaid : Prop := redSafeRow.holds Try.pinned (OpenSpec.ofChange redSafeSpec)

/-- ITS FALSE NEIGHBOUR: 'it returns false'. Refute it at one input. -/
def redSafeWrong : ChangeSpec := { name := "redSafe", fn := fun _ => fun
  | [d1, d2, d3] => { results := [.lit (.bool false)], args := [d1, d2, d3] }
  | _ => none }
def RedSafeWrongFalsely : Prop := redSafeRow.holds Try.pinned (OpenSpec.ofChange redSafeWrong)

/-- 'steadkeep.RedStays': WHATEVER THE INPUT: true; the input reads as it did. -/
def redStaysSpec : ChangeSpec := { name := "redStays", fn := fun _ => fun
  | [d1, d2, d3] => { results := [.lit (.bool true)], args := [d1, d2, d3] }
  | _ => none }
def redStaysRow : OpenClaim := { program := "ytfifckcjadbiiaa", sum := "761a5f49e9225a22ea067229d2e165678278203b63c6b90ff7d987b40f2fd433", func := "steadyhand/steadkeep.RedStays", spec := "redStays", plainKeys := false, apart := false }
def RedStaysSaid : Prop := redStaysRow.holds Try.pinned (OpenSpec.ofChange redStaysSpec)

/-- ITS FALSE NEIGHBOUR: 'it returns false'. Refute it at one input. -/
def redStaysWrong : ChangeSpec := { name := "redStays", fn := fun _ => fun
  | [d1, d2, d3] => { results := [.lit (.bool false)], args := [d1, d2, d3] }
  | _ => none }
def RedStaysWrongFalsely : Prop := redStaysRow.holds Try.pinned (OpenSpec.ofChange redStaysWrong)

/-- 'steadkeep.RedLowest': WHATEVER THE INPUT: true; the input reads as it did. -/
def redLowestSpec : ChangeSpec := { name := "redLowest", fn := fun _ => fun
  | [d1, d2, d3] => { results := [.lit (.bool true)], args := [d1, d2, d3] }
  | _ => none }
def redLowestRow : OpenClaim := { program := "ytfifckcjadbiiaa", sum := "761a5f49e9225a22ea067229d2e165678278203b63c6b90ff7d987b40f2fd433", func := "steadyhand/steadkeep.RedLowest", spec := "redLowest", plainKeys := false, apart := false }
def RedLowestSaid : Prop := redLowestRow.holds Try.pinned (OpenSpec.ofChange redLowestSpec)

/-- ITS FALSE NEIGHBOUR: 'it returns false'. Refute it at one input. -/
def redLowestWrong : ChangeSpec := { name := "redLowest", fn := fun _ => fun
  | [d1, d2, d3] => { results := [.lit (.bool false)], args := [d1, d2, d3] }
  | _ => none }
def RedLowestWrongFalsely : Prop := redLowestRow.holds Try.pinned (OpenSpec.ofChange redLowestWrong)

/- THE SECOND FORM. 'bulk': how many values and letters a reading holds, each counted each time it is reached (what is shared counts as often as it is met; a slice's spare places count too). A statement '..UptoSaid' is the law's where the arguments, and the package variables that the reading takes, are together of bulk at most 1048576: NARROWER than '..Said'. Prove '..Said' where nothing that the law and all that it calls make is longer than what came in: it says more and counts as full. Else prove '..UptoSaid'. A law counts once. -/
mutual
def uptoBulk {H : Type} : DataW H → Nat
  | .lit (.string bytes) => bytes.length + 1
  | .lit _ => 1
  | .nil => 1
  | .ptr d => uptoBulk d + 1
  | .slice elems spare => uptoBulkAll elems + uptoBulkAll spare + 1
  | .agg parts => uptoBulkAll parts + 1
  | .iface _ d => uptoBulk d + 1
  | .map entries => uptoBulkEntries entries + 1
  | .held _ => 1
def uptoBulkAll {H : Type} : List (DataW H) → Nat
  | [] => 0
  | d :: r => uptoBulk d + uptoBulkAll r
def uptoBulkEntries {H : Type} : List (Lit × DataW H) → Nat
  | [] => 0
  | x :: r => uptoBulkEntry x + uptoBulkEntries r
def uptoBulkEntry {H : Type} : Lit × DataW H → Nat
  | (.string bytes, d) => bytes.length + uptoBulk d + 1
  | (_, d) => uptoBulk d + 1
 end
def uptoSmall : (H : Type) → List (DataW H) → Bool := fun _ ds => decide (uptoBulkAll ds ≤ 1048576)
def OpenSpec.upto (s : _root_.Go.ChangeSpec) : _root_.Go.OpenSpec := { _root_.Go.OpenSpec.ofChange s with cond := some uptoSmall }

/-- 'steadkeep.LaneTurns', WHERE WHAT IT READS IS OF BULK AT MOST 1048576: true; the input reads as it did. -/
def laneTurnsUptoRow : OpenClaim := { program := "ytfifckcjadbiiaa", sum := "761a5f49e9225a22ea067229d2e165678278203b63c6b90ff7d987b40f2fd433", func := "steadyhand/steadkeep.LaneTurns", spec := "laneTurns", plainKeys := false, apart := false, narrowed := true }
def LaneTurnsUptoSaid : Prop := laneTurnsUptoRow.holds Try.pinned (OpenSpec.upto laneTurnsSpec)

/-- 'steadkeep.LaneFails', WHERE WHAT IT READS IS OF BULK AT MOST 1048576: true; the input reads as it did. -/
def laneFailsUptoRow : OpenClaim := { program := "ytfifckcjadbiiaa", sum := "761a5f49e9225a22ea067229d2e165678278203b63c6b90ff7d987b40f2fd433", func := "steadyhand/steadkeep.LaneFails", spec := "laneFails", plainKeys := false, apart := false, narrowed := true }
def LaneFailsUptoSaid : Prop := laneFailsUptoRow.holds Try.pinned (OpenSpec.upto laneFailsSpec)

/-- 'steadkeep.ModeSafe', WHERE WHAT IT READS IS OF BULK AT MOST 1048576: true; the input reads as it did. -/
def modeSafeUptoRow : OpenClaim := { program := "ytfifckcjadbiiaa", sum := "761a5f49e9225a22ea067229d2e165678278203b63c6b90ff7d987b40f2fd433", func := "steadyhand/steadkeep.ModeSafe", spec := "modeSafe", plainKeys := false, apart := false, narrowed := true }
def ModeSafeUptoSaid : Prop := modeSafeUptoRow.holds Try.pinned (OpenSpec.upto modeSafeSpec)

/-- 'steadkeep.RedSafe', WHERE WHAT IT READS IS OF BULK AT MOST 1048576: true; the input reads as it did. -/
def redSafeUptoRow : OpenClaim := { program := "ytfifckcjadbiiaa", sum := "761a5f49e9225a22ea067229d2e165678278203b63c6b90ff7d987b40f2fd433", func := "steadyhand/steadkeep.RedSafe", spec := "redSafe", plainKeys := false, apart := false, narrowed := true }
def RedSafeUptoSaid : Prop := redSafeUptoRow.holds Try.pinned (OpenSpec.upto redSafeSpec)

/-- 'steadkeep.RedStays', WHERE WHAT IT READS IS OF BULK AT MOST 1048576: true; the input reads as it did. -/
def redStaysUptoRow : OpenClaim := { program := "ytfifckcjadbiiaa", sum := "761a5f49e9225a22ea067229d2e165678278203b63c6b90ff7d987b40f2fd433", func := "steadyhand/steadkeep.RedStays", spec := "redStays", plainKeys := false, apart := false, narrowed := true }
def RedStaysUptoSaid : Prop := redStaysUptoRow.holds Try.pinned (OpenSpec.upto redStaysSpec)

/-- 'steadkeep.RedLowest', WHERE WHAT IT READS IS OF BULK AT MOST 1048576: true; the input reads as it did. -/
def redLowestUptoRow : OpenClaim := { program := "ytfifckcjadbiiaa", sum := "761a5f49e9225a22ea067229d2e165678278203b63c6b90ff7d987b40f2fd433", func := "steadyhand/steadkeep.RedLowest", spec := "redLowest", plainKeys := false, apart := false, narrowed := true }
def RedLowestUptoSaid : Prop := redLowestUptoRow.holds Try.pinned (OpenSpec.upto redLowestSpec)

end Rows
end Go.Proofs.Ytfifckcjadbiiaa
