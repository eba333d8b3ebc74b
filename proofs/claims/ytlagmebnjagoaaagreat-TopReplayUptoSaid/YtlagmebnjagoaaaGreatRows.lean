/-
  No cell of these rows narrows 'for every input' (looked for: loops, veiled, ifaces, maps, wideKeys, modest, calm, conditions, laid).
  DERIVED. THE GIVEN ROWS OF THIS SEAT. 6 by the template 'for every input the law returns true; each argument reads behind the call as it read before'; 0 by the template 'total and deterministic' (their statements: YtlagmebnjagoaaaGreatTotals.lean).
  GIVEN WITH THE SEED: the statements are not yours to turn. If you find one false, say at which input.
  Laid BY PROGRAM, IN A SANDBOX (cutbox-rows.mjs): the forced cells as the released guide's own fill.sh prints them over the translation eb3b7bb58dc9ad2d… (all of the seat's roots in one cut). By AI agents, Wed Nov 11 2026. No macro, syntax, notation, axiom, sorry.
-/
import Derived.Test.YtlagmebnjagoaaaGreatChecked
import GoSem.Claim
import GoSem.ClaimJoined
import GoSem.ClaimMapViews
import Derived.JoinedTies
import Derived.KernelRfl
namespace Go.Proofs.YtlagmebnjagoaaaGreat
/- THE CELL 'sum', in the pinned program and in every row, IS THE sha256 OF THE DUMP (.gsa) THAT YtlagmebnjagoaaaGreatProg.lean LOADS. Nothing in Lean hashes anything: it is a label: what it is worth is what the hold of that sum in a sandbox is worth. -/
noncomputable def Tryz.pinned : Pinned := { name := "ytlagmebnjagoaaagreat", sum := "eb3b7bb58dc9ad2d8115346e0c387a401bc67d80acd25fef38f4351925e95a6f", checked := Tryz.checked }
namespace Rows
def none {H : Type} : Left H := { results := [], args := [] }

/-- 'steadtop.TopLatch': WHATEVER THE INPUT: true; the input reads as it did. -/
def topLatchSpec : ChangeSpec := { name := "topLatch", fn := fun _ => fun
  | [d1, d2] => { results := [.lit (.bool true)], args := [d1, d2] }
  | _ => none }
def topLatchRow : OpenClaim := { program := "ytlagmebnjagoaaagreat", sum := "eb3b7bb58dc9ad2d8115346e0c387a401bc67d80acd25fef38f4351925e95a6f", func := "steadyhand/steadtop.TopLatch", spec := "topLatch", recurses := true, plainKeys := false, apart := false }
def TopLatchSaid : Prop := topLatchRow.holds Tryz.pinned (OpenSpec.ofChange topLatchSpec)

/-- ITS FALSE NEIGHBOUR: 'it returns false'. Refute it at one input. -/
def topLatchWrong : ChangeSpec := { name := "topLatch", fn := fun _ => fun
  | [d1, d2] => { results := [.lit (.bool false)], args := [d1, d2] }
  | _ => none }
def TopLatchWrongFalsely : Prop := topLatchRow.holds Tryz.pinned (OpenSpec.ofChange topLatchWrong)

/-- 'steadtop.TopGround': WHATEVER THE INPUT: true; the input reads as it did. -/
def topGroundSpec : ChangeSpec := { name := "topGround", fn := fun _ => fun
  | [d1, d2] => { results := [.lit (.bool true)], args := [d1, d2] }
  | _ => none }
def topGroundRow : OpenClaim := { program := "ytlagmebnjagoaaagreat", sum := "eb3b7bb58dc9ad2d8115346e0c387a401bc67d80acd25fef38f4351925e95a6f", func := "steadyhand/steadtop.TopGround", spec := "topGround", recurses := true, plainKeys := false, apart := false }
def TopGroundSaid : Prop := topGroundRow.holds Tryz.pinned (OpenSpec.ofChange topGroundSpec)

/-- ITS FALSE NEIGHBOUR: 'it returns false'. Refute it at one input. -/
def topGroundWrong : ChangeSpec := { name := "topGround", fn := fun _ => fun
  | [d1, d2] => { results := [.lit (.bool false)], args := [d1, d2] }
  | _ => none }
def TopGroundWrongFalsely : Prop := topGroundRow.holds Tryz.pinned (OpenSpec.ofChange topGroundWrong)

/-- 'steadtop.TopLost': WHATEVER THE INPUT: true; the input reads as it did. -/
def topLostSpec : ChangeSpec := { name := "topLost", fn := fun _ => fun
  | [d1, d2] => { results := [.lit (.bool true)], args := [d1, d2] }
  | _ => none }
def topLostRow : OpenClaim := { program := "ytlagmebnjagoaaagreat", sum := "eb3b7bb58dc9ad2d8115346e0c387a401bc67d80acd25fef38f4351925e95a6f", func := "steadyhand/steadtop.TopLost", spec := "topLost", recurses := true, plainKeys := false, apart := false }
def TopLostSaid : Prop := topLostRow.holds Tryz.pinned (OpenSpec.ofChange topLostSpec)

/-- ITS FALSE NEIGHBOUR: 'it returns false'. Refute it at one input. -/
def topLostWrong : ChangeSpec := { name := "topLost", fn := fun _ => fun
  | [d1, d2] => { results := [.lit (.bool false)], args := [d1, d2] }
  | _ => none }
def TopLostWrongFalsely : Prop := topLostRow.holds Tryz.pinned (OpenSpec.ofChange topLostWrong)

/-- 'steadtop.TopArrives': WHATEVER THE INPUT: true; the input reads as it did. -/
def topArrivesSpec : ChangeSpec := { name := "topArrives", fn := fun _ => fun
  | [d1, d2] => { results := [.lit (.bool true)], args := [d1, d2] }
  | _ => none }
def topArrivesRow : OpenClaim := { program := "ytlagmebnjagoaaagreat", sum := "eb3b7bb58dc9ad2d8115346e0c387a401bc67d80acd25fef38f4351925e95a6f", func := "steadyhand/steadtop.TopArrives", spec := "topArrives", recurses := true, plainKeys := false, apart := false }
def TopArrivesSaid : Prop := topArrivesRow.holds Tryz.pinned (OpenSpec.ofChange topArrivesSpec)

/-- ITS FALSE NEIGHBOUR: 'it returns false'. Refute it at one input. -/
def topArrivesWrong : ChangeSpec := { name := "topArrives", fn := fun _ => fun
  | [d1, d2] => { results := [.lit (.bool false)], args := [d1, d2] }
  | _ => none }
def TopArrivesWrongFalsely : Prop := topArrivesRow.holds Tryz.pinned (OpenSpec.ofChange topArrivesWrong)

/-- 'steadtop.TopReplay': WHATEVER THE INPUT: true; the input reads as it did. -/
def topReplaySpec : ChangeSpec := { name := "topReplay", fn := fun _ => fun
  | [d1, d2, d3] => { results := [.lit (.bool true)], args := [d1, d2, d3] }
  | _ => none }
def topReplayRow : OpenClaim := { program := "ytlagmebnjagoaaagreat", sum := "eb3b7bb58dc9ad2d8115346e0c387a401bc67d80acd25fef38f4351925e95a6f", func := "steadyhand/steadtop.TopReplay", spec := "topReplay", recurses := true, plainKeys := false, apart := false }
def TopReplaySaid : Prop := topReplayRow.holds Tryz.pinned (OpenSpec.ofChange topReplaySpec)

/-- ITS FALSE NEIGHBOUR: 'it returns false'. Refute it at one input. -/
def topReplayWrong : ChangeSpec := { name := "topReplay", fn := fun _ => fun
  | [d1, d2, d3] => { results := [.lit (.bool false)], args := [d1, d2, d3] }
  | _ => none }
def TopReplayWrongFalsely : Prop := topReplayRow.holds Tryz.pinned (OpenSpec.ofChange topReplayWrong)

/-- 'steadkeep.WorldOwn': WHATEVER THE INPUT: true; the input reads as it did. -/
def worldOwnSpec : ChangeSpec := { name := "worldOwn", fn := fun _ => fun
  | [d] => { results := [.lit (.bool true)], args := [d] }
  | _ => none }
def worldOwnRow : OpenClaim := { program := "ytlagmebnjagoaaagreat", sum := "eb3b7bb58dc9ad2d8115346e0c387a401bc67d80acd25fef38f4351925e95a6f", func := "steadyhand/steadkeep.WorldOwn", spec := "worldOwn", recurses := true, plainKeys := false, apart := false }
def WorldOwnSaid : Prop := worldOwnRow.holds Tryz.pinned (OpenSpec.ofChange worldOwnSpec)

/-- ITS FALSE NEIGHBOUR: 'it returns false'. Refute it at one input. -/
def worldOwnWrong : ChangeSpec := { name := "worldOwn", fn := fun _ => fun
  | [d] => { results := [.lit (.bool false)], args := [d] }
  | _ => none }
def WorldOwnWrongFalsely : Prop := worldOwnRow.holds Tryz.pinned (OpenSpec.ofChange worldOwnWrong)

/- THE SECOND FORM. 'bulk': how many values and letters a reading holds, each counted each time it is reached (what is shared counts as often as it is met; a slice's spare places count too). A statement '..UptoSaid' is the law's where the arguments, and the package variables that the reading takes, are together of bulk at most 1048576: NARROWER than '..Said'. Prove '..Said' where nothing that the law and all that it calls make is longer than what came in: it says more and counts as full. Else prove '..UptoSaid'. A law counts once. -/
mutual
def uptoBulk {H : Type} : DataW H → Nat
  | .lit (.string bytes) => bytes.length + 1
  | .lit _ => 1
  | .nil => 1
  | .ptr d => uptoBulk d + 1
  | .slice elems spare => uptoBulkAll elems + uptoBulkAll spare + 1
  | .agg parts => uptoBulkAll parts + 1
  | .iface _ d => uptoBulk d + 1
  | .map entries => uptoBulkEntries entries + 1
  | .held _ => 1
def uptoBulkAll {H : Type} : List (DataW H) → Nat
  | [] => 0
  | d :: r => uptoBulk d + uptoBulkAll r
def uptoBulkEntries {H : Type} : List (Lit × DataW H) → Nat
  | [] => 0
  | x :: r => uptoBulkEntry x + uptoBulkEntries r
def uptoBulkEntry {H : Type} : Lit × DataW H → Nat
  | (.string bytes, d) => bytes.length + uptoBulk d + 1
  | (_, d) => uptoBulk d + 1
 end
def uptoSmall : (H : Type) → List (DataW H) → Bool := fun _ ds => decide (uptoBulkAll ds ≤ 1048576)
def OpenSpec.upto (s : _root_.Go.ChangeSpec) : _root_.Go.OpenSpec := { _root_.Go.OpenSpec.ofChange s with cond := some uptoSmall }

/-- 'steadtop.TopLatch', WHERE WHAT IT READS IS OF BULK AT MOST 1048576: true; the input reads as it did. -/
def topLatchUptoRow : OpenClaim := { program := "ytlagmebnjagoaaagreat", sum := "eb3b7bb58dc9ad2d8115346e0c387a401bc67d80acd25fef38f4351925e95a6f", func := "steadyhand/steadtop.TopLatch", spec := "topLatch", recurses := true, plainKeys := false, apart := false, narrowed := true }
def TopLatchUptoSaid : Prop := topLatchUptoRow.holds Tryz.pinned (OpenSpec.upto topLatchSpec)

/-- 'steadtop.TopGround', WHERE WHAT IT READS IS OF BULK AT MOST 1048576: true; the input reads as it did. -/
def topGroundUptoRow : OpenClaim := { program := "ytlagmebnjagoaaagreat", sum := "eb3b7bb58dc9ad2d8115346e0c387a401bc67d80acd25fef38f4351925e95a6f", func := "steadyhand/steadtop.TopGround", spec := "topGround", recurses := true, plainKeys := false, apart := false, narrowed := true }
def TopGroundUptoSaid : Prop := topGroundUptoRow.holds Tryz.pinned (OpenSpec.upto topGroundSpec)

/-- 'steadtop.TopLost', WHERE WHAT IT READS IS OF BULK AT MOST 1048576: true; the input reads as it did. -/
def topLostUptoRow : OpenClaim := { program := "ytlagmebnjagoaaagreat", sum := "eb3b7bb58dc9ad2d8115346e0c387a401bc67d80acd25fef38f4351925e95a6f", func := "steadyhand/steadtop.TopLost", spec := "topLost", recurses := true, plainKeys := false, apart := false, narrowed := true }
def TopLostUptoSaid : Prop := topLostUptoRow.holds Tryz.pinned (OpenSpec.upto topLostSpec)

/-- 'steadtop.TopArrives', WHERE WHAT IT READS IS OF BULK AT MOST 1048576: true; the input reads as it did. -/
def topArrivesUptoRow : OpenClaim := { program := "ytlagmebnjagoaaagreat", sum := "eb3b7bb58dc9ad2d8115346e0c387a401bc67d80acd25fef38f4351925e95a6f", func := "steadyhand/steadtop.TopArrives", spec := "topArrives", recurses := true, plainKeys := false, apart := false, narrowed := true }
def TopArrivesUptoSaid : Prop := topArrivesUptoRow.holds Tryz.pinned (OpenSpec.upto topArrivesSpec)

/-- 'steadtop.TopReplay', WHERE WHAT IT READS IS OF BULK AT MOST 1048576: true; the input reads as it did. -/
def topReplayUptoRow : OpenClaim := { program := "ytlagmebnjagoaaagreat", sum := "eb3b7bb58dc9ad2d8115346e0c387a401bc67d80acd25fef38f4351925e95a6f", func := "steadyhand/steadtop.TopReplay", spec := "topReplay", recurses := true, plainKeys := false, apart := false, narrowed := true }
def TopReplayUptoSaid : Prop := topReplayUptoRow.holds Tryz.pinned (OpenSpec.upto topReplaySpec)

/-- 'steadkeep.WorldOwn', WHERE WHAT IT READS IS OF BULK AT MOST 1048576: true; the input reads as it did. -/
def worldOwnUptoRow : OpenClaim := { program := "ytlagmebnjagoaaagreat", sum := "eb3b7bb58dc9ad2d8115346e0c387a401bc67d80acd25fef38f4351925e95a6f", func := "steadyhand/steadkeep.WorldOwn", spec := "worldOwn", recurses := true, plainKeys := false, apart := false, narrowed := true }
def WorldOwnUptoSaid : Prop := worldOwnUptoRow.holds Tryz.pinned (OpenSpec.upto worldOwnSpec)

end Rows
end Go.Proofs.YtlagmebnjagoaaaGreat
