/-
  No cell of these rows narrows 'for every input' (looked for: loops, veiled, ifaces, maps, wideKeys, modest, calm, conditions, laid).
  DERIVED. THE GIVEN ROWS OF THIS SEAT. 8 by the template 'for every input the law returns true; each argument reads behind the call as it read before'; 0 by the template 'total and deterministic' (their statements: YtdmagoimfblopaaTotals.lean).
  GIVEN WITH THE SEED: the statements are not yours to turn. If you find one false, say at which input.
  Laid BY PROGRAM, IN A SANDBOX (cutbox-rows.mjs): the forced cells as the released guide's own fill.sh prints them over the translation 7d143bc50b992603… (all of the seat's roots in one cut). By AI agents, Wed Nov 11 2026. No macro, syntax, notation, axiom, sorry.
-/
import Derived.Test.YtdmagoimfblopaaChecked
import GoSem.Claim
import GoSem.ClaimJoined
import GoSem.ClaimMapViews
import Derived.JoinedTies
import Derived.KernelRfl
namespace Go.Proofs.Ytdmagoimfblopaa
/- THE CELL 'sum', in the pinned program and in every row, IS THE sha256 OF THE DUMP (.gsa) THAT YtdmagoimfblopaaProg.lean LOADS. Nothing in Lean hashes anything: it is a label: what it is worth is what the hold of that sum in a sandbox is worth. -/
noncomputable def Try.pinned : Pinned := { name := "ytdmagoimfblopaa", sum := "7d143bc50b992603b1ffb8259ccc13de7b94b77d68bbc8e62a24e6980548ada4", checked := Try.checked }
namespace Rows
def none {H : Type} : Left H := { results := [], args := [] }

/-- 'steadkeep.CrcLinear': WHATEVER THE INPUT: true; the input reads as it did. -/
def crcLinearSpec : ChangeSpec := { name := "crcLinear", fn := fun _ => fun
  | [d1, d2, d3] => { results := [.lit (.bool true)], args := [d1, d2, d3] }
  | _ => none }
def crcLinearRow : OpenClaim := { program := "ytdmagoimfblopaa", sum := "7d143bc50b992603b1ffb8259ccc13de7b94b77d68bbc8e62a24e6980548ada4", func := "steadyhand/steadkeep.CrcLinear", spec := "crcLinear", apart := false }
def CrcLinearSaid : Prop := crcLinearRow.holds Try.pinned (OpenSpec.ofChange crcLinearSpec)

/-- ITS FALSE NEIGHBOUR: 'it returns false'. Refute it at one input. -/
def crcLinearWrong : ChangeSpec := { name := "crcLinear", fn := fun _ => fun
  | [d1, d2, d3] => { results := [.lit (.bool false)], args := [d1, d2, d3] }
  | _ => none }
def CrcLinearWrongFalsely : Prop := crcLinearRow.holds Try.pinned (OpenSpec.ofChange crcLinearWrong)

/-- 'steadkeep.CrcBursts': WHATEVER THE INPUT: true; the input reads as it did. -/
def crcBurstsSpec : ChangeSpec := { name := "crcBursts", fn := fun _ => fun
  | [d1, d2, d3] => { results := [.lit (.bool true)], args := [d1, d2, d3] }
  | _ => none }
def crcBurstsRow : OpenClaim := { program := "ytdmagoimfblopaa", sum := "7d143bc50b992603b1ffb8259ccc13de7b94b77d68bbc8e62a24e6980548ada4", func := "steadyhand/steadkeep.CrcBursts", spec := "crcBursts", apart := false }
def CrcBurstsSaid : Prop := crcBurstsRow.holds Try.pinned (OpenSpec.ofChange crcBurstsSpec)

/-- ITS FALSE NEIGHBOUR: 'it returns false'. Refute it at one input. -/
def crcBurstsWrong : ChangeSpec := { name := "crcBursts", fn := fun _ => fun
  | [d1, d2, d3] => { results := [.lit (.bool false)], args := [d1, d2, d3] }
  | _ => none }
def CrcBurstsWrongFalsely : Prop := crcBurstsRow.holds Try.pinned (OpenSpec.ofChange crcBurstsWrong)

/-- 'steadkeep.CrcFew': WHATEVER THE INPUT: true; the input reads as it did. -/
def crcFewSpec : ChangeSpec := { name := "crcFew", fn := fun _ => fun
  | [d1, d2] => { results := [.lit (.bool true)], args := [d1, d2] }
  | _ => none }
def crcFewRow : OpenClaim := { program := "ytdmagoimfblopaa", sum := "7d143bc50b992603b1ffb8259ccc13de7b94b77d68bbc8e62a24e6980548ada4", func := "steadyhand/steadkeep.CrcFew", spec := "crcFew", apart := false }
def CrcFewSaid : Prop := crcFewRow.holds Try.pinned (OpenSpec.ofChange crcFewSpec)

/-- ITS FALSE NEIGHBOUR: 'it returns false'. Refute it at one input. -/
def crcFewWrong : ChangeSpec := { name := "crcFew", fn := fun _ => fun
  | [d1, d2] => { results := [.lit (.bool false)], args := [d1, d2] }
  | _ => none }
def CrcFewWrongFalsely : Prop := crcFewRow.holds Try.pinned (OpenSpec.ofChange crcFewWrong)

/-- 'steadkeep.FrameBack': WHATEVER THE INPUT: true; the input reads as it did. -/
def frameBackSpec : ChangeSpec := { name := "frameBack", fn := fun _ => fun
  | [d1, d2] => { results := [.lit (.bool true)], args := [d1, d2] }
  | _ => none }
def frameBackRow : OpenClaim := { program := "ytdmagoimfblopaa", sum := "7d143bc50b992603b1ffb8259ccc13de7b94b77d68bbc8e62a24e6980548ada4", func := "steadyhand/steadkeep.FrameBack", spec := "frameBack", apart := false }
def FrameBackSaid : Prop := frameBackRow.holds Try.pinned (OpenSpec.ofChange frameBackSpec)

/-- ITS FALSE NEIGHBOUR: 'it returns false'. Refute it at one input. -/
def frameBackWrong : ChangeSpec := { name := "frameBack", fn := fun _ => fun
  | [d1, d2] => { results := [.lit (.bool false)], args := [d1, d2] }
  | _ => none }
def FrameBackWrongFalsely : Prop := frameBackRow.holds Try.pinned (OpenSpec.ofChange frameBackWrong)

/-- 'steadkeep.LinkOnce': WHATEVER THE INPUT: true; the input reads as it did. -/
def linkOnceSpec : ChangeSpec := { name := "linkOnce", fn := fun _ => fun
  | [d] => { results := [.lit (.bool true)], args := [d] }
  | _ => none }
def linkOnceRow : OpenClaim := { program := "ytdmagoimfblopaa", sum := "7d143bc50b992603b1ffb8259ccc13de7b94b77d68bbc8e62a24e6980548ada4", func := "steadyhand/steadkeep.LinkOnce", spec := "linkOnce", apart := false }
def LinkOnceSaid : Prop := linkOnceRow.holds Try.pinned (OpenSpec.ofChange linkOnceSpec)

/-- ITS FALSE NEIGHBOUR: 'it returns false'. Refute it at one input. -/
def linkOnceWrong : ChangeSpec := { name := "linkOnce", fn := fun _ => fun
  | [d] => { results := [.lit (.bool false)], args := [d] }
  | _ => none }
def LinkOnceWrongFalsely : Prop := linkOnceRow.holds Try.pinned (OpenSpec.ofChange linkOnceWrong)

/-- 'steadkeep.LinkHolds': WHATEVER THE INPUT: true; the input reads as it did. -/
def linkHoldsSpec : ChangeSpec := { name := "linkHolds", fn := fun _ => fun
  | [d1, d2] => { results := [.lit (.bool true)], args := [d1, d2] }
  | _ => none }
def linkHoldsRow : OpenClaim := { program := "ytdmagoimfblopaa", sum := "7d143bc50b992603b1ffb8259ccc13de7b94b77d68bbc8e62a24e6980548ada4", func := "steadyhand/steadkeep.LinkHolds", spec := "linkHolds", apart := false }
def LinkHoldsSaid : Prop := linkHoldsRow.holds Try.pinned (OpenSpec.ofChange linkHoldsSpec)

/-- ITS FALSE NEIGHBOUR: 'it returns false'. Refute it at one input. -/
def linkHoldsWrong : ChangeSpec := { name := "linkHolds", fn := fun _ => fun
  | [d1, d2] => { results := [.lit (.bool false)], args := [d1, d2] }
  | _ => none }
def LinkHoldsWrongFalsely : Prop := linkHoldsRow.holds Try.pinned (OpenSpec.ofChange linkHoldsWrong)

/-- 'steadkeep.LinkAges': WHATEVER THE INPUT: true; the input reads as it did. -/
def linkAgesSpec : ChangeSpec := { name := "linkAges", fn := fun _ => fun
  | [d1, d2] => { results := [.lit (.bool true)], args := [d1, d2] }
  | _ => none }
def linkAgesRow : OpenClaim := { program := "ytdmagoimfblopaa", sum := "7d143bc50b992603b1ffb8259ccc13de7b94b77d68bbc8e62a24e6980548ada4", func := "steadyhand/steadkeep.LinkAges", spec := "linkAges", apart := false }
def LinkAgesSaid : Prop := linkAgesRow.holds Try.pinned (OpenSpec.ofChange linkAgesSpec)

/-- ITS FALSE NEIGHBOUR: 'it returns false'. Refute it at one input. -/
def linkAgesWrong : ChangeSpec := { name := "linkAges", fn := fun _ => fun
  | [d1, d2] => { results := [.lit (.bool false)], args := [d1, d2] }
  | _ => none }
def LinkAgesWrongFalsely : Prop := linkAgesRow.holds Try.pinned (OpenSpec.ofChange linkAgesWrong)

/-- 'steadkeep.LinkOwn': WHATEVER THE INPUT: true; the input reads as it did. -/
def linkOwnSpec : ChangeSpec := { name := "linkOwn", fn := fun _ => fun
  | [d1, d2, d3] => { results := [.lit (.bool true)], args := [d1, d2, d3] }
  | _ => none }
def linkOwnRow : OpenClaim := { program := "ytdmagoimfblopaa", sum := "7d143bc50b992603b1ffb8259ccc13de7b94b77d68bbc8e62a24e6980548ada4", func := "steadyhand/steadkeep.LinkOwn", spec := "linkOwn", apart := false }
def LinkOwnSaid : Prop := linkOwnRow.holds Try.pinned (OpenSpec.ofChange linkOwnSpec)

/-- ITS FALSE NEIGHBOUR: 'it returns false'. Refute it at one input. -/
def linkOwnWrong : ChangeSpec := { name := "linkOwn", fn := fun _ => fun
  | [d1, d2, d3] => { results := [.lit (.bool false)], args := [d1, d2, d3] }
  | _ => none }
def LinkOwnWrongFalsely : Prop := linkOwnRow.holds Try.pinned (OpenSpec.ofChange linkOwnWrong)

/- THE SECOND FORM. 'bulk': how many values and letters a reading holds, each counted each time it is reached (what is shared counts as often as it is met; a slice's spare places count too). A statement '..UptoSaid' is the law's where the arguments, and the package variables that the reading takes, are together of bulk at most 1048576: NARROWER than '..Said'. Prove '..Said' where nothing that the law and all that it calls make is longer than what came in: it says more and counts as full. Else prove '..UptoSaid'. A law counts once. -/
mutual
def uptoBulk {H : Type} : DataW H → Nat
  | .lit (.string bytes) => bytes.length + 1
  | .lit _ => 1
  | .nil => 1
  | .ptr d => uptoBulk d + 1
  | .slice elems spare => uptoBulkAll elems + uptoBulkAll spare + 1
  | .agg parts => uptoBulkAll parts + 1
  | .iface _ d => uptoBulk d + 1
  | .map entries => uptoBulkEntries entries + 1
  | .held _ => 1
def uptoBulkAll {H : Type} : List (DataW H) → Nat
  | [] => 0
  | d :: r => uptoBulk d + uptoBulkAll r
def uptoBulkEntries {H : Type} : List (Lit × DataW H) → Nat
  | [] => 0
  | x :: r => uptoBulkEntry x + uptoBulkEntries r
def uptoBulkEntry {H : Type} : Lit × DataW H → Nat
  | (.string bytes, d) => bytes.length + uptoBulk d + 1
  | (_, d) => uptoBulk d + 1
 end
def uptoSmall : (H : Type) → List (DataW H) → Bool := fun _ ds => decide (uptoBulkAll ds ≤ 1048576)
def OpenSpec.upto (s : _root_.Go.ChangeSpec) : _root_.Go.OpenSpec := { _root_.Go.OpenSpec.ofChange s with cond := some uptoSmall }

/-- 'steadkeep.CrcLinear', WHERE WHAT IT READS IS OF BULK AT MOST 1048576: true; the input reads as it did. -/
def crcLinearUptoRow : OpenClaim := { program := "ytdmagoimfblopaa", sum := "7d143bc50b992603b1ffb8259ccc13de7b94b77d68bbc8e62a24e6980548ada4", func := "steadyhand/steadkeep.CrcLinear", spec := "crcLinear", apart := false, narrowed := true }
def CrcLinearUptoSaid : Prop := crcLinearUptoRow.holds Try.pinned (OpenSpec.upto crcLinearSpec)

/-- 'steadkeep.CrcBursts', WHERE WHAT IT READS IS OF BULK AT MOST 1048576: true; the input reads as it did. -/
def crcBurstsUptoRow : OpenClaim := { program := "ytdmagoimfblopaa", sum := "7d143bc50b992603b1ffb8259ccc13de7b94b77d68bbc8e62a24e6980548ada4", func := "steadyhand/steadkeep.CrcBursts", spec := "crcBursts", apart := false, narrowed := true }
def CrcBurstsUptoSaid : Prop := crcBurstsUptoRow.holds Try.pinned (OpenSpec.upto crcBurstsSpec)

/-- 'steadkeep.CrcFew', WHERE WHAT IT READS IS OF BULK AT MOST 1048576: true; the input reads as it did. -/
def crcFewUptoRow : OpenClaim := { program := "ytdmagoimfblopaa", sum := "7d143bc50b992603b1ffb8259ccc13de7b94b77d68bbc8e62a24e6980548ada4", func := "steadyhand/steadkeep.CrcFew", spec := "crcFew", apart := false, narrowed := true }
def CrcFewUptoSaid : Prop := crcFewUptoRow.holds Try.pinned (OpenSpec.upto crcFewSpec)

/-- 'steadkeep.FrameBack', WHERE WHAT IT READS IS OF BULK AT MOST 1048576: true; the input reads as it did. -/
def frameBackUptoRow : OpenClaim := { program := "ytdmagoimfblopaa", sum := "7d143bc50b992603b1ffb8259ccc13de7b94b77d68bbc8e62a24e6980548ada4", func := "steadyhand/steadkeep.FrameBack", spec := "frameBack", apart := false, narrowed := true }
def FrameBackUptoSaid : Prop := frameBackUptoRow.holds Try.pinned (OpenSpec.upto frameBackSpec)

/-- 'steadkeep.LinkOnce', WHERE WHAT IT READS IS OF BULK AT MOST 1048576: true; the input reads as it did. -/
def linkOnceUptoRow : OpenClaim := { program := "ytdmagoimfblopaa", sum := "7d143bc50b992603b1ffb8259ccc13de7b94b77d68bbc8e62a24e6980548ada4", func := "steadyhand/steadkeep.LinkOnce", spec := "linkOnce", apart := false, narrowed := true }
def LinkOnceUptoSaid : Prop := linkOnceUptoRow.holds Try.pinned (OpenSpec.upto linkOnceSpec)

/-- 'steadkeep.LinkHolds', WHERE WHAT IT READS IS OF BULK AT MOST 1048576: true; the input reads as it did. -/
def linkHoldsUptoRow : OpenClaim := { program := "ytdmagoimfblopaa", sum := "7d143bc50b992603b1ffb8259ccc13de7b94b77d68bbc8e62a24e6980548ada4", func := "steadyhand/steadkeep.LinkHolds", spec := "linkHolds", apart := false, narrowed := true }
def LinkHoldsUptoSaid : Prop := linkHoldsUptoRow.holds Try.pinned (OpenSpec.upto linkHoldsSpec)

/-- 'steadkeep.LinkAges', WHERE WHAT IT READS IS OF BULK AT MOST 1048576: true; the input reads as it did. -/
def linkAgesUptoRow : OpenClaim := { program := "ytdmagoimfblopaa", sum := "7d143bc50b992603b1ffb8259ccc13de7b94b77d68bbc8e62a24e6980548ada4", func := "steadyhand/steadkeep.LinkAges", spec := "linkAges", apart := false, narrowed := true }
def LinkAgesUptoSaid : Prop := linkAgesUptoRow.holds Try.pinned (OpenSpec.upto linkAgesSpec)

/-- 'steadkeep.LinkOwn', WHERE WHAT IT READS IS OF BULK AT MOST 1048576: true; the input reads as it did. -/
def linkOwnUptoRow : OpenClaim := { program := "ytdmagoimfblopaa", sum := "7d143bc50b992603b1ffb8259ccc13de7b94b77d68bbc8e62a24e6980548ada4", func := "steadyhand/steadkeep.LinkOwn", spec := "linkOwn", apart := false, narrowed := true }
def LinkOwnUptoSaid : Prop := linkOwnUptoRow.holds Try.pinned (OpenSpec.upto linkOwnSpec)

end Rows
end Go.Proofs.Ytdmagoimfblopaa
