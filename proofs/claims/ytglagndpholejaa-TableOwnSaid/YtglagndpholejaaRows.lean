/-
  No cell of these rows narrows 'for every input' (looked for: loops, veiled, ifaces, maps, wideKeys, modest, calm, conditions, laid).
  DERIVED. THE GIVEN ROWS OF THIS SEAT. 7 by the template 'for every input the law returns true; each argument reads behind the call as it read before'; 0 by the template 'total and deterministic' (their statements: YtglagndpholejaaTotals.lean).
  GIVEN WITH THE SEED: the statements are not yours to turn. If you find one false, say at which input.
  Laid BY PROGRAM, IN A SANDBOX (cutbox-rows.mjs): the forced cells as the released guide's own fill.sh prints them over the translation cc9316f9b9514f24… (all of the seat's roots in one cut). By AI agents, Wed Nov 11 2026. No macro, syntax, notation, axiom, sorry.
-/
import Derived.Test.YtglagndpholejaaChecked
import GoSem.Claim
import GoSem.ClaimJoined
import GoSem.ClaimMapViews
import Derived.JoinedTies
import Derived.KernelRfl
namespace Go.Proofs.Ytglagndpholejaa
/- THE CELL 'sum', in the pinned program and in every row, IS THE sha256 OF THE DUMP (.gsa) THAT YtglagndpholejaaProg.lean LOADS. Nothing in Lean hashes anything: it is a label: what it is worth is what the hold of that sum in a sandbox is worth. -/
noncomputable def Try.pinned : Pinned := { name := "ytglagndpholejaa", sum := "cc9316f9b9514f24bd1840cf9e204c9d99d0b85a522e08e3b5a49d26b91d1104", checked := Try.checked }
namespace Rows
def none {H : Type} : Left H := { results := [], args := [] }

/-- 'steadkeep.TableTurns': WHATEVER THE INPUT: true; the input reads as it did. -/
def tableTurnsSpec : ChangeSpec := { name := "tableTurns", fn := fun _ => fun
  | [d1, d2] => { results := [.lit (.bool true)], args := [d1, d2] }
  | _ => none }
def tableTurnsRow : OpenClaim := { program := "ytglagndpholejaa", sum := "cc9316f9b9514f24bd1840cf9e204c9d99d0b85a522e08e3b5a49d26b91d1104", func := "steadyhand/steadkeep.TableTurns", spec := "tableTurns", unfollowed := true, recurses := true, apart := false }
def TableTurnsSaid : Prop := tableTurnsRow.holds Try.pinned (OpenSpec.ofChange tableTurnsSpec)

/-- ITS FALSE NEIGHBOUR: 'it returns false'. Refute it at one input. -/
def tableTurnsWrong : ChangeSpec := { name := "tableTurns", fn := fun _ => fun
  | [d1, d2] => { results := [.lit (.bool false)], args := [d1, d2] }
  | _ => none }
def TableTurnsWrongFalsely : Prop := tableTurnsRow.holds Try.pinned (OpenSpec.ofChange tableTurnsWrong)

/-- 'steadkeep.TableOwn': WHATEVER THE INPUT: true; the input reads as it did. -/
def tableOwnSpec : ChangeSpec := { name := "tableOwn", fn := fun _ => fun
  | [d1, d2, d3] => { results := [.lit (.bool true)], args := [d1, d2, d3] }
  | _ => none }
def tableOwnRow : OpenClaim := { program := "ytglagndpholejaa", sum := "cc9316f9b9514f24bd1840cf9e204c9d99d0b85a522e08e3b5a49d26b91d1104", func := "steadyhand/steadkeep.TableOwn", spec := "tableOwn", unfollowed := true, recurses := true, apart := false }
def TableOwnSaid : Prop := tableOwnRow.holds Try.pinned (OpenSpec.ofChange tableOwnSpec)

/-- ITS FALSE NEIGHBOUR: 'it returns false'. Refute it at one input. -/
def tableOwnWrong : ChangeSpec := { name := "tableOwn", fn := fun _ => fun
  | [d1, d2, d3] => { results := [.lit (.bool false)], args := [d1, d2, d3] }
  | _ => none }
def TableOwnWrongFalsely : Prop := tableOwnRow.holds Try.pinned (OpenSpec.ofChange tableOwnWrong)

/-- 'steadkeep.LogNewest': WHATEVER THE INPUT: true; the input reads as it did. -/
def logNewestSpec : ChangeSpec := { name := "logNewest", fn := fun _ => fun
  | [d] => { results := [.lit (.bool true)], args := [d] }
  | _ => none }
def logNewestRow : OpenClaim := { program := "ytglagndpholejaa", sum := "cc9316f9b9514f24bd1840cf9e204c9d99d0b85a522e08e3b5a49d26b91d1104", func := "steadyhand/steadkeep.LogNewest", spec := "logNewest", apart := false }
def LogNewestSaid : Prop := logNewestRow.holds Try.pinned (OpenSpec.ofChange logNewestSpec)

/-- ITS FALSE NEIGHBOUR: 'it returns false'. Refute it at one input. -/
def logNewestWrong : ChangeSpec := { name := "logNewest", fn := fun _ => fun
  | [d] => { results := [.lit (.bool false)], args := [d] }
  | _ => none }
def LogNewestWrongFalsely : Prop := logNewestRow.holds Try.pinned (OpenSpec.ofChange logNewestWrong)

/-- 'steadkeep.LogOwn': WHATEVER THE INPUT: true; the input reads as it did. -/
def logOwnSpec : ChangeSpec := { name := "logOwn", fn := fun _ => fun
  | [d1, d2, d3, d4] => { results := [.lit (.bool true)], args := [d1, d2, d3, d4] }
  | _ => none }
def logOwnRow : OpenClaim := { program := "ytglagndpholejaa", sum := "cc9316f9b9514f24bd1840cf9e204c9d99d0b85a522e08e3b5a49d26b91d1104", func := "steadyhand/steadkeep.LogOwn", spec := "logOwn", inPlace := ["internal/abi.NoEscape"], recurses := true, apart := false }
def LogOwnSaid : Prop := logOwnRow.holds Try.pinned (OpenSpec.ofChange logOwnSpec)

/-- ITS FALSE NEIGHBOUR: 'it returns false'. Refute it at one input. -/
def logOwnWrong : ChangeSpec := { name := "logOwn", fn := fun _ => fun
  | [d1, d2, d3, d4] => { results := [.lit (.bool false)], args := [d1, d2, d3, d4] }
  | _ => none }
def LogOwnWrongFalsely : Prop := logOwnRow.holds Try.pinned (OpenSpec.ofChange logOwnWrong)

/-- 'steadkeep.LogBack': WHATEVER THE INPUT: true; the input reads as it did. -/
def logBackSpec : ChangeSpec := { name := "logBack", fn := fun _ => fun
  | [d1, d2] => { results := [.lit (.bool true)], args := [d1, d2] }
  | _ => none }
def logBackRow : OpenClaim := { program := "ytglagndpholejaa", sum := "cc9316f9b9514f24bd1840cf9e204c9d99d0b85a522e08e3b5a49d26b91d1104", func := "steadyhand/steadkeep.LogBack", spec := "logBack", inPlace := ["internal/abi.NoEscape", "internal/bytealg.IndexByteString"], recurses := true, apart := false }
def LogBackSaid : Prop := logBackRow.holds Try.pinned (OpenSpec.ofChange logBackSpec)

/-- ITS FALSE NEIGHBOUR: 'it returns false'. Refute it at one input. -/
def logBackWrong : ChangeSpec := { name := "logBack", fn := fun _ => fun
  | [d1, d2] => { results := [.lit (.bool false)], args := [d1, d2] }
  | _ => none }
def LogBackWrongFalsely : Prop := logBackRow.holds Try.pinned (OpenSpec.ofChange logBackWrong)

/-- 'steadkeep.PastOwn': WHATEVER THE INPUT: true; the input reads as it did. -/
def pastOwnSpec : ChangeSpec := { name := "pastOwn", fn := fun _ => fun
  | [d1, d2, d3] => { results := [.lit (.bool true)], args := [d1, d2, d3] }
  | _ => none }
def pastOwnRow : OpenClaim := { program := "ytglagndpholejaa", sum := "cc9316f9b9514f24bd1840cf9e204c9d99d0b85a522e08e3b5a49d26b91d1104", func := "steadyhand/steadkeep.PastOwn", spec := "pastOwn", apart := false }
def PastOwnSaid : Prop := pastOwnRow.holds Try.pinned (OpenSpec.ofChange pastOwnSpec)

/-- ITS FALSE NEIGHBOUR: 'it returns false'. Refute it at one input. -/
def pastOwnWrong : ChangeSpec := { name := "pastOwn", fn := fun _ => fun
  | [d1, d2, d3] => { results := [.lit (.bool false)], args := [d1, d2, d3] }
  | _ => none }
def PastOwnWrongFalsely : Prop := pastOwnRow.holds Try.pinned (OpenSpec.ofChange pastOwnWrong)

/-- 'steadkeep.LinkOwn': WHATEVER THE INPUT: true; the input reads as it did. -/
def linkOwnSpec : ChangeSpec := { name := "linkOwn", fn := fun _ => fun
  | [d1, d2, d3] => { results := [.lit (.bool true)], args := [d1, d2, d3] }
  | _ => none }
def linkOwnRow : OpenClaim := { program := "ytglagndpholejaa", sum := "cc9316f9b9514f24bd1840cf9e204c9d99d0b85a522e08e3b5a49d26b91d1104", func := "steadyhand/steadkeep.LinkOwn", spec := "linkOwn", apart := false }
def LinkOwnSaid : Prop := linkOwnRow.holds Try.pinned (OpenSpec.ofChange linkOwnSpec)

/-- ITS FALSE NEIGHBOUR: 'it returns false'. Refute it at one input. -/
def linkOwnWrong : ChangeSpec := { name := "linkOwn", fn := fun _ => fun
  | [d1, d2, d3] => { results := [.lit (.bool false)], args := [d1, d2, d3] }
  | _ => none }
def LinkOwnWrongFalsely : Prop := linkOwnRow.holds Try.pinned (OpenSpec.ofChange linkOwnWrong)

/- THE SECOND FORM. 'bulk': how many values and letters a reading holds, each counted each time it is reached (what is shared counts as often as it is met; a slice's spare places count too). A statement '..UptoSaid' is the law's where the arguments, and the package variables that the reading takes, are together of bulk at most 1048576: NARROWER than '..Said'. Prove '..Said' where nothing that the law and all that it calls make is longer than what came in: it says more and counts as full. Else prove '..UptoSaid'. A law counts once. -/
mutual
def uptoBulk {H : Type} : DataW H → Nat
  | .lit (.string bytes) => bytes.length + 1
  | .lit _ => 1
  | .nil => 1
  | .ptr d => uptoBulk d + 1
  | .slice elems spare => uptoBulkAll elems + uptoBulkAll spare + 1
  | .agg parts => uptoBulkAll parts + 1
  | .iface _ d => uptoBulk d + 1
  | .map entries => uptoBulkEntries entries + 1
  | .held _ => 1
def uptoBulkAll {H : Type} : List (DataW H) → Nat
  | [] => 0
  | d :: r => uptoBulk d + uptoBulkAll r
def uptoBulkEntries {H : Type} : List (Lit × DataW H) → Nat
  | [] => 0
  | x :: r => uptoBulkEntry x + uptoBulkEntries r
def uptoBulkEntry {H : Type} : Lit × DataW H → Nat
  | (.string bytes, d) => bytes.length + uptoBulk d + 1
  | (_, d) => uptoBulk d + 1
 end
def uptoSmall : (H : Type) → List (DataW H) → Bool := fun _ ds => decide (uptoBulkAll ds ≤ 1048576)
def OpenSpec.upto (s : _root_.Go.ChangeSpec) : _root_.Go.OpenSpec := { _root_.Go.OpenSpec.ofChange s with cond := some uptoSmall }

/-- 'steadkeep.TableTurns', WHERE WHAT IT READS IS OF BULK AT MOST 1048576: true; the input reads as it did. -/
def tableTurnsUptoRow : OpenClaim := { program := "ytglagndpholejaa", sum := "cc9316f9b9514f24bd1840cf9e204c9d99d0b85a522e08e3b5a49d26b91d1104", func := "steadyhand/steadkeep.TableTurns", spec := "tableTurns", unfollowed := true, recurses := true, apart := false, narrowed := true }
def TableTurnsUptoSaid : Prop := tableTurnsUptoRow.holds Try.pinned (OpenSpec.upto tableTurnsSpec)

/-- 'steadkeep.TableOwn', WHERE WHAT IT READS IS OF BULK AT MOST 1048576: true; the input reads as it did. -/
def tableOwnUptoRow : OpenClaim := { program := "ytglagndpholejaa", sum := "cc9316f9b9514f24bd1840cf9e204c9d99d0b85a522e08e3b5a49d26b91d1104", func := "steadyhand/steadkeep.TableOwn", spec := "tableOwn", unfollowed := true, recurses := true, apart := false, narrowed := true }
def TableOwnUptoSaid : Prop := tableOwnUptoRow.holds Try.pinned (OpenSpec.upto tableOwnSpec)

/-- 'steadkeep.LogNewest', WHERE WHAT IT READS IS OF BULK AT MOST 1048576: true; the input reads as it did. -/
def logNewestUptoRow : OpenClaim := { program := "ytglagndpholejaa", sum := "cc9316f9b9514f24bd1840cf9e204c9d99d0b85a522e08e3b5a49d26b91d1104", func := "steadyhand/steadkeep.LogNewest", spec := "logNewest", apart := false, narrowed := true }
def LogNewestUptoSaid : Prop := logNewestUptoRow.holds Try.pinned (OpenSpec.upto logNewestSpec)

/-- 'steadkeep.LogOwn', WHERE WHAT IT READS IS OF BULK AT MOST 1048576: true; the input reads as it did. -/
def logOwnUptoRow : OpenClaim := { program := "ytglagndpholejaa", sum := "cc9316f9b9514f24bd1840cf9e204c9d99d0b85a522e08e3b5a49d26b91d1104", func := "steadyhand/steadkeep.LogOwn", spec := "logOwn", inPlace := ["internal/abi.NoEscape"], recurses := true, apart := false, narrowed := true }
def LogOwnUptoSaid : Prop := logOwnUptoRow.holds Try.pinned (OpenSpec.upto logOwnSpec)

/-- 'steadkeep.LogBack', WHERE WHAT IT READS IS OF BULK AT MOST 1048576: true; the input reads as it did. -/
def logBackUptoRow : OpenClaim := { program := "ytglagndpholejaa", sum := "cc9316f9b9514f24bd1840cf9e204c9d99d0b85a522e08e3b5a49d26b91d1104", func := "steadyhand/steadkeep.LogBack", spec := "logBack", inPlace := ["internal/abi.NoEscape", "internal/bytealg.IndexByteString"], recurses := true, apart := false, narrowed := true }
def LogBackUptoSaid : Prop := logBackUptoRow.holds Try.pinned (OpenSpec.upto logBackSpec)

/-- 'steadkeep.PastOwn', WHERE WHAT IT READS IS OF BULK AT MOST 1048576: true; the input reads as it did. -/
def pastOwnUptoRow : OpenClaim := { program := "ytglagndpholejaa", sum := "cc9316f9b9514f24bd1840cf9e204c9d99d0b85a522e08e3b5a49d26b91d1104", func := "steadyhand/steadkeep.PastOwn", spec := "pastOwn", apart := false, narrowed := true }
def PastOwnUptoSaid : Prop := pastOwnUptoRow.holds Try.pinned (OpenSpec.upto pastOwnSpec)

/-- 'steadkeep.LinkOwn', WHERE WHAT IT READS IS OF BULK AT MOST 1048576: true; the input reads as it did. -/
def linkOwnUptoRow : OpenClaim := { program := "ytglagndpholejaa", sum := "cc9316f9b9514f24bd1840cf9e204c9d99d0b85a522e08e3b5a49d26b91d1104", func := "steadyhand/steadkeep.LinkOwn", spec := "linkOwn", apart := false, narrowed := true }
def LinkOwnUptoSaid : Prop := linkOwnUptoRow.holds Try.pinned (OpenSpec.upto linkOwnSpec)

end Rows
end Go.Proofs.Ytglagndpholejaa
