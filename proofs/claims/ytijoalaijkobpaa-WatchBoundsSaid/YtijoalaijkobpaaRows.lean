/-
  No cell of these rows narrows 'for every input' (looked for: loops, veiled, ifaces, maps, wideKeys, modest, calm, conditions, laid).
  DERIVED. THE GIVEN ROWS OF THIS SEAT. 7 by the template 'for every input the law returns true; each argument reads behind the call as it read before'; 0 by the template 'total and deterministic' (their statements: YtijoalaijkobpaaTotals.lean).
  GIVEN WITH THE SEED: the statements are not yours to turn. If you find one false, say at which input.
  Laid BY PROGRAM, IN A SANDBOX (cutbox-rows.mjs): the forced cells as the released guide's own fill.sh prints them over the translation 6bd9c034eefd05c1… (all of the seat's roots in one cut). By AI agents, Wed Nov 11 2026. No macro, syntax, notation, axiom, sorry.
-/
import Derived.Test.YtijoalaijkobpaaChecked
import GoSem.Claim
import GoSem.ClaimJoined
import GoSem.ClaimMapViews
import Derived.JoinedTies
import Derived.KernelRfl
namespace Go.Proofs.Ytijoalaijkobpaa
/- THE CELL 'sum', in the pinned program and in every row, IS THE sha256 OF THE DUMP (.gsa) THAT YtijoalaijkobpaaProg.lean LOADS. Nothing in Lean hashes anything: it is a label: what it is worth is what the hold of that sum in a sandbox is worth. -/
noncomputable def Try.pinned : Pinned := { name := "ytijoalaijkobpaa", sum := "6bd9c034eefd05c1247140459501c445c5382ab051702c2353a975191be53272", checked := Try.checked }
namespace Rows
def none {H : Type} : Left H := { results := [], args := [] }

/-- 'steadkeep.AgreeFair': WHATEVER THE INPUT: true; the input reads as it did. -/
def agreeFairSpec : ChangeSpec := { name := "agreeFair", fn := fun _ => fun
  | [d1, d2, d3, d4] => { results := [.lit (.bool true)], args := [d1, d2, d3, d4] }
  | _ => none }
def agreeFairRow : OpenClaim := { program := "ytijoalaijkobpaa", sum := "6bd9c034eefd05c1247140459501c445c5382ab051702c2353a975191be53272", func := "steadyhand/steadkeep.AgreeFair", spec := "agreeFair", apart := false }
def AgreeFairSaid : Prop := agreeFairRow.holds Try.pinned (OpenSpec.ofChange agreeFairSpec)

/-- ITS FALSE NEIGHBOUR: 'it returns false'. Refute it at one input. -/
def agreeFairWrong : ChangeSpec := { name := "agreeFair", fn := fun _ => fun
  | [d1, d2, d3, d4] => { results := [.lit (.bool false)], args := [d1, d2, d3, d4] }
  | _ => none }
def AgreeFairWrongFalsely : Prop := agreeFairRow.holds Try.pinned (OpenSpec.ofChange agreeFairWrong)

/-- 'steadkeep.WatchBounds': WHATEVER THE INPUT: true; the input reads as it did. -/
def watchBoundsSpec : ChangeSpec := { name := "watchBounds", fn := fun _ => fun
  | [d1, d2, d3] => { results := [.lit (.bool true)], args := [d1, d2, d3] }
  | _ => none }
def watchBoundsRow : OpenClaim := { program := "ytijoalaijkobpaa", sum := "6bd9c034eefd05c1247140459501c445c5382ab051702c2353a975191be53272", func := "steadyhand/steadkeep.WatchBounds", spec := "watchBounds", apart := false }
def WatchBoundsSaid : Prop := watchBoundsRow.holds Try.pinned (OpenSpec.ofChange watchBoundsSpec)

/-- ITS FALSE NEIGHBOUR: 'it returns false'. Refute it at one input. -/
def watchBoundsWrong : ChangeSpec := { name := "watchBounds", fn := fun _ => fun
  | [d1, d2, d3] => { results := [.lit (.bool false)], args := [d1, d2, d3] }
  | _ => none }
def WatchBoundsWrongFalsely : Prop := watchBoundsRow.holds Try.pinned (OpenSpec.ofChange watchBoundsWrong)

/-- 'steadkeep.CrcFew': WHATEVER THE INPUT: true; the input reads as it did. -/
def crcFewSpec : ChangeSpec := { name := "crcFew", fn := fun _ => fun
  | [d1, d2] => { results := [.lit (.bool true)], args := [d1, d2] }
  | _ => none }
def crcFewRow : OpenClaim := { program := "ytijoalaijkobpaa", sum := "6bd9c034eefd05c1247140459501c445c5382ab051702c2353a975191be53272", func := "steadyhand/steadkeep.CrcFew", spec := "crcFew", apart := false }
def CrcFewSaid : Prop := crcFewRow.holds Try.pinned (OpenSpec.ofChange crcFewSpec)

/-- ITS FALSE NEIGHBOUR: 'it returns false'. Refute it at one input. -/
def crcFewWrong : ChangeSpec := { name := "crcFew", fn := fun _ => fun
  | [d1, d2] => { results := [.lit (.bool false)], args := [d1, d2] }
  | _ => none }
def CrcFewWrongFalsely : Prop := crcFewRow.holds Try.pinned (OpenSpec.ofChange crcFewWrong)

/-- 'steadkeep.FiltMiddle': WHATEVER THE INPUT: true; the input reads as it did. -/
def filtMiddleSpec : ChangeSpec := { name := "filtMiddle", fn := fun _ => fun
  | [d1, d2] => { results := [.lit (.bool true)], args := [d1, d2] }
  | _ => none }
def filtMiddleRow : OpenClaim := { program := "ytijoalaijkobpaa", sum := "6bd9c034eefd05c1247140459501c445c5382ab051702c2353a975191be53272", func := "steadyhand/steadkeep.FiltMiddle", spec := "filtMiddle", recurses := true, apart := false }
def FiltMiddleSaid : Prop := filtMiddleRow.holds Try.pinned (OpenSpec.ofChange filtMiddleSpec)

/-- ITS FALSE NEIGHBOUR: 'it returns false'. Refute it at one input. -/
def filtMiddleWrong : ChangeSpec := { name := "filtMiddle", fn := fun _ => fun
  | [d1, d2] => { results := [.lit (.bool false)], args := [d1, d2] }
  | _ => none }
def FiltMiddleWrongFalsely : Prop := filtMiddleRow.holds Try.pinned (OpenSpec.ofChange filtMiddleWrong)

/-- 'steadkeep.VoteWithin': WHATEVER THE INPUT: true; the input reads as it did. -/
def voteWithinSpec : ChangeSpec := { name := "voteWithin", fn := fun _ => fun
  | [d1, d2, d3, d4] => { results := [.lit (.bool true)], args := [d1, d2, d3, d4] }
  | _ => none }
def voteWithinRow : OpenClaim := { program := "ytijoalaijkobpaa", sum := "6bd9c034eefd05c1247140459501c445c5382ab051702c2353a975191be53272", func := "steadyhand/steadkeep.VoteWithin", spec := "voteWithin", recurses := true, apart := false }
def VoteWithinSaid : Prop := voteWithinRow.holds Try.pinned (OpenSpec.ofChange voteWithinSpec)

/-- ITS FALSE NEIGHBOUR: 'it returns false'. Refute it at one input. -/
def voteWithinWrong : ChangeSpec := { name := "voteWithin", fn := fun _ => fun
  | [d1, d2, d3, d4] => { results := [.lit (.bool false)], args := [d1, d2, d3, d4] }
  | _ => none }
def VoteWithinWrongFalsely : Prop := voteWithinRow.holds Try.pinned (OpenSpec.ofChange voteWithinWrong)

/-- 'steadkeep.VoteFar': WHATEVER THE INPUT: true; the input reads as it did. -/
def voteFarSpec : ChangeSpec := { name := "voteFar", fn := fun _ => fun
  | [d1, d2, d3] => { results := [.lit (.bool true)], args := [d1, d2, d3] }
  | _ => none }
def voteFarRow : OpenClaim := { program := "ytijoalaijkobpaa", sum := "6bd9c034eefd05c1247140459501c445c5382ab051702c2353a975191be53272", func := "steadyhand/steadkeep.VoteFar", spec := "voteFar", recurses := true, apart := false }
def VoteFarSaid : Prop := voteFarRow.holds Try.pinned (OpenSpec.ofChange voteFarSpec)

/-- ITS FALSE NEIGHBOUR: 'it returns false'. Refute it at one input. -/
def voteFarWrong : ChangeSpec := { name := "voteFar", fn := fun _ => fun
  | [d1, d2, d3] => { results := [.lit (.bool false)], args := [d1, d2, d3] }
  | _ => none }
def VoteFarWrongFalsely : Prop := voteFarRow.holds Try.pinned (OpenSpec.ofChange voteFarWrong)

/-- 'steadkeep.AgreeSame': WHATEVER THE INPUT: true; the input reads as it did. -/
def agreeSameSpec : ChangeSpec := { name := "agreeSame", fn := fun _ => fun
  | [d1, d2, d3, d4] => { results := [.lit (.bool true)], args := [d1, d2, d3, d4] }
  | _ => none }
def agreeSameRow : OpenClaim := { program := "ytijoalaijkobpaa", sum := "6bd9c034eefd05c1247140459501c445c5382ab051702c2353a975191be53272", func := "steadyhand/steadkeep.AgreeSame", spec := "agreeSame", recurses := true, apart := false }
def AgreeSameSaid : Prop := agreeSameRow.holds Try.pinned (OpenSpec.ofChange agreeSameSpec)

/-- ITS FALSE NEIGHBOUR: 'it returns false'. Refute it at one input. -/
def agreeSameWrong : ChangeSpec := { name := "agreeSame", fn := fun _ => fun
  | [d1, d2, d3, d4] => { results := [.lit (.bool false)], args := [d1, d2, d3, d4] }
  | _ => none }
def AgreeSameWrongFalsely : Prop := agreeSameRow.holds Try.pinned (OpenSpec.ofChange agreeSameWrong)

/- THE SECOND FORM. 'bulk': how many values and letters a reading holds, each counted each time it is reached (what is shared counts as often as it is met; a slice's spare places count too). A statement '..UptoSaid' is the law's where the arguments, and the package variables that the reading takes, are together of bulk at most 1048576: NARROWER than '..Said'. Prove '..Said' where nothing that the law and all that it calls make is longer than what came in: it says more and counts as full. Else prove '..UptoSaid'. A law counts once. -/
mutual
def uptoBulk {H : Type} : DataW H → Nat
  | .lit (.string bytes) => bytes.length + 1
  | .lit _ => 1
  | .nil => 1
  | .ptr d => uptoBulk d + 1
  | .slice elems spare => uptoBulkAll elems + uptoBulkAll spare + 1
  | .agg parts => uptoBulkAll parts + 1
  | .iface _ d => uptoBulk d + 1
  | .map entries => uptoBulkEntries entries + 1
  | .held _ => 1
def uptoBulkAll {H : Type} : List (DataW H) → Nat
  | [] => 0
  | d :: r => uptoBulk d + uptoBulkAll r
def uptoBulkEntries {H : Type} : List (Lit × DataW H) → Nat
  | [] => 0
  | x :: r => uptoBulkEntry x + uptoBulkEntries r
def uptoBulkEntry {H : Type} : Lit × DataW H → Nat
  | (.string bytes, d) => bytes.length + uptoBulk d + 1
  | (_, d) => uptoBulk d + 1
 end
def uptoSmall : (H : Type) → List (DataW H) → Bool := fun _ ds => decide (uptoBulkAll ds ≤ 1048576)
def OpenSpec.upto (s : _root_.Go.ChangeSpec) : _root_.Go.OpenSpec := { _root_.Go.OpenSpec.ofChange s with cond := some uptoSmall }

/-- 'steadkeep.AgreeFair', WHERE WHAT IT READS IS OF BULK AT MOST 1048576: true; the input reads as it did. -/
def agreeFairUptoRow : OpenClaim := { program := "ytijoalaijkobpaa", sum := "6bd9c034eefd05c1247140459501c445c5382ab051702c2353a975191be53272", func := "steadyhand/steadkeep.AgreeFair", spec := "agreeFair", apart := false, narrowed := true }
def AgreeFairUptoSaid : Prop := agreeFairUptoRow.holds Try.pinned (OpenSpec.upto agreeFairSpec)

/-- 'steadkeep.WatchBounds', WHERE WHAT IT READS IS OF BULK AT MOST 1048576: true; the input reads as it did. -/
def watchBoundsUptoRow : OpenClaim := { program := "ytijoalaijkobpaa", sum := "6bd9c034eefd05c1247140459501c445c5382ab051702c2353a975191be53272", func := "steadyhand/steadkeep.WatchBounds", spec := "watchBounds", apart := false, narrowed := true }
def WatchBoundsUptoSaid : Prop := watchBoundsUptoRow.holds Try.pinned (OpenSpec.upto watchBoundsSpec)

/-- 'steadkeep.CrcFew', WHERE WHAT IT READS IS OF BULK AT MOST 1048576: true; the input reads as it did. -/
def crcFewUptoRow : OpenClaim := { program := "ytijoalaijkobpaa", sum := "6bd9c034eefd05c1247140459501c445c5382ab051702c2353a975191be53272", func := "steadyhand/steadkeep.CrcFew", spec := "crcFew", apart := false, narrowed := true }
def CrcFewUptoSaid : Prop := crcFewUptoRow.holds Try.pinned (OpenSpec.upto crcFewSpec)

/-- 'steadkeep.FiltMiddle', WHERE WHAT IT READS IS OF BULK AT MOST 1048576: true; the input reads as it did. -/
def filtMiddleUptoRow : OpenClaim := { program := "ytijoalaijkobpaa", sum := "6bd9c034eefd05c1247140459501c445c5382ab051702c2353a975191be53272", func := "steadyhand/steadkeep.FiltMiddle", spec := "filtMiddle", recurses := true, apart := false, narrowed := true }
def FiltMiddleUptoSaid : Prop := filtMiddleUptoRow.holds Try.pinned (OpenSpec.upto filtMiddleSpec)

/-- 'steadkeep.VoteWithin', WHERE WHAT IT READS IS OF BULK AT MOST 1048576: true; the input reads as it did. -/
def voteWithinUptoRow : OpenClaim := { program := "ytijoalaijkobpaa", sum := "6bd9c034eefd05c1247140459501c445c5382ab051702c2353a975191be53272", func := "steadyhand/steadkeep.VoteWithin", spec := "voteWithin", recurses := true, apart := false, narrowed := true }
def VoteWithinUptoSaid : Prop := voteWithinUptoRow.holds Try.pinned (OpenSpec.upto voteWithinSpec)

/-- 'steadkeep.VoteFar', WHERE WHAT IT READS IS OF BULK AT MOST 1048576: true; the input reads as it did. -/
def voteFarUptoRow : OpenClaim := { program := "ytijoalaijkobpaa", sum := "6bd9c034eefd05c1247140459501c445c5382ab051702c2353a975191be53272", func := "steadyhand/steadkeep.VoteFar", spec := "voteFar", recurses := true, apart := false, narrowed := true }
def VoteFarUptoSaid : Prop := voteFarUptoRow.holds Try.pinned (OpenSpec.upto voteFarSpec)

/-- 'steadkeep.AgreeSame', WHERE WHAT IT READS IS OF BULK AT MOST 1048576: true; the input reads as it did. -/
def agreeSameUptoRow : OpenClaim := { program := "ytijoalaijkobpaa", sum := "6bd9c034eefd05c1247140459501c445c5382ab051702c2353a975191be53272", func := "steadyhand/steadkeep.AgreeSame", spec := "agreeSame", recurses := true, apart := false, narrowed := true }
def AgreeSameUptoSaid : Prop := agreeSameUptoRow.holds Try.pinned (OpenSpec.upto agreeSameSpec)

end Rows
end Go.Proofs.Ytijoalaijkobpaa
