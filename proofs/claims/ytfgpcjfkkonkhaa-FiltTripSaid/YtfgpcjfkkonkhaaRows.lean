/-
  No cell of these rows narrows 'for every input' (looked for: loops, veiled, ifaces, maps, wideKeys, modest, calm, conditions, laid).
  DERIVED. THE GIVEN ROWS OF THIS SEAT. 12 by the template 'for every input the law returns true; each argument reads behind the call as it read before'; 0 by the template 'total and deterministic' (their statements: YtfgpcjfkkonkhaaTotals.lean).
  GIVEN WITH THE SEED: the statements are not yours to turn. If you find one false, say at which input.
  Laid BY PROGRAM, IN A SANDBOX (cutbox-rows.mjs): the forced cells as the released guide's own fill.sh prints them over the translation d1b4d8cca12b0535… (all of the seat's roots in one cut). By AI agents, Wed Nov 11 2026. No macro, syntax, notation, axiom, sorry.
-/
import Derived.Test.YtfgpcjfkkonkhaaChecked
import GoSem.Claim
import GoSem.ClaimJoined
import GoSem.ClaimMapViews
import Derived.JoinedTies
import Derived.KernelRfl
namespace Go.Proofs.Ytfgpcjfkkonkhaa
/- THE CELL 'sum', in the pinned program and in every row, IS THE sha256 OF THE DUMP (.gsa) THAT YtfgpcjfkkonkhaaProg.lean LOADS. Nothing in Lean hashes anything: it is a label: what it is worth is what the hold of that sum in a sandbox is worth. -/
noncomputable def Try.pinned : Pinned := { name := "ytfgpcjfkkonkhaa", sum := "d1b4d8cca12b0535edbfb3ddde5ae666a3207e192f5ae33bb72e73ee0a96c1eb", checked := Try.checked }
namespace Rows
def none {H : Type} : Left H := { results := [], args := [] }

/-- 'steadkeep.FrameRound': WHATEVER THE INPUT: true; the input reads as it did. -/
def frameRoundSpec : ChangeSpec := { name := "frameRound", fn := fun _ => fun
  | [d1, d2, d3] => { results := [.lit (.bool true)], args := [d1, d2, d3] }
  | _ => none }
def frameRoundRow : OpenClaim := { program := "ytfgpcjfkkonkhaa", sum := "d1b4d8cca12b0535edbfb3ddde5ae666a3207e192f5ae33bb72e73ee0a96c1eb", func := "steadyhand/steadkeep.FrameRound", spec := "frameRound", apart := false }
def FrameRoundSaid : Prop := frameRoundRow.holds Try.pinned (OpenSpec.ofChange frameRoundSpec)

/-- ITS FALSE NEIGHBOUR: 'it returns false'. Refute it at one input. -/
def frameRoundWrong : ChangeSpec := { name := "frameRound", fn := fun _ => fun
  | [d1, d2, d3] => { results := [.lit (.bool false)], args := [d1, d2, d3] }
  | _ => none }
def FrameRoundWrongFalsely : Prop := frameRoundRow.holds Try.pinned (OpenSpec.ofChange frameRoundWrong)

/-- 'steadkeep.SatClamp': WHATEVER THE INPUT: true; the input reads as it did. -/
def satClampSpec : ChangeSpec := { name := "satClamp", fn := fun _ => fun
  | [d1, d2, d3, d4] => { results := [.lit (.bool true)], args := [d1, d2, d3, d4] }
  | _ => none }
def satClampRow : OpenClaim := { program := "ytfgpcjfkkonkhaa", sum := "d1b4d8cca12b0535edbfb3ddde5ae666a3207e192f5ae33bb72e73ee0a96c1eb", func := "steadyhand/steadkeep.SatClamp", spec := "satClamp", apart := false }
def SatClampSaid : Prop := satClampRow.holds Try.pinned (OpenSpec.ofChange satClampSpec)

/-- ITS FALSE NEIGHBOUR: 'it returns false'. Refute it at one input. -/
def satClampWrong : ChangeSpec := { name := "satClamp", fn := fun _ => fun
  | [d1, d2, d3, d4] => { results := [.lit (.bool false)], args := [d1, d2, d3, d4] }
  | _ => none }
def SatClampWrongFalsely : Prop := satClampRow.holds Try.pinned (OpenSpec.ofChange satClampWrong)

/-- 'steadkeep.FiltTrip': WHATEVER THE INPUT: true; the input reads as it did. -/
def filtTripSpec : ChangeSpec := { name := "filtTrip", fn := fun _ => fun
  | [d1, d2, d3, d4] => { results := [.lit (.bool true)], args := [d1, d2, d3, d4] }
  | _ => none }
def filtTripRow : OpenClaim := { program := "ytfgpcjfkkonkhaa", sum := "d1b4d8cca12b0535edbfb3ddde5ae666a3207e192f5ae33bb72e73ee0a96c1eb", func := "steadyhand/steadkeep.FiltTrip", spec := "filtTrip", apart := false }
def FiltTripSaid : Prop := filtTripRow.holds Try.pinned (OpenSpec.ofChange filtTripSpec)

/-- ITS FALSE NEIGHBOUR: 'it returns false'. Refute it at one input. -/
def filtTripWrong : ChangeSpec := { name := "filtTrip", fn := fun _ => fun
  | [d1, d2, d3, d4] => { results := [.lit (.bool false)], args := [d1, d2, d3, d4] }
  | _ => none }
def FiltTripWrongFalsely : Prop := filtTripRow.holds Try.pinned (OpenSpec.ofChange filtTripWrong)

/-- 'steadkeep.FixNear': WHATEVER THE INPUT: true; the input reads as it did. -/
def fixNearSpec : ChangeSpec := { name := "fixNear", fn := fun _ => fun
  | [d1, d2] => { results := [.lit (.bool true)], args := [d1, d2] }
  | _ => none }
def fixNearRow : OpenClaim := { program := "ytfgpcjfkkonkhaa", sum := "d1b4d8cca12b0535edbfb3ddde5ae666a3207e192f5ae33bb72e73ee0a96c1eb", func := "steadyhand/steadkeep.FixNear", spec := "fixNear", apart := false }
def FixNearSaid : Prop := fixNearRow.holds Try.pinned (OpenSpec.ofChange fixNearSpec)

/-- ITS FALSE NEIGHBOUR: 'it returns false'. Refute it at one input. -/
def fixNearWrong : ChangeSpec := { name := "fixNear", fn := fun _ => fun
  | [d1, d2] => { results := [.lit (.bool false)], args := [d1, d2] }
  | _ => none }
def FixNearWrongFalsely : Prop := fixNearRow.holds Try.pinned (OpenSpec.ofChange fixNearWrong)

/-- 'steadkeep.FixRoot': WHATEVER THE INPUT: true; the input reads as it did. -/
def fixRootSpec : ChangeSpec := { name := "fixRoot", fn := fun _ => fun
  | [d] => { results := [.lit (.bool true)], args := [d] }
  | _ => none }
def fixRootRow : OpenClaim := { program := "ytfgpcjfkkonkhaa", sum := "d1b4d8cca12b0535edbfb3ddde5ae666a3207e192f5ae33bb72e73ee0a96c1eb", func := "steadyhand/steadkeep.FixRoot", spec := "fixRoot", apart := false }
def FixRootSaid : Prop := fixRootRow.holds Try.pinned (OpenSpec.ofChange fixRootSpec)

/-- ITS FALSE NEIGHBOUR: 'it returns false'. Refute it at one input. -/
def fixRootWrong : ChangeSpec := { name := "fixRoot", fn := fun _ => fun
  | [d] => { results := [.lit (.bool false)], args := [d] }
  | _ => none }
def FixRootWrongFalsely : Prop := fixRootRow.holds Try.pinned (OpenSpec.ofChange fixRootWrong)

/-- 'steadkeep.FixRound': WHATEVER THE INPUT: true; the input reads as it did. -/
def fixRoundSpec : ChangeSpec := { name := "fixRound", fn := fun _ => fun
  | [d1, d2] => { results := [.lit (.bool true)], args := [d1, d2] }
  | _ => none }
def fixRoundRow : OpenClaim := { program := "ytfgpcjfkkonkhaa", sum := "d1b4d8cca12b0535edbfb3ddde5ae666a3207e192f5ae33bb72e73ee0a96c1eb", func := "steadyhand/steadkeep.FixRound", spec := "fixRound", apart := false }
def FixRoundSaid : Prop := fixRoundRow.holds Try.pinned (OpenSpec.ofChange fixRoundSpec)

/-- ITS FALSE NEIGHBOUR: 'it returns false'. Refute it at one input. -/
def fixRoundWrong : ChangeSpec := { name := "fixRound", fn := fun _ => fun
  | [d1, d2] => { results := [.lit (.bool false)], args := [d1, d2] }
  | _ => none }
def FixRoundWrongFalsely : Prop := fixRoundRow.holds Try.pinned (OpenSpec.ofChange fixRoundWrong)

/-- 'steadkeep.SatExact': WHATEVER THE INPUT: true; the input reads as it did. -/
def satExactSpec : ChangeSpec := { name := "satExact", fn := fun _ => fun
  | [d1, d2] => { results := [.lit (.bool true)], args := [d1, d2] }
  | _ => none }
def satExactRow : OpenClaim := { program := "ytfgpcjfkkonkhaa", sum := "d1b4d8cca12b0535edbfb3ddde5ae666a3207e192f5ae33bb72e73ee0a96c1eb", func := "steadyhand/steadkeep.SatExact", spec := "satExact", apart := false }
def SatExactSaid : Prop := satExactRow.holds Try.pinned (OpenSpec.ofChange satExactSpec)

/-- ITS FALSE NEIGHBOUR: 'it returns false'. Refute it at one input. -/
def satExactWrong : ChangeSpec := { name := "satExact", fn := fun _ => fun
  | [d1, d2] => { results := [.lit (.bool false)], args := [d1, d2] }
  | _ => none }
def SatExactWrongFalsely : Prop := satExactRow.holds Try.pinned (OpenSpec.ofChange satExactWrong)

/-- 'steadkeep.FiltNears': WHATEVER THE INPUT: true; the input reads as it did. -/
def filtNearsSpec : ChangeSpec := { name := "filtNears", fn := fun _ => fun
  | [d1, d2, d3] => { results := [.lit (.bool true)], args := [d1, d2, d3] }
  | _ => none }
def filtNearsRow : OpenClaim := { program := "ytfgpcjfkkonkhaa", sum := "d1b4d8cca12b0535edbfb3ddde5ae666a3207e192f5ae33bb72e73ee0a96c1eb", func := "steadyhand/steadkeep.FiltNears", spec := "filtNears", apart := false }
def FiltNearsSaid : Prop := filtNearsRow.holds Try.pinned (OpenSpec.ofChange filtNearsSpec)

/-- ITS FALSE NEIGHBOUR: 'it returns false'. Refute it at one input. -/
def filtNearsWrong : ChangeSpec := { name := "filtNears", fn := fun _ => fun
  | [d1, d2, d3] => { results := [.lit (.bool false)], args := [d1, d2, d3] }
  | _ => none }
def FiltNearsWrongFalsely : Prop := filtNearsRow.holds Try.pinned (OpenSpec.ofChange filtNearsWrong)

/-- 'steadkeep.FiltSame': WHATEVER THE INPUT: true; the input reads as it did. -/
def filtSameSpec : ChangeSpec := { name := "filtSame", fn := fun _ => fun
  | [d1, d2, d3, d4] => { results := [.lit (.bool true)], args := [d1, d2, d3, d4] }
  | _ => none }
def filtSameRow : OpenClaim := { program := "ytfgpcjfkkonkhaa", sum := "d1b4d8cca12b0535edbfb3ddde5ae666a3207e192f5ae33bb72e73ee0a96c1eb", func := "steadyhand/steadkeep.FiltSame", spec := "filtSame", apart := false }
def FiltSameSaid : Prop := filtSameRow.holds Try.pinned (OpenSpec.ofChange filtSameSpec)

/-- ITS FALSE NEIGHBOUR: 'it returns false'. Refute it at one input. -/
def filtSameWrong : ChangeSpec := { name := "filtSame", fn := fun _ => fun
  | [d1, d2, d3, d4] => { results := [.lit (.bool false)], args := [d1, d2, d3, d4] }
  | _ => none }
def FiltSameWrongFalsely : Prop := filtSameRow.holds Try.pinned (OpenSpec.ofChange filtSameWrong)

/-- 'steadkeep.CrcLinear': WHATEVER THE INPUT: true; the input reads as it did. -/
def crcLinearSpec : ChangeSpec := { name := "crcLinear", fn := fun _ => fun
  | [d1, d2, d3] => { results := [.lit (.bool true)], args := [d1, d2, d3] }
  | _ => none }
def crcLinearRow : OpenClaim := { program := "ytfgpcjfkkonkhaa", sum := "d1b4d8cca12b0535edbfb3ddde5ae666a3207e192f5ae33bb72e73ee0a96c1eb", func := "steadyhand/steadkeep.CrcLinear", spec := "crcLinear", apart := false }
def CrcLinearSaid : Prop := crcLinearRow.holds Try.pinned (OpenSpec.ofChange crcLinearSpec)

/-- ITS FALSE NEIGHBOUR: 'it returns false'. Refute it at one input. -/
def crcLinearWrong : ChangeSpec := { name := "crcLinear", fn := fun _ => fun
  | [d1, d2, d3] => { results := [.lit (.bool false)], args := [d1, d2, d3] }
  | _ => none }
def CrcLinearWrongFalsely : Prop := crcLinearRow.holds Try.pinned (OpenSpec.ofChange crcLinearWrong)

/-- 'steadkeep.AgreeFair': WHATEVER THE INPUT: true; the input reads as it did. -/
def agreeFairSpec : ChangeSpec := { name := "agreeFair", fn := fun _ => fun
  | [d1, d2, d3, d4] => { results := [.lit (.bool true)], args := [d1, d2, d3, d4] }
  | _ => none }
def agreeFairRow : OpenClaim := { program := "ytfgpcjfkkonkhaa", sum := "d1b4d8cca12b0535edbfb3ddde5ae666a3207e192f5ae33bb72e73ee0a96c1eb", func := "steadyhand/steadkeep.AgreeFair", spec := "agreeFair", apart := false }
def AgreeFairSaid : Prop := agreeFairRow.holds Try.pinned (OpenSpec.ofChange agreeFairSpec)

/-- ITS FALSE NEIGHBOUR: 'it returns false'. Refute it at one input. -/
def agreeFairWrong : ChangeSpec := { name := "agreeFair", fn := fun _ => fun
  | [d1, d2, d3, d4] => { results := [.lit (.bool false)], args := [d1, d2, d3, d4] }
  | _ => none }
def AgreeFairWrongFalsely : Prop := agreeFairRow.holds Try.pinned (OpenSpec.ofChange agreeFairWrong)

/-- 'steadkeep.FixBack': WHATEVER THE INPUT: true; the input reads as it did. -/
def fixBackSpec : ChangeSpec := { name := "fixBack", fn := fun _ => fun
  | [d1, d2] => { results := [.lit (.bool true)], args := [d1, d2] }
  | _ => none }
def fixBackRow : OpenClaim := { program := "ytfgpcjfkkonkhaa", sum := "d1b4d8cca12b0535edbfb3ddde5ae666a3207e192f5ae33bb72e73ee0a96c1eb", func := "steadyhand/steadkeep.FixBack", spec := "fixBack", apart := false }
def FixBackSaid : Prop := fixBackRow.holds Try.pinned (OpenSpec.ofChange fixBackSpec)

/-- ITS FALSE NEIGHBOUR: 'it returns false'. Refute it at one input. -/
def fixBackWrong : ChangeSpec := { name := "fixBack", fn := fun _ => fun
  | [d1, d2] => { results := [.lit (.bool false)], args := [d1, d2] }
  | _ => none }
def FixBackWrongFalsely : Prop := fixBackRow.holds Try.pinned (OpenSpec.ofChange fixBackWrong)

/- THE SECOND FORM. 'bulk': how many values and letters a reading holds, each counted each time it is reached (what is shared counts as often as it is met; a slice's spare places count too). A statement '..UptoSaid' is the law's where the arguments, and the package variables that the reading takes, are together of bulk at most 1048576: NARROWER than '..Said'. Prove '..Said' where nothing that the law and all that it calls make is longer than what came in: it says more and counts as full. Else prove '..UptoSaid'. A law counts once. -/
mutual
def uptoBulk {H : Type} : DataW H → Nat
  | .lit (.string bytes) => bytes.length + 1
  | .lit _ => 1
  | .nil => 1
  | .ptr d => uptoBulk d + 1
  | .slice elems spare => uptoBulkAll elems + uptoBulkAll spare + 1
  | .agg parts => uptoBulkAll parts + 1
  | .iface _ d => uptoBulk d + 1
  | .map entries => uptoBulkEntries entries + 1
  | .held _ => 1
def uptoBulkAll {H : Type} : List (DataW H) → Nat
  | [] => 0
  | d :: r => uptoBulk d + uptoBulkAll r
def uptoBulkEntries {H : Type} : List (Lit × DataW H) → Nat
  | [] => 0
  | x :: r => uptoBulkEntry x + uptoBulkEntries r
def uptoBulkEntry {H : Type} : Lit × DataW H → Nat
  | (.string bytes, d) => bytes.length + uptoBulk d + 1
  | (_, d) => uptoBulk d + 1
 end
def uptoSmall : (H : Type) → List (DataW H) → Bool := fun _ ds => decide (uptoBulkAll ds ≤ 1048576)
def OpenSpec.upto (s : _root_.Go.ChangeSpec) : _root_.Go.OpenSpec := { _root_.Go.OpenSpec.ofChange s with cond := some uptoSmall }

/-- 'steadkeep.FrameRound', WHERE WHAT IT READS IS OF BULK AT MOST 1048576: true; the input reads as it did. -/
def frameRoundUptoRow : OpenClaim := { program := "ytfgpcjfkkonkhaa", sum := "d1b4d8cca12b0535edbfb3ddde5ae666a3207e192f5ae33bb72e73ee0a96c1eb", func := "steadyhand/steadkeep.FrameRound", spec := "frameRound", apart := false, narrowed := true }
def FrameRoundUptoSaid : Prop := frameRoundUptoRow.holds Try.pinned (OpenSpec.upto frameRoundSpec)

/-- 'steadkeep.SatClamp', WHERE WHAT IT READS IS OF BULK AT MOST 1048576: true; the input reads as it did. -/
def satClampUptoRow : OpenClaim := { program := "ytfgpcjfkkonkhaa", sum := "d1b4d8cca12b0535edbfb3ddde5ae666a3207e192f5ae33bb72e73ee0a96c1eb", func := "steadyhand/steadkeep.SatClamp", spec := "satClamp", apart := false, narrowed := true }
def SatClampUptoSaid : Prop := satClampUptoRow.holds Try.pinned (OpenSpec.upto satClampSpec)

/-- 'steadkeep.FiltTrip', WHERE WHAT IT READS IS OF BULK AT MOST 1048576: true; the input reads as it did. -/
def filtTripUptoRow : OpenClaim := { program := "ytfgpcjfkkonkhaa", sum := "d1b4d8cca12b0535edbfb3ddde5ae666a3207e192f5ae33bb72e73ee0a96c1eb", func := "steadyhand/steadkeep.FiltTrip", spec := "filtTrip", apart := false, narrowed := true }
def FiltTripUptoSaid : Prop := filtTripUptoRow.holds Try.pinned (OpenSpec.upto filtTripSpec)

/-- 'steadkeep.FixNear', WHERE WHAT IT READS IS OF BULK AT MOST 1048576: true; the input reads as it did. -/
def fixNearUptoRow : OpenClaim := { program := "ytfgpcjfkkonkhaa", sum := "d1b4d8cca12b0535edbfb3ddde5ae666a3207e192f5ae33bb72e73ee0a96c1eb", func := "steadyhand/steadkeep.FixNear", spec := "fixNear", apart := false, narrowed := true }
def FixNearUptoSaid : Prop := fixNearUptoRow.holds Try.pinned (OpenSpec.upto fixNearSpec)

/-- 'steadkeep.FixRoot', WHERE WHAT IT READS IS OF BULK AT MOST 1048576: true; the input reads as it did. -/
def fixRootUptoRow : OpenClaim := { program := "ytfgpcjfkkonkhaa", sum := "d1b4d8cca12b0535edbfb3ddde5ae666a3207e192f5ae33bb72e73ee0a96c1eb", func := "steadyhand/steadkeep.FixRoot", spec := "fixRoot", apart := false, narrowed := true }
def FixRootUptoSaid : Prop := fixRootUptoRow.holds Try.pinned (OpenSpec.upto fixRootSpec)

/-- 'steadkeep.FixRound', WHERE WHAT IT READS IS OF BULK AT MOST 1048576: true; the input reads as it did. -/
def fixRoundUptoRow : OpenClaim := { program := "ytfgpcjfkkonkhaa", sum := "d1b4d8cca12b0535edbfb3ddde5ae666a3207e192f5ae33bb72e73ee0a96c1eb", func := "steadyhand/steadkeep.FixRound", spec := "fixRound", apart := false, narrowed := true }
def FixRoundUptoSaid : Prop := fixRoundUptoRow.holds Try.pinned (OpenSpec.upto fixRoundSpec)

/-- 'steadkeep.SatExact', WHERE WHAT IT READS IS OF BULK AT MOST 1048576: true; the input reads as it did. -/
def satExactUptoRow : OpenClaim := { program := "ytfgpcjfkkonkhaa", sum := "d1b4d8cca12b0535edbfb3ddde5ae666a3207e192f5ae33bb72e73ee0a96c1eb", func := "steadyhand/steadkeep.SatExact", spec := "satExact", apart := false, narrowed := true }
def SatExactUptoSaid : Prop := satExactUptoRow.holds Try.pinned (OpenSpec.upto satExactSpec)

/-- 'steadkeep.FiltNears', WHERE WHAT IT READS IS OF BULK AT MOST 1048576: true; the input reads as it did. -/
def filtNearsUptoRow : OpenClaim := { program := "ytfgpcjfkkonkhaa", sum := "d1b4d8cca12b0535edbfb3ddde5ae666a3207e192f5ae33bb72e73ee0a96c1eb", func := "steadyhand/steadkeep.FiltNears", spec := "filtNears", apart := false, narrowed := true }
def FiltNearsUptoSaid : Prop := filtNearsUptoRow.holds Try.pinned (OpenSpec.upto filtNearsSpec)

/-- 'steadkeep.FiltSame', WHERE WHAT IT READS IS OF BULK AT MOST 1048576: true; the input reads as it did. -/
def filtSameUptoRow : OpenClaim := { program := "ytfgpcjfkkonkhaa", sum := "d1b4d8cca12b0535edbfb3ddde5ae666a3207e192f5ae33bb72e73ee0a96c1eb", func := "steadyhand/steadkeep.FiltSame", spec := "filtSame", apart := false, narrowed := true }
def FiltSameUptoSaid : Prop := filtSameUptoRow.holds Try.pinned (OpenSpec.upto filtSameSpec)

/-- 'steadkeep.CrcLinear', WHERE WHAT IT READS IS OF BULK AT MOST 1048576: true; the input reads as it did. -/
def crcLinearUptoRow : OpenClaim := { program := "ytfgpcjfkkonkhaa", sum := "d1b4d8cca12b0535edbfb3ddde5ae666a3207e192f5ae33bb72e73ee0a96c1eb", func := "steadyhand/steadkeep.CrcLinear", spec := "crcLinear", apart := false, narrowed := true }
def CrcLinearUptoSaid : Prop := crcLinearUptoRow.holds Try.pinned (OpenSpec.upto crcLinearSpec)

/-- 'steadkeep.AgreeFair', WHERE WHAT IT READS IS OF BULK AT MOST 1048576: true; the input reads as it did. -/
def agreeFairUptoRow : OpenClaim := { program := "ytfgpcjfkkonkhaa", sum := "d1b4d8cca12b0535edbfb3ddde5ae666a3207e192f5ae33bb72e73ee0a96c1eb", func := "steadyhand/steadkeep.AgreeFair", spec := "agreeFair", apart := false, narrowed := true }
def AgreeFairUptoSaid : Prop := agreeFairUptoRow.holds Try.pinned (OpenSpec.upto agreeFairSpec)

/-- 'steadkeep.FixBack', WHERE WHAT IT READS IS OF BULK AT MOST 1048576: true; the input reads as it did. -/
def fixBackUptoRow : OpenClaim := { program := "ytfgpcjfkkonkhaa", sum := "d1b4d8cca12b0535edbfb3ddde5ae666a3207e192f5ae33bb72e73ee0a96c1eb", func := "steadyhand/steadkeep.FixBack", spec := "fixBack", apart := false, narrowed := true }
def FixBackUptoSaid : Prop := fixBackUptoRow.holds Try.pinned (OpenSpec.upto fixBackSpec)

end Rows
end Go.Proofs.Ytfgpcjfkkonkhaa
