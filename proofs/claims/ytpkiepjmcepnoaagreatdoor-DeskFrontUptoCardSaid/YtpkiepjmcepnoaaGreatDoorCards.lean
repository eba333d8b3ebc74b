/-
  DERIVED. GIVEN WITH THE SEED: THE CARDS: each row of YtpkiepjmcepnoaaGreatDoorRows.lean that lists a variable, with what it lists TIED to the program's text (the seventh form; the later family's looks); each row that meets fmt, with fmt's text TOLD by the authors' own Lean function (tested against real Go, not proved from fmt's source: count such statements apart). THE CARD IS WHAT COUNTS. Prove the row's statement (the work); the ties are given (YtpkiepjmcepnoaaGreatDoorTie.lean); close each card by the builder's one call (the guide's Derived/Test/ToyasCard.lean, 'card_holds'). Laid BY PROGRAM, IN A SANDBOX (cutbox-door.mjs). By AI agents, Wed Nov 11 2026. No macro, syntax, notation, axiom, sorry.
-/
import Derived.Test.YtpkiepjmcepnoaaGreatDoorRows
import GoSem.ClaimSeven
namespace Go.Proofs.YtpkiepjmcepnoaaGreatDoor
namespace Rows

/-- THE TIED CARD OF 'steadkeep.DeskFront'. -/
def deskFrontCard : Claim7 := { stood := { row := deskFrontRow, standIns := [], harness := (true, "fd071076300f195eeb24805eb5c9c2537e91c0eba8f2f0a4337b9f466029a9df"), looks := true }, kinds := [], alts := [], laidByText := true, laidKinds := [.data, .data, .data, .data, .pinned, .pinned], laidTests := true, laidLooks := .later }
def DeskFrontCardSaid : Prop := Claim7.holds Tryz.pinned (.plain (OpenSpec.ofChange deskFrontSpec)) deskFrontCard

/-- THE TIED CARD OF 'steadkeep.DeskCounts'. -/
def deskCountsCard : Claim7 := { stood := { row := deskCountsRow, standIns := [], harness := (true, "fd071076300f195eeb24805eb5c9c2537e91c0eba8f2f0a4337b9f466029a9df"), looks := true }, kinds := [], alts := [], laidByText := true, laidKinds := [.data, .data, .data, .data, .pinned, .pinned], laidTests := true, laidLooks := .later }
def DeskCountsCardSaid : Prop := Claim7.holds Tryz.pinned (.plain (OpenSpec.ofChange deskCountsSpec)) deskCountsCard

/-- THE SECOND FORM's CARD OF 'steadkeep.DeskFront'. -/
def deskFrontUptoCard : Claim7 := { stood := { row := deskFrontUptoRow, standIns := [], harness := (true, "fd071076300f195eeb24805eb5c9c2537e91c0eba8f2f0a4337b9f466029a9df"), looks := true }, kinds := [], alts := [], laidByText := true, laidKinds := [.data, .data, .data, .data, .pinned, .pinned], laidTests := true, laidLooks := .later }
def DeskFrontUptoCardSaid : Prop := Claim7.holds Tryz.pinned (.plain (OpenSpec.upto deskFrontSpec)) deskFrontUptoCard

/-- THE SECOND FORM's CARD OF 'steadkeep.DeskCounts'. -/
def deskCountsUptoCard : Claim7 := { stood := { row := deskCountsUptoRow, standIns := [], harness := (true, "fd071076300f195eeb24805eb5c9c2537e91c0eba8f2f0a4337b9f466029a9df"), looks := true }, kinds := [], alts := [], laidByText := true, laidKinds := [.data, .data, .data, .data, .pinned, .pinned], laidTests := true, laidLooks := .later }
def DeskCountsUptoCardSaid : Prop := Claim7.holds Tryz.pinned (.plain (OpenSpec.upto deskCountsSpec)) deskCountsUptoCard
end Rows
end Go.Proofs.YtpkiepjmcepnoaaGreatDoor
