/-
  DERIVED. GIVEN WITH THE SEED: THE CARDS: each row of YtbnlifldnjgpmaaGreatDoorRows.lean that lists a variable, with what it lists TIED to the program's text (the seventh form; the later family's looks); each row that meets fmt, with fmt's text TOLD by the authors' own Lean function (tested against real Go, not proved from fmt's source: count such statements apart). THE CARD IS WHAT COUNTS. Prove the row's statement (the work); the ties are given (YtbnlifldnjgpmaaGreatDoorTie.lean); close each card by the builder's one call (the guide's Derived/Test/ToyasCard.lean, 'card_holds'). Laid BY PROGRAM, IN A SANDBOX (cutbox-door.mjs). By AI agents, Wed Nov 11 2026. No macro, syntax, notation, axiom, sorry.
-/
import Derived.Test.YtbnlifldnjgpmaaGreatDoorRows
import GoSem.ClaimSeven
namespace Go.Proofs.YtbnlifldnjgpmaaGreatDoor
namespace Rows

/-- THE TIED CARD OF 'anvillaw02.ImageReads'. -/
def imageReadsCard : Claim7 := { stood := { row := imageReadsRow, standIns := [], harness := (true, "c4bdc490dc04779e39d0b5f187f9b0353b2bb5b0de3fdca3eac504900c614edb"), looks := true }, kinds := [], alts := [], laidByText := true, laidKinds := [.data, .handle, .data, .pinned, .pinned], laidTests := true, laidLooks := .later }
def ImageReadsCardSaid : Prop := Claim7.holds Tryz.pinned (.plain (OpenSpec.ofChange imageReadsSpec)) imageReadsCard

/-- THE TIED CARD OF 'anvillaw02.ImageBack'. -/
def imageBackCard : Claim7 := { stood := { row := imageBackRow, standIns := [], harness := (true, "c4bdc490dc04779e39d0b5f187f9b0353b2bb5b0de3fdca3eac504900c614edb"), looks := true }, kinds := [], alts := [], laidByText := true, laidKinds := [.data, .handle, .data, .pinned, .pinned], laidTests := true, laidLooks := .later }
def ImageBackCardSaid : Prop := Claim7.holds Tryz.pinned (.plain (OpenSpec.ofChange imageBackSpec)) imageBackCard

/-- THE TIED CARD OF 'anvillaw02.ImageCut'. -/
def imageCutCard : Claim7 := { stood := { row := imageCutRow, standIns := [], harness := (true, "c4bdc490dc04779e39d0b5f187f9b0353b2bb5b0de3fdca3eac504900c614edb"), looks := true }, kinds := [], alts := [], laidByText := true, laidKinds := [.data, .handle, .data, .pinned, .pinned], laidTests := true, laidLooks := .later }
def ImageCutCardSaid : Prop := Claim7.holds Tryz.pinned (.plain (OpenSpec.ofChange imageCutSpec)) imageCutCard

/-- THE TIED CARD OF 'anvillaw02.ImageAgain'. -/
def imageAgainCard : Claim7 := { stood := { row := imageAgainRow, standIns := [], harness := (true, "c4bdc490dc04779e39d0b5f187f9b0353b2bb5b0de3fdca3eac504900c614edb"), looks := true }, kinds := [], alts := [], laidByText := true, laidKinds := [.data, .handle, .data, .pinned, .pinned], laidTests := true, laidLooks := .later }
def ImageAgainCardSaid : Prop := Claim7.holds Tryz.pinned (.plain (OpenSpec.ofChange imageAgainSpec)) imageAgainCard

/-- THE TIED CARD OF 'anvillaw02.ImageUnseen'. -/
def imageUnseenCard : Claim7 := { stood := { row := imageUnseenRow, standIns := [], harness := (true, "c4bdc490dc04779e39d0b5f187f9b0353b2bb5b0de3fdca3eac504900c614edb"), looks := true }, kinds := [], alts := [], laidByText := true, laidKinds := [.data, .handle, .data, .pinned, .pinned], laidTests := true, laidLooks := .later }
def ImageUnseenCardSaid : Prop := Claim7.holds Tryz.pinned (.plain (OpenSpec.ofChange imageUnseenSpec)) imageUnseenCard

/-- THE TIED CARD OF 'anvillaw02.ImageOwn'. -/
def imageOwnCard : Claim7 := { stood := { row := imageOwnRow, standIns := [], harness := (true, "c4bdc490dc04779e39d0b5f187f9b0353b2bb5b0de3fdca3eac504900c614edb"), looks := true }, kinds := [], alts := [], laidByText := true, laidKinds := [.data, .handle, .data, .pinned, .pinned], laidTests := true, laidLooks := .later }
def ImageOwnCardSaid : Prop := Claim7.holds Tryz.pinned (.plain (OpenSpec.ofChange imageOwnSpec)) imageOwnCard

/-- THE TIED CARD OF 'anvillaw02.ImageReasons'. -/
def imageReasonsCard : Claim7 := { stood := { row := imageReasonsRow, standIns := [], harness := (true, "c4bdc490dc04779e39d0b5f187f9b0353b2bb5b0de3fdca3eac504900c614edb"), looks := true }, kinds := [], alts := [], laidByText := true, laidKinds := [.data, .handle, .data, .pinned, .pinned], laidTests := true, laidLooks := .later }
def ImageReasonsCardSaid : Prop := Claim7.holds Tryz.pinned (.plain (OpenSpec.ofChange imageReasonsSpec)) imageReasonsCard

/-- THE SECOND FORM's CARD OF 'anvillaw02.ImageReads'. -/
def imageReadsUptoCard : Claim7 := { stood := { row := imageReadsUptoRow, standIns := [], harness := (true, "c4bdc490dc04779e39d0b5f187f9b0353b2bb5b0de3fdca3eac504900c614edb"), looks := true }, kinds := [], alts := [], laidByText := true, laidKinds := [.data, .handle, .data, .pinned, .pinned], laidTests := true, laidLooks := .later }
def ImageReadsUptoCardSaid : Prop := Claim7.holds Tryz.pinned (.plain (OpenSpec.upto imageReadsSpec)) imageReadsUptoCard

/-- THE SECOND FORM's CARD OF 'anvillaw02.ImageBack'. -/
def imageBackUptoCard : Claim7 := { stood := { row := imageBackUptoRow, standIns := [], harness := (true, "c4bdc490dc04779e39d0b5f187f9b0353b2bb5b0de3fdca3eac504900c614edb"), looks := true }, kinds := [], alts := [], laidByText := true, laidKinds := [.data, .handle, .data, .pinned, .pinned], laidTests := true, laidLooks := .later }
def ImageBackUptoCardSaid : Prop := Claim7.holds Tryz.pinned (.plain (OpenSpec.upto imageBackSpec)) imageBackUptoCard

/-- THE SECOND FORM's CARD OF 'anvillaw02.ImageCut'. -/
def imageCutUptoCard : Claim7 := { stood := { row := imageCutUptoRow, standIns := [], harness := (true, "c4bdc490dc04779e39d0b5f187f9b0353b2bb5b0de3fdca3eac504900c614edb"), looks := true }, kinds := [], alts := [], laidByText := true, laidKinds := [.data, .handle, .data, .pinned, .pinned], laidTests := true, laidLooks := .later }
def ImageCutUptoCardSaid : Prop := Claim7.holds Tryz.pinned (.plain (OpenSpec.upto imageCutSpec)) imageCutUptoCard

/-- THE SECOND FORM's CARD OF 'anvillaw02.ImageAgain'. -/
def imageAgainUptoCard : Claim7 := { stood := { row := imageAgainUptoRow, standIns := [], harness := (true, "c4bdc490dc04779e39d0b5f187f9b0353b2bb5b0de3fdca3eac504900c614edb"), looks := true }, kinds := [], alts := [], laidByText := true, laidKinds := [.data, .handle, .data, .pinned, .pinned], laidTests := true, laidLooks := .later }
def ImageAgainUptoCardSaid : Prop := Claim7.holds Tryz.pinned (.plain (OpenSpec.upto imageAgainSpec)) imageAgainUptoCard

/-- THE SECOND FORM's CARD OF 'anvillaw02.ImageUnseen'. -/
def imageUnseenUptoCard : Claim7 := { stood := { row := imageUnseenUptoRow, standIns := [], harness := (true, "c4bdc490dc04779e39d0b5f187f9b0353b2bb5b0de3fdca3eac504900c614edb"), looks := true }, kinds := [], alts := [], laidByText := true, laidKinds := [.data, .handle, .data, .pinned, .pinned], laidTests := true, laidLooks := .later }
def ImageUnseenUptoCardSaid : Prop := Claim7.holds Tryz.pinned (.plain (OpenSpec.upto imageUnseenSpec)) imageUnseenUptoCard

/-- THE SECOND FORM's CARD OF 'anvillaw02.ImageOwn'. -/
def imageOwnUptoCard : Claim7 := { stood := { row := imageOwnUptoRow, standIns := [], harness := (true, "c4bdc490dc04779e39d0b5f187f9b0353b2bb5b0de3fdca3eac504900c614edb"), looks := true }, kinds := [], alts := [], laidByText := true, laidKinds := [.data, .handle, .data, .pinned, .pinned], laidTests := true, laidLooks := .later }
def ImageOwnUptoCardSaid : Prop := Claim7.holds Tryz.pinned (.plain (OpenSpec.upto imageOwnSpec)) imageOwnUptoCard

/-- THE SECOND FORM's CARD OF 'anvillaw02.ImageReasons'. -/
def imageReasonsUptoCard : Claim7 := { stood := { row := imageReasonsUptoRow, standIns := [], harness := (true, "c4bdc490dc04779e39d0b5f187f9b0353b2bb5b0de3fdca3eac504900c614edb"), looks := true }, kinds := [], alts := [], laidByText := true, laidKinds := [.data, .handle, .data, .pinned, .pinned], laidTests := true, laidLooks := .later }
def ImageReasonsUptoCardSaid : Prop := Claim7.holds Tryz.pinned (.plain (OpenSpec.upto imageReasonsSpec)) imageReasonsUptoCard
end Rows
end Go.Proofs.YtbnlifldnjgpmaaGreatDoor
