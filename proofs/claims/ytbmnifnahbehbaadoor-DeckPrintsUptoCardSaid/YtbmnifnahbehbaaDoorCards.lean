/-
  DERIVED. GIVEN WITH THE SEED: THE CARDS: each row of YtbmnifnahbehbaaDoorRows.lean that lists a variable, with what it lists TIED to the program's text (the seventh form; the later family's looks); each row that meets fmt, with fmt's text TOLD by the authors' own Lean function (tested against real Go, not proved from fmt's source: count such statements apart). THE CARD IS WHAT COUNTS. Prove the row's statement (the work); the ties are given (YtbmnifnahbehbaaDoorTie.lean); close each card by the builder's one call (the guide's Derived/Test/ToyasCard.lean, 'card_holds'). Laid BY PROGRAM, IN A SANDBOX (cutbox-door.mjs). By AI agents, Wed Nov 11 2026. No macro, syntax, notation, axiom, sorry.
-/
import Derived.Test.YtbmnifnahbehbaaDoorRows
import GoSem.ClaimSeven
namespace Go.Proofs.YtbmnifnahbehbaaDoor
namespace Rows

/-- THE TIED CARD OF 'anvillaw14.DeckPrints'. -/
def deckPrintsCard : Claim7 := { stood := { row := deckPrintsRow, standIns := [], harness := (true, "f8e15f58b011de8b729e1ad9624b2cecec5a33525d23b97e47fc201d64d7ba9f"), looks := false }, kinds := [], alts := [], laidByText := true, laidKinds := [.data, .data, .data, .data, .data, .data, .listed, .data, .data, .data], laidTests := true, laidLooks := .later }
def DeckPrintsCardSaid : Prop := Claim7.holds Tryd.pinned (.plain (OpenSpec.ofChange deckPrintsSpec)) deckPrintsCard

/-- THE SECOND FORM's CARD OF 'anvillaw14.DeckPrints'. -/
def deckPrintsUptoCard : Claim7 := { stood := { row := deckPrintsUptoRow, standIns := [], harness := (true, "f8e15f58b011de8b729e1ad9624b2cecec5a33525d23b97e47fc201d64d7ba9f"), looks := false }, kinds := [], alts := [], laidByText := true, laidKinds := [.data, .data, .data, .data, .data, .data, .listed, .data, .data, .data], laidTests := true, laidLooks := .later }
def DeckPrintsUptoCardSaid : Prop := Claim7.holds Tryd.pinned (.plain (OpenSpec.upto deckPrintsSpec)) deckPrintsUptoCard
end Rows
end Go.Proofs.YtbmnifnahbehbaaDoor
