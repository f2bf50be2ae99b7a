/-
  DERIVED. GIVEN WITH THE SEED: THE CARDS: each row of YtbmnifnahbehbaaGreatDoorRows.lean that lists a variable, with what it lists TIED to the program's text (the seventh form; the later family's looks); each row that meets fmt, with fmt's text TOLD by the authors' own Lean function (tested against real Go, not proved from fmt's source: count such statements apart). THE CARD IS WHAT COUNTS. Prove the row's statement (the work); the ties are given (YtbmnifnahbehbaaGreatDoorTie.lean); close each card by the builder's one call (the guide's Derived/Test/ToyasCard.lean, 'card_holds'). Laid BY PROGRAM, IN A SANDBOX (cutbox-door.mjs). By AI agents, Wed Nov 11 2026. No macro, syntax, notation, axiom, sorry.
-/
import Derived.Test.YtbmnifnahbehbaaGreatDoorRows
import GoSem.ClaimSeven
namespace Go.Proofs.YtbmnifnahbehbaaGreatDoor
namespace Rows

/-- THE TIED CARD OF 'anvillaw08.AsmValues'. -/
def asmValuesCard : Claim7 := { stood := { row := asmValuesRow, standIns := [], harness := (true, "bb69c791d503602490744faa767fb99087eb8706e4ebb0236a5bc656481c0b71"), looks := true }, kinds := [], alts := [], laidByText := true, laidKinds := [.data, .data, .data, .data, .handle, .sentinel, .sentinel, .data, .pinned, .pinned], laidTests := true, laidLooks := .later }
def AsmValuesCardSaid : Prop := Claim7.holds Tryz.pinned (.plain (OpenSpec.ofChange asmValuesSpec)) asmValuesCard

/-- THE SECOND FORM's CARD OF 'anvillaw08.AsmValues'. -/
def asmValuesUptoCard : Claim7 := { stood := { row := asmValuesUptoRow, standIns := [], harness := (true, "bb69c791d503602490744faa767fb99087eb8706e4ebb0236a5bc656481c0b71"), looks := true }, kinds := [], alts := [], laidByText := true, laidKinds := [.data, .data, .data, .data, .handle, .sentinel, .sentinel, .data, .pinned, .pinned], laidTests := true, laidLooks := .later }
def AsmValuesUptoCardSaid : Prop := Claim7.holds Tryz.pinned (.plain (OpenSpec.upto asmValuesSpec)) asmValuesUptoCard
end Rows
end Go.Proofs.YtbmnifnahbehbaaGreatDoor
