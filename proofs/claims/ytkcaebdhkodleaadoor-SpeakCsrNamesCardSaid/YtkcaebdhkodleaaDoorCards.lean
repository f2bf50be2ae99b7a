/-
  DERIVED. GIVEN WITH THE SEED: THE CARDS: each row of YtkcaebdhkodleaaDoorRows.lean that lists a variable, with what it lists TIED to the program's text (the seventh form; the later family's looks); each row that meets fmt, with fmt's text TOLD by the authors' own Lean function (tested against real Go, not proved from fmt's source: count such statements apart). THE CARD IS WHAT COUNTS. Prove the row's statement (the work); the ties are given (YtkcaebdhkodleaaDoorTie.lean); close each card by the builder's one call (the guide's Derived/Test/ToyasCard.lean, 'card_holds'). Laid BY PROGRAM, IN A SANDBOX (cutbox-door.mjs). By AI agents, Wed Nov 11 2026. No macro, syntax, notation, axiom, sorry.
-/
import Derived.Test.YtkcaebdhkodleaaDoorRows
import GoSem.ClaimSeven
namespace Go.Proofs.YtkcaebdhkodleaaDoor
namespace Rows

/-- THE TIED CARD OF 'anvillaw07.SpeakRegs'. -/
def speakRegsCard : Claim7 := { stood := { row := speakRegsRow, standIns := [], harness := (true, "cccfcbe304148040ff6504979a1a4685558a787c7bdb6cf38745c91169944f62"), looks := true }, kinds := [], alts := [], laidByText := true, laidKinds := [.data, .listed, .data], laidTests := true, laidLooks := .later }
def SpeakRegsCardSaid : Prop := Claim7.holds Tryd.pinned (.plain (OpenSpec.ofChange speakRegsSpec)) speakRegsCard

/-- THE TIED CARD OF 'anvillaw07.SpeakCsrs'. -/
def speakCsrsCard : Claim7 := { stood := { row := speakCsrsRow, standIns := [], harness := (true, "cccfcbe304148040ff6504979a1a4685558a787c7bdb6cf38745c91169944f62"), looks := true }, kinds := [], alts := [], laidByText := true, laidKinds := [.data, .data, .data, .data, .data], laidTests := true, laidLooks := .later }
def SpeakCsrsCardSaid : Prop := Claim7.holds Tryd.pinned (.plain (OpenSpec.ofChange speakCsrsSpec)) speakCsrsCard

/-- THE TIED CARD OF 'anvillaw07.SpeakRegNames'. -/
def speakRegNamesCard : Claim7 := { stood := { row := speakRegNamesRow, standIns := [], harness := (true, "cccfcbe304148040ff6504979a1a4685558a787c7bdb6cf38745c91169944f62"), looks := true }, kinds := [], alts := [], laidByText := true, laidKinds := [.data, .data, .data, .data, .listed, .data], laidTests := true, laidLooks := .later }
def SpeakRegNamesCardSaid : Prop := Claim7.holds Tryd.pinned (.plain (OpenSpec.ofChange speakRegNamesSpec)) speakRegNamesCard

/-- THE TIED CARD OF 'anvillaw07.SpeakCsrNames'. -/
def speakCsrNamesCard : Claim7 := { stood := { row := speakCsrNamesRow, standIns := [], harness := (true, "cccfcbe304148040ff6504979a1a4685558a787c7bdb6cf38745c91169944f62"), looks := true }, kinds := [], alts := [], laidByText := true, laidKinds := [.data, .data, .data, .sentinel, .sentinel, .data, .data], laidTests := true, laidLooks := .later }
def SpeakCsrNamesCardSaid : Prop := Claim7.holds Tryd.pinned (.plain (OpenSpec.ofChange speakCsrNamesSpec)) speakCsrNamesCard

/-- THE SECOND FORM's CARD OF 'anvillaw07.SpeakRegs'. -/
def speakRegsUptoCard : Claim7 := { stood := { row := speakRegsUptoRow, standIns := [], harness := (true, "cccfcbe304148040ff6504979a1a4685558a787c7bdb6cf38745c91169944f62"), looks := true }, kinds := [], alts := [], laidByText := true, laidKinds := [.data, .listed, .data], laidTests := true, laidLooks := .later }
def SpeakRegsUptoCardSaid : Prop := Claim7.holds Tryd.pinned (.plain (OpenSpec.upto speakRegsSpec)) speakRegsUptoCard

/-- THE SECOND FORM's CARD OF 'anvillaw07.SpeakCsrs'. -/
def speakCsrsUptoCard : Claim7 := { stood := { row := speakCsrsUptoRow, standIns := [], harness := (true, "cccfcbe304148040ff6504979a1a4685558a787c7bdb6cf38745c91169944f62"), looks := true }, kinds := [], alts := [], laidByText := true, laidKinds := [.data, .data, .data, .data, .data], laidTests := true, laidLooks := .later }
def SpeakCsrsUptoCardSaid : Prop := Claim7.holds Tryd.pinned (.plain (OpenSpec.upto speakCsrsSpec)) speakCsrsUptoCard

/-- THE SECOND FORM's CARD OF 'anvillaw07.SpeakRegNames'. -/
def speakRegNamesUptoCard : Claim7 := { stood := { row := speakRegNamesUptoRow, standIns := [], harness := (true, "cccfcbe304148040ff6504979a1a4685558a787c7bdb6cf38745c91169944f62"), looks := true }, kinds := [], alts := [], laidByText := true, laidKinds := [.data, .data, .data, .data, .listed, .data], laidTests := true, laidLooks := .later }
def SpeakRegNamesUptoCardSaid : Prop := Claim7.holds Tryd.pinned (.plain (OpenSpec.upto speakRegNamesSpec)) speakRegNamesUptoCard

/-- THE SECOND FORM's CARD OF 'anvillaw07.SpeakCsrNames'. -/
def speakCsrNamesUptoCard : Claim7 := { stood := { row := speakCsrNamesUptoRow, standIns := [], harness := (true, "cccfcbe304148040ff6504979a1a4685558a787c7bdb6cf38745c91169944f62"), looks := true }, kinds := [], alts := [], laidByText := true, laidKinds := [.data, .data, .data, .sentinel, .sentinel, .data, .data], laidTests := true, laidLooks := .later }
def SpeakCsrNamesUptoCardSaid : Prop := Claim7.holds Tryd.pinned (.plain (OpenSpec.upto speakCsrNamesSpec)) speakCsrNamesUptoCard
end Rows
end Go.Proofs.YtkcaebdhkodleaaDoor
