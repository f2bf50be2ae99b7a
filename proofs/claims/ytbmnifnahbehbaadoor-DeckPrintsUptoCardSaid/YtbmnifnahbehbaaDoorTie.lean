/-
  DERIVED. GIVEN WITH THE SEED: THE PROGRAM's TIES (one call each: nine closed facts by the kernel) AND EACH ROW's TIE, after the 31st guide's Derived/Test/Toyas{Tie, Card}.lean. No idea stands in it: it is a product of the set-up. Laid BY PROGRAM, IN A SANDBOX (cutbox-door.mjs). By AI agents, Wed Nov 11 2026. No macro, syntax, notation, axiom, sorry.
-/
import Derived.Test.YtbmnifnahbehbaaDoorRows
import Derived.LaidByTextLater
import Derived.SevenTiedAt
import Derived.LaidSub
import Derived.LaidOnce
namespace Go.Proofs.YtbmnifnahbehbaaDoor
open Go
set_option maxRecDepth 100000
theorem seatTie1 : Tryd.prog.laidByTextLater [("math/bits.deBruijn32tab", Rows.laid_math_bits_deBruijn32tab), ("math/bits.deBruijn64tab", Rows.laid_math_bits_deBruijn64tab), ("internal/strconv.uint64pow10", Rows.laid_internal_strconv_uint64pow10), ("anvil/anvilref07.regs", Rows.laid_anvil_anvilref07_regs), ("anvil/anvilref07.csrNames", Rows.laid_anvil_anvilref07_csrNames), ("anvil/anvilref07.csrNumbers", Rows.laid_anvil_anvilref07_csrNumbers), ("unicode.White_Space", Rows.laid_unicode_White_Space), ("anvil/anvilref14.Csrs", Rows.laid_anvil_anvilref14_Csrs), ("strings.asciiSpace", Rows.laid_strings_asciiSpace), ("anvil/deck.flags", Rows.laid_anvil_deck_flags)] [.data, .data, .data, .data, .data, .data, .listed, .data, .data, .data] true :=
  Program.laidByTextLater_by_one 73 8 257 (by kernel_rfl) (by kernel_rfl) (by kernel_rfl) (by kernel_rfl) (by kernel_rfl) (by kernel_rfl) (fun _ _ => by kernel_rfl)
theorem noOwnUnsafe : Tryd.pinned.checked.prog.headLifts.contains "ownunsafe" = false := by kernel_rfl
theorem tie : Tryd.prog.laidByTextLater [("math/bits.deBruijn32tab", Rows.laid_math_bits_deBruijn32tab), ("math/bits.deBruijn64tab", Rows.laid_math_bits_deBruijn64tab), ("internal/strconv.uint64pow10", Rows.laid_internal_strconv_uint64pow10), ("anvil/anvilref07.regs", Rows.laid_anvil_anvilref07_regs), ("anvil/anvilref07.csrNames", Rows.laid_anvil_anvilref07_csrNames), ("anvil/anvilref07.csrNumbers", Rows.laid_anvil_anvilref07_csrNumbers), ("unicode.White_Space", Rows.laid_unicode_White_Space), ("anvil/anvilref14.Csrs", Rows.laid_anvil_anvilref14_Csrs), ("strings.asciiSpace", Rows.laid_strings_asciiSpace), ("anvil/deck.flags", Rows.laid_anvil_deck_flags)] [.data, .data, .data, .data, .data, .data, .listed, .data, .data, .data] true :=
  Program.laidByTextLater.sub seatTie1 ["math/bits.deBruijn32tab", "math/bits.deBruijn64tab", "internal/strconv.uint64pow10", "anvil/anvilref07.regs", "anvil/anvilref07.csrNames", "anvil/anvilref07.csrNumbers", "unicode.White_Space", "anvil/anvilref14.Csrs", "strings.asciiSpace", "anvil/deck.flags"] (by kernel_rfl) (by kernel_rfl)
theorem deckPrints_row_tie : Rows.deckPrintsRow.laidByTextAt .later Tryd.pinned [.data, .data, .data, .data, .data, .data, .listed, .data, .data, .data] true :=
  OpenClaim.laidByTextAt_later rfl rfl tie noOwnUnsafe
theorem deckPrintsUpto_row_tie : Rows.deckPrintsUptoRow.laidByTextAt .later Tryd.pinned [.data, .data, .data, .data, .data, .data, .listed, .data, .data, .data] true :=
  OpenClaim.laidByTextAt_later rfl rfl tie noOwnUnsafe
end Go.Proofs.YtbmnifnahbehbaaDoor
