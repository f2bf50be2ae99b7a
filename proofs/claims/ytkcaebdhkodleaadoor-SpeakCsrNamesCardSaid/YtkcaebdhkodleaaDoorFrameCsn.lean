/- A world in which the variables that SpeakCsrNames lists hold what their initialisers lay: for the row's witness. -/
import Derived.Test.YtkcaebdhkodleaaDoorFrame7
set_option linter.unusedVariables false
namespace Go.Proofs.YtkcaebdhkodleaaDoor.Csn
open Go.ChangeShapes Go.WideShapes Go.ChangeAt Go.RowKit Go.Lib Go.Shelf

/-- Two blocks more: the strings of the two errors. -/
noncomputable def laidWorld (os : Os) : World :=
  let N := (World.settled Tryd.prog os).heap.size
  let w0 := World.holding Tryd.prog os ⟨#[.cells #[.string ⟨#[118, 97, 108, 117, 101, 32, 111, 117, 116, 32, 111, 102, 32, 114, 97, 110, 103, 101]⟩] 100, .cells #[.string ⟨#[105, 110, 118, 97, 108, 105, 100, 32, 115, 121, 110, 116, 97, 120]⟩] 100], #[], []⟩
  { w0 with heap := putAll w0.heap [(8, aggCells Rows.laid_math_bits_deBruijn32tab), (9, aggCells Rows.laid_math_bits_deBruijn64tab), (5, aggCells Rows.laid_internal_strconv_uint64pow10),
      (2, aggCells Rows.laid_anvil_anvilref07_csrNames), (1, aggCells Rows.laid_anvil_anvilref07_csrNumbers),
      (7, #[.iface 98 (.pointer (some ⟨N, 0, none⟩))]), (6, #[.iface 98 (.pointer (some ⟨N + 1, 0, none⟩))])] }
noncomputable abbrev laidMem (os : Os) (args : Array Value) : World := ((laidWorld os).forCall (fun _ _ => 0) ⟨#[], args, []⟩).memory
theorem met (os : Os) (args : Array Value) : laidMet Tryd.prog Rows.speakCsrNamesRow.laid (laidMem os args) :=
  laidMet_of_run3 10 (by kernel_rfl) (by kernel_rfl) (by kernel_rfl)
end Go.Proofs.YtkcaebdhkodleaaDoor.Csn
