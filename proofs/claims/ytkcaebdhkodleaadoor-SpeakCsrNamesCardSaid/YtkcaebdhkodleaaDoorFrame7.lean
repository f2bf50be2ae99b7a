/- Worlds in which the listed variables hold what their initialisers lay: for the witnesses of the rows on names. -/
import Derived.Test.YtkcaebdhkodleaaDoorRows
import Derived.Test.YtkcaebdhkodleaaDoorShelf
import Derived.Deep.DeepHandedRow
import Derived.Deep.DeepWitnessRowRef
import Derived.Deep.DeepLaidRun
import Derived.Lib.LaidIn
import Derived.Lib.LaidU8
import Derived.ProofKit
import Derived.SizedLaws
set_option linter.unusedVariables false
namespace Go.Proofs.YtkcaebdhkodleaaDoor
open Go.ChangeShapes Go.WideShapes Go.ChangeAt Go.RowKit Go.Lib Go.Shelf

theorem own : ownKnob Tryd.prog.godebug = none := by kernel_rfl
theorem laidOut : laidOutB Tryd.prog = true := by kernel_rfl
def litCell : DataW Unit → Value
  | .lit (.int k z) => .int k z
  | .lit (.string b) => .string ⟨b.toArray⟩
  | _ => .nilIface
def aggCells : DataW Unit → Array Value
  | .agg l => (l.map litCell).toArray
  | _ => #[]
def putAll (h : Array Obj) : List (Nat × Array Value) → Array Obj
  | [] => h
  | (g, cs) :: r => putAll (h.modify g fun
    | .cells _ t frozen => .cells cs t frozen
    | o => o) r
/-- The tables that any of the rows lists; two blocks more: unicode.White_Space's ranges, its RangeTable. -/
noncomputable def laidWorld (os : Os) : World :=
  let N := (World.settled Tryd.prog os).heap.size
  let w0 := World.holding Tryd.prog os ⟨#[.cells (Lib.whiteT.map fun (z : Nat) => Value.int .u16 (z : Int)).toArray (Tryd.laysFields_ren.t 198), .cells #[.slice (some ⟨N, 0, none⟩) 7 7, .slice none 0 0, .int .i64 2] (Tryd.laysFields_ren.t 196)], #[], []⟩
  { w0 with heap := putAll w0.heap [(3, aggCells Rows.laid_strings_asciiSpace), (4, #[.pointer (some ⟨N + 1, 0, none⟩)]), (0, aggCells Rows.laid_anvil_anvilref07_regs),
      (8, aggCells Rows.laid_math_bits_deBruijn32tab), (9, aggCells Rows.laid_math_bits_deBruijn64tab), (5, aggCells Rows.laid_internal_strconv_uint64pow10),
      (2, aggCells Rows.laid_anvil_anvilref07_csrNames), (1, aggCells Rows.laid_anvil_anvilref07_csrNumbers)] }
noncomputable abbrev laidMem (os : Os) (args : Array Value) : World := ((laidWorld os).forCall (fun _ _ => 0) ⟨#[], args, []⟩).memory
theorem met_regs (os : Os) (args : Array Value) : laidMet Tryd.prog Rows.speakRegsRow.laid (laidMem os args) :=
  laidMet_of_run3 10 (by kernel_rfl) (by kernel_rfl) (by kernel_rfl)
theorem met_regNames (os : Os) (args : Array Value) : laidMet Tryd.prog Rows.speakRegNamesRow.laid (laidMem os args) :=
  laidMet_of_run3 10 (by kernel_rfl) (by kernel_rfl) (by kernel_rfl)
theorem met_csrs (os : Os) (args : Array Value) : laidMet Tryd.prog Rows.speakCsrsRow.laid (laidMem os args) :=
  laidMet_of_run3 10 (by kernel_rfl) (by kernel_rfl) (by kernel_rfl)
end Go.Proofs.YtkcaebdhkodleaaDoor
