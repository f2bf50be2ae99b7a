-- BY PROGRAM of this session (the kit's printer, turned by wip/tools/patch_print.py). Lean checks it.
import Derived.Test.YtkcaebdhkodleaaDoorGlobCsr
import Derived.Test.YtkcaebdhkodleaaDoorProg
import Derived.Below
import Derived.Deep.Draws
import Derived.Deep.AppendLies
import Derived.Maps.AppendAt
import Derived.OwnWalk
import Derived.Laws.BytesArg
import Derived.Laws.MakeOwn
import Derived.Laws.OwnMore
import Derived.Deep.OwnRows
import Derived.Tactics
import Derived.Lib.ConvBytes
import Derived.Laws.Slices
import Derived.WalkKit
import Derived.KernelRfl
import Derived.RowKit3
import Derived.Deep.LoopGhost
import Derived.Deep.QuietTactic
import Derived.BigQuiet
import Derived.WideLaws
import Derived.Deep.DeepCutAuto
import Derived.Deep.CutBlock
import Derived.Deep.RegionHeld3
import Derived.Laws.Rows
import Derived.Lib.AppendStr
import Derived.ArgAppend
import Derived.Laws.IdiomCopy
import Derived.OrdersHeld
import Derived.Laws.BitsLemmas
import Derived.RowKit
import Derived.Test.YtkcaebdhkodleaaDoorWWords
import Derived.Test.YtkcaebdhkodleaaDoorWLast
import Derived.Test.YtkcaebdhkodleaaDoorWTab
import Derived.Test.YtkcaebdhkodleaaDoorWFour
import Derived.Test.YtkcaebdhkodleaaDoorWQPut
import Derived.Test.YtkcaebdhkodleaaDoorWApart
import Derived.Test.YtkcaebdhkodleaaDoorWArr
import Derived.Test.YtkcaebdhkodleaaDoorWZeros
import Derived.Test.YtkcaebdhkodleaaDoorWFoot
import Derived.Test.YtkcaebdhkodleaaDoorWKept
import Derived.Test.YtkcaebdhkodleaaDoorWShare
import Derived.Test.YtkcaebdhkodleaaDoorWN
import Derived.Test.YtkcaebdhkodleaaDoorWFootNe
import Derived.Test.YtkcaebdhkodleaaDoorWAt
import Derived.Test.YtkcaebdhkodleaaDoorWEqStruct
import Derived.Test.YtkcaebdhkodleaaDoorWRepsOne
import Derived.Test.YtkcaebdhkodleaaDoorWInv
import Derived.Test.YtkcaebdhkodleaaDoorWInvWords
import Derived.Test.YtkcaebdhkodleaaDoorWGuard
import Derived.Test.YtkcaebdhkodleaaDoorWNEv
import Derived.Test.YtkcaebdhkodleaaDoorWMore
namespace Go.Proofs.YtkcaebdhkodleaaDoor.PTz
open Go.RowKit Go.Proofs.YtkcaebdhkodleaaDoorW.PrintWords Go.Proofs.YtkcaebdhkodleaaDoorW.PrintLast Go.Proofs.YtkcaebdhkodleaaDoorW.PrintMore
attribute [local go_sem] max2_int min2_int max_two min_two max_three min_three max_four min_four   -- for this text's walks alone
set_option linter.unusedVariables false
set_option linter.unusedSimpArgs false



def errW : Option Int → Value
  | none => .nilIface
  | some c => .iface 0 (.int .i64 c)
theorem errW_none : errW none = .nilIface := rfl
theorem errW_some (c : Int) : errW (some c) = .iface 0 (.int .i64 c) := rfl

-- the values' own types

end Go.Proofs.YtkcaebdhkodleaaDoor.PTz
