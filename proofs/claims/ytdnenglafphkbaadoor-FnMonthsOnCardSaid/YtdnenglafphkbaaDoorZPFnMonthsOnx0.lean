/- Lines by a program (a changed copy of the kit's print: this repo's wip/tools): Go functions as Lean functions, and proofs that the calls answer so. -/
import Derived.Test.YtdnenglafphkbaaDoorProg
import Derived.Below
import Derived.Deep.Draws
import Derived.Deep.AppendLies
import Derived.Maps.AppendAt
import Derived.OwnWalk
import Derived.Laws.BytesArg
import Derived.Laws.MakeOwn
import Derived.Laws.OwnMore
import Derived.Deep.OwnRows
import Derived.Tactics
import Derived.Lib.ConvBytes
import Derived.Laws.Slices
import Derived.WalkKit
import Derived.KernelRfl
import Derived.RowKit3
import Derived.Deep.LoopGhost
import Derived.Deep.QuietTactic
import Derived.BigQuiet
import Derived.WideLaws
import Derived.Deep.DeepCutAuto
import Derived.Deep.CutBlock
import Derived.Deep.RegionHeld3
import Derived.Laws.Rows
import Derived.Lib.AppendStr
import Derived.ArgAppend
import Derived.Laws.IdiomCopy
import Derived.OrdersHeld
import Derived.Laws.BitsLemmas
import Derived.RowKit
import Derived.Test.YtdnenglafphkbaaDoorZWWords
import Derived.Test.YtdnenglafphkbaaDoorZWLast
import Derived.Test.YtdnenglafphkbaaDoorZWTab
import Derived.Test.YtdnenglafphkbaaDoorZWFour
import Derived.Test.YtdnenglafphkbaaDoorZWQPut
import Derived.Test.YtdnenglafphkbaaDoorZWApart
import Derived.Test.YtdnenglafphkbaaDoorZWArr
import Derived.Test.YtdnenglafphkbaaDoorZWZeros
import Derived.Test.YtdnenglafphkbaaDoorZWFoot
import Derived.Test.YtdnenglafphkbaaDoorZWKept
import Derived.Test.YtdnenglafphkbaaDoorZWShare
import Derived.Test.YtdnenglafphkbaaDoorZWN
import Derived.Test.YtdnenglafphkbaaDoorZWFootNe
import Derived.Test.YtdnenglafphkbaaDoorZWAt
import Derived.Test.YtdnenglafphkbaaDoorZWEqStruct
import Derived.Test.YtdnenglafphkbaaDoorZWRepsOne
import Derived.Test.YtdnenglafphkbaaDoorZWInv
import Derived.Test.YtdnenglafphkbaaDoorZWInvWords
import Derived.Test.YtdnenglafphkbaaDoorZWGuard
import Derived.Test.YtdnenglafphkbaaDoorZWNEv
import Derived.Test.YtdnenglafphkbaaDoorZWMore
import Derived.Test.YtdnenglafphkbaaDoorZMap
import Derived.Test.YtdnenglafphkbaaDoorZFn
import Derived.Test.YtdnenglafphkbaaDoorZMark
namespace Go.Proofs.YtdnenglafphkbaaDoor.PFnMonthsOn
open Go.RowKit Go.Proofs.YtdnenglafphkbaaDoorW.PrintWords Go.Proofs.YtdnenglafphkbaaDoorW.PrintLast Go.Proofs.YtdnenglafphkbaaDoorW.PrintMore
attribute [local go_sem] max2_int min2_int max_two min_two max_three min_three max_four min_four   -- for this text's walks alone
set_option linter.unusedVariables false
set_option linter.unusedSimpArgs false



def errW : Option Int → Value
 | none => .nilIface
 | some c => .iface 0 (.int .i64 c)
theorem errW_none : errW none = .nilIface := rfl
theorem errW_some (c : Int) : errW (some c) = .iface 0 (.int .i64 c) := rfl

-- the values' own types
/-! #### struct type 28 -/
structure S28 where
 f0 : Int
 f1 : Int
 f2 : Int
end Go.Proofs.YtdnenglafphkbaaDoor.PFnMonthsOn
