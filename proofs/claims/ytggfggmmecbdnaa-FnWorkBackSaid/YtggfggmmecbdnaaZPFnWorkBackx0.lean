/- Lines by a program (a changed copy of the kit's print: this repo's wip/tools): Go functions as Lean functions, and proofs that the calls answer so. -/
import Derived.Test.YtggfggmmecbdnaaProg
import Derived.Below
import Derived.Deep.Draws
import Derived.Deep.AppendLies
import Derived.Maps.AppendAt
import Derived.OwnWalk
import Derived.Laws.BytesArg
import Derived.Laws.MakeOwn
import Derived.Laws.OwnMore
import Derived.Deep.OwnRows
import Derived.Tactics
import Derived.Lib.ConvBytes
import Derived.Laws.Slices
import Derived.WalkKit
import Derived.KernelRfl
import Derived.RowKit3
import Derived.Deep.LoopGhost
import Derived.Deep.QuietTactic
import Derived.BigQuiet
import Derived.WideLaws
import Derived.Deep.DeepCutAuto
import Derived.Deep.CutBlock
import Derived.Deep.RegionHeld3
import Derived.Laws.Rows
import Derived.Lib.AppendStr
import Derived.ArgAppend
import Derived.Laws.IdiomCopy
import Derived.OrdersHeld
import Derived.Laws.BitsLemmas
import Derived.RowKit
import Derived.Test.YtggfggmmecbdnaaZWWords
import Derived.Test.YtggfggmmecbdnaaZWLast
import Derived.Test.YtggfggmmecbdnaaZWTab
import Derived.Test.YtggfggmmecbdnaaZWFour
import Derived.Test.YtggfggmmecbdnaaZWQPut
import Derived.Test.YtggfggmmecbdnaaZWApart
import Derived.Test.YtggfggmmecbdnaaZWArr
import Derived.Test.YtggfggmmecbdnaaZWZeros
import Derived.Test.YtggfggmmecbdnaaZWFoot
import Derived.Test.YtggfggmmecbdnaaZWKept
import Derived.Test.YtggfggmmecbdnaaZWShare
import Derived.Test.YtggfggmmecbdnaaZWN
import Derived.Test.YtggfggmmecbdnaaZWFootNe
import Derived.Test.YtggfggmmecbdnaaZWAt
import Derived.Test.YtggfggmmecbdnaaZWEqStruct
import Derived.Test.YtggfggmmecbdnaaZWRepsOne
import Derived.Test.YtggfggmmecbdnaaZWInv
import Derived.Test.YtggfggmmecbdnaaZWInvWords
import Derived.Test.YtggfggmmecbdnaaZWGuard
import Derived.Test.YtggfggmmecbdnaaZWNEv
import Derived.Test.YtggfggmmecbdnaaZWMore
import Derived.Test.YtggfggmmecbdnaaZMap
import Derived.Test.YtggfggmmecbdnaaZFn
import Derived.Test.YtggfggmmecbdnaaZMark
namespace Go.Proofs.Ytggfggmmecbdnaa.PFnWorkBack
open Go.RowKit Go.Proofs.YtggfggmmecbdnaaW.PrintWords Go.Proofs.YtggfggmmecbdnaaW.PrintLast Go.Proofs.YtggfggmmecbdnaaW.PrintMore
attribute [local go_sem] max2_int min2_int max_two min_two max_three min_three max_four min_four   -- for this text's walks alone
set_option linter.unusedVariables false
set_option linter.unusedSimpArgs false



def errW : Option Int → Value
 | none => .nilIface
 | some c => .iface 0 (.int .i64 c)
theorem errW_none : errW none = .nilIface := rfl
theorem errW_some (c : Int) : errW (some c) = .iface 0 (.int .i64 c) := rfl

theorem info3 : (Try.prog.info? 3).map (fun i => (i.zero, i.size, i.bytes)) = some (some (.int .i64 0), 1, 8) := by kernel_rfl
-- the values' own types
/-! #### struct type 26 -/
structure S26 where
 f0 : Int
 f1 : (List Int)
end Go.Proofs.Ytggfggmmecbdnaa.PFnWorkBack
