/- Words of the walks: what this claim's texts name of them, cut out by this repo's wip/tools/claimx.py. -/
import Derived.Test.YtggfggmmecbdnaaZWInv
import Derived.Test.YtggfggmmecbdnaaZWFootNe
namespace Go.Proofs.YtggfggmmecbdnaaW.PrintWords
open Go.RowKit
end Go.Proofs.YtggfggmmecbdnaaW.PrintWords
namespace Go.Proofs.YtggfggmmecbdnaaW.PrintLast
section
variable {ops : Array Oper} {a : Act} {o og : Oper} {g : Nat} {t : Tmp} {u : Bool}
end
end Go.Proofs.YtggfggmmecbdnaaW.PrintLast
