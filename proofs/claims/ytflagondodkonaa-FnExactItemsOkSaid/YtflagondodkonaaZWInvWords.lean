/- Words of the walks: what this claim's texts name of them, cut out by this repo's wip/tools/claimx.py. -/
import Derived.Test.YtflagondodkonaaZWInv
import Derived.Test.YtflagondodkonaaZWFootNe
namespace Go.Proofs.YtflagondodkonaaW.PrintWords
open Go.RowKit
end Go.Proofs.YtflagondodkonaaW.PrintWords
namespace Go.Proofs.YtflagondodkonaaW.PrintLast
section
variable {ops : Array Oper} {a : Act} {o og : Oper} {g : Nat} {t : Tmp} {u : Bool}
end
end Go.Proofs.YtflagondodkonaaW.PrintLast
