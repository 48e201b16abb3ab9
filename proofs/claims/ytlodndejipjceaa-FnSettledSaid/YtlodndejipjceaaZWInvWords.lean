/- Words of the walks: what this claim's texts name of them, cut out by this repo's wip/tools/claimx.py. -/
import Derived.Test.YtlodndejipjceaaZWInv
import Derived.Test.YtlodndejipjceaaZWFootNe
namespace Go.Proofs.YtlodndejipjceaaW.PrintWords
open Go.RowKit
end Go.Proofs.YtlodndejipjceaaW.PrintWords
namespace Go.Proofs.YtlodndejipjceaaW.PrintLast
section
variable {ops : Array Oper} {a : Act} {o og : Oper} {g : Nat} {t : Tmp} {u : Bool}
end
end Go.Proofs.YtlodndejipjceaaW.PrintLast
