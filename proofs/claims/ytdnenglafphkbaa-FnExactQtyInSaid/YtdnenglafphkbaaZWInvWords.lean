/- Words of the walks: what this claim's texts name of them, cut out by this repo's wip/tools/claimx.py. -/
import Derived.Test.YtdnenglafphkbaaZWInv
import Derived.Test.YtdnenglafphkbaaZWFootNe
namespace Go.Proofs.YtdnenglafphkbaaW.PrintWords
open Go.RowKit
end Go.Proofs.YtdnenglafphkbaaW.PrintWords
namespace Go.Proofs.YtdnenglafphkbaaW.PrintLast
section
variable {ops : Array Oper} {a : Act} {o og : Oper} {g : Nat} {t : Tmp} {u : Bool}
end
end Go.Proofs.YtdnenglafphkbaaW.PrintLast
