/- Words of the walks: what this claim's texts name of them, cut out by this repo's wip/tools/claimx.py. -/
import Derived.Test.YtdnenglafphkbaaDoorZWInv
import Derived.Test.YtdnenglafphkbaaDoorZWFootNe
namespace Go.Proofs.YtdnenglafphkbaaDoorW.PrintWords
open Go.RowKit
end Go.Proofs.YtdnenglafphkbaaDoorW.PrintWords
namespace Go.Proofs.YtdnenglafphkbaaDoorW.PrintLast
section
variable {ops : Array Oper} {a : Act} {o og : Oper} {g : Nat} {t : Tmp} {u : Bool}
end
end Go.Proofs.YtdnenglafphkbaaDoorW.PrintLast
