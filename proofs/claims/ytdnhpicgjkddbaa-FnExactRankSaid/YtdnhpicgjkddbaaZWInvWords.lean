/- Words of the walks: what this claim's texts name of them, cut out by this repo's wip/tools/claimx.py. -/
import Derived.Test.YtdnhpicgjkddbaaZWInv
import Derived.Test.YtdnhpicgjkddbaaZWFootNe
namespace Go.Proofs.YtdnhpicgjkddbaaW.PrintWords
open Go.RowKit
end Go.Proofs.YtdnhpicgjkddbaaW.PrintWords
namespace Go.Proofs.YtdnhpicgjkddbaaW.PrintLast
section
variable {ops : Array Oper} {a : Act} {o og : Oper} {g : Nat} {t : Tmp} {u : Bool}
end
end Go.Proofs.YtdnhpicgjkddbaaW.PrintLast
