/- Words of the walks: what this claim's texts name of them, cut out by this repo's wip/tools/claimx.py. -/
import Derived.Test.YtinibkdbfpafcaaZWInv
import Derived.Test.YtinibkdbfpafcaaZWFootNe
namespace Go.Proofs.YtinibkdbfpafcaaW.PrintWords
open Go.RowKit
end Go.Proofs.YtinibkdbfpafcaaW.PrintWords
namespace Go.Proofs.YtinibkdbfpafcaaW.PrintLast
section
variable {ops : Array Oper} {a : Act} {o og : Oper} {g : Nat} {t : Tmp} {u : Bool}
end
end Go.Proofs.YtinibkdbfpafcaaW.PrintLast
