/- Words of the walks: what this claim's texts name of them, cut out by this repo's wip/tools/claimx.py. -/
import Derived.Test.YtkkdmmefnicmaaaZWInv
import Derived.Test.YtkkdmmefnicmaaaZWFootNe
namespace Go.Proofs.YtkkdmmefnicmaaaW.PrintWords
open Go.RowKit
end Go.Proofs.YtkkdmmefnicmaaaW.PrintWords
namespace Go.Proofs.YtkkdmmefnicmaaaW.PrintLast
section
variable {ops : Array Oper} {a : Act} {o og : Oper} {g : Nat} {t : Tmp} {u : Bool}
end
end Go.Proofs.YtkkdmmefnicmaaaW.PrintLast
