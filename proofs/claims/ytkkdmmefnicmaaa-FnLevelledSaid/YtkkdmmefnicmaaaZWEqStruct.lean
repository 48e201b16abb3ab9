/- Words of the walks: what this claim's texts name of them, cut out by this repo's wip/tools/claimx.py. -/
import Derived.Test.YtkkdmmefnicmaaaZWWords
import Derived.Laws.StructEq
/-! ### 53. '==' of structs as_ one Bool -/
namespace Go.Proofs.YtkkdmmefnicmaaaW.PrintWords
open Go.RowKit
section
variable {P : Program} {d : Nat} {xs ys : Array Value} {f : Field} {fs : List Field} {a b : Value} {r s : Bool} {w : World}
end
end Go.Proofs.YtkkdmmefnicmaaaW.PrintWords
