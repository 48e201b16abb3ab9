/- Lines by a program (a changed copy of the kit's print: this repo's wip/tools): Go functions as Lean functions, and proofs that the calls answer so. -/
import Derived.Test.YtkkdmmefnicmaaaZPFnChainedx0
import Derived.Test.YtkkdmmefnicmaaaZPFnChainedx1
import Derived.Test.YtkkdmmefnicmaaaZPFnChainedx2
import Derived.Test.YtkkdmmefnicmaaaZPFnChainedx3
import Derived.Test.YtkkdmmefnicmaaaZPFnChainedx4
import Derived.Test.YtkkdmmefnicmaaaZPFnChainedx5
import Derived.Test.YtkkdmmefnicmaaaZPFnChainedx6
import Derived.Test.YtkkdmmefnicmaaaZPFnChainedx7
import Derived.Test.YtkkdmmefnicmaaaZPFnChainedx8
import Derived.Test.YtkkdmmefnicmaaaZPFnChainedx9
import Derived.Test.YtkkdmmefnicmaaaZPFnChainedx10
import Derived.Test.YtkkdmmefnicmaaaZPFnChainedx11
import Derived.Test.YtkkdmmefnicmaaaZPFnChainedx12
namespace Go.Proofs.Ytkkdmmefnicmaaa.PFnChained
open Go.RowKit Go.Proofs.YtkkdmmefnicmaaaW.PrintWords Go.Proofs.YtkkdmmefnicmaaaW.PrintLast Go.Proofs.YtkkdmmefnicmaaaW.PrintMore
attribute [local go_sem] max2_int min2_int max_two min_two max_three min_three max_four min_four   -- for this text's walks alone
set_option linter.unusedVariables false
set_option linter.unusedSimpArgs false

end Go.Proofs.Ytkkdmmefnicmaaa.PFnChained
