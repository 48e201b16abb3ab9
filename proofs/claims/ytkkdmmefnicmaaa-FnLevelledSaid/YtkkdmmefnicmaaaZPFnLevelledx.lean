/- Lines by a program (a changed copy of the kit's print: this repo's wip/tools): Go functions as Lean functions, and proofs that the calls answer so. -/
import Derived.Test.YtkkdmmefnicmaaaZPFnLevelledx0
import Derived.Test.YtkkdmmefnicmaaaZPFnLevelledx1
import Derived.Test.YtkkdmmefnicmaaaZPFnLevelledx2
import Derived.Test.YtkkdmmefnicmaaaZPFnLevelledx3
import Derived.Test.YtkkdmmefnicmaaaZPFnLevelledx4
import Derived.Test.YtkkdmmefnicmaaaZPFnLevelledx5
import Derived.Test.YtkkdmmefnicmaaaZPFnLevelledx6
import Derived.Test.YtkkdmmefnicmaaaZPFnLevelledx7
import Derived.Test.YtkkdmmefnicmaaaZPFnLevelledx8
import Derived.Test.YtkkdmmefnicmaaaZPFnLevelledx9
import Derived.Test.YtkkdmmefnicmaaaZPFnLevelledx10
import Derived.Test.YtkkdmmefnicmaaaZPFnLevelledx11
import Derived.Test.YtkkdmmefnicmaaaZPFnLevelledx12
namespace Go.Proofs.Ytkkdmmefnicmaaa.PFnLevelled
open Go.RowKit Go.Proofs.YtkkdmmefnicmaaaW.PrintWords Go.Proofs.YtkkdmmefnicmaaaW.PrintLast Go.Proofs.YtkkdmmefnicmaaaW.PrintMore
attribute [local go_sem] max2_int min2_int max_two min_two max_three min_three max_four min_four   -- for this text's walks alone
set_option linter.unusedVariables false
set_option linter.unusedSimpArgs false

end Go.Proofs.Ytkkdmmefnicmaaa.PFnLevelled
