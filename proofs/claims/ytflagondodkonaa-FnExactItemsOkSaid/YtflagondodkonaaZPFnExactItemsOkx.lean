/- Lines by a program (a changed copy of the kit's print: this repo's wip/tools): Go functions as Lean functions, and proofs that the calls answer so. -/
import Derived.Test.YtflagondodkonaaZPFnExactItemsOkx0
import Derived.Test.YtflagondodkonaaZPFnExactItemsOkx1
import Derived.Test.YtflagondodkonaaZPFnExactItemsOkx2
import Derived.Test.YtflagondodkonaaZPFnExactItemsOkx3
import Derived.Test.YtflagondodkonaaZPFnExactItemsOkx4
import Derived.Test.YtflagondodkonaaZPFnExactItemsOkx5
import Derived.Test.YtflagondodkonaaZPFnExactItemsOkx6
import Derived.Test.YtflagondodkonaaZPFnExactItemsOkx7
import Derived.Test.YtflagondodkonaaZPFnExactItemsOkx8
import Derived.Test.YtflagondodkonaaZPFnExactItemsOkx9
import Derived.Test.YtflagondodkonaaZPFnExactItemsOkx10
namespace Go.Proofs.Ytflagondodkonaa.PFnExactItemsOk
open Go.RowKit Go.Proofs.YtflagondodkonaaW.PrintWords Go.Proofs.YtflagondodkonaaW.PrintLast Go.Proofs.YtflagondodkonaaW.PrintMore
attribute [local go_sem] max2_int min2_int max_two min_two max_three min_three max_four min_four   -- for this text's walks alone
set_option linter.unusedVariables false
set_option linter.unusedSimpArgs false

end Go.Proofs.Ytflagondodkonaa.PFnExactItemsOk
