/- Lines by a program (a changed copy of the kit's print: this repo's wip/tools): Go functions as Lean functions, and proofs that the calls answer so. -/
import Derived.Test.YtflagondodkonaaZPFnExactMovex0
import Derived.Test.YtflagondodkonaaZPFnExactMovex1
import Derived.Test.YtflagondodkonaaZPFnExactMovex2
import Derived.Test.YtflagondodkonaaZPFnExactMovex3
import Derived.Test.YtflagondodkonaaZPFnExactMovex4
import Derived.Test.YtflagondodkonaaZPFnExactMovex5
import Derived.Test.YtflagondodkonaaZPFnExactMovex6
import Derived.Test.YtflagondodkonaaZPFnExactMovex7
import Derived.Test.YtflagondodkonaaZPFnExactMovex8
import Derived.Test.YtflagondodkonaaZPFnExactMovex9
import Derived.Test.YtflagondodkonaaZPFnExactMovex10
import Derived.Test.YtflagondodkonaaZPFnExactMovex11
import Derived.Test.YtflagondodkonaaZPFnExactMovex12
import Derived.Test.YtflagondodkonaaZPFnExactMovex13
namespace Go.Proofs.Ytflagondodkonaa.PFnExactMove
open Go.RowKit Go.Proofs.YtflagondodkonaaW.PrintWords Go.Proofs.YtflagondodkonaaW.PrintLast Go.Proofs.YtflagondodkonaaW.PrintMore
attribute [local go_sem] max2_int min2_int max_two min_two max_three min_three max_four min_four   -- for this text's walks alone
set_option linter.unusedVariables false
set_option linter.unusedSimpArgs false

end Go.Proofs.Ytflagondodkonaa.PFnExactMove
