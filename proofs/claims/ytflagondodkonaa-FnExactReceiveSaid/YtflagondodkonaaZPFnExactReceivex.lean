/- Lines by a program (a changed copy of the kit's print: this repo's wip/tools): Go functions as Lean functions, and proofs that the calls answer so. -/
import Derived.Test.YtflagondodkonaaZPFnExactReceivex0
import Derived.Test.YtflagondodkonaaZPFnExactReceivex1
import Derived.Test.YtflagondodkonaaZPFnExactReceivex2
import Derived.Test.YtflagondodkonaaZPFnExactReceivex3
import Derived.Test.YtflagondodkonaaZPFnExactReceivex4
import Derived.Test.YtflagondodkonaaZPFnExactReceivex5
import Derived.Test.YtflagondodkonaaZPFnExactReceivex6
import Derived.Test.YtflagondodkonaaZPFnExactReceivex7
import Derived.Test.YtflagondodkonaaZPFnExactReceivex8
import Derived.Test.YtflagondodkonaaZPFnExactReceivex9
import Derived.Test.YtflagondodkonaaZPFnExactReceivex10
import Derived.Test.YtflagondodkonaaZPFnExactReceivex11
import Derived.Test.YtflagondodkonaaZPFnExactReceivex12
import Derived.Test.YtflagondodkonaaZPFnExactReceivex13
namespace Go.Proofs.Ytflagondodkonaa.PFnExactReceive
open Go.RowKit Go.Proofs.YtflagondodkonaaW.PrintWords Go.Proofs.YtflagondodkonaaW.PrintLast Go.Proofs.YtflagondodkonaaW.PrintMore
attribute [local go_sem] max2_int min2_int max_two min_two max_three min_three max_four min_four   -- for this text's walks alone
set_option linter.unusedVariables false
set_option linter.unusedSimpArgs false

end Go.Proofs.Ytflagondodkonaa.PFnExactReceive
