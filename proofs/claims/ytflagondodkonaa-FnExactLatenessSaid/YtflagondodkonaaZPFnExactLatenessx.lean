/- Lines by a program (a changed copy of the kit's print: this repo's wip/tools): Go functions as Lean functions, and proofs that the calls answer so. -/
import Derived.Test.YtflagondodkonaaZPFnExactLatenessx0
import Derived.Test.YtflagondodkonaaZPFnExactLatenessx1
import Derived.Test.YtflagondodkonaaZPFnExactLatenessx2
import Derived.Test.YtflagondodkonaaZPFnExactLatenessx3
import Derived.Test.YtflagondodkonaaZPFnExactLatenessx4
import Derived.Test.YtflagondodkonaaZPFnExactLatenessx5
import Derived.Test.YtflagondodkonaaZPFnExactLatenessx6
import Derived.Test.YtflagondodkonaaZPFnExactLatenessx7
import Derived.Test.YtflagondodkonaaZPFnExactLatenessx8
namespace Go.Proofs.Ytflagondodkonaa.PFnExactLateness
open Go.RowKit Go.Proofs.YtflagondodkonaaW.PrintWords Go.Proofs.YtflagondodkonaaW.PrintLast Go.Proofs.YtflagondodkonaaW.PrintMore
attribute [local go_sem] max2_int min2_int max_two min_two max_three min_three max_four min_four   -- for this text's walks alone
set_option linter.unusedVariables false
set_option linter.unusedSimpArgs false

end Go.Proofs.Ytflagondodkonaa.PFnExactLateness
