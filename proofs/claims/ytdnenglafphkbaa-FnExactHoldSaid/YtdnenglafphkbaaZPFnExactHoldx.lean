/- Lines by a program (a changed copy of the kit's print: this repo's wip/tools): Go functions as Lean functions, and proofs that the calls answer so. -/
import Derived.Test.YtdnenglafphkbaaZPFnExactHoldx0
import Derived.Test.YtdnenglafphkbaaZPFnExactHoldx1
import Derived.Test.YtdnenglafphkbaaZPFnExactHoldx2
import Derived.Test.YtdnenglafphkbaaZPFnExactHoldx3
import Derived.Test.YtdnenglafphkbaaZPFnExactHoldx4
import Derived.Test.YtdnenglafphkbaaZPFnExactHoldx5
import Derived.Test.YtdnenglafphkbaaZPFnExactHoldx6
import Derived.Test.YtdnenglafphkbaaZPFnExactHoldx7
import Derived.Test.YtdnenglafphkbaaZPFnExactHoldx8
import Derived.Test.YtdnenglafphkbaaZPFnExactHoldx9
import Derived.Test.YtdnenglafphkbaaZPFnExactHoldx10
import Derived.Test.YtdnenglafphkbaaZPFnExactHoldx11
namespace Go.Proofs.Ytdnenglafphkbaa.PFnExactHold
open Go.RowKit Go.Proofs.YtdnenglafphkbaaW.PrintWords Go.Proofs.YtdnenglafphkbaaW.PrintLast Go.Proofs.YtdnenglafphkbaaW.PrintMore
attribute [local go_sem] max2_int min2_int max_two min_two max_three min_three max_four min_four   -- for this text's walks alone
set_option linter.unusedVariables false
set_option linter.unusedSimpArgs false

end Go.Proofs.Ytdnenglafphkbaa.PFnExactHold
