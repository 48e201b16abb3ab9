/- Lines by a program (a changed copy of the kit's print: this repo's wip/tools): Go functions as Lean functions, and proofs that the calls answer so. -/
import Derived.Test.YtdnenglafphkbaaZPFnExactQtyInx0
import Derived.Test.YtdnenglafphkbaaZPFnExactQtyInx1
import Derived.Test.YtdnenglafphkbaaZPFnExactQtyInx2
import Derived.Test.YtdnenglafphkbaaZPFnExactQtyInx3
import Derived.Test.YtdnenglafphkbaaZPFnExactQtyInx4
import Derived.Test.YtdnenglafphkbaaZPFnExactQtyInx5
import Derived.Test.YtdnenglafphkbaaZPFnExactQtyInx6
import Derived.Test.YtdnenglafphkbaaZPFnExactQtyInx7
import Derived.Test.YtdnenglafphkbaaZPFnExactQtyInx8
namespace Go.Proofs.Ytdnenglafphkbaa.PFnExactQtyIn
open Go.RowKit Go.Proofs.YtdnenglafphkbaaW.PrintWords Go.Proofs.YtdnenglafphkbaaW.PrintLast Go.Proofs.YtdnenglafphkbaaW.PrintMore
attribute [local go_sem] max2_int min2_int max_two min_two max_three min_three max_four min_four   -- for this text's walks alone
set_option linter.unusedVariables false
set_option linter.unusedSimpArgs false

end Go.Proofs.Ytdnenglafphkbaa.PFnExactQtyIn
