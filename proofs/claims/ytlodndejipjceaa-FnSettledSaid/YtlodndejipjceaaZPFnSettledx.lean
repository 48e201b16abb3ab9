/- Lines by a program (a changed copy of the kit's print: this repo's wip/tools): Go functions as Lean functions, and proofs that the calls answer so. -/
import Derived.Test.YtlodndejipjceaaZPFnSettledx0
import Derived.Test.YtlodndejipjceaaZPFnSettledx1
import Derived.Test.YtlodndejipjceaaZPFnSettledx2
import Derived.Test.YtlodndejipjceaaZPFnSettledx3
import Derived.Test.YtlodndejipjceaaZPFnSettledx4
import Derived.Test.YtlodndejipjceaaZPFnSettledx5
import Derived.Test.YtlodndejipjceaaZPFnSettledx6
import Derived.Test.YtlodndejipjceaaZPFnSettledx7
import Derived.Test.YtlodndejipjceaaZPFnSettledx8
namespace Go.Proofs.Ytlodndejipjceaa.PFnSettled
open Go.RowKit Go.Proofs.YtlodndejipjceaaW.PrintWords Go.Proofs.YtlodndejipjceaaW.PrintLast Go.Proofs.YtlodndejipjceaaW.PrintMore
attribute [local go_sem] max2_int min2_int max_two min_two max_three min_three max_four min_four   -- for this text's walks alone
set_option linter.unusedVariables false
set_option linter.unusedSimpArgs false

end Go.Proofs.Ytlodndejipjceaa.PFnSettled
