/- Lines by a program (a changed copy of the kit's print: this repo's wip/tools): Go functions as Lean functions, and proofs that the calls answer so. -/
import Derived.Test.YtlodndejipjceaaZPFnSharedx0
import Derived.Test.YtlodndejipjceaaZPFnSharedx1
import Derived.Test.YtlodndejipjceaaZPFnSharedx2
import Derived.Test.YtlodndejipjceaaZPFnSharedx3
import Derived.Test.YtlodndejipjceaaZPFnSharedx4
import Derived.Test.YtlodndejipjceaaZPFnSharedx5
import Derived.Test.YtlodndejipjceaaZPFnSharedx6
import Derived.Test.YtlodndejipjceaaZPFnSharedx7
import Derived.Test.YtlodndejipjceaaZPFnSharedx8
namespace Go.Proofs.Ytlodndejipjceaa.PFnShared
open Go.RowKit Go.Proofs.YtlodndejipjceaaW.PrintWords Go.Proofs.YtlodndejipjceaaW.PrintLast Go.Proofs.YtlodndejipjceaaW.PrintMore
attribute [local go_sem] max2_int min2_int max_two min_two max_three min_three max_four min_four   -- for this text's walks alone
set_option linter.unusedVariables false
set_option linter.unusedSimpArgs false

end Go.Proofs.Ytlodndejipjceaa.PFnShared
