/- Lines by a program (a changed copy of the kit's print: this repo's wip/tools): Go functions as Lean functions, and proofs that the calls answer so. -/
import Derived.Test.YtlodndejipjceaaZPFnLandedx0
import Derived.Test.YtlodndejipjceaaZPFnLandedx1
import Derived.Test.YtlodndejipjceaaZPFnLandedx2
import Derived.Test.YtlodndejipjceaaZPFnLandedx3
import Derived.Test.YtlodndejipjceaaZPFnLandedx4
import Derived.Test.YtlodndejipjceaaZPFnLandedx5
import Derived.Test.YtlodndejipjceaaZPFnLandedx6
import Derived.Test.YtlodndejipjceaaZPFnLandedx7
import Derived.Test.YtlodndejipjceaaZPFnLandedx8
import Derived.Test.YtlodndejipjceaaZPFnLandedx9
namespace Go.Proofs.Ytlodndejipjceaa.PFnLanded
open Go.RowKit Go.Proofs.YtlodndejipjceaaW.PrintWords Go.Proofs.YtlodndejipjceaaW.PrintLast Go.Proofs.YtlodndejipjceaaW.PrintMore
attribute [local go_sem] max2_int min2_int max_two min_two max_three min_three max_four min_four   -- for this text's walks alone
set_option linter.unusedVariables false
set_option linter.unusedSimpArgs false

end Go.Proofs.Ytlodndejipjceaa.PFnLanded
