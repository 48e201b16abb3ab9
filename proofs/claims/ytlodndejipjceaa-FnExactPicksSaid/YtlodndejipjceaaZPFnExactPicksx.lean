/- Lines by a program (a changed copy of the kit's print: this repo's wip/tools): Go functions as Lean functions, and proofs that the calls answer so. -/
import Derived.Test.YtlodndejipjceaaZPFnExactPicksx0
import Derived.Test.YtlodndejipjceaaZPFnExactPicksx1
import Derived.Test.YtlodndejipjceaaZPFnExactPicksx2
import Derived.Test.YtlodndejipjceaaZPFnExactPicksx3
import Derived.Test.YtlodndejipjceaaZPFnExactPicksx4
import Derived.Test.YtlodndejipjceaaZPFnExactPicksx5
import Derived.Test.YtlodndejipjceaaZPFnExactPicksx6
import Derived.Test.YtlodndejipjceaaZPFnExactPicksx7
import Derived.Test.YtlodndejipjceaaZPFnExactPicksx8
import Derived.Test.YtlodndejipjceaaZPFnExactPicksx9
import Derived.Test.YtlodndejipjceaaZPFnExactPicksx10
import Derived.Test.YtlodndejipjceaaZPFnExactPicksx11
namespace Go.Proofs.Ytlodndejipjceaa.PFnExactPicks
open Go.RowKit Go.Proofs.YtlodndejipjceaaW.PrintWords Go.Proofs.YtlodndejipjceaaW.PrintLast Go.Proofs.YtlodndejipjceaaW.PrintMore
attribute [local go_sem] max2_int min2_int max_two min_two max_three min_three max_four min_four   -- for this text's walks alone
set_option linter.unusedVariables false
set_option linter.unusedSimpArgs false

end Go.Proofs.Ytlodndejipjceaa.PFnExactPicks
