/- Lines by a program (a changed copy of the kit's print: this repo's wip/tools): Go functions as Lean functions, and proofs that the calls answer so. -/
import Derived.Test.YtdnenglafphkbaaDoorZPFnExactPeriodsx0
import Derived.Test.YtdnenglafphkbaaDoorZPFnExactPeriodsx1
import Derived.Test.YtdnenglafphkbaaDoorZPFnExactPeriodsx2
import Derived.Test.YtdnenglafphkbaaDoorZPFnExactPeriodsx3
import Derived.Test.YtdnenglafphkbaaDoorZPFnExactPeriodsx4
import Derived.Test.YtdnenglafphkbaaDoorZPFnExactPeriodsx5
import Derived.Test.YtdnenglafphkbaaDoorZPFnExactPeriodsx6
import Derived.Test.YtdnenglafphkbaaDoorZPFnExactPeriodsx7
namespace Go.Proofs.YtdnenglafphkbaaDoor.PFnExactPeriods
open Go.RowKit Go.Proofs.YtdnenglafphkbaaDoorW.PrintWords Go.Proofs.YtdnenglafphkbaaDoorW.PrintLast Go.Proofs.YtdnenglafphkbaaDoorW.PrintMore
attribute [local go_sem] max2_int min2_int max_two min_two max_three min_three max_four min_four   -- for this text's walks alone
set_option linter.unusedVariables false
set_option linter.unusedSimpArgs false

end Go.Proofs.YtdnenglafphkbaaDoor.PFnExactPeriods
