/- Lines by a program (a changed copy of the kit's print: this repo's wip/tools): Go functions as Lean functions, and proofs that the calls answer so. -/
import Derived.Test.YtdnenglafphkbaaDoorZPFnPeriodsWholex0
import Derived.Test.YtdnenglafphkbaaDoorZPFnPeriodsWholex1
import Derived.Test.YtdnenglafphkbaaDoorZPFnPeriodsWholex2
import Derived.Test.YtdnenglafphkbaaDoorZPFnPeriodsWholex3
import Derived.Test.YtdnenglafphkbaaDoorZPFnPeriodsWholex4
import Derived.Test.YtdnenglafphkbaaDoorZPFnPeriodsWholex5
import Derived.Test.YtdnenglafphkbaaDoorZPFnPeriodsWholex6
import Derived.Test.YtdnenglafphkbaaDoorZPFnPeriodsWholex7
import Derived.Test.YtdnenglafphkbaaDoorZPFnPeriodsWholex8
namespace Go.Proofs.YtdnenglafphkbaaDoor.PFnPeriodsWhole
open Go.RowKit Go.Proofs.YtdnenglafphkbaaDoorW.PrintWords Go.Proofs.YtdnenglafphkbaaDoorW.PrintLast Go.Proofs.YtdnenglafphkbaaDoorW.PrintMore
attribute [local go_sem] max2_int min2_int max_two min_two max_three min_three max_four min_four   -- for this text's walks alone
set_option linter.unusedVariables false
set_option linter.unusedSimpArgs false

end Go.Proofs.YtdnenglafphkbaaDoor.PFnPeriodsWhole
