/- Lines by a program (a changed copy of the kit's print: this repo's wip/tools): Go functions as Lean functions, and proofs that the calls answer so. -/
import Derived.Test.YtdnenglafphkbaaZPFnExactShipx0
import Derived.Test.YtdnenglafphkbaaZPFnExactShipx1
import Derived.Test.YtdnenglafphkbaaZPFnExactShipx2
import Derived.Test.YtdnenglafphkbaaZPFnExactShipx3
import Derived.Test.YtdnenglafphkbaaZPFnExactShipx4
import Derived.Test.YtdnenglafphkbaaZPFnExactShipx5
import Derived.Test.YtdnenglafphkbaaZPFnExactShipx6
import Derived.Test.YtdnenglafphkbaaZPFnExactShipx7
import Derived.Test.YtdnenglafphkbaaZPFnExactShipx8
import Derived.Test.YtdnenglafphkbaaZPFnExactShipx9
import Derived.Test.YtdnenglafphkbaaZPFnExactShipx10
namespace Go.Proofs.Ytdnenglafphkbaa.PFnExactShip
open Go.RowKit Go.Proofs.YtdnenglafphkbaaW.PrintWords Go.Proofs.YtdnenglafphkbaaW.PrintLast Go.Proofs.YtdnenglafphkbaaW.PrintMore
attribute [local go_sem] max2_int min2_int max_two min_two max_three min_three max_four min_four   -- for this text's walks alone
set_option linter.unusedVariables false
set_option linter.unusedSimpArgs false

end Go.Proofs.Ytdnenglafphkbaa.PFnExactShip
