/- Lines by a program (a changed copy of the kit's print: this repo's wip/tools): Go functions as Lean functions, and proofs that the calls answer so. -/
import Derived.Test.YtinibkdbfpafcaaZPFnMovedx0
import Derived.Test.YtinibkdbfpafcaaZPFnMovedx1
import Derived.Test.YtinibkdbfpafcaaZPFnMovedx2
import Derived.Test.YtinibkdbfpafcaaZPFnMovedx3
import Derived.Test.YtinibkdbfpafcaaZPFnMovedx4
import Derived.Test.YtinibkdbfpafcaaZPFnMovedx5
import Derived.Test.YtinibkdbfpafcaaZPFnMovedx6
import Derived.Test.YtinibkdbfpafcaaZPFnMovedx7
import Derived.Test.YtinibkdbfpafcaaZPFnMovedx8
import Derived.Test.YtinibkdbfpafcaaZPFnMovedx9
import Derived.Test.YtinibkdbfpafcaaZPFnMovedx10
import Derived.Test.YtinibkdbfpafcaaZPFnMovedx11
import Derived.Test.YtinibkdbfpafcaaZPFnMovedx12
import Derived.Test.YtinibkdbfpafcaaZPFnMovedx13
namespace Go.Proofs.Ytinibkdbfpafcaa.PFnMoved
open Go.RowKit Go.Proofs.YtinibkdbfpafcaaW.PrintWords Go.Proofs.YtinibkdbfpafcaaW.PrintLast Go.Proofs.YtinibkdbfpafcaaW.PrintMore
attribute [local go_sem] max2_int min2_int max_two min_two max_three min_three max_four min_four   -- for this text's walks alone
set_option linter.unusedVariables false
set_option linter.unusedSimpArgs false

end Go.Proofs.Ytinibkdbfpafcaa.PFnMoved
