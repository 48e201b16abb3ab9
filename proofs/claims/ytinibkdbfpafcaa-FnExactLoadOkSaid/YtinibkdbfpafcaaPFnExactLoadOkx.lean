/- Lines by a program (a changed copy of the kit's print: this repo's wip/tools): Go functions as Lean functions, and proofs that the calls answer so. -/
import Derived.Test.YtinibkdbfpafcaaPFnExactLoadOkx0
import Derived.Test.YtinibkdbfpafcaaPFnExactLoadOkx1
import Derived.Test.YtinibkdbfpafcaaPFnExactLoadOkx2
import Derived.Test.YtinibkdbfpafcaaPFnExactLoadOkx3
import Derived.Test.YtinibkdbfpafcaaPFnExactLoadOkx4
import Derived.Test.YtinibkdbfpafcaaPFnExactLoadOkx5
import Derived.Test.YtinibkdbfpafcaaPFnExactLoadOkx6
namespace Go.Proofs.Ytinibkdbfpafcaa.PFnExactLoadOk
open Go.RowKit Go.Proofs.YtinibkdbfpafcaaW.PrintWords Go.Proofs.YtinibkdbfpafcaaW.PrintLast Go.Proofs.YtinibkdbfpafcaaW.PrintMore
attribute [local go_sem] max2_int min2_int max_two min_two max_three min_three max_four min_four   -- for this text's walks alone
set_option linter.unusedVariables false
set_option linter.unusedSimpArgs false

end Go.Proofs.Ytinibkdbfpafcaa.PFnExactLoadOk
