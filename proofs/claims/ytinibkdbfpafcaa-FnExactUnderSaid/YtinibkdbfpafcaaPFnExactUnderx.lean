/- Lines by a program (a changed copy of the kit's print: this repo's wip/tools): Go functions as Lean functions, and proofs that the calls answer so. -/
import Derived.Test.YtinibkdbfpafcaaPFnExactUnderx0
import Derived.Test.YtinibkdbfpafcaaPFnExactUnderx1
import Derived.Test.YtinibkdbfpafcaaPFnExactUnderx2
import Derived.Test.YtinibkdbfpafcaaPFnExactUnderx3
import Derived.Test.YtinibkdbfpafcaaPFnExactUnderx4
import Derived.Test.YtinibkdbfpafcaaPFnExactUnderx5
import Derived.Test.YtinibkdbfpafcaaPFnExactUnderx6
import Derived.Test.YtinibkdbfpafcaaPFnExactUnderx7
import Derived.Test.YtinibkdbfpafcaaPFnExactUnderx8
namespace Go.Proofs.Ytinibkdbfpafcaa.PFnExactUnder
open Go.RowKit Go.Proofs.YtinibkdbfpafcaaW.PrintWords Go.Proofs.YtinibkdbfpafcaaW.PrintLast Go.Proofs.YtinibkdbfpafcaaW.PrintMore
attribute [local go_sem] max2_int min2_int max_two min_two max_three min_three max_four min_four   -- for this text's walks alone
set_option linter.unusedVariables false
set_option linter.unusedSimpArgs false

end Go.Proofs.Ytinibkdbfpafcaa.PFnExactUnder
