/- Lines by a program (a changed copy of the kit's print: this repo's wip/tools): Go functions as Lean functions, and proofs that the calls answer so. -/
import Derived.Test.YtdnhpicgjkddbaaZPFnExactStepDownx0
import Derived.Test.YtdnhpicgjkddbaaZPFnExactStepDownx1
import Derived.Test.YtdnhpicgjkddbaaZPFnExactStepDownx2
import Derived.Test.YtdnhpicgjkddbaaZPFnExactStepDownx3
import Derived.Test.YtdnhpicgjkddbaaZPFnExactStepDownx4
import Derived.Test.YtdnhpicgjkddbaaZPFnExactStepDownx5
import Derived.Test.YtdnhpicgjkddbaaZPFnExactStepDownx6
import Derived.Test.YtdnhpicgjkddbaaZPFnExactStepDownx7
import Derived.Test.YtdnhpicgjkddbaaZPFnExactStepDownx8
import Derived.Test.YtdnhpicgjkddbaaZPFnExactStepDownx9
import Derived.Test.YtdnhpicgjkddbaaZPFnExactStepDownx10
import Derived.Test.YtdnhpicgjkddbaaZPFnExactStepDownx11
import Derived.Test.YtdnhpicgjkddbaaZPFnExactStepDownx12
namespace Go.Proofs.Ytdnhpicgjkddbaa.PFnExactStepDown
open Go.RowKit Go.Proofs.YtdnhpicgjkddbaaW.PrintWords Go.Proofs.YtdnhpicgjkddbaaW.PrintLast Go.Proofs.YtdnhpicgjkddbaaW.PrintMore
attribute [local go_sem] max2_int min2_int max_two min_two max_three min_three max_four min_four   -- for this text's walks alone
set_option linter.unusedVariables false
set_option linter.unusedSimpArgs false

end Go.Proofs.Ytdnhpicgjkddbaa.PFnExactStepDown
