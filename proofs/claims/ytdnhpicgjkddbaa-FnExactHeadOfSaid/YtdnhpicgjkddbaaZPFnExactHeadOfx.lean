/- Lines by a program (a changed copy of the kit's print: this repo's wip/tools): Go functions as Lean functions, and proofs that the calls answer so. -/
import Derived.Test.YtdnhpicgjkddbaaZPFnExactHeadOfx0
import Derived.Test.YtdnhpicgjkddbaaZPFnExactHeadOfx1
import Derived.Test.YtdnhpicgjkddbaaZPFnExactHeadOfx2
import Derived.Test.YtdnhpicgjkddbaaZPFnExactHeadOfx3
import Derived.Test.YtdnhpicgjkddbaaZPFnExactHeadOfx4
import Derived.Test.YtdnhpicgjkddbaaZPFnExactHeadOfx5
namespace Go.Proofs.Ytdnhpicgjkddbaa.PFnExactHeadOf
open Go.RowKit Go.Proofs.YtdnhpicgjkddbaaW.PrintWords Go.Proofs.YtdnhpicgjkddbaaW.PrintLast Go.Proofs.YtdnhpicgjkddbaaW.PrintMore
attribute [local go_sem] max2_int min2_int max_two min_two max_three min_three max_four min_four   -- for this text's walks alone
set_option linter.unusedVariables false
set_option linter.unusedSimpArgs false

end Go.Proofs.Ytdnhpicgjkddbaa.PFnExactHeadOf
