/- Lines by a program (a changed copy of the kit's print: this repo's wip/tools): Go functions as Lean functions, and proofs that the calls answer so. -/
import Derived.Test.YtdnhpicgjkddbaaZPFnExactAllotx0
import Derived.Test.YtdnhpicgjkddbaaZPFnExactAllotx1
import Derived.Test.YtdnhpicgjkddbaaZPFnExactAllotx2
import Derived.Test.YtdnhpicgjkddbaaZPFnExactAllotx3
import Derived.Test.YtdnhpicgjkddbaaZPFnExactAllotx4
import Derived.Test.YtdnhpicgjkddbaaZPFnExactAllotx5
import Derived.Test.YtdnhpicgjkddbaaZPFnExactAllotx6
import Derived.Test.YtdnhpicgjkddbaaZPFnExactAllotx7
import Derived.Test.YtdnhpicgjkddbaaZPFnExactAllotx8
import Derived.Test.YtdnhpicgjkddbaaZPFnExactAllotx9
import Derived.Test.YtdnhpicgjkddbaaZPFnExactAllotx10
import Derived.Test.YtdnhpicgjkddbaaZPFnExactAllotx11
import Derived.Test.YtdnhpicgjkddbaaZPFnExactAllotx12
namespace Go.Proofs.Ytdnhpicgjkddbaa.PFnExactAllot
open Go.RowKit Go.Proofs.YtdnhpicgjkddbaaW.PrintWords Go.Proofs.YtdnhpicgjkddbaaW.PrintLast Go.Proofs.YtdnhpicgjkddbaaW.PrintMore
attribute [local go_sem] max2_int min2_int max_two min_two max_three min_three max_four min_four   -- for this text's walks alone
set_option linter.unusedVariables false
set_option linter.unusedSimpArgs false

end Go.Proofs.Ytdnhpicgjkddbaa.PFnExactAllot
