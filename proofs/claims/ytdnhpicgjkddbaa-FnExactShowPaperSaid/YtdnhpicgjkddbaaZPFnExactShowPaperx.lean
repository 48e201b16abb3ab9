/- Lines by a program (a changed copy of the kit's print: this repo's wip/tools): Go functions as Lean functions, and proofs that the calls answer so. -/
import Derived.Test.YtdnhpicgjkddbaaZPFnExactShowPaperx0
import Derived.Test.YtdnhpicgjkddbaaZPFnExactShowPaperx1
import Derived.Test.YtdnhpicgjkddbaaZPFnExactShowPaperx2
import Derived.Test.YtdnhpicgjkddbaaZPFnExactShowPaperx3
import Derived.Test.YtdnhpicgjkddbaaZPFnExactShowPaperx4
import Derived.Test.YtdnhpicgjkddbaaZPFnExactShowPaperx5
import Derived.Test.YtdnhpicgjkddbaaZPFnExactShowPaperx6
import Derived.Test.YtdnhpicgjkddbaaZPFnExactShowPaperx7
import Derived.Test.YtdnhpicgjkddbaaZPFnExactShowPaperx8
import Derived.Test.YtdnhpicgjkddbaaZPFnExactShowPaperx9
namespace Go.Proofs.Ytdnhpicgjkddbaa.PFnExactShowPaper
open Go.RowKit Go.Proofs.YtdnhpicgjkddbaaW.PrintWords Go.Proofs.YtdnhpicgjkddbaaW.PrintLast Go.Proofs.YtdnhpicgjkddbaaW.PrintMore
attribute [local go_sem] max2_int min2_int max_two min_two max_three min_three max_four min_four   -- for this text's walks alone
set_option linter.unusedVariables false
set_option linter.unusedSimpArgs false

end Go.Proofs.Ytdnhpicgjkddbaa.PFnExactShowPaper
