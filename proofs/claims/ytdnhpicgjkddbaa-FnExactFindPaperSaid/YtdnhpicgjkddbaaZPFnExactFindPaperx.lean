/- Lines by a program (a changed copy of the kit's print: this repo's wip/tools): Go functions as Lean functions, and proofs that the calls answer so. -/
import Derived.Test.YtdnhpicgjkddbaaZPFnExactFindPaperx0
import Derived.Test.YtdnhpicgjkddbaaZPFnExactFindPaperx1
import Derived.Test.YtdnhpicgjkddbaaZPFnExactFindPaperx2
import Derived.Test.YtdnhpicgjkddbaaZPFnExactFindPaperx3
import Derived.Test.YtdnhpicgjkddbaaZPFnExactFindPaperx4
import Derived.Test.YtdnhpicgjkddbaaZPFnExactFindPaperx5
import Derived.Test.YtdnhpicgjkddbaaZPFnExactFindPaperx6
import Derived.Test.YtdnhpicgjkddbaaZPFnExactFindPaperx7
import Derived.Test.YtdnhpicgjkddbaaZPFnExactFindPaperx8
import Derived.Test.YtdnhpicgjkddbaaZPFnExactFindPaperx9
namespace Go.Proofs.Ytdnhpicgjkddbaa.PFnExactFindPaper
open Go.RowKit Go.Proofs.YtdnhpicgjkddbaaW.PrintWords Go.Proofs.YtdnhpicgjkddbaaW.PrintLast Go.Proofs.YtdnhpicgjkddbaaW.PrintMore
attribute [local go_sem] max2_int min2_int max_two min_two max_three min_three max_four min_four   -- for this text's walks alone
set_option linter.unusedVariables false
set_option linter.unusedSimpArgs false

end Go.Proofs.Ytdnhpicgjkddbaa.PFnExactFindPaper
