/- Lines by a program (a changed copy of the kit's print: this repo's wip/tools): Go functions as Lean functions, and proofs that the calls answer so. -/
import Derived.Test.YtlodndejipjceaaZPFnExactProposex0
import Derived.Test.YtlodndejipjceaaZPFnExactProposex1
import Derived.Test.YtlodndejipjceaaZPFnExactProposex2
import Derived.Test.YtlodndejipjceaaZPFnExactProposex3
import Derived.Test.YtlodndejipjceaaZPFnExactProposex4
import Derived.Test.YtlodndejipjceaaZPFnExactProposex5
import Derived.Test.YtlodndejipjceaaZPFnExactProposex6
import Derived.Test.YtlodndejipjceaaZPFnExactProposex7
import Derived.Test.YtlodndejipjceaaZPFnExactProposex8
import Derived.Test.YtlodndejipjceaaZPFnExactProposex9
namespace Go.Proofs.Ytlodndejipjceaa.PFnExactPropose
open Go.RowKit Go.Proofs.YtlodndejipjceaaW.PrintWords Go.Proofs.YtlodndejipjceaaW.PrintLast Go.Proofs.YtlodndejipjceaaW.PrintMore
attribute [local go_sem] max2_int min2_int max_two min_two max_three min_three max_four min_four   -- for this text's walks alone
set_option linter.unusedVariables false
set_option linter.unusedSimpArgs false

end Go.Proofs.Ytlodndejipjceaa.PFnExactPropose
