/- Lines by a program (a changed copy of the kit's print: this repo's wip/tools): Go functions as Lean functions, and proofs that the calls answer so. -/
import Derived.Test.YtiamlcnmjicpaaaPFnExactPeopleOkx0
import Derived.Test.YtiamlcnmjicpaaaPFnExactPeopleOkx1
import Derived.Test.YtiamlcnmjicpaaaPFnExactPeopleOkx2
import Derived.Test.YtiamlcnmjicpaaaPFnExactPeopleOkx3
import Derived.Test.YtiamlcnmjicpaaaPFnExactPeopleOkx4
import Derived.Test.YtiamlcnmjicpaaaPFnExactPeopleOkx5
import Derived.Test.YtiamlcnmjicpaaaPFnExactPeopleOkx6
namespace Go.Proofs.Ytiamlcnmjicpaaa.PFnExactPeopleOk
open Go.RowKit Go.Proofs.YtiamlcnmjicpaaaW.PrintWords Go.Proofs.YtiamlcnmjicpaaaW.PrintLast Go.Proofs.YtiamlcnmjicpaaaW.PrintMore
attribute [local go_sem] max2_int min2_int max_two min_two max_three min_three max_four min_four   -- for this text's walks alone
set_option linter.unusedVariables false
set_option linter.unusedSimpArgs false

end Go.Proofs.Ytiamlcnmjicpaaa.PFnExactPeopleOk
