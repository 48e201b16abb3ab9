-- Written by a changed copy of the kit's print (this repo's wip/tools/mkprint.py, p2.py): not a file of print.sh.
import Derived.Test.YtiamlcnmjicpaaaPFnExactBalancex0
import Derived.Test.YtiamlcnmjicpaaaPFnExactBalancex1
import Derived.Test.YtiamlcnmjicpaaaPFnExactBalancex2
import Derived.Test.YtiamlcnmjicpaaaPFnExactBalancex3
import Derived.Test.YtiamlcnmjicpaaaPFnExactBalancex4
import Derived.Test.YtiamlcnmjicpaaaPFnExactBalancex5
import Derived.Test.YtiamlcnmjicpaaaPFnExactBalancex6
import Derived.Test.YtiamlcnmjicpaaaPFnExactBalancex7
namespace Go.Proofs.Ytiamlcnmjicpaaa.PFnExactBalance
open Go.RowKit Go.Proofs.YtiamlcnmjicpaaaW.PrintWords Go.Proofs.YtiamlcnmjicpaaaW.PrintLast Go.Proofs.YtiamlcnmjicpaaaW.PrintMore
attribute [local go_sem] max2_int min2_int max_two min_two max_three min_three max_four min_four   -- for this text's walks alone
set_option linter.unusedVariables false
set_option linter.unusedSimpArgs false

end Go.Proofs.Ytiamlcnmjicpaaa.PFnExactBalance
