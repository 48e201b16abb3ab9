/- Lines by a program (a changed copy of the kit's print: this repo's wip/tools): Go functions as Lean functions, and proofs that the calls answer so. -/
import Derived.Test.YtkkdmmefnicmaaaZPFnExactWriteBankx0
import Derived.Test.YtkkdmmefnicmaaaZPFnExactWriteBankx1
import Derived.Test.YtkkdmmefnicmaaaZPFnExactWriteBankx2
import Derived.Test.YtkkdmmefnicmaaaZPFnExactWriteBankx3
import Derived.Test.YtkkdmmefnicmaaaZPFnExactWriteBankx4
import Derived.Test.YtkkdmmefnicmaaaZPFnExactWriteBankx5
import Derived.Test.YtkkdmmefnicmaaaZPFnExactWriteBankx6
import Derived.Test.YtkkdmmefnicmaaaZPFnExactWriteBankx7
import Derived.Test.YtkkdmmefnicmaaaZPFnExactWriteBankx8
import Derived.Test.YtkkdmmefnicmaaaZPFnExactWriteBankx9
import Derived.Test.YtkkdmmefnicmaaaZPFnExactWriteBankx10
import Derived.Test.YtkkdmmefnicmaaaZPFnExactWriteBankx11
import Derived.Test.YtkkdmmefnicmaaaZPFnExactWriteBankx12
namespace Go.Proofs.Ytkkdmmefnicmaaa.PFnExactWriteBank
open Go.RowKit Go.Proofs.YtkkdmmefnicmaaaW.PrintWords Go.Proofs.YtkkdmmefnicmaaaW.PrintLast Go.Proofs.YtkkdmmefnicmaaaW.PrintMore
attribute [local go_sem] max2_int min2_int max_two min_two max_three min_three max_four min_four   -- for this text's walks alone
set_option linter.unusedVariables false
set_option linter.unusedSimpArgs false

end Go.Proofs.Ytkkdmmefnicmaaa.PFnExactWriteBank
