/- Lines by a program (a changed copy of the kit's print: this repo's wip/tools): Go functions as Lean functions, and proofs that the calls answer so. -/
import Derived.Test.YtggfggmmecbdnaaZPFnWorkBackx0
import Derived.Test.YtggfggmmecbdnaaZPFnWorkBackx1
import Derived.Test.YtggfggmmecbdnaaZPFnWorkBackx2
import Derived.Test.YtggfggmmecbdnaaZPFnWorkBackx3
import Derived.Test.YtggfggmmecbdnaaZPFnWorkBackx4
import Derived.Test.YtggfggmmecbdnaaZPFnWorkBackx5
import Derived.Test.YtggfggmmecbdnaaZPFnWorkBackx6
import Derived.Test.YtggfggmmecbdnaaZPFnWorkBackx7
import Derived.Test.YtggfggmmecbdnaaZPFnWorkBackx8
namespace Go.Proofs.Ytggfggmmecbdnaa.PFnWorkBack
open Go.RowKit Go.Proofs.YtggfggmmecbdnaaW.PrintWords Go.Proofs.YtggfggmmecbdnaaW.PrintLast Go.Proofs.YtggfggmmecbdnaaW.PrintMore
attribute [local go_sem] max2_int min2_int max_two min_two max_three min_three max_four min_four   -- for this text's walks alone
set_option linter.unusedVariables false
set_option linter.unusedSimpArgs false

end Go.Proofs.Ytggfggmmecbdnaa.PFnWorkBack
