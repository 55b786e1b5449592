-- Written by a program of this workplace (wip/mp.py) out of the translation.
import Derived.Test.YtaacidhgnappdaaPFnExactTreeRootx0
import Derived.Test.YtaacidhgnappdaaPFnExactTreeRootx1
import Derived.Test.YtaacidhgnappdaaPFnExactTreeRootx2
import Derived.Test.YtaacidhgnappdaaPFnExactTreeRootx3
import Derived.Test.YtaacidhgnappdaaPFnExactTreeRootx4
import Derived.Test.YtaacidhgnappdaaPFnExactTreeRootx5
import Derived.Test.YtaacidhgnappdaaPFnExactTreeRootx6
import Derived.Test.YtaacidhgnappdaaPFnExactTreeRootx7
namespace Go.Proofs.Ytaacidhgnappdaa.PFnExactTreeRoot
open Go.RowKit Go.Proofs.YtaacidhgnappdaaW.PrintWords Go.Proofs.YtaacidhgnappdaaW.PrintLast Go.Proofs.YtaacidhgnappdaaW.PrintMore
attribute [local go_sem] max2_int min2_int max_two min_two max_three min_three max_four min_four   -- for this text's walks alone
set_option linter.unusedVariables false
set_option linter.unusedSimpArgs false

end Go.Proofs.Ytaacidhgnappdaa.PFnExactTreeRoot
