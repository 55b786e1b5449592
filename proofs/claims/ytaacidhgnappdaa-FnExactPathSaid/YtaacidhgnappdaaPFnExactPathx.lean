-- Written by a program of this workplace (wip/mp.py) out of the translation.
import Derived.Test.YtaacidhgnappdaaPFnExactPathx0
import Derived.Test.YtaacidhgnappdaaPFnExactPathx1
import Derived.Test.YtaacidhgnappdaaPFnExactPathx2
import Derived.Test.YtaacidhgnappdaaPFnExactPathx3
import Derived.Test.YtaacidhgnappdaaPFnExactPathx4
import Derived.Test.YtaacidhgnappdaaPFnExactPathx5
import Derived.Test.YtaacidhgnappdaaPFnExactPathx6
import Derived.Test.YtaacidhgnappdaaPFnExactPathx7
import Derived.Test.YtaacidhgnappdaaPFnExactPathx8
namespace Go.Proofs.Ytaacidhgnappdaa.PFnExactPath
open Go.RowKit Go.Proofs.YtaacidhgnappdaaW.PrintWords Go.Proofs.YtaacidhgnappdaaW.PrintLast Go.Proofs.YtaacidhgnappdaaW.PrintMore
attribute [local go_sem] max2_int min2_int max_two min_two max_three min_three max_four min_four   -- for this text's walks alone
set_option linter.unusedVariables false
set_option linter.unusedSimpArgs false

end Go.Proofs.Ytaacidhgnappdaa.PFnExactPath
