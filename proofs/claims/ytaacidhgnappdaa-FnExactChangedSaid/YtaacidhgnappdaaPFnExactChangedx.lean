-- Written by a program of this workplace (wip/mp.py) out of the translation.
import Derived.Test.YtaacidhgnappdaaPFnExactChangedx0
import Derived.Test.YtaacidhgnappdaaPFnExactChangedx1
import Derived.Test.YtaacidhgnappdaaPFnExactChangedx2
import Derived.Test.YtaacidhgnappdaaPFnExactChangedx3
import Derived.Test.YtaacidhgnappdaaPFnExactChangedx4
import Derived.Test.YtaacidhgnappdaaPFnExactChangedx5
import Derived.Test.YtaacidhgnappdaaPFnExactChangedx6
import Derived.Test.YtaacidhgnappdaaPFnExactChangedx7
namespace Go.Proofs.Ytaacidhgnappdaa.PFnExactChanged
open Go.RowKit Go.Proofs.YtaacidhgnappdaaW.PrintWords Go.Proofs.YtaacidhgnappdaaW.PrintLast Go.Proofs.YtaacidhgnappdaaW.PrintMore Go.Proofs.Ytaacidhgnappdaa.Slim
attribute [local go_sem] max2_int min2_int max_two min_two max_three min_three max_four min_four   -- for this text's walks alone
set_option linter.unusedVariables false
set_option linter.unusedSimpArgs false

end Go.Proofs.Ytaacidhgnappdaa.PFnExactChanged
