-- Written by a program of this workplace (wip/mp.py) out of the translation.
import Derived.Test.YtaacidhgnappdaaPFnExactHonestx0
import Derived.Test.YtaacidhgnappdaaPFnExactHonestx1
import Derived.Test.YtaacidhgnappdaaPFnExactHonestx2
import Derived.Test.YtaacidhgnappdaaPFnExactHonestx3
import Derived.Test.YtaacidhgnappdaaPFnExactHonestx4
import Derived.Test.YtaacidhgnappdaaPFnExactHonestx5
import Derived.Test.YtaacidhgnappdaaPFnExactHonestx6
import Derived.Test.YtaacidhgnappdaaPFnExactHonestx7
import Derived.Test.YtaacidhgnappdaaPFnExactHonestx8
import Derived.Test.YtaacidhgnappdaaPFnExactHonestx9
namespace Go.Proofs.Ytaacidhgnappdaa.PFnExactHonest
open Go.RowKit Go.Proofs.YtaacidhgnappdaaW.PrintWords Go.Proofs.YtaacidhgnappdaaW.PrintLast Go.Proofs.YtaacidhgnappdaaW.PrintMore Go.Proofs.Ytaacidhgnappdaa.Slim
attribute [local go_sem] max2_int min2_int max_two min_two max_three min_three max_four min_four   -- for this text's walks alone
set_option linter.unusedVariables false
set_option linter.unusedSimpArgs false

end Go.Proofs.Ytaacidhgnappdaa.PFnExactHonest
