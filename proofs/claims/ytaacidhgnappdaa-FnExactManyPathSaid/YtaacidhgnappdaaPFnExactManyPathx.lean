-- Written by a program of this workplace (wip/mp.py) out of the translation.
import Derived.Test.YtaacidhgnappdaaPFnExactManyPathx0
import Derived.Test.YtaacidhgnappdaaPFnExactManyPathx1
import Derived.Test.YtaacidhgnappdaaPFnExactManyPathx2
import Derived.Test.YtaacidhgnappdaaPFnExactManyPathx3
import Derived.Test.YtaacidhgnappdaaPFnExactManyPathx4
import Derived.Test.YtaacidhgnappdaaPFnExactManyPathx5
import Derived.Test.YtaacidhgnappdaaPFnExactManyPathx6
import Derived.Test.YtaacidhgnappdaaPFnExactManyPathx7
import Derived.Test.YtaacidhgnappdaaPFnExactManyPathx8
import Derived.Test.YtaacidhgnappdaaPFnExactManyPathx9
import Derived.Test.YtaacidhgnappdaaPFnExactManyPathx10
namespace Go.Proofs.Ytaacidhgnappdaa.PFnExactManyPath
open Go.RowKit Go.Proofs.YtaacidhgnappdaaW.PrintWords Go.Proofs.YtaacidhgnappdaaW.PrintLast Go.Proofs.YtaacidhgnappdaaW.PrintMore Go.Proofs.Ytaacidhgnappdaa.Slim
attribute [local go_sem] max2_int min2_int max_two min_two max_three min_three max_four min_four   -- for this text's walks alone
set_option linter.unusedVariables false
set_option linter.unusedSimpArgs false

end Go.Proofs.Ytaacidhgnappdaa.PFnExactManyPath
