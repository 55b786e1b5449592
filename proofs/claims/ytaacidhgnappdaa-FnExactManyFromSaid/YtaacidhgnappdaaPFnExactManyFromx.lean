-- Written by a program of this workplace (wip/mp.py) out of the translation.
import Derived.Test.YtaacidhgnappdaaPFnExactManyFromx0
import Derived.Test.YtaacidhgnappdaaPFnExactManyFromx1
import Derived.Test.YtaacidhgnappdaaPFnExactManyFromx2
import Derived.Test.YtaacidhgnappdaaPFnExactManyFromx3
import Derived.Test.YtaacidhgnappdaaPFnExactManyFromx4
import Derived.Test.YtaacidhgnappdaaPFnExactManyFromx5
import Derived.Test.YtaacidhgnappdaaPFnExactManyFromx6
import Derived.Test.YtaacidhgnappdaaPFnExactManyFromx7
import Derived.Test.YtaacidhgnappdaaPFnExactManyFromx8
import Derived.Test.YtaacidhgnappdaaPFnExactManyFromx9
import Derived.Test.YtaacidhgnappdaaPFnExactManyFromx10
namespace Go.Proofs.Ytaacidhgnappdaa.PFnExactManyFrom
open Go.RowKit Go.Proofs.YtaacidhgnappdaaW.PrintWords Go.Proofs.YtaacidhgnappdaaW.PrintLast Go.Proofs.YtaacidhgnappdaaW.PrintMore Go.Proofs.Ytaacidhgnappdaa.Slim
attribute [local go_sem] max2_int min2_int max_two min_two max_three min_three max_four min_four   -- for this text's walks alone
set_option linter.unusedVariables false
set_option linter.unusedSimpArgs false

end Go.Proofs.Ytaacidhgnappdaa.PFnExactManyFrom
