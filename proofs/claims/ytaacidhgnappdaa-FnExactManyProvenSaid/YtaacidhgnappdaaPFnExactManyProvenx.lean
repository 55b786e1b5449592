-- Written by a program of this workplace (wip/mp.py) out of the translation.
import Derived.Test.YtaacidhgnappdaaPFnExactManyProvenx0
import Derived.Test.YtaacidhgnappdaaPFnExactManyProvenx1
import Derived.Test.YtaacidhgnappdaaPFnExactManyProvenx2
import Derived.Test.YtaacidhgnappdaaPFnExactManyProvenx3
import Derived.Test.YtaacidhgnappdaaPFnExactManyProvenx4
import Derived.Test.YtaacidhgnappdaaPFnExactManyProvenx5
import Derived.Test.YtaacidhgnappdaaPFnExactManyProvenx6
import Derived.Test.YtaacidhgnappdaaPFnExactManyProvenx7
import Derived.Test.YtaacidhgnappdaaPFnExactManyProvenx8
import Derived.Test.YtaacidhgnappdaaPFnExactManyProvenx9
import Derived.Test.YtaacidhgnappdaaPFnExactManyProvenx10
namespace Go.Proofs.Ytaacidhgnappdaa.PFnExactManyProven
open Go.RowKit Go.Proofs.YtaacidhgnappdaaW.PrintWords Go.Proofs.YtaacidhgnappdaaW.PrintLast Go.Proofs.YtaacidhgnappdaaW.PrintMore Go.Proofs.Ytaacidhgnappdaa.Slim
attribute [local go_sem] max2_int min2_int max_two min_two max_three min_three max_four min_four   -- for this text's walks alone
set_option linter.unusedVariables false
set_option linter.unusedSimpArgs false

end Go.Proofs.Ytaacidhgnappdaa.PFnExactManyProven
