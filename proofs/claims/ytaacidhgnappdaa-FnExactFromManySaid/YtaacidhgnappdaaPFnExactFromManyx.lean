-- Written by a program of this workplace (wip/mp.py) out of the translation.
import Derived.Test.YtaacidhgnappdaaPFnExactFromManyx0
import Derived.Test.YtaacidhgnappdaaPFnExactFromManyx1
import Derived.Test.YtaacidhgnappdaaPFnExactFromManyx2
import Derived.Test.YtaacidhgnappdaaPFnExactFromManyx3
import Derived.Test.YtaacidhgnappdaaPFnExactFromManyx4
import Derived.Test.YtaacidhgnappdaaPFnExactFromManyx5
import Derived.Test.YtaacidhgnappdaaPFnExactFromManyx6
import Derived.Test.YtaacidhgnappdaaPFnExactFromManyx7
import Derived.Test.YtaacidhgnappdaaPFnExactFromManyx8
import Derived.Test.YtaacidhgnappdaaPFnExactFromManyx9
import Derived.Test.YtaacidhgnappdaaPFnExactFromManyx10
import Derived.Test.YtaacidhgnappdaaPFnExactFromManyx11
import Derived.Test.YtaacidhgnappdaaPFnExactFromManyx12
import Derived.Test.YtaacidhgnappdaaPFnExactFromManyx13
namespace Go.Proofs.Ytaacidhgnappdaa.PFnExactFromMany
open Go.RowKit Go.Proofs.YtaacidhgnappdaaW.PrintWords Go.Proofs.YtaacidhgnappdaaW.PrintLast Go.Proofs.YtaacidhgnappdaaW.PrintMore Go.Proofs.Ytaacidhgnappdaa.Slim
attribute [local go_sem] max2_int min2_int max_two min_two max_three min_three max_four min_four   -- for this text's walks alone
set_option linter.unusedVariables false
set_option linter.unusedSimpArgs false

end Go.Proofs.Ytaacidhgnappdaa.PFnExactFromMany
