-- Written by a program of this workplace (wip/mp.py) out of the translation.
import Derived.Test.YtaacidhgnappdaaPFnExactFromPathsx0
import Derived.Test.YtaacidhgnappdaaPFnExactFromPathsx1
import Derived.Test.YtaacidhgnappdaaPFnExactFromPathsx2
import Derived.Test.YtaacidhgnappdaaPFnExactFromPathsx3
import Derived.Test.YtaacidhgnappdaaPFnExactFromPathsx4
import Derived.Test.YtaacidhgnappdaaPFnExactFromPathsx5
import Derived.Test.YtaacidhgnappdaaPFnExactFromPathsx6
import Derived.Test.YtaacidhgnappdaaPFnExactFromPathsx7
import Derived.Test.YtaacidhgnappdaaPFnExactFromPathsx8
import Derived.Test.YtaacidhgnappdaaPFnExactFromPathsx9
import Derived.Test.YtaacidhgnappdaaPFnExactFromPathsx10
namespace Go.Proofs.Ytaacidhgnappdaa.PFnExactFromPaths
open Go.RowKit Go.Proofs.YtaacidhgnappdaaW.PrintWords Go.Proofs.YtaacidhgnappdaaW.PrintLast Go.Proofs.YtaacidhgnappdaaW.PrintMore
attribute [local go_sem] max2_int min2_int max_two min_two max_three min_three max_four min_four   -- for this text's walks alone
set_option linter.unusedVariables false
set_option linter.unusedSimpArgs false

end Go.Proofs.Ytaacidhgnappdaa.PFnExactFromPaths
