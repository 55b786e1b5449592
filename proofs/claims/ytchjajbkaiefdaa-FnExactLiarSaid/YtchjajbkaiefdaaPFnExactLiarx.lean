-- Written by a program of this workplace (wip/mp.py) out of the translation.
import Derived.Test.YtchjajbkaiefdaaPFnExactLiarx0
import Derived.Test.YtchjajbkaiefdaaPFnExactLiarx1
import Derived.Test.YtchjajbkaiefdaaPFnExactLiarx2
import Derived.Test.YtchjajbkaiefdaaPFnExactLiarx3
import Derived.Test.YtchjajbkaiefdaaPFnExactLiarx4
import Derived.Test.YtchjajbkaiefdaaPFnExactLiarx5
import Derived.Test.YtchjajbkaiefdaaPFnExactLiarx6
import Derived.Test.YtchjajbkaiefdaaPFnExactLiarx7
import Derived.Test.YtchjajbkaiefdaaPFnExactLiarx8
import Derived.Test.YtchjajbkaiefdaaPFnExactLiarx9
import Derived.Test.YtchjajbkaiefdaaPFnExactLiarx10
import Derived.Test.YtchjajbkaiefdaaPFnExactLiarx11
import Derived.Test.YtchjajbkaiefdaaPFnExactLiarx12
import Derived.Test.YtchjajbkaiefdaaPFnExactLiarx13
import Derived.Test.YtchjajbkaiefdaaPFnExactLiarx14
import Derived.Test.YtchjajbkaiefdaaPFnExactLiarx15
import Derived.Test.YtchjajbkaiefdaaPFnExactLiarx16
namespace Go.Proofs.Ytchjajbkaiefdaa.PFnExactLiar
open Go.RowKit Go.Proofs.YtchjajbkaiefdaaW.PrintWords Go.Proofs.YtchjajbkaiefdaaW.PrintLast Go.Proofs.YtchjajbkaiefdaaW.PrintMore Go.Proofs.Ytchjajbkaiefdaa.Slim
attribute [local go_sem] max2_int min2_int max_two min_two max_three min_three max_four min_four   -- for this text's walks alone
set_option linter.unusedVariables false
set_option linter.unusedSimpArgs false

end Go.Proofs.Ytchjajbkaiefdaa.PFnExactLiar
