-- Written by a program of this workplace (wip/mp.py) out of the translation.
import Derived.Test.YtmcpnganobehaaaPFnExactFindPairx0
import Derived.Test.YtmcpnganobehaaaPFnExactFindPairx1
import Derived.Test.YtmcpnganobehaaaPFnExactFindPairx2
import Derived.Test.YtmcpnganobehaaaPFnExactFindPairx3
import Derived.Test.YtmcpnganobehaaaPFnExactFindPairx4
import Derived.Test.YtmcpnganobehaaaPFnExactFindPairx5
import Derived.Test.YtmcpnganobehaaaPFnExactFindPairx6
namespace Go.Proofs.Ytmcpnganobehaaa.PFnExactFindPair
open Go.RowKit Go.Proofs.YtmcpnganobehaaaW.PrintWords Go.Proofs.YtmcpnganobehaaaW.PrintLast Go.Proofs.YtmcpnganobehaaaW.PrintMore Go.Proofs.Ytmcpnganobehaaa.Slim
attribute [local go_sem] max2_int min2_int max_two min_two max_three min_three max_four min_four   -- for this text's walks alone
set_option linter.unusedVariables false
set_option linter.unusedSimpArgs false

end Go.Proofs.Ytmcpnganobehaaa.PFnExactFindPair
