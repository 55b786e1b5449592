-- Written by a program of this workplace (wip/mp.py) out of the translation.
import Derived.Test.YthaoloacbbohlaaPFnExactGfSolvex0
import Derived.Test.YthaoloacbbohlaaPFnExactGfSolvex1
import Derived.Test.YthaoloacbbohlaaPFnExactGfSolvex2
import Derived.Test.YthaoloacbbohlaaPFnExactGfSolvex3
import Derived.Test.YthaoloacbbohlaaPFnExactGfSolvex4
import Derived.Test.YthaoloacbbohlaaPFnExactGfSolvex5
import Derived.Test.YthaoloacbbohlaaPFnExactGfSolvex6
namespace Go.Proofs.Ythaoloacbbohlaa.PFnExactGfSolve
open Go.RowKit Go.Proofs.YthaoloacbbohlaaW.PrintWords Go.Proofs.YthaoloacbbohlaaW.PrintLast Go.Proofs.YthaoloacbbohlaaW.PrintMore Go.Proofs.Ythaoloacbbohlaa.Slim
attribute [local go_sem] max2_int min2_int max_two min_two max_three min_three max_four min_four   -- for this text's walks alone
set_option linter.unusedVariables false
set_option linter.unusedSimpArgs false

end Go.Proofs.Ythaoloacbbohlaa.PFnExactGfSolve
