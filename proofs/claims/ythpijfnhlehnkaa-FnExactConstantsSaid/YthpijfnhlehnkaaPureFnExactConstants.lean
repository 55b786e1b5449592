/- The program's constants are the reference's. -/
import Derived.Test.YthpijfnhlehnkaaPFnExactConstantsx1
import Derived.Test.YthpijfnhlehnkaaKit
import Derived.Test.YthpijfnhlehnkaaGf
namespace Go.Proofs.Ythpijfnhlehnkaa.Pure
open Go.RowKit Go.Proofs.Ythpijfnhlehnkaa Go.Proofs.Ythpijfnhlehnkaa.PFnExactConstants Go.Proofs.YthpijfnhlehnkaaW.PrintWords Go.Proofs.YthpijfnhlehnkaaW.PrintLast Go.Proofs.YthpijfnhlehnkaaW.PrintMore Go.Proofs.Ythpijfnhlehnkaa.K
set_option linter.unusedVariables false

theorem FnExactConstants : laws_FnExactConstants.Pure := rfl

end Go.Proofs.Ythpijfnhlehnkaa.Pure
