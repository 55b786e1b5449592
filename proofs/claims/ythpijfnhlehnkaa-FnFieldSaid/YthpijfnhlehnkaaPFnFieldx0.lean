-- Written by a program of this workplace (wip/mp.py) out of the translation.
import Derived.Test.YthpijfnhlehnkaaProg
import Derived.Below
import Derived.Deep.Draws
import Derived.Deep.AppendLies
import Derived.Maps.AppendAt
import Derived.OwnWalk
import Derived.Laws.BytesArg
import Derived.Laws.MakeOwn
import Derived.Laws.OwnMore
import Derived.Deep.OwnRows
import Derived.Tactics
import Derived.Lib.ConvBytes
import Derived.Laws.Slices
import Derived.WalkKit
import Derived.KernelRfl
import Derived.RowKit3
import Derived.Deep.LoopGhost
import Derived.Deep.QuietTactic
import Derived.BigQuiet
import Derived.WideLaws
import Derived.Deep.DeepCutAuto
import Derived.Deep.CutBlock
import Derived.Deep.RegionHeld3
import Derived.Laws.Rows
import Derived.Lib.AppendStr
import Derived.ArgAppend
import Derived.Laws.IdiomCopy
import Derived.OrdersHeld
import Derived.Laws.BitsLemmas
import Derived.RowKit
import Derived.Test.YthpijfnhlehnkaaWWords
import Derived.Test.YthpijfnhlehnkaaWLast
import Derived.Test.YthpijfnhlehnkaaWTab
import Derived.Test.YthpijfnhlehnkaaWFour
import Derived.Test.YthpijfnhlehnkaaWQPut
import Derived.Test.YthpijfnhlehnkaaWApart
import Derived.Test.YthpijfnhlehnkaaWArr
import Derived.Test.YthpijfnhlehnkaaWZeros
import Derived.Test.YthpijfnhlehnkaaWFoot
import Derived.Test.YthpijfnhlehnkaaWKept
import Derived.Test.YthpijfnhlehnkaaWShare
import Derived.Test.YthpijfnhlehnkaaWN
import Derived.Test.YthpijfnhlehnkaaWFootNe
import Derived.Test.YthpijfnhlehnkaaWAt
import Derived.Test.YthpijfnhlehnkaaWEqStruct
import Derived.Test.YthpijfnhlehnkaaWRepsOne
import Derived.Test.YthpijfnhlehnkaaWInv
import Derived.Test.YthpijfnhlehnkaaWInvWords
import Derived.Test.YthpijfnhlehnkaaWGuard
import Derived.Test.YthpijfnhlehnkaaWNEv
import Derived.Test.YthpijfnhlehnkaaWMore
namespace Go.Proofs.Ythpijfnhlehnkaa.PFnField
open Go.RowKit Go.Proofs.YthpijfnhlehnkaaW.PrintWords Go.Proofs.YthpijfnhlehnkaaW.PrintLast Go.Proofs.YthpijfnhlehnkaaW.PrintMore
attribute [local go_sem] max2_int min2_int max_two min_two max_three min_three max_four min_four   -- for this text's walks alone
set_option linter.unusedVariables false
set_option linter.unusedSimpArgs false



def errW : Option Int → Value
  | none => .nilIface
  | some c => .iface 0 (.int .i64 c)
theorem errW_none : errW none = .nilIface := rfl
theorem errW_some (c : Int) : errW (some c) = .iface 0 (.int .i64 c) := rfl

theorem info5 : (Try.prog.info? 5).map (fun i => (i.zero, i.size, i.bytes)) = some (some (.int .u8 0), 1, 1) := by kernel_rfl
-- the values' own types

end Go.Proofs.Ythpijfnhlehnkaa.PFnField
