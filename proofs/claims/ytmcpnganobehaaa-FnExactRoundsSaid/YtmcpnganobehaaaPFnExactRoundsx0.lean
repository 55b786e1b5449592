-- Written by a program of this workplace (wip/mp.py) out of the translation.
import Derived.Test.YtmcpnganobehaaaProg
import Derived.Below
import Derived.Deep.Draws
import Derived.Deep.AppendLies
import Derived.Maps.AppendAt
import Derived.OwnWalk
import Derived.Laws.BytesArg
import Derived.Laws.MakeOwn
import Derived.Laws.OwnMore
import Derived.Deep.OwnRows
import Derived.Tactics
import Derived.Lib.ConvBytes
import Derived.Laws.Slices
import Derived.WalkKit
import Derived.KernelRfl
import Derived.RowKit3
import Derived.Deep.LoopGhost
import Derived.Deep.QuietTactic
import Derived.BigQuiet
import Derived.WideLaws
import Derived.Deep.DeepCutAuto
import Derived.Deep.CutBlock
import Derived.Deep.RegionHeld3
import Derived.Laws.Rows
import Derived.Lib.AppendStr
import Derived.ArgAppend
import Derived.Laws.IdiomCopy
import Derived.OrdersHeld
import Derived.Laws.BitsLemmas
import Derived.RowKit
import Derived.StillTailTactics
import Derived.Lib.SliceRun
import Derived.Shelf.Abstract
import Derived.Test.YtmcpnganobehaaaDig
import Derived.Test.YtmcpnganobehaaaWWords
import Derived.Test.YtmcpnganobehaaaWLast
import Derived.Test.YtmcpnganobehaaaWTab
import Derived.Test.YtmcpnganobehaaaWFour
import Derived.Test.YtmcpnganobehaaaWQPut
import Derived.Test.YtmcpnganobehaaaWApart
import Derived.Test.YtmcpnganobehaaaWArr
import Derived.Test.YtmcpnganobehaaaWZeros
import Derived.Test.YtmcpnganobehaaaWFoot
import Derived.Test.YtmcpnganobehaaaWKept
import Derived.Test.YtmcpnganobehaaaWShare
import Derived.Test.YtmcpnganobehaaaWN
import Derived.Test.YtmcpnganobehaaaWFootNe
import Derived.Test.YtmcpnganobehaaaWAt
import Derived.Test.YtmcpnganobehaaaWEqStruct
import Derived.Test.YtmcpnganobehaaaWRepsOne
import Derived.Test.YtmcpnganobehaaaWInv
import Derived.Test.YtmcpnganobehaaaWInvWords
import Derived.Test.YtmcpnganobehaaaWGuard
import Derived.Test.YtmcpnganobehaaaWNEv
import Derived.Test.YtmcpnganobehaaaWMore
namespace Go.Proofs.Ytmcpnganobehaaa.PFnExactRounds
open Go.RowKit Go.Proofs.YtmcpnganobehaaaW.PrintWords Go.Proofs.YtmcpnganobehaaaW.PrintLast Go.Proofs.YtmcpnganobehaaaW.PrintMore
attribute [local go_sem] max2_int min2_int max_two min_two max_three min_three max_four min_four   -- for this text's walks alone
set_option linter.unusedVariables false
set_option linter.unusedSimpArgs false



def errW : Option Int → Value
  | none => .nilIface
  | some c => .iface 0 (.int .i64 c)
theorem errW_none : errW none = .nilIface := rfl
theorem errW_some (c : Int) : errW (some c) = .iface 0 (.int .i64 c) := rfl

-- the values' own types

end Go.Proofs.Ytmcpnganobehaaa.PFnExactRounds
