-- Written by this session's own program (wip/print2), by the way of the kit's print; Lean checks it.
import Derived.Test.YtobopkkdjkjafaaProg
import Derived.Below
import Derived.Deep.Draws
import Derived.Deep.AppendLies
import Derived.Maps.AppendAt
import Derived.OwnWalk
import Derived.Laws.BytesArg
import Derived.Laws.MakeOwn
import Derived.Laws.OwnMore
import Derived.Deep.OwnRows
import Derived.Tactics
import Derived.Lib.ConvBytes
import Derived.Laws.Slices
import Derived.WalkKit
import Derived.KernelRfl
import Derived.RowKit3
import Derived.Deep.LoopGhost
import Derived.Deep.QuietTactic
import Derived.BigQuiet
import Derived.WideLaws
import Derived.Deep.DeepCutAuto
import Derived.Deep.CutBlock
import Derived.Deep.RegionHeld3
import Derived.Laws.Rows
import Derived.Lib.AppendStr
import Derived.ArgAppend
import Derived.Laws.IdiomCopy
import Derived.OrdersHeld
import Derived.Laws.BitsLemmas
import Derived.RowKit
import Derived.Test.YtobopkkdjkjafaaWord
import Derived.Test.YtobopkkdjkjafaaWordRef
import Derived.Test.YtobopkkdjkjafaaWWords
import Derived.Test.YtobopkkdjkjafaaWLast
import Derived.Test.YtobopkkdjkjafaaWTab
import Derived.Test.YtobopkkdjkjafaaWFour
import Derived.Test.YtobopkkdjkjafaaWQPut
import Derived.Test.YtobopkkdjkjafaaWApart
import Derived.Test.YtobopkkdjkjafaaWArr
import Derived.Test.YtobopkkdjkjafaaWZeros
import Derived.Test.YtobopkkdjkjafaaWFoot
import Derived.Test.YtobopkkdjkjafaaWKept
import Derived.Test.YtobopkkdjkjafaaWShare
import Derived.Test.YtobopkkdjkjafaaWN
import Derived.Test.YtobopkkdjkjafaaWFootNe
import Derived.Test.YtobopkkdjkjafaaWAt
import Derived.Test.YtobopkkdjkjafaaWEqStruct
import Derived.Test.YtobopkkdjkjafaaWRepsOne
import Derived.Test.YtobopkkdjkjafaaWInv
import Derived.Test.YtobopkkdjkjafaaWInvWords
import Derived.Test.YtobopkkdjkjafaaWGuard
import Derived.Test.YtobopkkdjkjafaaWNEv
import Derived.Test.YtobopkkdjkjafaaWMore
namespace Go.Proofs.Ytobopkkdjkjafaa.Pw
open Go.RowKit Go.Proofs.YtobopkkdjkjafaaW.PrintWords Go.Proofs.YtobopkkdjkjafaaW.PrintLast Go.Proofs.YtobopkkdjkjafaaW.PrintMore
attribute [local go_sem] max2_int min2_int max_two min_two max_three min_three max_four min_four   -- for this text's walks alone
set_option linter.unusedVariables false
set_option linter.unusedSimpArgs false



def errW : Option Int → Value
  | none => .nilIface
  | some c => .iface 0 (.int .i64 c)
theorem errW_none : errW none = .nilIface := rfl
theorem errW_some (c : Int) : errW (some c) = .iface 0 (.int .i64 c) := rfl

-- the values' own types

end Go.Proofs.Ytobopkkdjkjafaa.Pw
