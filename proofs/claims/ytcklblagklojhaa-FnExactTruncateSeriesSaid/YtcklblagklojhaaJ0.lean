-- Made by our own wip/gen.py (over the kit's print.py and our hand texts) for this seat. Lean checks it.
import Derived.Test.YtcklblagklojhaaProg
import Derived.Below
import Derived.Deep.Draws
import Derived.Deep.AppendLies
import Derived.Maps.AppendAt
import Derived.OwnWalk
import Derived.Laws.BytesArg
import Derived.Laws.MakeOwn
import Derived.Laws.OwnMore
import Derived.Deep.OwnRows
import Derived.Tactics
import Derived.Lib.ConvBytes
import Derived.Laws.Slices
import Derived.WalkKit
import Derived.KernelRfl
import Derived.RowKit3
import Derived.Deep.LoopGhost
import Derived.Deep.QuietTactic
import Derived.BigQuiet
import Derived.WideLaws
import Derived.Deep.DeepCutAuto
import Derived.Deep.CutBlock
import Derived.Deep.RegionHeld3
import Derived.Laws.Rows
import Derived.Lib.AppendStr
import Derived.ArgAppend
import Derived.Laws.IdiomCopy
import Derived.OrdersHeld
import Derived.Laws.BitsLemmas
import Derived.RowKit
import Derived.Test.YtcklblagklojhaaKBase
import Derived.Test.YtcklblagklojhaaKFrac
import Derived.Test.YtcklblagklojhaaWWords
import Derived.Test.YtcklblagklojhaaWLast
import Derived.Test.YtcklblagklojhaaWTab
import Derived.Test.YtcklblagklojhaaWQPut
import Derived.Test.YtcklblagklojhaaWApart
import Derived.Test.YtcklblagklojhaaWArr
import Derived.Test.YtcklblagklojhaaWZeros
import Derived.Test.YtcklblagklojhaaWFoot
import Derived.Test.YtcklblagklojhaaWKept
import Derived.Test.YtcklblagklojhaaWShare
import Derived.Test.YtcklblagklojhaaWN
import Derived.Test.YtcklblagklojhaaWRepsOne
import Derived.Test.YtcklblagklojhaaWNEv
import Derived.Test.YtcklblagklojhaaWMore
namespace Go.Proofs.Ytcklblagklojhaa.J
open Go.RowKit Go.Proofs.YtcklblagklojhaaW.PrintWords Go.Proofs.YtcklblagklojhaaW.PrintLast Go.Proofs.YtcklblagklojhaaW.PrintMore
attribute [local go_sem] max2_int min2_int max_two min_two max_three min_three max_four min_four   -- for this text's walks alone
set_option linter.unusedVariables false
set_option linter.unusedSimpArgs false



def errW : Option Int → Value
 | none => .nilIface
 | some c => .iface 0 (.int .i64 c)
theorem errW_none : errW none = .nilIface := rfl
theorem errW_some (c : Int) : errW (some c) = .iface 0 (.int .i64 c) := rfl

-- the values' own types

end Go.Proofs.Ytcklblagklojhaa.J
