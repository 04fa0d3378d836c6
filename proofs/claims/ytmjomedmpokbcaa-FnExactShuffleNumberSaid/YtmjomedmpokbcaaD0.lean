-- Made by our own wip/gen.py (over the kit's print.py and our hand texts) for this seat. Lean checks it.
import Derived.Test.YtmjomedmpokbcaaProg
import Derived.Below
import Derived.Deep.Draws
import Derived.Deep.AppendLies
import Derived.Maps.AppendAt
import Derived.OwnWalk
import Derived.Laws.BytesArg
import Derived.Laws.MakeOwn
import Derived.Laws.OwnMore
import Derived.Deep.OwnRows
import Derived.Tactics
import Derived.Lib.ConvBytes
import Derived.Laws.Slices
import Derived.WalkKit
import Derived.KernelRfl
import Derived.RowKit3
import Derived.Deep.LoopGhost
import Derived.Deep.QuietTactic
import Derived.BigQuiet
import Derived.WideLaws
import Derived.Deep.DeepCutAuto
import Derived.Deep.CutBlock
import Derived.Deep.RegionHeld3
import Derived.Laws.Rows
import Derived.Lib.AppendStr
import Derived.ArgAppend
import Derived.Laws.IdiomCopy
import Derived.OrdersHeld
import Derived.Laws.BitsLemmas
import Derived.RowKit
import Derived.Test.YtmjomedmpokbcaaHShuf
import Derived.Test.YtmjomedmpokbcaaWWords
import Derived.Test.YtmjomedmpokbcaaWLast
import Derived.Test.YtmjomedmpokbcaaWTab
import Derived.Test.YtmjomedmpokbcaaWFour
import Derived.Test.YtmjomedmpokbcaaWQPut
import Derived.Test.YtmjomedmpokbcaaWApart
import Derived.Test.YtmjomedmpokbcaaWArr
import Derived.Test.YtmjomedmpokbcaaWZeros
import Derived.Test.YtmjomedmpokbcaaWFoot
import Derived.Test.YtmjomedmpokbcaaWKept
import Derived.Test.YtmjomedmpokbcaaWShare
import Derived.Test.YtmjomedmpokbcaaWN
import Derived.Test.YtmjomedmpokbcaaWFootNe
import Derived.Test.YtmjomedmpokbcaaWAt
import Derived.Test.YtmjomedmpokbcaaWEqStruct
import Derived.Test.YtmjomedmpokbcaaWRepsOne
import Derived.Test.YtmjomedmpokbcaaWInv
import Derived.Test.YtmjomedmpokbcaaWInvWords
import Derived.Test.YtmjomedmpokbcaaWGuard
import Derived.Test.YtmjomedmpokbcaaWNEv
import Derived.Test.YtmjomedmpokbcaaWMore
namespace Go.Proofs.Ytmjomedmpokbcaa.D
open Go.RowKit Go.Proofs.YtmjomedmpokbcaaW.PrintWords Go.Proofs.YtmjomedmpokbcaaW.PrintLast Go.Proofs.YtmjomedmpokbcaaW.PrintMore
attribute [local go_sem] max2_int min2_int max_two min_two max_three min_three max_four min_four   -- for this text's walks alone
set_option linter.unusedVariables false
set_option linter.unusedSimpArgs false



def errW : Option Int → Value
  | none => .nilIface
  | some c => .iface 0 (.int .i64 c)
theorem errW_none : errW none = .nilIface := rfl
theorem errW_some (c : Int) : errW (some c) = .iface 0 (.int .i64 c) := rfl

-- the values' own types

end Go.Proofs.Ytmjomedmpokbcaa.D
