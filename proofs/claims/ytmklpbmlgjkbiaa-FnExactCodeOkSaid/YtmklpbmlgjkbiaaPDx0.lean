-- PRINTED by print.py (a twelfth state) out of the translation. Not trusted: Lean checks it.
import Derived.Test.YtmklpbmlgjkbiaaProg
import Derived.Below
import Derived.Deep.Draws
import Derived.Deep.AppendLies
import Derived.Maps.AppendAt
import Derived.OwnWalk
import Derived.Laws.BytesArg
import Derived.Laws.MakeOwn
import Derived.Laws.OwnMore
import Derived.Deep.OwnRows
import Derived.Tactics
import Derived.Lib.ConvBytes
import Derived.Laws.Slices
import Derived.WalkKit
import Derived.KernelRfl
import Derived.RowKit3
import Derived.Deep.LoopGhost
import Derived.Deep.QuietTactic
import Derived.BigQuiet
import Derived.WideLaws
import Derived.Deep.DeepCutAuto
import Derived.Deep.CutBlock
import Derived.Deep.RegionHeld3
import Derived.Laws.Rows
import Derived.Lib.AppendStr
import Derived.ArgAppend
import Derived.Laws.IdiomCopy
import Derived.OrdersHeld
import Derived.Laws.BitsLemmas
import Derived.RowKit
import Derived.Test.YtmklpbmlgjkbiaaWWords
import Derived.Test.YtmklpbmlgjkbiaaWLast
import Derived.Test.YtmklpbmlgjkbiaaWTab
import Derived.Test.YtmklpbmlgjkbiaaWFour
import Derived.Test.YtmklpbmlgjkbiaaWQPut
import Derived.Test.YtmklpbmlgjkbiaaWApart
import Derived.Test.YtmklpbmlgjkbiaaWArr
import Derived.Test.YtmklpbmlgjkbiaaWZeros
import Derived.Test.YtmklpbmlgjkbiaaWFoot
import Derived.Test.YtmklpbmlgjkbiaaWKept
import Derived.Test.YtmklpbmlgjkbiaaWShare
import Derived.Test.YtmklpbmlgjkbiaaWN
import Derived.Test.YtmklpbmlgjkbiaaWFootNe
import Derived.Test.YtmklpbmlgjkbiaaWAt
import Derived.Test.YtmklpbmlgjkbiaaWEqStruct
import Derived.Test.YtmklpbmlgjkbiaaWRepsOne
import Derived.Test.YtmklpbmlgjkbiaaWInv
import Derived.Test.YtmklpbmlgjkbiaaWInvWords
import Derived.Test.YtmklpbmlgjkbiaaWGuard
import Derived.Test.YtmklpbmlgjkbiaaWNEv
import Derived.Test.YtmklpbmlgjkbiaaWMore
import Derived.Test.YtmklpbmlgjkbiaaPSx0
namespace Go.Proofs.Ytmklpbmlgjkbiaa.PD
open Go.RowKit Go.Proofs.YtmklpbmlgjkbiaaW.PrintWords Go.Proofs.YtmklpbmlgjkbiaaW.PrintLast Go.Proofs.YtmklpbmlgjkbiaaW.PrintMore Go.Proofs.Ytmklpbmlgjkbiaa.PS
attribute [local go_sem] max2_int min2_int max_two min_two max_three min_three max_four min_four   -- for this text's walks alone
set_option linter.unusedVariables false
set_option linter.unusedSimpArgs false



def errW : Option Int → Value
  | none => .nilIface
  | some c => .iface 0 (.int .i64 c)
theorem errW_none : errW none = .nilIface := rfl
theorem errW_some (c : Int) : errW (some c) = .iface 0 (.int .i64 c) := rfl

-- the values' own types

end Go.Proofs.Ytmklpbmlgjkbiaa.PD
