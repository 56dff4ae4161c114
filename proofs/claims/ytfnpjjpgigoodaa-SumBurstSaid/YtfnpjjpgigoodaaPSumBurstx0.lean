-- Written by a program of this session's (wip/gprint.py): the kit's print, with functions given by hand.
import Derived.Test.YtfnpjjpgigoodaaProg
import Derived.Below
import Derived.Deep.Draws
import Derived.Deep.AppendLies
import Derived.Maps.AppendAt
import Derived.OwnWalk
import Derived.Laws.BytesArg
import Derived.Laws.MakeOwn
import Derived.Laws.OwnMore
import Derived.Deep.OwnRows
import Derived.Tactics
import Derived.Lib.ConvBytes
import Derived.Laws.Slices
import Derived.WalkKit
import Derived.KernelRfl
import Derived.RowKit3
import Derived.Deep.LoopGhost
import Derived.Deep.QuietTactic
import Derived.BigQuiet
import Derived.WideLaws
import Derived.Deep.DeepCutAuto
import Derived.Deep.CutBlock
import Derived.Deep.RegionHeld3
import Derived.Laws.Rows
import Derived.Lib.AppendStr
import Derived.ArgAppend
import Derived.Laws.IdiomCopy
import Derived.OrdersHeld
import Derived.Laws.BitsLemmas
import Derived.RowKit
import Derived.Lib.Hide
import Derived.Deep.MidRow
import Derived.Test.YtfnpjjpgigoodaaWWords
import Derived.Test.YtfnpjjpgigoodaaWLast
import Derived.Test.YtfnpjjpgigoodaaWTab
import Derived.Test.YtfnpjjpgigoodaaWFour
import Derived.Test.YtfnpjjpgigoodaaWQPut
import Derived.Test.YtfnpjjpgigoodaaWApart
import Derived.Test.YtfnpjjpgigoodaaWArr
import Derived.Test.YtfnpjjpgigoodaaWZeros
import Derived.Test.YtfnpjjpgigoodaaWFoot
import Derived.Test.YtfnpjjpgigoodaaWKept
import Derived.Test.YtfnpjjpgigoodaaWShare
import Derived.Test.YtfnpjjpgigoodaaWN
import Derived.Test.YtfnpjjpgigoodaaWFootNe
import Derived.Test.YtfnpjjpgigoodaaWAt
import Derived.Test.YtfnpjjpgigoodaaWEqStruct
import Derived.Test.YtfnpjjpgigoodaaWRepsOne
import Derived.Test.YtfnpjjpgigoodaaWInv
import Derived.Test.YtfnpjjpgigoodaaWInvWords
import Derived.Test.YtfnpjjpgigoodaaWGuard
import Derived.Test.YtfnpjjpgigoodaaWNEv
import Derived.Test.YtfnpjjpgigoodaaWMore
namespace Go.Proofs.Ytfnpjjpgigoodaa.PSumBurst
open Go.RowKit Go.Proofs.YtfnpjjpgigoodaaW.PrintWords Go.Proofs.YtfnpjjpgigoodaaW.PrintLast Go.Proofs.YtfnpjjpgigoodaaW.PrintMore
attribute [local go_sem] max2_int min2_int max_two min_two max_three min_three max_four min_four   -- for this text's walks alone
set_option linter.unusedVariables false
set_option linter.unusedSimpArgs false



def errW : Option Int → Value
  | none => .nilIface
  | some c => .iface 0 (.int .i64 c)
theorem errW_none : errW none = .nilIface := rfl
theorem errW_some (c : Int) : errW (some c) = .iface 0 (.int .i64 c) := rfl

-- the values' own types

end Go.Proofs.Ytfnpjjpgigoodaa.PSumBurst
