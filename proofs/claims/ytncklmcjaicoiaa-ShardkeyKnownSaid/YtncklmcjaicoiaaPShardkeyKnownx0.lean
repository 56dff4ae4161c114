-- Written by a program of this session's (wip/gprint.py): the kit's print, with functions given by hand.
import Derived.Test.YtncklmcjaicoiaaProg
import Derived.Below
import Derived.Deep.Draws
import Derived.Deep.AppendLies
import Derived.Maps.AppendAt
import Derived.OwnWalk
import Derived.Laws.BytesArg
import Derived.Laws.MakeOwn
import Derived.Laws.OwnMore
import Derived.Deep.OwnRows
import Derived.Tactics
import Derived.Lib.ConvBytes
import Derived.Laws.Slices
import Derived.WalkKit
import Derived.KernelRfl
import Derived.RowKit3
import Derived.Deep.LoopGhost
import Derived.Deep.QuietTactic
import Derived.BigQuiet
import Derived.WideLaws
import Derived.Deep.DeepCutAuto
import Derived.Deep.CutBlock
import Derived.Deep.RegionHeld3
import Derived.Laws.Rows
import Derived.Lib.AppendStr
import Derived.ArgAppend
import Derived.Laws.IdiomCopy
import Derived.OrdersHeld
import Derived.Laws.BitsLemmas
import Derived.RowKit
import Derived.Test.YtncklmcjaicoiaaWWords
import Derived.Test.YtncklmcjaicoiaaWLast
import Derived.Test.YtncklmcjaicoiaaWTab
import Derived.Test.YtncklmcjaicoiaaWFour
import Derived.Test.YtncklmcjaicoiaaWQPut
import Derived.Test.YtncklmcjaicoiaaWApart
import Derived.Test.YtncklmcjaicoiaaWArr
import Derived.Test.YtncklmcjaicoiaaWZeros
import Derived.Test.YtncklmcjaicoiaaWFoot
import Derived.Test.YtncklmcjaicoiaaWKept
import Derived.Test.YtncklmcjaicoiaaWShare
import Derived.Test.YtncklmcjaicoiaaWN
import Derived.Test.YtncklmcjaicoiaaWFootNe
import Derived.Test.YtncklmcjaicoiaaWAt
import Derived.Test.YtncklmcjaicoiaaWEqStruct
import Derived.Test.YtncklmcjaicoiaaWRepsOne
import Derived.Test.YtncklmcjaicoiaaWInv
import Derived.Test.YtncklmcjaicoiaaWInvWords
import Derived.Test.YtncklmcjaicoiaaWGuard
import Derived.Test.YtncklmcjaicoiaaWNEv
import Derived.Test.YtncklmcjaicoiaaWMore
namespace Go.Proofs.Ytncklmcjaicoiaa.PShardkeyKnown
open Go.RowKit Go.Proofs.YtncklmcjaicoiaaW.PrintWords Go.Proofs.YtncklmcjaicoiaaW.PrintLast Go.Proofs.YtncklmcjaicoiaaW.PrintMore
attribute [local go_sem] max2_int min2_int max_two min_two max_three min_three max_four min_four   -- for this text's walks alone
set_option linter.unusedVariables false
set_option linter.unusedSimpArgs false



def errW : Option Int → Value
  | none => .nilIface
  | some c => .iface 0 (.int .i64 c)
theorem errW_none : errW none = .nilIface := rfl
theorem errW_some (c : Int) : errW (some c) = .iface 0 (.int .i64 c) := rfl

-- the values' own types

end Go.Proofs.Ytncklmcjaicoiaa.PShardkeyKnown
