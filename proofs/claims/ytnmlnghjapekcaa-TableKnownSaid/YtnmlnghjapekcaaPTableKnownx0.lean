-- Written by a program of this session's (wip/gprint.py): the kit's print, with functions given by hand.
import Derived.Test.YtnmlnghjapekcaaProg
import Derived.Below
import Derived.Deep.Draws
import Derived.Deep.AppendLies
import Derived.Maps.AppendAt
import Derived.OwnWalk
import Derived.Laws.BytesArg
import Derived.Laws.MakeOwn
import Derived.Laws.OwnMore
import Derived.Deep.OwnRows
import Derived.Tactics
import Derived.Lib.ConvBytes
import Derived.Laws.Slices
import Derived.WalkKit
import Derived.KernelRfl
import Derived.RowKit3
import Derived.Deep.LoopGhost
import Derived.Deep.QuietTactic
import Derived.BigQuiet
import Derived.WideLaws
import Derived.Deep.DeepCutAuto
import Derived.Deep.CutBlock
import Derived.Deep.RegionHeld3
import Derived.Laws.Rows
import Derived.Lib.AppendStr
import Derived.ArgAppend
import Derived.Laws.IdiomCopy
import Derived.OrdersHeld
import Derived.Laws.BitsLemmas
import Derived.RowKit
import Derived.Lib.Hide
import Derived.WalkSpells
import Derived.Lib.SliceRun
import Derived.Test.YtnmlnghjapekcaaWWords
import Derived.Test.YtnmlnghjapekcaaWLast
import Derived.Test.YtnmlnghjapekcaaWTab
import Derived.Test.YtnmlnghjapekcaaWFour
import Derived.Test.YtnmlnghjapekcaaWQPut
import Derived.Test.YtnmlnghjapekcaaWApart
import Derived.Test.YtnmlnghjapekcaaWArr
import Derived.Test.YtnmlnghjapekcaaWZeros
import Derived.Test.YtnmlnghjapekcaaWFoot
import Derived.Test.YtnmlnghjapekcaaWKept
import Derived.Test.YtnmlnghjapekcaaWShare
import Derived.Test.YtnmlnghjapekcaaWN
import Derived.Test.YtnmlnghjapekcaaWFootNe
import Derived.Test.YtnmlnghjapekcaaWAt
import Derived.Test.YtnmlnghjapekcaaWEqStruct
import Derived.Test.YtnmlnghjapekcaaWRepsOne
import Derived.Test.YtnmlnghjapekcaaWInv
import Derived.Test.YtnmlnghjapekcaaWInvWords
import Derived.Test.YtnmlnghjapekcaaWGuard
import Derived.Test.YtnmlnghjapekcaaWNEv
import Derived.Test.YtnmlnghjapekcaaWMore
namespace Go.Proofs.Ytnmlnghjapekcaa.PTableKnown
open Go.RowKit Go.Proofs.YtnmlnghjapekcaaW.PrintWords Go.Proofs.YtnmlnghjapekcaaW.PrintLast Go.Proofs.YtnmlnghjapekcaaW.PrintMore
attribute [local go_sem] max2_int min2_int max_two min_two max_three min_three max_four min_four   -- for this text's walks alone
set_option linter.unusedVariables false
set_option linter.unusedSimpArgs false



def errW : Option Int → Value
  | none => .nilIface
  | some c => .iface 0 (.int .i64 c)
theorem errW_none : errW none = .nilIface := rfl
theorem errW_some (c : Int) : errW (some c) = .iface 0 (.int .i64 c) := rfl

theorem info3 : (Try.prog.info? 3).map (fun i => (i.zero, i.size, i.bytes)) = some (some (.int .i64 0), 1, 8) := by kernel_rfl
-- the values' own types

end Go.Proofs.Ytnmlnghjapekcaa.PTableKnown
