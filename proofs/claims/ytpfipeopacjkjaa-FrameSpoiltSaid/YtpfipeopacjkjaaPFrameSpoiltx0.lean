-- Written by a program of this session's (wip/gprint.py): the kit's print, with functions given by hand.
import Derived.Test.YtpfipeopacjkjaaProg
import Derived.Below
import Derived.Deep.Draws
import Derived.Deep.AppendLies
import Derived.Maps.AppendAt
import Derived.OwnWalk
import Derived.Laws.BytesArg
import Derived.Laws.MakeOwn
import Derived.Laws.OwnMore
import Derived.Deep.OwnRows
import Derived.Tactics
import Derived.Lib.ConvBytes
import Derived.Laws.Slices
import Derived.WalkKit
import Derived.KernelRfl
import Derived.RowKit3
import Derived.Deep.LoopGhost
import Derived.Deep.QuietTactic
import Derived.BigQuiet
import Derived.WideLaws
import Derived.Deep.DeepCutAuto
import Derived.Deep.CutBlock
import Derived.Deep.RegionHeld3
import Derived.Laws.Rows
import Derived.Lib.AppendStr
import Derived.ArgAppend
import Derived.Laws.IdiomCopy
import Derived.OrdersHeld
import Derived.Laws.BitsLemmas
import Derived.RowKit
import Derived.Lib.Hide
import Derived.Deep.MidRow
import Derived.Test.YtpfipeopacjkjaaWWords
import Derived.Test.YtpfipeopacjkjaaWLast
import Derived.Test.YtpfipeopacjkjaaWTab
import Derived.Test.YtpfipeopacjkjaaWFour
import Derived.Test.YtpfipeopacjkjaaWQPut
import Derived.Test.YtpfipeopacjkjaaWApart
import Derived.Test.YtpfipeopacjkjaaWArr
import Derived.Test.YtpfipeopacjkjaaWZeros
import Derived.Test.YtpfipeopacjkjaaWFoot
import Derived.Test.YtpfipeopacjkjaaWKept
import Derived.Test.YtpfipeopacjkjaaWShare
import Derived.Test.YtpfipeopacjkjaaWN
import Derived.Test.YtpfipeopacjkjaaWFootNe
import Derived.Test.YtpfipeopacjkjaaWAt
import Derived.Test.YtpfipeopacjkjaaWEqStruct
import Derived.Test.YtpfipeopacjkjaaWRepsOne
import Derived.Test.YtpfipeopacjkjaaWInv
import Derived.Test.YtpfipeopacjkjaaWInvWords
import Derived.Test.YtpfipeopacjkjaaWGuard
import Derived.Test.YtpfipeopacjkjaaWNEv
import Derived.Test.YtpfipeopacjkjaaWMore
namespace Go.Proofs.Ytpfipeopacjkjaa.PFrameSpoilt
open Go.RowKit Go.Proofs.YtpfipeopacjkjaaW.PrintWords Go.Proofs.YtpfipeopacjkjaaW.PrintLast Go.Proofs.YtpfipeopacjkjaaW.PrintMore
attribute [local go_sem] max2_int min2_int max_two min_two max_three min_three max_four min_four   -- for this text's walks alone
set_option linter.unusedVariables false
set_option linter.unusedSimpArgs false



def errW : Option Int → Value
  | none => .nilIface
  | some c => .iface 0 (.int .i64 c)
theorem errW_none : errW none = .nilIface := rfl
theorem errW_some (c : Int) : errW (some c) = .iface 0 (.int .i64 c) := rfl

theorem info5 : (Try.prog.info? 5).map (fun i => (i.zero, i.size, i.bytes)) = some (some (.int .u8 0), 1, 1) := by kernel_rfl
-- the values' own types

end Go.Proofs.Ytpfipeopacjkjaa.PFrameSpoilt
