-- The kit's printed words (YtojedfmmijglnaaWInvWords), as far as this claim leans on them: shortened by a program of this session's (wip/prune.py).
import Derived.Test.YtojedfmmijglnaaVInv
import Derived.Test.YtojedfmmijglnaaVFootNe
namespace Go.Proofs.YtojedfmmijglnaaW.PrintWords
open Go.RowKit
end Go.Proofs.YtojedfmmijglnaaW.PrintWords
namespace Go.Proofs.YtojedfmmijglnaaW.PrintLast
section
variable {ops : Array Oper} {a : Act} {o og : Oper} {g : Nat} {t : Tmp} {u : Bool}
end
end Go.Proofs.YtojedfmmijglnaaW.PrintLast

