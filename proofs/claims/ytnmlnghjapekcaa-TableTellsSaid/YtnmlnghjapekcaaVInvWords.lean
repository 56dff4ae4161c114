-- The kit's printed words (YtnmlnghjapekcaaWInvWords), as far as this claim leans on them: shortened by a program of this session's (wip/prune.py).
import Derived.Test.YtnmlnghjapekcaaVInv
import Derived.Test.YtnmlnghjapekcaaVFootNe
namespace Go.Proofs.YtnmlnghjapekcaaW.PrintWords
open Go.RowKit
end Go.Proofs.YtnmlnghjapekcaaW.PrintWords
namespace Go.Proofs.YtnmlnghjapekcaaW.PrintLast
section
variable {ops : Array Oper} {a : Act} {o og : Oper} {g : Nat} {t : Tmp} {u : Bool}
end
end Go.Proofs.YtnmlnghjapekcaaW.PrintLast

