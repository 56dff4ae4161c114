-- The kit's printed words (YtnmlnghjapekcaaWFour), as far as this claim leans on them: shortened by a program of this session's (wip/prune.py).
import Derived.Test.YtnmlnghjapekcaaVTab
/-! ### 56. Four, five, six operations that may come up next, in any order -/
namespace Go.Proofs.YtnmlnghjapekcaaW.PrintLast
section
variable {P : Program} {ops : Array Oper} {Q : Exit → Act → World → Prop} {md : Region.Mode} {S : World → Prop} {ds : List Nat} {T : Bool × List (List Nat × List Nat)}
end
end Go.Proofs.YtnmlnghjapekcaaW.PrintLast

