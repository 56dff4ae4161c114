-- The kit's printed words (YtojedfmmijglnaaWFour), as far as this claim leans on them: shortened by a program of this session's (wip/prune.py).
import Derived.Test.YtojedfmmijglnaaVTab
/-! ### 56. Four, five, six operations that may come up next, in any order -/
namespace Go.Proofs.YtojedfmmijglnaaW.PrintLast
section
variable {P : Program} {ops : Array Oper} {Q : Exit → Act → World → Prop} {md : Region.Mode} {S : World → Prop} {ds : List Nat} {T : Bool × List (List Nat × List Nat)}
end
end Go.Proofs.YtojedfmmijglnaaW.PrintLast

