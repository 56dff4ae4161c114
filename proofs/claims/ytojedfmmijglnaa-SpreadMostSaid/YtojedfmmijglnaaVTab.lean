-- The kit's printed words (YtojedfmmijglnaaWTab), as far as this claim leans on them: shortened by a program of this session's (wip/prune.py).
import Derived.Test.YtojedfmmijglnaaVLast
import Derived.Test.YtojedfmmijglnaaVWords
/-! ### 50. A region's order in a table, made once a region: each step asks the table (numbers alone), not the operations -/
namespace Go.Proofs.YtojedfmmijglnaaW.PrintLast
open Go.Proofs.YtojedfmmijglnaaW.PrintWords (Aside0)
section
variable {md : Region.Mode} {ops : Array Oper} {T : Bool × List (List Nat × List Nat)} {l l' li lj lk : Array Bool} {ds : List Nat} {i j k : Nat}
end
end Go.Proofs.YtojedfmmijglnaaW.PrintLast

