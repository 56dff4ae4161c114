-- The kit's printed words (YtojedfmmijglnaaWEqStruct), as far as this claim leans on them: shortened by a program of this session's (wip/prune.py).
import Derived.Test.YtojedfmmijglnaaVWords
import Derived.Laws.StructEq
/-! ### 53. '==' of structs as_ one Bool -/
namespace Go.Proofs.YtojedfmmijglnaaW.PrintWords
open Go.RowKit
section
variable {P : Program} {d : Nat} {xs ys : Array Value} {f : Field} {fs : List Field} {a b : Value} {r s : Bool} {w : World}
end
end Go.Proofs.YtojedfmmijglnaaW.PrintWords

