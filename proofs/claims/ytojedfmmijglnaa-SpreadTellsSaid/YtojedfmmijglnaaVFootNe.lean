-- The kit's printed words (YtojedfmmijglnaaWFootNe), as far as this claim leans on them: shortened by a program of this session's (wip/prune.py).
import Derived.Test.YtojedfmmijglnaaVN
/-! ### 52. A row that stays read whatever happens to a block (a set of blocks) doesn't lie there -/
namespace Go.Proofs.YtojedfmmijglnaaW.PrintWords
open Go.RowKit
namespace Kd
section
variable {α : Type} {d : Kd α} {W : World} {g n : Nat} {S ok : Nat → Prop} {A : Option Addr} {ad : Addr} {xs : List α}
end
end Kd
end Go.Proofs.YtojedfmmijglnaaW.PrintWords

