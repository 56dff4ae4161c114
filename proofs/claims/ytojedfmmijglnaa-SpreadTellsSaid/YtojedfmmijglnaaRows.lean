/-
  No cell of these rows narrows 'for every input' (looked for: loops, veiled, ifaces, maps, wideKeys, modest, calm, conditions, laid).
  DERIVED. THE GIVEN ROWS OF THIS SEAT. 5 by the template 'for every input the law returns true; each argument reads behind the call as it read before'; 0 by the template 'total and deterministic' (their statements: YtojedfmmijglnaaTotals.lean).
  GIVEN WITH THE SEED: the statements are not yours to turn. If you find one false, say at which input.
  Laid BY PROGRAM, IN A SANDBOX (cutbox-rows.mjs): the forced cells as the released guide's own fill.sh prints them over the translation 301ecdff38332c53… (all of the seat's roots in one cut). By AI agents, Wed Nov 11 2026. No macro, syntax, notation, axiom, sorry.
-/
import Derived.Test.YtojedfmmijglnaaChecked
import GoSem.Claim
import GoSem.ClaimJoined
import GoSem.ClaimMapViews
import Derived.JoinedTies
import Derived.KernelRfl
namespace Go.Proofs.Ytojedfmmijglnaa
/- THE CELL 'sum', in the pinned program and in every row, IS THE sha256 OF THE DUMP (.gsa) THAT YtojedfmmijglnaaProg.lean LOADS. Nothing in Lean hashes anything: it is a label: what it is worth is what the hold of that sum in a sandbox is worth. -/
noncomputable def Try.pinned : Pinned := { name := "ytojedfmmijglnaa", sum := "301ecdff38332c53644b927e41d82ae6a3f56720b3046b4838ef228d37de6c79", checked := Try.checked }
namespace Rows
def none {H : Type} : Left H := { results := [], args := [] }

/-- 'meterlaw18.SpreadMost': WHATEVER THE INPUT: true; the input reads as it did. -/
def spreadMostSpec : ChangeSpec := { name := "spreadMost", fn := fun _ => fun
  | [d1, d2, d3] => { results := [.lit (.bool true)], args := [d1, d2, d3] }
  | _ => none }
def spreadMostRow : OpenClaim := { program := "ytojedfmmijglnaa", sum := "301ecdff38332c53644b927e41d82ae6a3f56720b3046b4838ef228d37de6c79", func := "meter/meterlaw18.SpreadMost", spec := "spreadMost", unfollowed := true, recurses := true, apart := false }
def SpreadMostSaid : Prop := spreadMostRow.holds Try.pinned (OpenSpec.ofChange spreadMostSpec)

/-- ITS FALSE NEIGHBOUR: 'it returns false'. Refute it at one input. -/
def spreadMostWrong : ChangeSpec := { name := "spreadMost", fn := fun _ => fun
  | [d1, d2, d3] => { results := [.lit (.bool false)], args := [d1, d2, d3] }
  | _ => none }
def SpreadMostWrongFalsely : Prop := spreadMostRow.holds Try.pinned (OpenSpec.ofChange spreadMostWrong)

/-- 'meterlaw18.SpreadKnown': WHATEVER THE INPUT: true; the input reads as it did. -/
def spreadKnownSpec : ChangeSpec := { name := "spreadKnown", fn := fun _ => fun
  | [] => { results := [.lit (.bool true)], args := [] }
  | _ => none }
def spreadKnownRow : OpenClaim := { program := "ytojedfmmijglnaa", sum := "301ecdff38332c53644b927e41d82ae6a3f56720b3046b4838ef228d37de6c79", func := "meter/meterlaw18.SpreadKnown", spec := "spreadKnown", unfollowed := true, recurses := true, apart := false }
def SpreadKnownSaid : Prop := spreadKnownRow.holds Try.pinned (OpenSpec.ofChange spreadKnownSpec)

/-- ITS FALSE NEIGHBOUR: 'it returns false'. Refute it at one input. -/
def spreadKnownWrong : ChangeSpec := { name := "spreadKnown", fn := fun _ => fun
  | [] => { results := [.lit (.bool false)], args := [] }
  | _ => none }
def SpreadKnownWrongFalsely : Prop := spreadKnownRow.holds Try.pinned (OpenSpec.ofChange spreadKnownWrong)

/-- 'meterlaw18.SpreadTells': WHATEVER THE INPUT: true; the input reads as it did. -/
def spreadTellsSpec : ChangeSpec := { name := "spreadTells", fn := fun _ => fun
  | [d1, d2, d3, d4] => { results := [.lit (.bool true)], args := [d1, d2, d3, d4] }
  | _ => none }
def spreadTellsRow : OpenClaim := { program := "ytojedfmmijglnaa", sum := "301ecdff38332c53644b927e41d82ae6a3f56720b3046b4838ef228d37de6c79", func := "meter/meterlaw18.SpreadTells", spec := "spreadTells", unfollowed := true, recurses := true, apart := false }
def SpreadTellsSaid : Prop := spreadTellsRow.holds Try.pinned (OpenSpec.ofChange spreadTellsSpec)

/-- ITS FALSE NEIGHBOUR: 'it returns false'. Refute it at one input. -/
def spreadTellsWrong : ChangeSpec := { name := "spreadTells", fn := fun _ => fun
  | [d1, d2, d3, d4] => { results := [.lit (.bool false)], args := [d1, d2, d3, d4] }
  | _ => none }
def SpreadTellsWrongFalsely : Prop := spreadTellsRow.holds Try.pinned (OpenSpec.ofChange spreadTellsWrong)

/-- 'meterlaw18.SpreadThere': WHATEVER THE INPUT: true; the input reads as it did. -/
def spreadThereSpec : ChangeSpec := { name := "spreadThere", fn := fun _ => fun
  | [d1, d2] => { results := [.lit (.bool true)], args := [d1, d2] }
  | _ => none }
def spreadThereRow : OpenClaim := { program := "ytojedfmmijglnaa", sum := "301ecdff38332c53644b927e41d82ae6a3f56720b3046b4838ef228d37de6c79", func := "meter/meterlaw18.SpreadThere", spec := "spreadThere", unfollowed := true, recurses := true, apart := false }
def SpreadThereSaid : Prop := spreadThereRow.holds Try.pinned (OpenSpec.ofChange spreadThereSpec)

/-- ITS FALSE NEIGHBOUR: 'it returns false'. Refute it at one input. -/
def spreadThereWrong : ChangeSpec := { name := "spreadThere", fn := fun _ => fun
  | [d1, d2] => { results := [.lit (.bool false)], args := [d1, d2] }
  | _ => none }
def SpreadThereWrongFalsely : Prop := spreadThereRow.holds Try.pinned (OpenSpec.ofChange spreadThereWrong)

/-- 'meterlaw18.SpreadAgree': WHATEVER THE INPUT: true; the input reads as it did. -/
def spreadAgreeSpec : ChangeSpec := { name := "spreadAgree", fn := fun _ => fun
  | [d1, d2, d3, d4, d5] => { results := [.lit (.bool true)], args := [d1, d2, d3, d4, d5] }
  | _ => none }
def spreadAgreeRow : OpenClaim := { program := "ytojedfmmijglnaa", sum := "301ecdff38332c53644b927e41d82ae6a3f56720b3046b4838ef228d37de6c79", func := "meter/meterlaw18.SpreadAgree", spec := "spreadAgree", unfollowed := true, recurses := true, apart := false }
def SpreadAgreeSaid : Prop := spreadAgreeRow.holds Try.pinned (OpenSpec.ofChange spreadAgreeSpec)

/-- ITS FALSE NEIGHBOUR: 'it returns false'. Refute it at one input. -/
def spreadAgreeWrong : ChangeSpec := { name := "spreadAgree", fn := fun _ => fun
  | [d1, d2, d3, d4, d5] => { results := [.lit (.bool false)], args := [d1, d2, d3, d4, d5] }
  | _ => none }
def SpreadAgreeWrongFalsely : Prop := spreadAgreeRow.holds Try.pinned (OpenSpec.ofChange spreadAgreeWrong)

/- THE SECOND FORM. 'bulk': how many values and letters a reading holds, each counted each time it is reached (what is shared counts as often as it is met; a slice's spare places count too). A statement '..UptoSaid' is the law's where the arguments, and the package variables that the reading takes, are together of bulk at most 1048576: NARROWER than '..Said'. Prove '..Said' where nothing that the law and all that it calls make is longer than what came in: it says more and counts as full. Else prove '..UptoSaid'. A law counts once. -/
mutual
def uptoBulk {H : Type} : DataW H → Nat
  | .lit (.string bytes) => bytes.length + 1
  | .lit _ => 1
  | .nil => 1
  | .ptr d => uptoBulk d + 1
  | .slice elems spare => uptoBulkAll elems + uptoBulkAll spare + 1
  | .agg parts => uptoBulkAll parts + 1
  | .iface _ d => uptoBulk d + 1
  | .map entries => uptoBulkEntries entries + 1
  | .held _ => 1
def uptoBulkAll {H : Type} : List (DataW H) → Nat
  | [] => 0
  | d :: r => uptoBulk d + uptoBulkAll r
def uptoBulkEntries {H : Type} : List (Lit × DataW H) → Nat
  | [] => 0
  | x :: r => uptoBulkEntry x + uptoBulkEntries r
def uptoBulkEntry {H : Type} : Lit × DataW H → Nat
  | (.string bytes, d) => bytes.length + uptoBulk d + 1
  | (_, d) => uptoBulk d + 1
 end
def uptoSmall : (H : Type) → List (DataW H) → Bool := fun _ ds => decide (uptoBulkAll ds ≤ 1048576)
def OpenSpec.upto (s : _root_.Go.ChangeSpec) : _root_.Go.OpenSpec := { _root_.Go.OpenSpec.ofChange s with cond := some uptoSmall }

/-- 'meterlaw18.SpreadMost', WHERE WHAT IT READS IS OF BULK AT MOST 1048576: true; the input reads as it did. -/
def spreadMostUptoRow : OpenClaim := { program := "ytojedfmmijglnaa", sum := "301ecdff38332c53644b927e41d82ae6a3f56720b3046b4838ef228d37de6c79", func := "meter/meterlaw18.SpreadMost", spec := "spreadMost", unfollowed := true, recurses := true, apart := false, narrowed := true }
def SpreadMostUptoSaid : Prop := spreadMostUptoRow.holds Try.pinned (OpenSpec.upto spreadMostSpec)

/-- 'meterlaw18.SpreadKnown', WHERE WHAT IT READS IS OF BULK AT MOST 1048576: true; the input reads as it did. -/
def spreadKnownUptoRow : OpenClaim := { program := "ytojedfmmijglnaa", sum := "301ecdff38332c53644b927e41d82ae6a3f56720b3046b4838ef228d37de6c79", func := "meter/meterlaw18.SpreadKnown", spec := "spreadKnown", unfollowed := true, recurses := true, apart := false, narrowed := true }
def SpreadKnownUptoSaid : Prop := spreadKnownUptoRow.holds Try.pinned (OpenSpec.upto spreadKnownSpec)

/-- 'meterlaw18.SpreadTells', WHERE WHAT IT READS IS OF BULK AT MOST 1048576: true; the input reads as it did. -/
def spreadTellsUptoRow : OpenClaim := { program := "ytojedfmmijglnaa", sum := "301ecdff38332c53644b927e41d82ae6a3f56720b3046b4838ef228d37de6c79", func := "meter/meterlaw18.SpreadTells", spec := "spreadTells", unfollowed := true, recurses := true, apart := false, narrowed := true }
def SpreadTellsUptoSaid : Prop := spreadTellsUptoRow.holds Try.pinned (OpenSpec.upto spreadTellsSpec)

/-- 'meterlaw18.SpreadThere', WHERE WHAT IT READS IS OF BULK AT MOST 1048576: true; the input reads as it did. -/
def spreadThereUptoRow : OpenClaim := { program := "ytojedfmmijglnaa", sum := "301ecdff38332c53644b927e41d82ae6a3f56720b3046b4838ef228d37de6c79", func := "meter/meterlaw18.SpreadThere", spec := "spreadThere", unfollowed := true, recurses := true, apart := false, narrowed := true }
def SpreadThereUptoSaid : Prop := spreadThereUptoRow.holds Try.pinned (OpenSpec.upto spreadThereSpec)

/-- 'meterlaw18.SpreadAgree', WHERE WHAT IT READS IS OF BULK AT MOST 1048576: true; the input reads as it did. -/
def spreadAgreeUptoRow : OpenClaim := { program := "ytojedfmmijglnaa", sum := "301ecdff38332c53644b927e41d82ae6a3f56720b3046b4838ef228d37de6c79", func := "meter/meterlaw18.SpreadAgree", spec := "spreadAgree", unfollowed := true, recurses := true, apart := false, narrowed := true }
def SpreadAgreeUptoSaid : Prop := spreadAgreeUptoRow.holds Try.pinned (OpenSpec.upto spreadAgreeSpec)

end Rows
end Go.Proofs.Ytojedfmmijglnaa
