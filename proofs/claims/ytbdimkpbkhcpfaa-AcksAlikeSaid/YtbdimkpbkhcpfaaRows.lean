/-
  No cell of these rows narrows 'for every input' (looked for: loops, veiled, ifaces, maps, wideKeys, modest, calm, conditions, laid).
  DERIVED. THE GIVEN ROWS OF THIS SEAT. 5 by the template 'for every input the law returns true; each argument reads behind the call as it read before'; 0 by the template 'total and deterministic' (their statements: YtbdimkpbkhcpfaaTotals.lean).
  GIVEN WITH THE SEED: the statements are not yours to turn. If you find one false, say at which input.
  Laid BY PROGRAM, IN A SANDBOX (cutbox-rows.mjs): the forced cells as the released guide's own fill.sh prints them over the translation a3e297e1dfdfbe77… (all of the seat's roots in one cut). By AI agents, Wed Nov 11 2026. No macro, syntax, notation, axiom, sorry.
-/
import Derived.Test.YtbdimkpbkhcpfaaChecked
import GoSem.Claim
import GoSem.ClaimJoined
import GoSem.ClaimMapViews
import Derived.JoinedTies
import Derived.KernelRfl
namespace Go.Proofs.Ytbdimkpbkhcpfaa
/- THE CELL 'sum', in the pinned program and in every row, IS THE sha256 OF THE DUMP (.gsa) THAT YtbdimkpbkhcpfaaProg.lean LOADS. Nothing in Lean hashes anything: it is a label: what it is worth is what the hold of that sum in a sandbox is worth. -/
noncomputable def Try.pinned : Pinned := { name := "ytbdimkpbkhcpfaa", sum := "a3e297e1dfdfbe77efae88b7419c548640be18cd2a6c6e20a0b6aaeeba1116fc", checked := Try.checked }
namespace Rows
def none {H : Type} : Left H := { results := [], args := [] }

/-- 'meterlaw12.AcksAlike': WHATEVER THE INPUT: true; the input reads as it did. -/
def acksAlikeSpec : ChangeSpec := { name := "acksAlike", fn := fun _ => fun
  | [d] => { results := [.lit (.bool true)], args := [d] }
  | _ => none }
def acksAlikeRow : OpenClaim := { program := "ytbdimkpbkhcpfaa", sum := "a3e297e1dfdfbe77efae88b7419c548640be18cd2a6c6e20a0b6aaeeba1116fc", func := "meter/meterlaw12.AcksAlike", spec := "acksAlike", unfollowed := true, recurses := true, apart := false }
def AcksAlikeSaid : Prop := acksAlikeRow.holds Try.pinned (OpenSpec.ofChange acksAlikeSpec)

/-- ITS FALSE NEIGHBOUR: 'it returns false'. Refute it at one input. -/
def acksAlikeWrong : ChangeSpec := { name := "acksAlike", fn := fun _ => fun
  | [d] => { results := [.lit (.bool false)], args := [d] }
  | _ => none }
def AcksAlikeWrongFalsely : Prop := acksAlikeRow.holds Try.pinned (OpenSpec.ofChange acksAlikeWrong)

/-- 'meterlaw12.AcksJoin': WHATEVER THE INPUT: true; the input reads as it did. -/
def acksJoinSpec : ChangeSpec := { name := "acksJoin", fn := fun _ => fun
  | [d1, d2, d3] => { results := [.lit (.bool true)], args := [d1, d2, d3] }
  | _ => none }
def acksJoinRow : OpenClaim := { program := "ytbdimkpbkhcpfaa", sum := "a3e297e1dfdfbe77efae88b7419c548640be18cd2a6c6e20a0b6aaeeba1116fc", func := "meter/meterlaw12.AcksJoin", spec := "acksJoin", unfollowed := true, recurses := true, apart := false }
def AcksJoinSaid : Prop := acksJoinRow.holds Try.pinned (OpenSpec.ofChange acksJoinSpec)

/-- ITS FALSE NEIGHBOUR: 'it returns false'. Refute it at one input. -/
def acksJoinWrong : ChangeSpec := { name := "acksJoin", fn := fun _ => fun
  | [d1, d2, d3] => { results := [.lit (.bool false)], args := [d1, d2, d3] }
  | _ => none }
def AcksJoinWrongFalsely : Prop := acksJoinRow.holds Try.pinned (OpenSpec.ofChange acksJoinWrong)

/-- 'meterlaw12.AcksKnown': WHATEVER THE INPUT: true; the input reads as it did. -/
def acksKnownSpec : ChangeSpec := { name := "acksKnown", fn := fun _ => fun
  | [] => { results := [.lit (.bool true)], args := [] }
  | _ => none }
def acksKnownRow : OpenClaim := { program := "ytbdimkpbkhcpfaa", sum := "a3e297e1dfdfbe77efae88b7419c548640be18cd2a6c6e20a0b6aaeeba1116fc", func := "meter/meterlaw12.AcksKnown", spec := "acksKnown", unfollowed := true, recurses := true, apart := false }
def AcksKnownSaid : Prop := acksKnownRow.holds Try.pinned (OpenSpec.ofChange acksKnownSpec)

/-- ITS FALSE NEIGHBOUR: 'it returns false'. Refute it at one input. -/
def acksKnownWrong : ChangeSpec := { name := "acksKnown", fn := fun _ => fun
  | [] => { results := [.lit (.bool false)], args := [] }
  | _ => none }
def AcksKnownWrongFalsely : Prop := acksKnownRow.holds Try.pinned (OpenSpec.ofChange acksKnownWrong)

/-- 'meterlaw12.AcksPlays': WHATEVER THE INPUT: true; the input reads as it did. -/
def acksPlaysSpec : ChangeSpec := { name := "acksPlays", fn := fun _ => fun
  | [d1, d2, d3] => { results := [.lit (.bool true)], args := [d1, d2, d3] }
  | _ => none }
def acksPlaysRow : OpenClaim := { program := "ytbdimkpbkhcpfaa", sum := "a3e297e1dfdfbe77efae88b7419c548640be18cd2a6c6e20a0b6aaeeba1116fc", func := "meter/meterlaw12.AcksPlays", spec := "acksPlays", unfollowed := true, recurses := true, apart := false }
def AcksPlaysSaid : Prop := acksPlaysRow.holds Try.pinned (OpenSpec.ofChange acksPlaysSpec)

/-- ITS FALSE NEIGHBOUR: 'it returns false'. Refute it at one input. -/
def acksPlaysWrong : ChangeSpec := { name := "acksPlays", fn := fun _ => fun
  | [d1, d2, d3] => { results := [.lit (.bool false)], args := [d1, d2, d3] }
  | _ => none }
def AcksPlaysWrongFalsely : Prop := acksPlaysRow.holds Try.pinned (OpenSpec.ofChange acksPlaysWrong)

/-- 'meterlaw12.AcksMissing': WHATEVER THE INPUT: true; the input reads as it did. -/
def acksMissingSpec : ChangeSpec := { name := "acksMissing", fn := fun _ => fun
  | [d1, d2] => { results := [.lit (.bool true)], args := [d1, d2] }
  | _ => none }
def acksMissingRow : OpenClaim := { program := "ytbdimkpbkhcpfaa", sum := "a3e297e1dfdfbe77efae88b7419c548640be18cd2a6c6e20a0b6aaeeba1116fc", func := "meter/meterlaw12.AcksMissing", spec := "acksMissing", unfollowed := true, recurses := true, apart := false }
def AcksMissingSaid : Prop := acksMissingRow.holds Try.pinned (OpenSpec.ofChange acksMissingSpec)

/-- ITS FALSE NEIGHBOUR: 'it returns false'. Refute it at one input. -/
def acksMissingWrong : ChangeSpec := { name := "acksMissing", fn := fun _ => fun
  | [d1, d2] => { results := [.lit (.bool false)], args := [d1, d2] }
  | _ => none }
def AcksMissingWrongFalsely : Prop := acksMissingRow.holds Try.pinned (OpenSpec.ofChange acksMissingWrong)

/- THE SECOND FORM. 'bulk': how many values and letters a reading holds, each counted each time it is reached (what is shared counts as often as it is met; a slice's spare places count too). A statement '..UptoSaid' is the law's where the arguments, and the package variables that the reading takes, are together of bulk at most 1048576: NARROWER than '..Said'. Prove '..Said' where nothing that the law and all that it calls make is longer than what came in: it says more and counts as full. Else prove '..UptoSaid'. A law counts once. -/
mutual
def uptoBulk {H : Type} : DataW H → Nat
  | .lit (.string bytes) => bytes.length + 1
  | .lit _ => 1
  | .nil => 1
  | .ptr d => uptoBulk d + 1
  | .slice elems spare => uptoBulkAll elems + uptoBulkAll spare + 1
  | .agg parts => uptoBulkAll parts + 1
  | .iface _ d => uptoBulk d + 1
  | .map entries => uptoBulkEntries entries + 1
  | .held _ => 1
def uptoBulkAll {H : Type} : List (DataW H) → Nat
  | [] => 0
  | d :: r => uptoBulk d + uptoBulkAll r
def uptoBulkEntries {H : Type} : List (Lit × DataW H) → Nat
  | [] => 0
  | x :: r => uptoBulkEntry x + uptoBulkEntries r
def uptoBulkEntry {H : Type} : Lit × DataW H → Nat
  | (.string bytes, d) => bytes.length + uptoBulk d + 1
  | (_, d) => uptoBulk d + 1
 end
def uptoSmall : (H : Type) → List (DataW H) → Bool := fun _ ds => decide (uptoBulkAll ds ≤ 1048576)
def OpenSpec.upto (s : _root_.Go.ChangeSpec) : _root_.Go.OpenSpec := { _root_.Go.OpenSpec.ofChange s with cond := some uptoSmall }

/-- 'meterlaw12.AcksAlike', WHERE WHAT IT READS IS OF BULK AT MOST 1048576: true; the input reads as it did. -/
def acksAlikeUptoRow : OpenClaim := { program := "ytbdimkpbkhcpfaa", sum := "a3e297e1dfdfbe77efae88b7419c548640be18cd2a6c6e20a0b6aaeeba1116fc", func := "meter/meterlaw12.AcksAlike", spec := "acksAlike", unfollowed := true, recurses := true, apart := false, narrowed := true }
def AcksAlikeUptoSaid : Prop := acksAlikeUptoRow.holds Try.pinned (OpenSpec.upto acksAlikeSpec)

/-- 'meterlaw12.AcksJoin', WHERE WHAT IT READS IS OF BULK AT MOST 1048576: true; the input reads as it did. -/
def acksJoinUptoRow : OpenClaim := { program := "ytbdimkpbkhcpfaa", sum := "a3e297e1dfdfbe77efae88b7419c548640be18cd2a6c6e20a0b6aaeeba1116fc", func := "meter/meterlaw12.AcksJoin", spec := "acksJoin", unfollowed := true, recurses := true, apart := false, narrowed := true }
def AcksJoinUptoSaid : Prop := acksJoinUptoRow.holds Try.pinned (OpenSpec.upto acksJoinSpec)

/-- 'meterlaw12.AcksKnown', WHERE WHAT IT READS IS OF BULK AT MOST 1048576: true; the input reads as it did. -/
def acksKnownUptoRow : OpenClaim := { program := "ytbdimkpbkhcpfaa", sum := "a3e297e1dfdfbe77efae88b7419c548640be18cd2a6c6e20a0b6aaeeba1116fc", func := "meter/meterlaw12.AcksKnown", spec := "acksKnown", unfollowed := true, recurses := true, apart := false, narrowed := true }
def AcksKnownUptoSaid : Prop := acksKnownUptoRow.holds Try.pinned (OpenSpec.upto acksKnownSpec)

/-- 'meterlaw12.AcksPlays', WHERE WHAT IT READS IS OF BULK AT MOST 1048576: true; the input reads as it did. -/
def acksPlaysUptoRow : OpenClaim := { program := "ytbdimkpbkhcpfaa", sum := "a3e297e1dfdfbe77efae88b7419c548640be18cd2a6c6e20a0b6aaeeba1116fc", func := "meter/meterlaw12.AcksPlays", spec := "acksPlays", unfollowed := true, recurses := true, apart := false, narrowed := true }
def AcksPlaysUptoSaid : Prop := acksPlaysUptoRow.holds Try.pinned (OpenSpec.upto acksPlaysSpec)

/-- 'meterlaw12.AcksMissing', WHERE WHAT IT READS IS OF BULK AT MOST 1048576: true; the input reads as it did. -/
def acksMissingUptoRow : OpenClaim := { program := "ytbdimkpbkhcpfaa", sum := "a3e297e1dfdfbe77efae88b7419c548640be18cd2a6c6e20a0b6aaeeba1116fc", func := "meter/meterlaw12.AcksMissing", spec := "acksMissing", unfollowed := true, recurses := true, apart := false, narrowed := true }
def AcksMissingUptoSaid : Prop := acksMissingUptoRow.holds Try.pinned (OpenSpec.upto acksMissingSpec)

end Rows
end Go.Proofs.Ytbdimkpbkhcpfaa
