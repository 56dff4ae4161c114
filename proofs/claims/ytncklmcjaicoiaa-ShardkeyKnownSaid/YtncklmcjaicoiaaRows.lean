/-
  No cell of these rows narrows 'for every input' (looked for: loops, veiled, ifaces, maps, wideKeys, modest, calm, conditions, laid).
  DERIVED. THE GIVEN ROWS OF THIS SEAT. 5 by the template 'for every input the law returns true; each argument reads behind the call as it read before'; 0 by the template 'total and deterministic' (their statements: YtncklmcjaicoiaaTotals.lean).
  GIVEN WITH THE SEED: the statements are not yours to turn. If you find one false, say at which input.
  Laid BY PROGRAM, IN A SANDBOX (cutbox-rows.mjs): the forced cells as the released guide's own fill.sh prints them over the translation 92e7355b0cc1d722… (all of the seat's roots in one cut). By AI agents, Wed Nov 11 2026. No macro, syntax, notation, axiom, sorry.
-/
import Derived.Test.YtncklmcjaicoiaaChecked
import GoSem.Claim
import GoSem.ClaimJoined
import GoSem.ClaimMapViews
import Derived.JoinedTies
import Derived.KernelRfl
namespace Go.Proofs.Ytncklmcjaicoiaa
/- THE CELL 'sum', in the pinned program and in every row, IS THE sha256 OF THE DUMP (.gsa) THAT YtncklmcjaicoiaaProg.lean LOADS. Nothing in Lean hashes anything: it is a label: what it is worth is what the hold of that sum in a sandbox is worth. -/
noncomputable def Try.pinned : Pinned := { name := "ytncklmcjaicoiaa", sum := "92e7355b0cc1d722f91835421ceb121e1f4132d29bdfdb9d55a13279a52d6eaa", checked := Try.checked }
namespace Rows
def none {H : Type} : Left H := { results := [], args := [] }

/-- 'meterlaw06.ShardkeyGoes': WHATEVER THE INPUT: true; the input reads as it did. -/
def shardkeyGoesSpec : ChangeSpec := { name := "shardkeyGoes", fn := fun _ => fun
  | [d1, d2] => { results := [.lit (.bool true)], args := [d1, d2] }
  | _ => none }
def shardkeyGoesRow : OpenClaim := { program := "ytncklmcjaicoiaa", sum := "92e7355b0cc1d722f91835421ceb121e1f4132d29bdfdb9d55a13279a52d6eaa", func := "meter/meterlaw06.ShardkeyGoes", spec := "shardkeyGoes", apart := false }
def ShardkeyGoesSaid : Prop := shardkeyGoesRow.holds Try.pinned (OpenSpec.ofChange shardkeyGoesSpec)

/-- ITS FALSE NEIGHBOUR: 'it returns false'. Refute it at one input. -/
def shardkeyGoesWrong : ChangeSpec := { name := "shardkeyGoes", fn := fun _ => fun
  | [d1, d2] => { results := [.lit (.bool false)], args := [d1, d2] }
  | _ => none }
def ShardkeyGoesWrongFalsely : Prop := shardkeyGoesRow.holds Try.pinned (OpenSpec.ofChange shardkeyGoesWrong)

/-- 'meterlaw06.ShardkeyByte': WHATEVER THE INPUT: true; the input reads as it did. -/
def shardkeyByteSpec : ChangeSpec := { name := "shardkeyByte", fn := fun _ => fun
  | [d1, d2, d3] => { results := [.lit (.bool true)], args := [d1, d2, d3] }
  | _ => none }
def shardkeyByteRow : OpenClaim := { program := "ytncklmcjaicoiaa", sum := "92e7355b0cc1d722f91835421ceb121e1f4132d29bdfdb9d55a13279a52d6eaa", func := "meter/meterlaw06.ShardkeyByte", spec := "shardkeyByte", apart := false }
def ShardkeyByteSaid : Prop := shardkeyByteRow.holds Try.pinned (OpenSpec.ofChange shardkeyByteSpec)

/-- ITS FALSE NEIGHBOUR: 'it returns false'. Refute it at one input. -/
def shardkeyByteWrong : ChangeSpec := { name := "shardkeyByte", fn := fun _ => fun
  | [d1, d2, d3] => { results := [.lit (.bool false)], args := [d1, d2, d3] }
  | _ => none }
def ShardkeyByteWrongFalsely : Prop := shardkeyByteRow.holds Try.pinned (OpenSpec.ofChange shardkeyByteWrong)

/-- 'meterlaw06.ShardkeyKnown': WHATEVER THE INPUT: true; the input reads as it did. -/
def shardkeyKnownSpec : ChangeSpec := { name := "shardkeyKnown", fn := fun _ => fun
  | [] => { results := [.lit (.bool true)], args := [] }
  | _ => none }
def shardkeyKnownRow : OpenClaim := { program := "ytncklmcjaicoiaa", sum := "92e7355b0cc1d722f91835421ceb121e1f4132d29bdfdb9d55a13279a52d6eaa", func := "meter/meterlaw06.ShardkeyKnown", spec := "shardkeyKnown", apart := false }
def ShardkeyKnownSaid : Prop := shardkeyKnownRow.holds Try.pinned (OpenSpec.ofChange shardkeyKnownSpec)

/-- ITS FALSE NEIGHBOUR: 'it returns false'. Refute it at one input. -/
def shardkeyKnownWrong : ChangeSpec := { name := "shardkeyKnown", fn := fun _ => fun
  | [] => { results := [.lit (.bool false)], args := [] }
  | _ => none }
def ShardkeyKnownWrongFalsely : Prop := shardkeyKnownRow.holds Try.pinned (OpenSpec.ofChange shardkeyKnownWrong)

/-- 'meterlaw06.ShardkeyPrints': WHATEVER THE INPUT: true; the input reads as it did. -/
def shardkeyPrintsSpec : ChangeSpec := { name := "shardkeyPrints", fn := fun _ => fun
  | [d1, d2] => { results := [.lit (.bool true)], args := [d1, d2] }
  | _ => none }
def shardkeyPrintsRow : OpenClaim := { program := "ytncklmcjaicoiaa", sum := "92e7355b0cc1d722f91835421ceb121e1f4132d29bdfdb9d55a13279a52d6eaa", func := "meter/meterlaw06.ShardkeyPrints", spec := "shardkeyPrints", apart := false }
def ShardkeyPrintsSaid : Prop := shardkeyPrintsRow.holds Try.pinned (OpenSpec.ofChange shardkeyPrintsSpec)

/-- ITS FALSE NEIGHBOUR: 'it returns false'. Refute it at one input. -/
def shardkeyPrintsWrong : ChangeSpec := { name := "shardkeyPrints", fn := fun _ => fun
  | [d1, d2] => { results := [.lit (.bool false)], args := [d1, d2] }
  | _ => none }
def ShardkeyPrintsWrongFalsely : Prop := shardkeyPrintsRow.holds Try.pinned (OpenSpec.ofChange shardkeyPrintsWrong)

/-- 'meterlaw06.ShardkeyRange': WHATEVER THE INPUT: true; the input reads as it did. -/
def shardkeyRangeSpec : ChangeSpec := { name := "shardkeyRange", fn := fun _ => fun
  | [d1, d2, d3] => { results := [.lit (.bool true)], args := [d1, d2, d3] }
  | _ => none }
def shardkeyRangeRow : OpenClaim := { program := "ytncklmcjaicoiaa", sum := "92e7355b0cc1d722f91835421ceb121e1f4132d29bdfdb9d55a13279a52d6eaa", func := "meter/meterlaw06.ShardkeyRange", spec := "shardkeyRange", apart := false }
def ShardkeyRangeSaid : Prop := shardkeyRangeRow.holds Try.pinned (OpenSpec.ofChange shardkeyRangeSpec)

/-- ITS FALSE NEIGHBOUR: 'it returns false'. Refute it at one input. -/
def shardkeyRangeWrong : ChangeSpec := { name := "shardkeyRange", fn := fun _ => fun
  | [d1, d2, d3] => { results := [.lit (.bool false)], args := [d1, d2, d3] }
  | _ => none }
def ShardkeyRangeWrongFalsely : Prop := shardkeyRangeRow.holds Try.pinned (OpenSpec.ofChange shardkeyRangeWrong)

/- THE SECOND FORM. 'bulk': how many values and letters a reading holds, each counted each time it is reached (what is shared counts as often as it is met; a slice's spare places count too). A statement '..UptoSaid' is the law's where the arguments, and the package variables that the reading takes, are together of bulk at most 1048576: NARROWER than '..Said'. Prove '..Said' where nothing that the law and all that it calls make is longer than what came in: it says more and counts as full. Else prove '..UptoSaid'. A law counts once. -/
mutual
def uptoBulk {H : Type} : DataW H → Nat
  | .lit (.string bytes) => bytes.length + 1
  | .lit _ => 1
  | .nil => 1
  | .ptr d => uptoBulk d + 1
  | .slice elems spare => uptoBulkAll elems + uptoBulkAll spare + 1
  | .agg parts => uptoBulkAll parts + 1
  | .iface _ d => uptoBulk d + 1
  | .map entries => uptoBulkEntries entries + 1
  | .held _ => 1
def uptoBulkAll {H : Type} : List (DataW H) → Nat
  | [] => 0
  | d :: r => uptoBulk d + uptoBulkAll r
def uptoBulkEntries {H : Type} : List (Lit × DataW H) → Nat
  | [] => 0
  | x :: r => uptoBulkEntry x + uptoBulkEntries r
def uptoBulkEntry {H : Type} : Lit × DataW H → Nat
  | (.string bytes, d) => bytes.length + uptoBulk d + 1
  | (_, d) => uptoBulk d + 1
 end
def uptoSmall : (H : Type) → List (DataW H) → Bool := fun _ ds => decide (uptoBulkAll ds ≤ 1048576)
def OpenSpec.upto (s : _root_.Go.ChangeSpec) : _root_.Go.OpenSpec := { _root_.Go.OpenSpec.ofChange s with cond := some uptoSmall }

/-- 'meterlaw06.ShardkeyGoes', WHERE WHAT IT READS IS OF BULK AT MOST 1048576: true; the input reads as it did. -/
def shardkeyGoesUptoRow : OpenClaim := { program := "ytncklmcjaicoiaa", sum := "92e7355b0cc1d722f91835421ceb121e1f4132d29bdfdb9d55a13279a52d6eaa", func := "meter/meterlaw06.ShardkeyGoes", spec := "shardkeyGoes", apart := false, narrowed := true }
def ShardkeyGoesUptoSaid : Prop := shardkeyGoesUptoRow.holds Try.pinned (OpenSpec.upto shardkeyGoesSpec)

/-- 'meterlaw06.ShardkeyByte', WHERE WHAT IT READS IS OF BULK AT MOST 1048576: true; the input reads as it did. -/
def shardkeyByteUptoRow : OpenClaim := { program := "ytncklmcjaicoiaa", sum := "92e7355b0cc1d722f91835421ceb121e1f4132d29bdfdb9d55a13279a52d6eaa", func := "meter/meterlaw06.ShardkeyByte", spec := "shardkeyByte", apart := false, narrowed := true }
def ShardkeyByteUptoSaid : Prop := shardkeyByteUptoRow.holds Try.pinned (OpenSpec.upto shardkeyByteSpec)

/-- 'meterlaw06.ShardkeyKnown', WHERE WHAT IT READS IS OF BULK AT MOST 1048576: true; the input reads as it did. -/
def shardkeyKnownUptoRow : OpenClaim := { program := "ytncklmcjaicoiaa", sum := "92e7355b0cc1d722f91835421ceb121e1f4132d29bdfdb9d55a13279a52d6eaa", func := "meter/meterlaw06.ShardkeyKnown", spec := "shardkeyKnown", apart := false, narrowed := true }
def ShardkeyKnownUptoSaid : Prop := shardkeyKnownUptoRow.holds Try.pinned (OpenSpec.upto shardkeyKnownSpec)

/-- 'meterlaw06.ShardkeyPrints', WHERE WHAT IT READS IS OF BULK AT MOST 1048576: true; the input reads as it did. -/
def shardkeyPrintsUptoRow : OpenClaim := { program := "ytncklmcjaicoiaa", sum := "92e7355b0cc1d722f91835421ceb121e1f4132d29bdfdb9d55a13279a52d6eaa", func := "meter/meterlaw06.ShardkeyPrints", spec := "shardkeyPrints", apart := false, narrowed := true }
def ShardkeyPrintsUptoSaid : Prop := shardkeyPrintsUptoRow.holds Try.pinned (OpenSpec.upto shardkeyPrintsSpec)

/-- 'meterlaw06.ShardkeyRange', WHERE WHAT IT READS IS OF BULK AT MOST 1048576: true; the input reads as it did. -/
def shardkeyRangeUptoRow : OpenClaim := { program := "ytncklmcjaicoiaa", sum := "92e7355b0cc1d722f91835421ceb121e1f4132d29bdfdb9d55a13279a52d6eaa", func := "meter/meterlaw06.ShardkeyRange", spec := "shardkeyRange", apart := false, narrowed := true }
def ShardkeyRangeUptoSaid : Prop := shardkeyRangeUptoRow.holds Try.pinned (OpenSpec.upto shardkeyRangeSpec)

end Rows
end Go.Proofs.Ytncklmcjaicoiaa
