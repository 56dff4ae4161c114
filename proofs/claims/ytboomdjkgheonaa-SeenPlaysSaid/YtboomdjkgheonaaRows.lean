/-
  No cell of these rows narrows 'for every input' (looked for: loops, veiled, ifaces, maps, wideKeys, modest, calm, conditions, laid).
  DERIVED. THE GIVEN ROWS OF THIS SEAT. 5 by the template 'for every input the law returns true; each argument reads behind the call as it read before'; 0 by the template 'total and deterministic' (their statements: YtboomdjkgheonaaTotals.lean).
  GIVEN WITH THE SEED: the statements are not yours to turn. If you find one false, say at which input.
  Laid BY PROGRAM, IN A SANDBOX (cutbox-rows.mjs): the forced cells as the released guide's own fill.sh prints them over the translation 391b1ac01b7cbbea… (all of the seat's roots in one cut). By AI agents, Wed Nov 11 2026. No macro, syntax, notation, axiom, sorry.
-/
import Derived.Test.YtboomdjkgheonaaChecked
import GoSem.Claim
import GoSem.ClaimJoined
import GoSem.ClaimMapViews
import Derived.JoinedTies
import Derived.KernelRfl
namespace Go.Proofs.Ytboomdjkgheonaa
/- THE CELL 'sum', in the pinned program and in every row, IS THE sha256 OF THE DUMP (.gsa) THAT YtboomdjkgheonaaProg.lean LOADS. Nothing in Lean hashes anything: it is a label: what it is worth is what the hold of that sum in a sandbox is worth. -/
noncomputable def Try.pinned : Pinned := { name := "ytboomdjkgheonaa", sum := "391b1ac01b7cbbea1284bcfa302981898963059c4a9e31639b2a9acca9937370", checked := Try.checked }
namespace Rows
def none {H : Type} : Left H := { results := [], args := [] }

/-- 'meterlaw11.SeenKnown': WHATEVER THE INPUT: true; the input reads as it did. -/
def seenKnownSpec : ChangeSpec := { name := "seenKnown", fn := fun _ => fun
  | [] => { results := [.lit (.bool true)], args := [] }
  | _ => none }
def seenKnownRow : OpenClaim := { program := "ytboomdjkgheonaa", sum := "391b1ac01b7cbbea1284bcfa302981898963059c4a9e31639b2a9acca9937370", func := "meter/meterlaw11.SeenKnown", spec := "seenKnown", unfollowed := true, recurses := true, plainKeys := false, apart := false }
def SeenKnownSaid : Prop := seenKnownRow.holds Try.pinned (OpenSpec.ofChange seenKnownSpec)

/-- ITS FALSE NEIGHBOUR: 'it returns false'. Refute it at one input. -/
def seenKnownWrong : ChangeSpec := { name := "seenKnown", fn := fun _ => fun
  | [] => { results := [.lit (.bool false)], args := [] }
  | _ => none }
def SeenKnownWrongFalsely : Prop := seenKnownRow.holds Try.pinned (OpenSpec.ofChange seenKnownWrong)

/-- 'meterlaw11.SeenOnce': WHATEVER THE INPUT: true; the input reads as it did. -/
def seenOnceSpec : ChangeSpec := { name := "seenOnce", fn := fun _ => fun
  | [d] => { results := [.lit (.bool true)], args := [d] }
  | _ => none }
def seenOnceRow : OpenClaim := { program := "ytboomdjkgheonaa", sum := "391b1ac01b7cbbea1284bcfa302981898963059c4a9e31639b2a9acca9937370", func := "meter/meterlaw11.SeenOnce", spec := "seenOnce", unfollowed := true, recurses := true, plainKeys := false, apart := false }
def SeenOnceSaid : Prop := seenOnceRow.holds Try.pinned (OpenSpec.ofChange seenOnceSpec)

/-- ITS FALSE NEIGHBOUR: 'it returns false'. Refute it at one input. -/
def seenOnceWrong : ChangeSpec := { name := "seenOnce", fn := fun _ => fun
  | [d] => { results := [.lit (.bool false)], args := [d] }
  | _ => none }
def SeenOnceWrongFalsely : Prop := seenOnceRow.holds Try.pinned (OpenSpec.ofChange seenOnceWrong)

/-- 'meterlaw11.SeenNobody': WHATEVER THE INPUT: true; the input reads as it did. -/
def seenNobodySpec : ChangeSpec := { name := "seenNobody", fn := fun _ => fun
  | [d1, d2, d3, d4] => { results := [.lit (.bool true)], args := [d1, d2, d3, d4] }
  | _ => none }
def seenNobodyRow : OpenClaim := { program := "ytboomdjkgheonaa", sum := "391b1ac01b7cbbea1284bcfa302981898963059c4a9e31639b2a9acca9937370", func := "meter/meterlaw11.SeenNobody", spec := "seenNobody", inPlace := ["maps.clone"], unfollowed := true, recurses := true, plainKeys := false, apart := false }
def SeenNobodySaid : Prop := seenNobodyRow.holds Try.pinned (OpenSpec.ofChange seenNobodySpec)

/-- ITS FALSE NEIGHBOUR: 'it returns false'. Refute it at one input. -/
def seenNobodyWrong : ChangeSpec := { name := "seenNobody", fn := fun _ => fun
  | [d1, d2, d3, d4] => { results := [.lit (.bool false)], args := [d1, d2, d3, d4] }
  | _ => none }
def SeenNobodyWrongFalsely : Prop := seenNobodyRow.holds Try.pinned (OpenSpec.ofChange seenNobodyWrong)

/-- 'meterlaw11.SeenPlays': WHATEVER THE INPUT: true; the input reads as it did. -/
def seenPlaysSpec : ChangeSpec := { name := "seenPlays", fn := fun _ => fun
  | [d1, d2, d3] => { results := [.lit (.bool true)], args := [d1, d2, d3] }
  | _ => none }
def seenPlaysRow : OpenClaim := { program := "ytboomdjkgheonaa", sum := "391b1ac01b7cbbea1284bcfa302981898963059c4a9e31639b2a9acca9937370", func := "meter/meterlaw11.SeenPlays", spec := "seenPlays", unfollowed := true, recurses := true, plainKeys := false, apart := false }
def SeenPlaysSaid : Prop := seenPlaysRow.holds Try.pinned (OpenSpec.ofChange seenPlaysSpec)

/-- ITS FALSE NEIGHBOUR: 'it returns false'. Refute it at one input. -/
def seenPlaysWrong : ChangeSpec := { name := "seenPlays", fn := fun _ => fun
  | [d1, d2, d3] => { results := [.lit (.bool false)], args := [d1, d2, d3] }
  | _ => none }
def SeenPlaysWrongFalsely : Prop := seenPlaysRow.holds Try.pinned (OpenSpec.ofChange seenPlaysWrong)

/-- 'meterlaw11.SeenTwin': WHATEVER THE INPUT: true; the input reads as it did. -/
def seenTwinSpec : ChangeSpec := { name := "seenTwin", fn := fun _ => fun
  | [d1, d2] => { results := [.lit (.bool true)], args := [d1, d2] }
  | _ => none }
def seenTwinRow : OpenClaim := { program := "ytboomdjkgheonaa", sum := "391b1ac01b7cbbea1284bcfa302981898963059c4a9e31639b2a9acca9937370", func := "meter/meterlaw11.SeenTwin", spec := "seenTwin", inPlace := ["maps.clone"], unfollowed := true, recurses := true, plainKeys := false, apart := false }
def SeenTwinSaid : Prop := seenTwinRow.holds Try.pinned (OpenSpec.ofChange seenTwinSpec)

/-- ITS FALSE NEIGHBOUR: 'it returns false'. Refute it at one input. -/
def seenTwinWrong : ChangeSpec := { name := "seenTwin", fn := fun _ => fun
  | [d1, d2] => { results := [.lit (.bool false)], args := [d1, d2] }
  | _ => none }
def SeenTwinWrongFalsely : Prop := seenTwinRow.holds Try.pinned (OpenSpec.ofChange seenTwinWrong)

/- THE SECOND FORM. 'bulk': how many values and letters a reading holds, each counted each time it is reached (what is shared counts as often as it is met; a slice's spare places count too). A statement '..UptoSaid' is the law's where the arguments, and the package variables that the reading takes, are together of bulk at most 1048576: NARROWER than '..Said'. Prove '..Said' where nothing that the law and all that it calls make is longer than what came in: it says more and counts as full. Else prove '..UptoSaid'. A law counts once. -/
mutual
def uptoBulk {H : Type} : DataW H → Nat
  | .lit (.string bytes) => bytes.length + 1
  | .lit _ => 1
  | .nil => 1
  | .ptr d => uptoBulk d + 1
  | .slice elems spare => uptoBulkAll elems + uptoBulkAll spare + 1
  | .agg parts => uptoBulkAll parts + 1
  | .iface _ d => uptoBulk d + 1
  | .map entries => uptoBulkEntries entries + 1
  | .held _ => 1
def uptoBulkAll {H : Type} : List (DataW H) → Nat
  | [] => 0
  | d :: r => uptoBulk d + uptoBulkAll r
def uptoBulkEntries {H : Type} : List (Lit × DataW H) → Nat
  | [] => 0
  | x :: r => uptoBulkEntry x + uptoBulkEntries r
def uptoBulkEntry {H : Type} : Lit × DataW H → Nat
  | (.string bytes, d) => bytes.length + uptoBulk d + 1
  | (_, d) => uptoBulk d + 1
 end
def uptoSmall : (H : Type) → List (DataW H) → Bool := fun _ ds => decide (uptoBulkAll ds ≤ 1048576)
def OpenSpec.upto (s : _root_.Go.ChangeSpec) : _root_.Go.OpenSpec := { _root_.Go.OpenSpec.ofChange s with cond := some uptoSmall }

/-- 'meterlaw11.SeenKnown', WHERE WHAT IT READS IS OF BULK AT MOST 1048576: true; the input reads as it did. -/
def seenKnownUptoRow : OpenClaim := { program := "ytboomdjkgheonaa", sum := "391b1ac01b7cbbea1284bcfa302981898963059c4a9e31639b2a9acca9937370", func := "meter/meterlaw11.SeenKnown", spec := "seenKnown", unfollowed := true, recurses := true, plainKeys := false, apart := false, narrowed := true }
def SeenKnownUptoSaid : Prop := seenKnownUptoRow.holds Try.pinned (OpenSpec.upto seenKnownSpec)

/-- 'meterlaw11.SeenOnce', WHERE WHAT IT READS IS OF BULK AT MOST 1048576: true; the input reads as it did. -/
def seenOnceUptoRow : OpenClaim := { program := "ytboomdjkgheonaa", sum := "391b1ac01b7cbbea1284bcfa302981898963059c4a9e31639b2a9acca9937370", func := "meter/meterlaw11.SeenOnce", spec := "seenOnce", unfollowed := true, recurses := true, plainKeys := false, apart := false, narrowed := true }
def SeenOnceUptoSaid : Prop := seenOnceUptoRow.holds Try.pinned (OpenSpec.upto seenOnceSpec)

/-- 'meterlaw11.SeenNobody', WHERE WHAT IT READS IS OF BULK AT MOST 1048576: true; the input reads as it did. -/
def seenNobodyUptoRow : OpenClaim := { program := "ytboomdjkgheonaa", sum := "391b1ac01b7cbbea1284bcfa302981898963059c4a9e31639b2a9acca9937370", func := "meter/meterlaw11.SeenNobody", spec := "seenNobody", inPlace := ["maps.clone"], unfollowed := true, recurses := true, plainKeys := false, apart := false, narrowed := true }
def SeenNobodyUptoSaid : Prop := seenNobodyUptoRow.holds Try.pinned (OpenSpec.upto seenNobodySpec)

/-- 'meterlaw11.SeenPlays', WHERE WHAT IT READS IS OF BULK AT MOST 1048576: true; the input reads as it did. -/
def seenPlaysUptoRow : OpenClaim := { program := "ytboomdjkgheonaa", sum := "391b1ac01b7cbbea1284bcfa302981898963059c4a9e31639b2a9acca9937370", func := "meter/meterlaw11.SeenPlays", spec := "seenPlays", unfollowed := true, recurses := true, plainKeys := false, apart := false, narrowed := true }
def SeenPlaysUptoSaid : Prop := seenPlaysUptoRow.holds Try.pinned (OpenSpec.upto seenPlaysSpec)

/-- 'meterlaw11.SeenTwin', WHERE WHAT IT READS IS OF BULK AT MOST 1048576: true; the input reads as it did. -/
def seenTwinUptoRow : OpenClaim := { program := "ytboomdjkgheonaa", sum := "391b1ac01b7cbbea1284bcfa302981898963059c4a9e31639b2a9acca9937370", func := "meter/meterlaw11.SeenTwin", spec := "seenTwin", inPlace := ["maps.clone"], unfollowed := true, recurses := true, plainKeys := false, apart := false, narrowed := true }
def SeenTwinUptoSaid : Prop := seenTwinUptoRow.holds Try.pinned (OpenSpec.upto seenTwinSpec)

end Rows
end Go.Proofs.Ytboomdjkgheonaa
