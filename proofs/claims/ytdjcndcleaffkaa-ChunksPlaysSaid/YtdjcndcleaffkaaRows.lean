/-
  No cell of these rows narrows 'for every input' (looked for: loops, veiled, ifaces, maps, wideKeys, modest, calm, conditions, laid).
  DERIVED. THE GIVEN ROWS OF THIS SEAT. 5 by the template 'for every input the law returns true; each argument reads behind the call as it read before'; 0 by the template 'total and deterministic' (their statements: YtdjcndcleaffkaaTotals.lean).
  GIVEN WITH THE SEED: the statements are not yours to turn. If you find one false, say at which input.
  Laid BY PROGRAM, IN A SANDBOX (cutbox-rows.mjs): the forced cells as the released guide's own fill.sh prints them over the translation 11c48a9711061810… (all of the seat's roots in one cut). By AI agents, Wed Nov 11 2026. No macro, syntax, notation, axiom, sorry.
-/
import Derived.Test.YtdjcndcleaffkaaChecked
import GoSem.Claim
import GoSem.ClaimJoined
import GoSem.ClaimMapViews
import Derived.JoinedTies
import Derived.KernelRfl
namespace Go.Proofs.Ytdjcndcleaffkaa
/- THE CELL 'sum', in the pinned program and in every row, IS THE sha256 OF THE DUMP (.gsa) THAT YtdjcndcleaffkaaProg.lean LOADS. Nothing in Lean hashes anything: it is a label: what it is worth is what the hold of that sum in a sandbox is worth. -/
noncomputable def Try.pinned : Pinned := { name := "ytdjcndcleaffkaa", sum := "11c48a971106181014dcd78fdd73385d1119033057958af2bcec4bf042952a37", checked := Try.checked }
namespace Rows
def none {H : Type} : Left H := { results := [], args := [] }

/-- 'meterlaw16.ChunksSizes': WHATEVER THE INPUT: true; the input reads as it did. -/
def chunksSizesSpec : ChangeSpec := { name := "chunksSizes", fn := fun _ => fun
  | [d] => { results := [.lit (.bool true)], args := [d] }
  | _ => none }
def chunksSizesRow : OpenClaim := { program := "ytdjcndcleaffkaa", sum := "11c48a971106181014dcd78fdd73385d1119033057958af2bcec4bf042952a37", func := "meter/meterlaw16.ChunksSizes", spec := "chunksSizes", inPlace := ["internal/abi.NoEscape", "internal/bytealg.MakeNoZero"], apart := false }
def ChunksSizesSaid : Prop := chunksSizesRow.holds Try.pinned (OpenSpec.ofChange chunksSizesSpec)

/-- ITS FALSE NEIGHBOUR: 'it returns false'. Refute it at one input. -/
def chunksSizesWrong : ChangeSpec := { name := "chunksSizes", fn := fun _ => fun
  | [d] => { results := [.lit (.bool false)], args := [d] }
  | _ => none }
def ChunksSizesWrongFalsely : Prop := chunksSizesRow.holds Try.pinned (OpenSpec.ofChange chunksSizesWrong)

/-- 'meterlaw16.ChunksWrong': WHATEVER THE INPUT: true; the input reads as it did. -/
def chunksWrongSpec : ChangeSpec := { name := "chunksWrong", fn := fun _ => fun
  | [d] => { results := [.lit (.bool true)], args := [d] }
  | _ => none }
def chunksWrongRow : OpenClaim := { program := "ytdjcndcleaffkaa", sum := "11c48a971106181014dcd78fdd73385d1119033057958af2bcec4bf042952a37", func := "meter/meterlaw16.ChunksWrong", spec := "chunksWrong", inPlace := ["internal/abi.NoEscape", "internal/bytealg.MakeNoZero"], unfollowed := true, recurses := true, apart := false }
def ChunksWrongSaid : Prop := chunksWrongRow.holds Try.pinned (OpenSpec.ofChange chunksWrongSpec)

/-- ITS FALSE NEIGHBOUR: 'it returns false'. Refute it at one input. -/
def chunksWrongWrong : ChangeSpec := { name := "chunksWrong", fn := fun _ => fun
  | [d] => { results := [.lit (.bool false)], args := [d] }
  | _ => none }
def ChunksWrongWrongFalsely : Prop := chunksWrongRow.holds Try.pinned (OpenSpec.ofChange chunksWrongWrong)

/-- 'meterlaw16.ChunksKnown': WHATEVER THE INPUT: true; the input reads as it did. -/
def chunksKnownSpec : ChangeSpec := { name := "chunksKnown", fn := fun _ => fun
  | [] => { results := [.lit (.bool true)], args := [] }
  | _ => none }
def chunksKnownRow : OpenClaim := { program := "ytdjcndcleaffkaa", sum := "11c48a971106181014dcd78fdd73385d1119033057958af2bcec4bf042952a37", func := "meter/meterlaw16.ChunksKnown", spec := "chunksKnown", inPlace := ["internal/abi.NoEscape", "internal/bytealg.MakeNoZero"], unfollowed := true, recurses := true, apart := false }
def ChunksKnownSaid : Prop := chunksKnownRow.holds Try.pinned (OpenSpec.ofChange chunksKnownSpec)

/-- ITS FALSE NEIGHBOUR: 'it returns false'. Refute it at one input. -/
def chunksKnownWrong : ChangeSpec := { name := "chunksKnown", fn := fun _ => fun
  | [] => { results := [.lit (.bool false)], args := [] }
  | _ => none }
def ChunksKnownWrongFalsely : Prop := chunksKnownRow.holds Try.pinned (OpenSpec.ofChange chunksKnownWrong)

/-- 'meterlaw16.ChunksPlays': WHATEVER THE INPUT: true; the input reads as it did. -/
def chunksPlaysSpec : ChangeSpec := { name := "chunksPlays", fn := fun _ => fun
  | [d1, d2] => { results := [.lit (.bool true)], args := [d1, d2] }
  | _ => none }
def chunksPlaysRow : OpenClaim := { program := "ytdjcndcleaffkaa", sum := "11c48a971106181014dcd78fdd73385d1119033057958af2bcec4bf042952a37", func := "meter/meterlaw16.ChunksPlays", spec := "chunksPlays", inPlace := ["internal/abi.NoEscape", "internal/bytealg.MakeNoZero"], unfollowed := true, recurses := true, apart := false }
def ChunksPlaysSaid : Prop := chunksPlaysRow.holds Try.pinned (OpenSpec.ofChange chunksPlaysSpec)

/-- ITS FALSE NEIGHBOUR: 'it returns false'. Refute it at one input. -/
def chunksPlaysWrong : ChangeSpec := { name := "chunksPlays", fn := fun _ => fun
  | [d1, d2] => { results := [.lit (.bool false)], args := [d1, d2] }
  | _ => none }
def ChunksPlaysWrongFalsely : Prop := chunksPlaysRow.holds Try.pinned (OpenSpec.ofChange chunksPlaysWrong)

/-- 'meterlaw16.ChunksBack': WHATEVER THE INPUT: true; the input reads as it did. -/
def chunksBackSpec : ChangeSpec := { name := "chunksBack", fn := fun _ => fun
  | [d1, d2] => { results := [.lit (.bool true)], args := [d1, d2] }
  | _ => none }
def chunksBackRow : OpenClaim := { program := "ytdjcndcleaffkaa", sum := "11c48a971106181014dcd78fdd73385d1119033057958af2bcec4bf042952a37", func := "meter/meterlaw16.ChunksBack", spec := "chunksBack", inPlace := ["internal/abi.NoEscape", "internal/bytealg.MakeNoZero"], unfollowed := true, recurses := true, apart := false }
def ChunksBackSaid : Prop := chunksBackRow.holds Try.pinned (OpenSpec.ofChange chunksBackSpec)

/-- ITS FALSE NEIGHBOUR: 'it returns false'. Refute it at one input. -/
def chunksBackWrong : ChangeSpec := { name := "chunksBack", fn := fun _ => fun
  | [d1, d2] => { results := [.lit (.bool false)], args := [d1, d2] }
  | _ => none }
def ChunksBackWrongFalsely : Prop := chunksBackRow.holds Try.pinned (OpenSpec.ofChange chunksBackWrong)

/- THE SECOND FORM. 'bulk': how many values and letters a reading holds, each counted each time it is reached (what is shared counts as often as it is met; a slice's spare places count too). A statement '..UptoSaid' is the law's where the arguments, and the package variables that the reading takes, are together of bulk at most 1048576: NARROWER than '..Said'. Prove '..Said' where nothing that the law and all that it calls make is longer than what came in: it says more and counts as full. Else prove '..UptoSaid'. A law counts once. -/
mutual
def uptoBulk {H : Type} : DataW H → Nat
  | .lit (.string bytes) => bytes.length + 1
  | .lit _ => 1
  | .nil => 1
  | .ptr d => uptoBulk d + 1
  | .slice elems spare => uptoBulkAll elems + uptoBulkAll spare + 1
  | .agg parts => uptoBulkAll parts + 1
  | .iface _ d => uptoBulk d + 1
  | .map entries => uptoBulkEntries entries + 1
  | .held _ => 1
def uptoBulkAll {H : Type} : List (DataW H) → Nat
  | [] => 0
  | d :: r => uptoBulk d + uptoBulkAll r
def uptoBulkEntries {H : Type} : List (Lit × DataW H) → Nat
  | [] => 0
  | x :: r => uptoBulkEntry x + uptoBulkEntries r
def uptoBulkEntry {H : Type} : Lit × DataW H → Nat
  | (.string bytes, d) => bytes.length + uptoBulk d + 1
  | (_, d) => uptoBulk d + 1
 end
def uptoSmall : (H : Type) → List (DataW H) → Bool := fun _ ds => decide (uptoBulkAll ds ≤ 1048576)
def OpenSpec.upto (s : _root_.Go.ChangeSpec) : _root_.Go.OpenSpec := { _root_.Go.OpenSpec.ofChange s with cond := some uptoSmall }

/-- 'meterlaw16.ChunksSizes', WHERE WHAT IT READS IS OF BULK AT MOST 1048576: true; the input reads as it did. -/
def chunksSizesUptoRow : OpenClaim := { program := "ytdjcndcleaffkaa", sum := "11c48a971106181014dcd78fdd73385d1119033057958af2bcec4bf042952a37", func := "meter/meterlaw16.ChunksSizes", spec := "chunksSizes", inPlace := ["internal/abi.NoEscape", "internal/bytealg.MakeNoZero"], apart := false, narrowed := true }
def ChunksSizesUptoSaid : Prop := chunksSizesUptoRow.holds Try.pinned (OpenSpec.upto chunksSizesSpec)

/-- 'meterlaw16.ChunksWrong', WHERE WHAT IT READS IS OF BULK AT MOST 1048576: true; the input reads as it did. -/
def chunksWrongUptoRow : OpenClaim := { program := "ytdjcndcleaffkaa", sum := "11c48a971106181014dcd78fdd73385d1119033057958af2bcec4bf042952a37", func := "meter/meterlaw16.ChunksWrong", spec := "chunksWrong", inPlace := ["internal/abi.NoEscape", "internal/bytealg.MakeNoZero"], unfollowed := true, recurses := true, apart := false, narrowed := true }
def ChunksWrongUptoSaid : Prop := chunksWrongUptoRow.holds Try.pinned (OpenSpec.upto chunksWrongSpec)

/-- 'meterlaw16.ChunksKnown', WHERE WHAT IT READS IS OF BULK AT MOST 1048576: true; the input reads as it did. -/
def chunksKnownUptoRow : OpenClaim := { program := "ytdjcndcleaffkaa", sum := "11c48a971106181014dcd78fdd73385d1119033057958af2bcec4bf042952a37", func := "meter/meterlaw16.ChunksKnown", spec := "chunksKnown", inPlace := ["internal/abi.NoEscape", "internal/bytealg.MakeNoZero"], unfollowed := true, recurses := true, apart := false, narrowed := true }
def ChunksKnownUptoSaid : Prop := chunksKnownUptoRow.holds Try.pinned (OpenSpec.upto chunksKnownSpec)

/-- 'meterlaw16.ChunksPlays', WHERE WHAT IT READS IS OF BULK AT MOST 1048576: true; the input reads as it did. -/
def chunksPlaysUptoRow : OpenClaim := { program := "ytdjcndcleaffkaa", sum := "11c48a971106181014dcd78fdd73385d1119033057958af2bcec4bf042952a37", func := "meter/meterlaw16.ChunksPlays", spec := "chunksPlays", inPlace := ["internal/abi.NoEscape", "internal/bytealg.MakeNoZero"], unfollowed := true, recurses := true, apart := false, narrowed := true }
def ChunksPlaysUptoSaid : Prop := chunksPlaysUptoRow.holds Try.pinned (OpenSpec.upto chunksPlaysSpec)

/-- 'meterlaw16.ChunksBack', WHERE WHAT IT READS IS OF BULK AT MOST 1048576: true; the input reads as it did. -/
def chunksBackUptoRow : OpenClaim := { program := "ytdjcndcleaffkaa", sum := "11c48a971106181014dcd78fdd73385d1119033057958af2bcec4bf042952a37", func := "meter/meterlaw16.ChunksBack", spec := "chunksBack", inPlace := ["internal/abi.NoEscape", "internal/bytealg.MakeNoZero"], unfollowed := true, recurses := true, apart := false, narrowed := true }
def ChunksBackUptoSaid : Prop := chunksBackUptoRow.holds Try.pinned (OpenSpec.upto chunksBackSpec)

end Rows
end Go.Proofs.Ytdjcndcleaffkaa
