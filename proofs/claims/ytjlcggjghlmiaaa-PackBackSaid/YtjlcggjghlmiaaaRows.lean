/-
  No cell of these rows narrows 'for every input' (looked for: loops, veiled, ifaces, maps, wideKeys, modest, calm, conditions, laid).
  DERIVED. THE GIVEN ROWS OF THIS SEAT. 6 by the template 'for every input the law returns true; each argument reads behind the call as it read before'; 0 by the template 'total and deterministic' (their statements: YtjlcggjghlmiaaaTotals.lean).
  GIVEN WITH THE SEED: the statements are not yours to turn. If you find one false, say at which input.
  Laid BY PROGRAM, IN A SANDBOX (cutbox-rows.mjs): the forced cells as the released guide's own fill.sh prints them over the translation 9c7cf55492a9eaf2… (all of the seat's roots in one cut). By AI agents, Wed Nov 11 2026. No macro, syntax, notation, axiom, sorry.
-/
import Derived.Test.YtjlcggjghlmiaaaChecked
import GoSem.Claim
import GoSem.ClaimJoined
import GoSem.ClaimMapViews
import Derived.JoinedTies
import Derived.KernelRfl
namespace Go.Proofs.Ytjlcggjghlmiaaa
/- THE CELL 'sum', in the pinned program and in every row, IS THE sha256 OF THE DUMP (.gsa) THAT YtjlcggjghlmiaaaProg.lean LOADS. Nothing in Lean hashes anything: it is a label: what it is worth is what the hold of that sum in a sandbox is worth. -/
noncomputable def Try.pinned : Pinned := { name := "ytjlcggjghlmiaaa", sum := "9c7cf55492a9eaf2eba134fe94400ec160da7fcd0e57609dd34bb084c8f5dc0e", checked := Try.checked }
namespace Rows
def none {H : Type} : Left H := { results := [], args := [] }

/-- 'meterlaw02.PackApart': WHATEVER THE INPUT: true; the input reads as it did. -/
def packApartSpec : ChangeSpec := { name := "packApart", fn := fun _ => fun
  | [d1, d2, d3, d4, d5, d6] => { results := [.lit (.bool true)], args := [d1, d2, d3, d4, d5, d6] }
  | _ => none }
def packApartRow : OpenClaim := { program := "ytjlcggjghlmiaaa", sum := "9c7cf55492a9eaf2eba134fe94400ec160da7fcd0e57609dd34bb084c8f5dc0e", func := "meter/meterlaw02.PackApart", spec := "packApart", unfollowed := true, recurses := true, apart := false }
def PackApartSaid : Prop := packApartRow.holds Try.pinned (OpenSpec.ofChange packApartSpec)

/-- ITS FALSE NEIGHBOUR: 'it returns false'. Refute it at one input. -/
def packApartWrong : ChangeSpec := { name := "packApart", fn := fun _ => fun
  | [d1, d2, d3, d4, d5, d6] => { results := [.lit (.bool false)], args := [d1, d2, d3, d4, d5, d6] }
  | _ => none }
def PackApartWrongFalsely : Prop := packApartRow.holds Try.pinned (OpenSpec.ofChange packApartWrong)

/-- 'meterlaw02.PackWrites': WHATEVER THE INPUT: true; the input reads as it did. -/
def packWritesSpec : ChangeSpec := { name := "packWrites", fn := fun _ => fun
  | [d] => { results := [.lit (.bool true)], args := [d] }
  | _ => none }
def packWritesRow : OpenClaim := { program := "ytjlcggjghlmiaaa", sum := "9c7cf55492a9eaf2eba134fe94400ec160da7fcd0e57609dd34bb084c8f5dc0e", func := "meter/meterlaw02.PackWrites", spec := "packWrites", unfollowed := true, recurses := true, apart := false }
def PackWritesSaid : Prop := packWritesRow.holds Try.pinned (OpenSpec.ofChange packWritesSpec)

/-- ITS FALSE NEIGHBOUR: 'it returns false'. Refute it at one input. -/
def packWritesWrong : ChangeSpec := { name := "packWrites", fn := fun _ => fun
  | [d] => { results := [.lit (.bool false)], args := [d] }
  | _ => none }
def PackWritesWrongFalsely : Prop := packWritesRow.holds Try.pinned (OpenSpec.ofChange packWritesWrong)

/-- 'meterlaw02.PackMost': WHATEVER THE INPUT: true; the input reads as it did. -/
def packMostSpec : ChangeSpec := { name := "packMost", fn := fun _ => fun
  | [d1, d2, d3] => { results := [.lit (.bool true)], args := [d1, d2, d3] }
  | _ => none }
def packMostRow : OpenClaim := { program := "ytjlcggjghlmiaaa", sum := "9c7cf55492a9eaf2eba134fe94400ec160da7fcd0e57609dd34bb084c8f5dc0e", func := "meter/meterlaw02.PackMost", spec := "packMost", unfollowed := true, recurses := true, apart := false }
def PackMostSaid : Prop := packMostRow.holds Try.pinned (OpenSpec.ofChange packMostSpec)

/-- ITS FALSE NEIGHBOUR: 'it returns false'. Refute it at one input. -/
def packMostWrong : ChangeSpec := { name := "packMost", fn := fun _ => fun
  | [d1, d2, d3] => { results := [.lit (.bool false)], args := [d1, d2, d3] }
  | _ => none }
def PackMostWrongFalsely : Prop := packMostRow.holds Try.pinned (OpenSpec.ofChange packMostWrong)

/-- 'meterlaw02.PackAlone': WHATEVER THE INPUT: true; the input reads as it did. -/
def packAloneSpec : ChangeSpec := { name := "packAlone", fn := fun _ => fun
  | [d] => { results := [.lit (.bool true)], args := [d] }
  | _ => none }
def packAloneRow : OpenClaim := { program := "ytjlcggjghlmiaaa", sum := "9c7cf55492a9eaf2eba134fe94400ec160da7fcd0e57609dd34bb084c8f5dc0e", func := "meter/meterlaw02.PackAlone", spec := "packAlone", unfollowed := true, recurses := true, apart := false }
def PackAloneSaid : Prop := packAloneRow.holds Try.pinned (OpenSpec.ofChange packAloneSpec)

/-- ITS FALSE NEIGHBOUR: 'it returns false'. Refute it at one input. -/
def packAloneWrong : ChangeSpec := { name := "packAlone", fn := fun _ => fun
  | [d] => { results := [.lit (.bool false)], args := [d] }
  | _ => none }
def PackAloneWrongFalsely : Prop := packAloneRow.holds Try.pinned (OpenSpec.ofChange packAloneWrong)

/-- 'meterlaw02.PackBack': WHATEVER THE INPUT: true; the input reads as it did. -/
def packBackSpec : ChangeSpec := { name := "packBack", fn := fun _ => fun
  | [d1, d2] => { results := [.lit (.bool true)], args := [d1, d2] }
  | _ => none }
def packBackRow : OpenClaim := { program := "ytjlcggjghlmiaaa", sum := "9c7cf55492a9eaf2eba134fe94400ec160da7fcd0e57609dd34bb084c8f5dc0e", func := "meter/meterlaw02.PackBack", spec := "packBack", unfollowed := true, recurses := true, apart := false }
def PackBackSaid : Prop := packBackRow.holds Try.pinned (OpenSpec.ofChange packBackSpec)

/-- ITS FALSE NEIGHBOUR: 'it returns false'. Refute it at one input. -/
def packBackWrong : ChangeSpec := { name := "packBack", fn := fun _ => fun
  | [d1, d2] => { results := [.lit (.bool false)], args := [d1, d2] }
  | _ => none }
def PackBackWrongFalsely : Prop := packBackRow.holds Try.pinned (OpenSpec.ofChange packBackWrong)

/-- 'meterlaw02.PackKnown': WHATEVER THE INPUT: true; the input reads as it did. -/
def packKnownSpec : ChangeSpec := { name := "packKnown", fn := fun _ => fun
  | [] => { results := [.lit (.bool true)], args := [] }
  | _ => none }
def packKnownRow : OpenClaim := { program := "ytjlcggjghlmiaaa", sum := "9c7cf55492a9eaf2eba134fe94400ec160da7fcd0e57609dd34bb084c8f5dc0e", func := "meter/meterlaw02.PackKnown", spec := "packKnown", unfollowed := true, recurses := true, apart := false }
def PackKnownSaid : Prop := packKnownRow.holds Try.pinned (OpenSpec.ofChange packKnownSpec)

/-- ITS FALSE NEIGHBOUR: 'it returns false'. Refute it at one input. -/
def packKnownWrong : ChangeSpec := { name := "packKnown", fn := fun _ => fun
  | [] => { results := [.lit (.bool false)], args := [] }
  | _ => none }
def PackKnownWrongFalsely : Prop := packKnownRow.holds Try.pinned (OpenSpec.ofChange packKnownWrong)

/- THE SECOND FORM. 'bulk': how many values and letters a reading holds, each counted each time it is reached (what is shared counts as often as it is met; a slice's spare places count too). A statement '..UptoSaid' is the law's where the arguments, and the package variables that the reading takes, are together of bulk at most 1048576: NARROWER than '..Said'. Prove '..Said' where nothing that the law and all that it calls make is longer than what came in: it says more and counts as full. Else prove '..UptoSaid'. A law counts once. -/
mutual
def uptoBulk {H : Type} : DataW H → Nat
  | .lit (.string bytes) => bytes.length + 1
  | .lit _ => 1
  | .nil => 1
  | .ptr d => uptoBulk d + 1
  | .slice elems spare => uptoBulkAll elems + uptoBulkAll spare + 1
  | .agg parts => uptoBulkAll parts + 1
  | .iface _ d => uptoBulk d + 1
  | .map entries => uptoBulkEntries entries + 1
  | .held _ => 1
def uptoBulkAll {H : Type} : List (DataW H) → Nat
  | [] => 0
  | d :: r => uptoBulk d + uptoBulkAll r
def uptoBulkEntries {H : Type} : List (Lit × DataW H) → Nat
  | [] => 0
  | x :: r => uptoBulkEntry x + uptoBulkEntries r
def uptoBulkEntry {H : Type} : Lit × DataW H → Nat
  | (.string bytes, d) => bytes.length + uptoBulk d + 1
  | (_, d) => uptoBulk d + 1
 end
def uptoSmall : (H : Type) → List (DataW H) → Bool := fun _ ds => decide (uptoBulkAll ds ≤ 1048576)
def OpenSpec.upto (s : _root_.Go.ChangeSpec) : _root_.Go.OpenSpec := { _root_.Go.OpenSpec.ofChange s with cond := some uptoSmall }

/-- 'meterlaw02.PackApart', WHERE WHAT IT READS IS OF BULK AT MOST 1048576: true; the input reads as it did. -/
def packApartUptoRow : OpenClaim := { program := "ytjlcggjghlmiaaa", sum := "9c7cf55492a9eaf2eba134fe94400ec160da7fcd0e57609dd34bb084c8f5dc0e", func := "meter/meterlaw02.PackApart", spec := "packApart", unfollowed := true, recurses := true, apart := false, narrowed := true }
def PackApartUptoSaid : Prop := packApartUptoRow.holds Try.pinned (OpenSpec.upto packApartSpec)

/-- 'meterlaw02.PackWrites', WHERE WHAT IT READS IS OF BULK AT MOST 1048576: true; the input reads as it did. -/
def packWritesUptoRow : OpenClaim := { program := "ytjlcggjghlmiaaa", sum := "9c7cf55492a9eaf2eba134fe94400ec160da7fcd0e57609dd34bb084c8f5dc0e", func := "meter/meterlaw02.PackWrites", spec := "packWrites", unfollowed := true, recurses := true, apart := false, narrowed := true }
def PackWritesUptoSaid : Prop := packWritesUptoRow.holds Try.pinned (OpenSpec.upto packWritesSpec)

/-- 'meterlaw02.PackMost', WHERE WHAT IT READS IS OF BULK AT MOST 1048576: true; the input reads as it did. -/
def packMostUptoRow : OpenClaim := { program := "ytjlcggjghlmiaaa", sum := "9c7cf55492a9eaf2eba134fe94400ec160da7fcd0e57609dd34bb084c8f5dc0e", func := "meter/meterlaw02.PackMost", spec := "packMost", unfollowed := true, recurses := true, apart := false, narrowed := true }
def PackMostUptoSaid : Prop := packMostUptoRow.holds Try.pinned (OpenSpec.upto packMostSpec)

/-- 'meterlaw02.PackAlone', WHERE WHAT IT READS IS OF BULK AT MOST 1048576: true; the input reads as it did. -/
def packAloneUptoRow : OpenClaim := { program := "ytjlcggjghlmiaaa", sum := "9c7cf55492a9eaf2eba134fe94400ec160da7fcd0e57609dd34bb084c8f5dc0e", func := "meter/meterlaw02.PackAlone", spec := "packAlone", unfollowed := true, recurses := true, apart := false, narrowed := true }
def PackAloneUptoSaid : Prop := packAloneUptoRow.holds Try.pinned (OpenSpec.upto packAloneSpec)

/-- 'meterlaw02.PackBack', WHERE WHAT IT READS IS OF BULK AT MOST 1048576: true; the input reads as it did. -/
def packBackUptoRow : OpenClaim := { program := "ytjlcggjghlmiaaa", sum := "9c7cf55492a9eaf2eba134fe94400ec160da7fcd0e57609dd34bb084c8f5dc0e", func := "meter/meterlaw02.PackBack", spec := "packBack", unfollowed := true, recurses := true, apart := false, narrowed := true }
def PackBackUptoSaid : Prop := packBackUptoRow.holds Try.pinned (OpenSpec.upto packBackSpec)

/-- 'meterlaw02.PackKnown', WHERE WHAT IT READS IS OF BULK AT MOST 1048576: true; the input reads as it did. -/
def packKnownUptoRow : OpenClaim := { program := "ytjlcggjghlmiaaa", sum := "9c7cf55492a9eaf2eba134fe94400ec160da7fcd0e57609dd34bb084c8f5dc0e", func := "meter/meterlaw02.PackKnown", spec := "packKnown", unfollowed := true, recurses := true, apart := false, narrowed := true }
def PackKnownUptoSaid : Prop := packKnownUptoRow.holds Try.pinned (OpenSpec.upto packKnownSpec)

end Rows
end Go.Proofs.Ytjlcggjghlmiaaa
