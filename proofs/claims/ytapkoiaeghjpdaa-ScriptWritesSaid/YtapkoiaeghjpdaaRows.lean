/-
  No cell of these rows narrows 'for every input' (looked for: loops, veiled, ifaces, maps, wideKeys, modest, calm, conditions, laid).
  DERIVED. THE GIVEN ROWS OF THIS SEAT. 7 by the template 'for every input the law returns true; each argument reads behind the call as it read before'; 0 by the template 'total and deterministic' (their statements: YtapkoiaeghjpdaaTotals.lean).
  GIVEN WITH THE SEED: the statements are not yours to turn. If you find one false, say at which input.
  Laid BY PROGRAM, IN A SANDBOX (cutbox-rows.mjs): the forced cells as the released guide's own fill.sh prints them over the translation 0a1973ec7a8e65b6… (all of the seat's roots in one cut). By AI agents, Wed Nov 11 2026. No macro, syntax, notation, axiom, sorry.
-/
import Derived.Test.YtapkoiaeghjpdaaChecked
import GoSem.Claim
import GoSem.ClaimJoined
import GoSem.ClaimMapViews
import Derived.JoinedTies
import Derived.KernelRfl
namespace Go.Proofs.Ytapkoiaeghjpdaa
/- THE CELL 'sum', in the pinned program and in every row, IS THE sha256 OF THE DUMP (.gsa) THAT YtapkoiaeghjpdaaProg.lean LOADS. Nothing in Lean hashes anything: it is a label: what it is worth is what the hold of that sum in a sandbox is worth. -/
noncomputable def Try.pinned : Pinned := { name := "ytapkoiaeghjpdaa", sum := "0a1973ec7a8e65b6280cb943191c7713694755a995e3b525782bb0bfe1a4ed61", checked := Try.checked }
namespace Rows
def none {H : Type} : Left H := { results := [], args := [] }

/-- 'meterlaw27.ScriptReads': WHATEVER THE INPUT: true; the input reads as it did. -/
def scriptReadsSpec : ChangeSpec := { name := "scriptReads", fn := fun _ => fun
  | [d] => { results := [.lit (.bool true)], args := [d] }
  | _ => none }
def scriptReadsRow : OpenClaim := { program := "ytapkoiaeghjpdaa", sum := "0a1973ec7a8e65b6280cb943191c7713694755a995e3b525782bb0bfe1a4ed61", func := "meter/meterlaw27.ScriptReads", spec := "scriptReads", unfollowed := true, recurses := true, apart := false }
def ScriptReadsSaid : Prop := scriptReadsRow.holds Try.pinned (OpenSpec.ofChange scriptReadsSpec)

/-- ITS FALSE NEIGHBOUR: 'it returns false'. Refute it at one input. -/
def scriptReadsWrong : ChangeSpec := { name := "scriptReads", fn := fun _ => fun
  | [d] => { results := [.lit (.bool false)], args := [d] }
  | _ => none }
def ScriptReadsWrongFalsely : Prop := scriptReadsRow.holds Try.pinned (OpenSpec.ofChange scriptReadsWrong)

/-- 'meterlaw27.ScriptKnown': WHATEVER THE INPUT: true; the input reads as it did. -/
def scriptKnownSpec : ChangeSpec := { name := "scriptKnown", fn := fun _ => fun
  | [] => { results := [.lit (.bool true)], args := [] }
  | _ => none }
def scriptKnownRow : OpenClaim := { program := "ytapkoiaeghjpdaa", sum := "0a1973ec7a8e65b6280cb943191c7713694755a995e3b525782bb0bfe1a4ed61", func := "meter/meterlaw27.ScriptKnown", spec := "scriptKnown", unfollowed := true, recurses := true, apart := false }
def ScriptKnownSaid : Prop := scriptKnownRow.holds Try.pinned (OpenSpec.ofChange scriptKnownSpec)

/-- ITS FALSE NEIGHBOUR: 'it returns false'. Refute it at one input. -/
def scriptKnownWrong : ChangeSpec := { name := "scriptKnown", fn := fun _ => fun
  | [] => { results := [.lit (.bool false)], args := [] }
  | _ => none }
def ScriptKnownWrongFalsely : Prop := scriptKnownRow.holds Try.pinned (OpenSpec.ofChange scriptKnownWrong)

/-- 'meterlaw27.ScriptBack': WHATEVER THE INPUT: true; the input reads as it did. -/
def scriptBackSpec : ChangeSpec := { name := "scriptBack", fn := fun _ => fun
  | [d1, d2] => { results := [.lit (.bool true)], args := [d1, d2] }
  | _ => none }
def scriptBackRow : OpenClaim := { program := "ytapkoiaeghjpdaa", sum := "0a1973ec7a8e65b6280cb943191c7713694755a995e3b525782bb0bfe1a4ed61", func := "meter/meterlaw27.ScriptBack", spec := "scriptBack", unfollowed := true, recurses := true, apart := false }
def ScriptBackSaid : Prop := scriptBackRow.holds Try.pinned (OpenSpec.ofChange scriptBackSpec)

/-- ITS FALSE NEIGHBOUR: 'it returns false'. Refute it at one input. -/
def scriptBackWrong : ChangeSpec := { name := "scriptBack", fn := fun _ => fun
  | [d1, d2] => { results := [.lit (.bool false)], args := [d1, d2] }
  | _ => none }
def ScriptBackWrongFalsely : Prop := scriptBackRow.holds Try.pinned (OpenSpec.ofChange scriptBackWrong)

/-- 'meterlaw27.ScriptSkips': WHATEVER THE INPUT: true; the input reads as it did. -/
def scriptSkipsSpec : ChangeSpec := { name := "scriptSkips", fn := fun _ => fun
  | [d1, d2, d3, d4] => { results := [.lit (.bool true)], args := [d1, d2, d3, d4] }
  | _ => none }
def scriptSkipsRow : OpenClaim := { program := "ytapkoiaeghjpdaa", sum := "0a1973ec7a8e65b6280cb943191c7713694755a995e3b525782bb0bfe1a4ed61", func := "meter/meterlaw27.ScriptSkips", spec := "scriptSkips", unfollowed := true, recurses := true, apart := false }
def ScriptSkipsSaid : Prop := scriptSkipsRow.holds Try.pinned (OpenSpec.ofChange scriptSkipsSpec)

/-- ITS FALSE NEIGHBOUR: 'it returns false'. Refute it at one input. -/
def scriptSkipsWrong : ChangeSpec := { name := "scriptSkips", fn := fun _ => fun
  | [d1, d2, d3, d4] => { results := [.lit (.bool false)], args := [d1, d2, d3, d4] }
  | _ => none }
def ScriptSkipsWrongFalsely : Prop := scriptSkipsRow.holds Try.pinned (OpenSpec.ofChange scriptSkipsWrong)

/-- 'meterlaw27.ScriptCut': WHATEVER THE INPUT: true; the input reads as it did. -/
def scriptCutSpec : ChangeSpec := { name := "scriptCut", fn := fun _ => fun
  | [d1, d2] => { results := [.lit (.bool true)], args := [d1, d2] }
  | _ => none }
def scriptCutRow : OpenClaim := { program := "ytapkoiaeghjpdaa", sum := "0a1973ec7a8e65b6280cb943191c7713694755a995e3b525782bb0bfe1a4ed61", func := "meter/meterlaw27.ScriptCut", spec := "scriptCut", unfollowed := true, recurses := true, apart := false }
def ScriptCutSaid : Prop := scriptCutRow.holds Try.pinned (OpenSpec.ofChange scriptCutSpec)

/-- ITS FALSE NEIGHBOUR: 'it returns false'. Refute it at one input. -/
def scriptCutWrong : ChangeSpec := { name := "scriptCut", fn := fun _ => fun
  | [d1, d2] => { results := [.lit (.bool false)], args := [d1, d2] }
  | _ => none }
def ScriptCutWrongFalsely : Prop := scriptCutRow.holds Try.pinned (OpenSpec.ofChange scriptCutWrong)

/-- 'meterlaw27.ScriptWrites': WHATEVER THE INPUT: true; the input reads as it did. -/
def scriptWritesSpec : ChangeSpec := { name := "scriptWrites", fn := fun _ => fun
  | [d] => { results := [.lit (.bool true)], args := [d] }
  | _ => none }
def scriptWritesRow : OpenClaim := { program := "ytapkoiaeghjpdaa", sum := "0a1973ec7a8e65b6280cb943191c7713694755a995e3b525782bb0bfe1a4ed61", func := "meter/meterlaw27.ScriptWrites", spec := "scriptWrites", unfollowed := true, recurses := true, apart := false }
def ScriptWritesSaid : Prop := scriptWritesRow.holds Try.pinned (OpenSpec.ofChange scriptWritesSpec)

/-- ITS FALSE NEIGHBOUR: 'it returns false'. Refute it at one input. -/
def scriptWritesWrong : ChangeSpec := { name := "scriptWrites", fn := fun _ => fun
  | [d] => { results := [.lit (.bool false)], args := [d] }
  | _ => none }
def ScriptWritesWrongFalsely : Prop := scriptWritesRow.holds Try.pinned (OpenSpec.ofChange scriptWritesWrong)

/-- 'meterlaw27.ScriptJoin': WHATEVER THE INPUT: true; the input reads as it did. -/
def scriptJoinSpec : ChangeSpec := { name := "scriptJoin", fn := fun _ => fun
  | [d] => { results := [.lit (.bool true)], args := [d] }
  | _ => none }
def scriptJoinRow : OpenClaim := { program := "ytapkoiaeghjpdaa", sum := "0a1973ec7a8e65b6280cb943191c7713694755a995e3b525782bb0bfe1a4ed61", func := "meter/meterlaw27.ScriptJoin", spec := "scriptJoin", unfollowed := true, recurses := true, apart := false }
def ScriptJoinSaid : Prop := scriptJoinRow.holds Try.pinned (OpenSpec.ofChange scriptJoinSpec)

/-- ITS FALSE NEIGHBOUR: 'it returns false'. Refute it at one input. -/
def scriptJoinWrong : ChangeSpec := { name := "scriptJoin", fn := fun _ => fun
  | [d] => { results := [.lit (.bool false)], args := [d] }
  | _ => none }
def ScriptJoinWrongFalsely : Prop := scriptJoinRow.holds Try.pinned (OpenSpec.ofChange scriptJoinWrong)

/- THE SECOND FORM. 'bulk': how many values and letters a reading holds, each counted each time it is reached (what is shared counts as often as it is met; a slice's spare places count too). A statement '..UptoSaid' is the law's where the arguments, and the package variables that the reading takes, are together of bulk at most 1048576: NARROWER than '..Said'. Prove '..Said' where nothing that the law and all that it calls make is longer than what came in: it says more and counts as full. Else prove '..UptoSaid'. A law counts once. -/
mutual
def uptoBulk {H : Type} : DataW H → Nat
  | .lit (.string bytes) => bytes.length + 1
  | .lit _ => 1
  | .nil => 1
  | .ptr d => uptoBulk d + 1
  | .slice elems spare => uptoBulkAll elems + uptoBulkAll spare + 1
  | .agg parts => uptoBulkAll parts + 1
  | .iface _ d => uptoBulk d + 1
  | .map entries => uptoBulkEntries entries + 1
  | .held _ => 1
def uptoBulkAll {H : Type} : List (DataW H) → Nat
  | [] => 0
  | d :: r => uptoBulk d + uptoBulkAll r
def uptoBulkEntries {H : Type} : List (Lit × DataW H) → Nat
  | [] => 0
  | x :: r => uptoBulkEntry x + uptoBulkEntries r
def uptoBulkEntry {H : Type} : Lit × DataW H → Nat
  | (.string bytes, d) => bytes.length + uptoBulk d + 1
  | (_, d) => uptoBulk d + 1
 end
def uptoSmall : (H : Type) → List (DataW H) → Bool := fun _ ds => decide (uptoBulkAll ds ≤ 1048576)
def OpenSpec.upto (s : _root_.Go.ChangeSpec) : _root_.Go.OpenSpec := { _root_.Go.OpenSpec.ofChange s with cond := some uptoSmall }

/-- 'meterlaw27.ScriptReads', WHERE WHAT IT READS IS OF BULK AT MOST 1048576: true; the input reads as it did. -/
def scriptReadsUptoRow : OpenClaim := { program := "ytapkoiaeghjpdaa", sum := "0a1973ec7a8e65b6280cb943191c7713694755a995e3b525782bb0bfe1a4ed61", func := "meter/meterlaw27.ScriptReads", spec := "scriptReads", unfollowed := true, recurses := true, apart := false, narrowed := true }
def ScriptReadsUptoSaid : Prop := scriptReadsUptoRow.holds Try.pinned (OpenSpec.upto scriptReadsSpec)

/-- 'meterlaw27.ScriptKnown', WHERE WHAT IT READS IS OF BULK AT MOST 1048576: true; the input reads as it did. -/
def scriptKnownUptoRow : OpenClaim := { program := "ytapkoiaeghjpdaa", sum := "0a1973ec7a8e65b6280cb943191c7713694755a995e3b525782bb0bfe1a4ed61", func := "meter/meterlaw27.ScriptKnown", spec := "scriptKnown", unfollowed := true, recurses := true, apart := false, narrowed := true }
def ScriptKnownUptoSaid : Prop := scriptKnownUptoRow.holds Try.pinned (OpenSpec.upto scriptKnownSpec)

/-- 'meterlaw27.ScriptBack', WHERE WHAT IT READS IS OF BULK AT MOST 1048576: true; the input reads as it did. -/
def scriptBackUptoRow : OpenClaim := { program := "ytapkoiaeghjpdaa", sum := "0a1973ec7a8e65b6280cb943191c7713694755a995e3b525782bb0bfe1a4ed61", func := "meter/meterlaw27.ScriptBack", spec := "scriptBack", unfollowed := true, recurses := true, apart := false, narrowed := true }
def ScriptBackUptoSaid : Prop := scriptBackUptoRow.holds Try.pinned (OpenSpec.upto scriptBackSpec)

/-- 'meterlaw27.ScriptSkips', WHERE WHAT IT READS IS OF BULK AT MOST 1048576: true; the input reads as it did. -/
def scriptSkipsUptoRow : OpenClaim := { program := "ytapkoiaeghjpdaa", sum := "0a1973ec7a8e65b6280cb943191c7713694755a995e3b525782bb0bfe1a4ed61", func := "meter/meterlaw27.ScriptSkips", spec := "scriptSkips", unfollowed := true, recurses := true, apart := false, narrowed := true }
def ScriptSkipsUptoSaid : Prop := scriptSkipsUptoRow.holds Try.pinned (OpenSpec.upto scriptSkipsSpec)

/-- 'meterlaw27.ScriptCut', WHERE WHAT IT READS IS OF BULK AT MOST 1048576: true; the input reads as it did. -/
def scriptCutUptoRow : OpenClaim := { program := "ytapkoiaeghjpdaa", sum := "0a1973ec7a8e65b6280cb943191c7713694755a995e3b525782bb0bfe1a4ed61", func := "meter/meterlaw27.ScriptCut", spec := "scriptCut", unfollowed := true, recurses := true, apart := false, narrowed := true }
def ScriptCutUptoSaid : Prop := scriptCutUptoRow.holds Try.pinned (OpenSpec.upto scriptCutSpec)

/-- 'meterlaw27.ScriptWrites', WHERE WHAT IT READS IS OF BULK AT MOST 1048576: true; the input reads as it did. -/
def scriptWritesUptoRow : OpenClaim := { program := "ytapkoiaeghjpdaa", sum := "0a1973ec7a8e65b6280cb943191c7713694755a995e3b525782bb0bfe1a4ed61", func := "meter/meterlaw27.ScriptWrites", spec := "scriptWrites", unfollowed := true, recurses := true, apart := false, narrowed := true }
def ScriptWritesUptoSaid : Prop := scriptWritesUptoRow.holds Try.pinned (OpenSpec.upto scriptWritesSpec)

/-- 'meterlaw27.ScriptJoin', WHERE WHAT IT READS IS OF BULK AT MOST 1048576: true; the input reads as it did. -/
def scriptJoinUptoRow : OpenClaim := { program := "ytapkoiaeghjpdaa", sum := "0a1973ec7a8e65b6280cb943191c7713694755a995e3b525782bb0bfe1a4ed61", func := "meter/meterlaw27.ScriptJoin", spec := "scriptJoin", unfollowed := true, recurses := true, apart := false, narrowed := true }
def ScriptJoinUptoSaid : Prop := scriptJoinUptoRow.holds Try.pinned (OpenSpec.upto scriptJoinSpec)

end Rows
end Go.Proofs.Ytapkoiaeghjpdaa
