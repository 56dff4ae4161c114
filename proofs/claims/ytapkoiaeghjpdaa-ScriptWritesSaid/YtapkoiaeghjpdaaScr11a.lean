/- Acts as bytes (package script): Decode as a plain function. -/
import Derived.Test.YtapkoiaeghjpdaaScr10a
namespace Go.Proofs.Ytapkoiaeghjpdaa.PScriptWrites
open Go.RowKit Go.Proofs.YtapkoiaeghjpdaaW.PrintWords Go.Proofs.YtapkoiaeghjpdaaW.PrintLast Go.Proofs.YtapkoiaeghjpdaaW.PrintMore
open Go.Proofs.YtapkoiaeghjpdaaO
attribute [local go_sem] max2_int min2_int max_two min_two max_three min_three max_four min_four
set_option linter.unusedVariables false
set_option linter.unusedSimpArgs false
/-- The acts of a text, by rounds. -/
def decGo : Nat → ByteArray → List ActS → List ActS
  | 0, _, l => l
  | k + 1, s, l => if s.size = 0 ∨ 4096 ≤ l.length then l else
    if (readV (s.extract 0 (min s.size 1020))).2.2 = true then decGo k (s.extract (readV (s.extract 0 (min s.size 1020))).2.1.toNat s.size) (l ++ [(readV (s.extract 0 (min s.size 1020))).1]) else decGo k (s.extract 1 s.size) l
def szV : Value → Nat
  | .string s => s.size
  | _ => 0
/-- What the laws' first step decodes. -/
theorem awake_dec : decGo 10 (strOfNums [0, 1, 0, 1, 97, 20, 10, 4, 172, 2]) [] = [⟨1, 0, 0, ⟨#[97]⟩, 10, 5⟩, ⟨4, 300, 0, ⟨#[]⟩, 0, 0⟩] := by rfl
end Go.Proofs.Ytapkoiaeghjpdaa.PScriptWrites
