/- Acts as bytes (package script): write at every act. -/
import Derived.Test.YtapkoiaeghjpdaaScr2
namespace Go.Proofs.Ytapkoiaeghjpdaa.PScriptWrites
open Go.RowKit Go.Proofs.YtapkoiaeghjpdaaW.PrintWords Go.Proofs.YtapkoiaeghjpdaaW.PrintLast Go.Proofs.YtapkoiaeghjpdaaW.PrintMore
open Go.Proofs.YtapkoiaeghjpdaaO
attribute [local go_sem] max2_int min2_int max_two min_two max_three min_three max_four min_four
set_option linter.unusedVariables false
set_option linter.unusedSimpArgs false
def encF (f0 f1 f2 : Int) (f3 : ByteArray) (f4 f5 : Int) : List Int := if f0 = 1 then ((((([] ++ [1]) ++ numB (uN f1)) ++ (numB f3.size ++ bytesOf f3)) ++ numB (zigN f4)) ++ numB (zigN f5)) else if f0 = 2 then (((([] ++ [2]) ++ numB (uN f1)) ++ numB (uN f2)) ++ numB (zigN f4)) else if f0 = 3 then ((([] ++ [3]) ++ numB (uN f1)) ++ numB (uN f2)) else if f0 = 4 then (([] ++ [4]) ++ numB (uN f1)) else if f0 = 5 then (([] ++ [5]) ++ numB (uN f1)) else if f0 = 6 then (([] ++ [6]) ++ numB (uN f1)) else if f0 = 7 then (([] ++ [7]) ++ numB (uN f1)) else if f0 = 8 then (([] ++ [8]) ++ numB (uN f1)) else []
def okF (f0 f1 f2 : Int) (f3 : ByteArray) (f4 f5 : Int) : Bool := if f0 = 1 then (((true && numOk f1) && textOk f3) && ((f2 == 0))) else if f0 = 2 then (((true && numOk f1) && numOk f2) && ((f3.toList == []) && ((f5 == 0)))) else if f0 = 3 then (((true && numOk f1) && numOk f2) && ((f3.toList == []) && ((f4 == 0) && ((f5 == 0))))) else if f0 = 4 then ((true && numOk f1) && ((f2 == 0) && ((f3.toList == []) && ((f4 == 0) && ((f5 == 0)))))) else if f0 = 5 then ((true && numOk f1) && ((f2 == 0) && ((f3.toList == []) && ((f4 == 0) && ((f5 == 0)))))) else if f0 = 6 then ((true && numOk f1) && ((f2 == 0) && ((f3.toList == []) && ((f4 == 0) && ((f5 == 0)))))) else if f0 = 7 then ((true && numOk f1) && ((f2 == 0) && ((f3.toList == []) && ((f4 == 0) && ((f5 == 0)))))) else if f0 = 8 then ((true && numOk f1) && ((f2 == 0) && ((f3.toList == []) && ((f4 == 0) && ((f5 == 0)))))) else false
/-- An act's bytes. -/
def encA (a : ActS) : List Int := encF a.f0 a.f1 a.f2 a.f3 a.f4 a.f5
/-- Is an act right? -/
def okA (a : ActS) : Bool := okF a.f0 a.f1 a.f2 a.f3 a.f4 a.f5
/-- The bounds of an act's values. -/
def actIn (a : ActS) : Prop := (-(2^63) ≤ a.f4 ∧ a.f4 < 2 ^ 63) ∧ (-(2^63) ≤ a.f5 ∧ a.f5 < 2 ^ 63) ∧ a.f3.size < 1000000
section
variable {w0 w w' : World} {R : List Asn}
set_option maxHeartbeats 4000000 in
set_option maxRecDepth 100000 in
theorem writeF (h : Own w0 w R) (f0 f1 f2 : Int) (f3 : ByteArray) (f4 f5 : Int) (hx4 : -(2^63) ≤ f4 ∧ f4 < 2 ^ 63) (hx5 : -(2^63) ≤ f5 ∧ f5 < 2 ^ 63) (hs : f3.size < 1000000) :
    Calls Try.prog 21 #[.agg #[.int .u8 f0, .int .i64 f1, .int .i64 f2, .string f3, .int .i64 f4, .int .i64 f5]] w fun e w' => (∃ s, e = .returned (.tuple #[.string s, .bool (okF f0 f1 f2 f3 f4 f5)]) ∧ (okF f0 f1 f2 f3 f4 f5 = true → s = strOfNums (encF f0 f1 f2 f3 f4 f5))) ∧ Own w0 w' R := by
  by_cases c1 : f0 = 1
  · subst c1
    exact (write1 h f1 f2 f4 f5 f3 hx4 hx5 hs (encF 1 f1 f2 f3 f4 f5) (okF 1 f1 f2 f3 f4 f5) (by unfold encF; simp) (by unfold okF; simp)).mono fun e w' ⟨h1, h2⟩ => ⟨⟨_, h1, fun _ => rfl⟩, h2⟩
  by_cases c2 : f0 = 2
  · subst c2
    exact (write2 h f1 f2 f4 f5 f3 hx4 hx5 hs (encF 2 f1 f2 f3 f4 f5) (okF 2 f1 f2 f3 f4 f5) (by unfold encF; simp) (by unfold okF; simp)).mono fun e w' ⟨h1, h2⟩ => ⟨⟨_, h1, fun _ => rfl⟩, h2⟩
  by_cases c3 : f0 = 3
  · subst c3
    exact (write3 h f1 f2 f4 f5 f3 hx4 hx5 hs (encF 3 f1 f2 f3 f4 f5) (okF 3 f1 f2 f3 f4 f5) (by unfold encF; simp) (by unfold okF; simp)).mono fun e w' ⟨h1, h2⟩ => ⟨⟨_, h1, fun _ => rfl⟩, h2⟩
  by_cases c4 : f0 = 4
  · subst c4
    exact (write4 h f1 f2 f4 f5 f3 hx4 hx5 hs (encF 4 f1 f2 f3 f4 f5) (okF 4 f1 f2 f3 f4 f5) (by unfold encF; simp) (by unfold okF; simp)).mono fun e w' ⟨h1, h2⟩ => ⟨⟨_, h1, fun _ => rfl⟩, h2⟩
  by_cases c5 : f0 = 5
  · subst c5
    exact (write5 h f1 f2 f4 f5 f3 hx4 hx5 hs (encF 5 f1 f2 f3 f4 f5) (okF 5 f1 f2 f3 f4 f5) (by unfold encF; simp) (by unfold okF; simp)).mono fun e w' ⟨h1, h2⟩ => ⟨⟨_, h1, fun _ => rfl⟩, h2⟩
  by_cases c6 : f0 = 6
  · subst c6
    exact (write6 h f1 f2 f4 f5 f3 hx4 hx5 hs (encF 6 f1 f2 f3 f4 f5) (okF 6 f1 f2 f3 f4 f5) (by unfold encF; simp) (by unfold okF; simp)).mono fun e w' ⟨h1, h2⟩ => ⟨⟨_, h1, fun _ => rfl⟩, h2⟩
  by_cases c7 : f0 = 7
  · subst c7
    exact (write7 h f1 f2 f4 f5 f3 hx4 hx5 hs (encF 7 f1 f2 f3 f4 f5) (okF 7 f1 f2 f3 f4 f5) (by unfold encF; simp) (by unfold okF; simp)).mono fun e w' ⟨h1, h2⟩ => ⟨⟨_, h1, fun _ => rfl⟩, h2⟩
  by_cases c8 : f0 = 8
  · subst c8
    exact (write8 h f1 f2 f4 f5 f3 hx4 hx5 hs (encF 8 f1 f2 f3 f4 f5) (okF 8 f1 f2 f3 f4 f5) (by unfold encF; simp) (by unfold okF; simp)).mono fun e w' ⟨h1, h2⟩ => ⟨⟨_, h1, fun _ => rfl⟩, h2⟩
  have e0 : okF f0 f1 f2 f3 f4 f5 = false := by unfold okF; simp only [if_neg c1, if_neg c2, if_neg c3, if_neg c4, if_neg c5, if_neg c6, if_neg c7, if_neg c8]
  refine (write0 h f0 f1 f2 f4 f5 f3 (by omega)).mono fun e w' ⟨⟨s, h1⟩, h2⟩ => ⟨⟨s, ?_, fun h3 => ?_⟩, h2⟩
  · rw [e0]; exact h1
  · rw [e0] at h3; exact absurd h3 (by simp)
end
end Go.Proofs.Ytapkoiaeghjpdaa.PScriptWrites
