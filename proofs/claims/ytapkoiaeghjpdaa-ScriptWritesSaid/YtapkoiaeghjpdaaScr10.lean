/- Acts as bytes (package script): read at every text. -/
import Derived.Test.YtapkoiaeghjpdaaScr6
import Derived.Test.YtapkoiaeghjpdaaScr7
import Derived.Test.YtapkoiaeghjpdaaScr10a
namespace Go.Proofs.Ytapkoiaeghjpdaa.PScriptWrites
open Go.RowKit Go.Proofs.YtapkoiaeghjpdaaW.PrintWords Go.Proofs.YtapkoiaeghjpdaaW.PrintLast Go.Proofs.YtapkoiaeghjpdaaW.PrintMore
open Go.Proofs.YtapkoiaeghjpdaaO
attribute [local go_sem] max2_int min2_int max_two min_two max_three min_three max_four min_four
set_option linter.unusedVariables false
set_option linter.unusedSimpArgs false
section
variable {w0 w w' : World} {R : List Asn} {s : ByteArray}
theorem readF (h : Own w0 w R) (hs : s.size < 1000000) (a : ActS) (m : Int) (b : Bool) (hr : readV s = (a, m, b)) :
    Calls Try.prog 19 #[.string s] w fun e w' => e = .returned (.tuple #[.agg #[.int .u8 a.f0, .int .i64 a.f1, .int .i64 a.f2, .string a.f3, .int .i64 a.f4, .int .i64 a.f5], .int .i64 m, .bool b]) ∧ Own w0 w' R := by
  have q0 := rB_in0 (s := s)
  have hb : rdByte s 0 0 = (rB s (0, 0), (rB' s (0, 0)).1, (rB' s (0, 0)).2) := rfl
  unfold readV at hr
  by_cases c1 : rB s (0, 0) = 1
  · rw [if_pos c1] at hr
    simp only [Prod.mk.injEq] at hr
    obtain ⟨rfl, rfl, rfl⟩ := hr
    rw [c1] at hb
    have q1 := rN_in q0
    have q2 := rT_in hs q1
    have q3 := (rI_in q2).1
    have q4 := (rI_in q3).1
    exact read1 h hs hb _ _ _ _ rfl rfl rfl rfl q4
  rw [if_neg c1] at hr
  by_cases c2 : rB s (0, 0) = 2
  · rw [if_pos c2] at hr
    simp only [Prod.mk.injEq] at hr
    obtain ⟨rfl, rfl, rfl⟩ := hr
    rw [c2] at hb
    have q1 := rN_in q0
    have q2 := rN_in q1
    have q3 := (rI_in q2).1
    exact read2 h hs hb _ _ _ rfl rfl rfl q3
  rw [if_neg c2] at hr
  by_cases c3 : rB s (0, 0) = 3
  · rw [if_pos c3] at hr
    simp only [Prod.mk.injEq] at hr
    obtain ⟨rfl, rfl, rfl⟩ := hr
    rw [c3] at hb
    have q1 := rN_in q0
    have q2 := rN_in q1
    exact read3 h hs hb _ _ rfl rfl q2
  rw [if_neg c3] at hr
  by_cases c4 : rB s (0, 0) = 4
  · rw [if_pos c4] at hr
    simp only [Prod.mk.injEq] at hr
    obtain ⟨rfl, rfl, rfl⟩ := hr
    rw [c4] at hb
    have q1 := rN_in q0
    exact read4 h hs hb _ rfl q1
  rw [if_neg c4] at hr
  by_cases c5 : rB s (0, 0) = 5
  · rw [if_pos c5] at hr
    simp only [Prod.mk.injEq] at hr
    obtain ⟨rfl, rfl, rfl⟩ := hr
    rw [c5] at hb
    have q1 := rN_in q0
    exact read5 h hs hb _ rfl q1
  rw [if_neg c5] at hr
  by_cases c6 : rB s (0, 0) = 6
  · rw [if_pos c6] at hr
    simp only [Prod.mk.injEq] at hr
    obtain ⟨rfl, rfl, rfl⟩ := hr
    rw [c6] at hb
    have q1 := rN_in q0
    exact read6 h hs hb _ rfl q1
  rw [if_neg c6] at hr
  by_cases c7 : rB s (0, 0) = 7
  · rw [if_pos c7] at hr
    simp only [Prod.mk.injEq] at hr
    obtain ⟨rfl, rfl, rfl⟩ := hr
    rw [c7] at hb
    have q1 := rN_in q0
    exact read7 h hs hb _ rfl q1
  rw [if_neg c7] at hr
  by_cases c8 : rB s (0, 0) = 8
  · rw [if_pos c8] at hr
    simp only [Prod.mk.injEq] at hr
    obtain ⟨rfl, rfl, rfl⟩ := hr
    rw [c8] at hb
    have q1 := rN_in q0
    exact read8 h hs hb _ rfl q1
  rw [if_neg c8] at hr
  simp only [Prod.mk.injEq] at hr
  obtain ⟨rfl, rfl, rfl⟩ := hr
  exact read0 h hs (rB s (0, 0)) (by omega) hb
end
end Go.Proofs.Ytapkoiaeghjpdaa.PScriptWrites
