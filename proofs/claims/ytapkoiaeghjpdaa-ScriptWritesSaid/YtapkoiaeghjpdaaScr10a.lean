/- Acts as bytes (package script): read as one plain function. -/
import Derived.Test.YtapkoiaeghjpdaaScr3
import Derived.Test.YtapkoiaeghjpdaaScr7
namespace Go.Proofs.Ytapkoiaeghjpdaa.PScriptWrites
open Go.RowKit Go.Proofs.YtapkoiaeghjpdaaW.PrintWords Go.Proofs.YtapkoiaeghjpdaaW.PrintLast Go.Proofs.YtapkoiaeghjpdaaW.PrintMore
open Go.Proofs.YtapkoiaeghjpdaaO
attribute [local go_sem] max2_int min2_int max_two min_two max_three min_three max_four min_four
set_option linter.unusedVariables false
set_option linter.unusedSimpArgs false
/-- What read hands back: the act, the place, is it right? -/
def readV (s : ByteArray) : ActS × Int × Bool :=
  if rB s (0, 0) = 1 then (⟨1, rN s (rB' s (0, 0)), 0, rT s (rN' s (rB' s (0, 0))), rI s (rT' s (rN' s (rB' s (0, 0)))), rI s (rI' s (rT' s (rN' s (rB' s (0, 0)))))⟩, (rI' s (rI' s (rT' s (rN' s (rB' s (0, 0)))))).1, (rI' s (rI' s (rT' s (rN' s (rB' s (0, 0)))))).2 == 0) else if rB s (0, 0) = 2 then (⟨2, rN s (rB' s (0, 0)), rN s (rN' s (rB' s (0, 0))), ⟨#[]⟩, rI s (rN' s (rN' s (rB' s (0, 0)))), 0⟩, (rI' s (rN' s (rN' s (rB' s (0, 0))))).1, (rI' s (rN' s (rN' s (rB' s (0, 0))))).2 == 0) else if rB s (0, 0) = 3 then (⟨3, rN s (rB' s (0, 0)), rN s (rN' s (rB' s (0, 0))), ⟨#[]⟩, 0, 0⟩, (rN' s (rN' s (rB' s (0, 0)))).1, (rN' s (rN' s (rB' s (0, 0)))).2 == 0) else if rB s (0, 0) = 4 then (⟨4, rN s (rB' s (0, 0)), 0, ⟨#[]⟩, 0, 0⟩, (rN' s (rB' s (0, 0))).1, (rN' s (rB' s (0, 0))).2 == 0) else if rB s (0, 0) = 5 then (⟨5, rN s (rB' s (0, 0)), 0, ⟨#[]⟩, 0, 0⟩, (rN' s (rB' s (0, 0))).1, (rN' s (rB' s (0, 0))).2 == 0) else if rB s (0, 0) = 6 then (⟨6, rN s (rB' s (0, 0)), 0, ⟨#[]⟩, 0, 0⟩, (rN' s (rB' s (0, 0))).1, (rN' s (rB' s (0, 0))).2 == 0) else if rB s (0, 0) = 7 then (⟨7, rN s (rB' s (0, 0)), 0, ⟨#[]⟩, 0, 0⟩, (rN' s (rB' s (0, 0))).1, (rN' s (rB' s (0, 0))).2 == 0) else if rB s (0, 0) = 8 then (⟨8, rN s (rB' s (0, 0)), 0, ⟨#[]⟩, 0, 0⟩, (rN' s (rB' s (0, 0))).1, (rN' s (rB' s (0, 0))).2 == 0) else (⟨rB s (0, 0), 0, 0, ⟨#[]⟩, 0, 0⟩, (rB' s (0, 0)).1, false)
theorem rN_mono {s : ByteArray} {p : Int × Int} (h : inS s p) (h2 : (rN' s p).2 = 0) : p.2 = 0 ∧ p.1 ≤ (rN' s p).1 := by
  obtain ⟨a, bad⟩ := p
  unfold inS at h
  unfold rN' at *
  simp only at h h2 ⊢
  obtain ⟨n, rfl⟩ := Int.eq_ofNat_of_zero_le h.1
  by_cases hb : bad = 0
  · subst hb
    refine ⟨rfl, ?_⟩
    rcases most_back s n (by omega) 2147483647 with ⟨b, _, e⟩ | ⟨m, _, _, e, hl, _⟩ <;> rw [e] <;> simp only <;> omega
  · exfalso; unfold rdMost at h2; rw [if_pos hb] at h2; exact hb h2
theorem rT_mono {s : ByteArray} {p : Int × Int} (hs : s.size < 1000000) (h : inS s p) (h2 : (rT' s p).2 = 0) : p.2 = 0 ∧ p.1 ≤ (rT' s p).1 := by
  obtain ⟨a, bad⟩ := p
  unfold inS at h
  unfold rT' at *
  simp only at h h2 ⊢
  obtain ⟨n, rfl⟩ := Int.eq_ofNat_of_zero_le h.1
  by_cases hb : bad = 0
  · subst hb
    refine ⟨rfl, ?_⟩
    rcases text_back s n (by omega) hs 255 (by omega) with ⟨b, _, e⟩ | ⟨m, _, e, hl, _⟩ <;> rw [e] <;> simp only <;> omega
  · exfalso; unfold rdText at h2; rw [if_pos hb] at h2; exact hb h2
theorem rI_mono {s : ByteArray} {p : Int × Int} (h : inS s p) (h2 : (rI' s p).2 = 0) : p.2 = 0 ∧ p.1 ≤ (rI' s p).1 := by
  obtain ⟨a, bad⟩ := p
  unfold inS at h
  unfold rI' at *
  simp only at h h2 ⊢
  obtain ⟨n, rfl⟩ := Int.eq_ofNat_of_zero_le h.1
  by_cases hb : bad = 0
  · subst hb
    refine ⟨rfl, ?_⟩
    rcases num_back s n (by omega) with ⟨b, _, e⟩ | ⟨m, _, e, hl, _⟩ <;> rw [e] <;> simp only <;> omega
  · exfalso; unfold rdNum at h2; rw [if_pos hb] at h2; exact hb h2
theorem rB_one {s : ByteArray} (h2 : (rB' s (0, 0)).2 = 0) : (rB' s (0, 0)).1 = 1 := by
  unfold rB' at *
  rcases byte_back s 0 (by omega) with ⟨b, hb, e⟩ | ⟨m, _, _, e, hl, _⟩
  · have e' : rdByte s 0 0 = (0, ((0 : Nat) : Int), b) := e
    simp only at h2
    rw [e'] at h2
    exact absurd h2 hb
  · have e' : rdByte s 0 0 = (m, ((0 + [m].length : Nat) : Int), 0) := e
    simp only
    rw [e']
    rfl
theorem rB_in0 {s : ByteArray} : inS s (rB' s (0, 0)) := rB_in ⟨by simp, by simp⟩
/-- The place is in the text; a right act has at least one byte. -/
theorem readV_in {s : ByteArray} (hs : s.size < 1000000) (a : ActS) (m : Int) (b : Bool) (hr : readV s = (a, m, b)) : 0 ≤ m ∧ m ≤ s.size ∧ (b = true → 1 ≤ m) := by
  have q0 := rB_in0 (s := s)
  unfold readV at hr
  by_cases c1 : rB s (0, 0) = 1
  · rw [if_pos c1] at hr
    simp only [Prod.mk.injEq] at hr
    obtain ⟨_, rfl, rfl⟩ := hr
    have q1 := rN_in q0
    have q2 := rT_in hs q1
    have q3 := (rI_in q2).1
    have q4 := (rI_in q3).1
    refine ⟨q4.1, q4.2, fun hb => ?_⟩
    have z4 : (rI' s (rI' s (rT' s (rN' s (rB' s (0, 0)))))).2 = 0 := by simpa using hb
    have y3 := rI_mono q3 z4
    have z3 := y3.1
    have y2 := rI_mono q2 z3
    have z2 := y2.1
    have y1 := rT_mono hs q1 z2
    have z1 := y1.1
    have y0 := rN_mono q0 z1
    have z0 := y0.1
    have o := rB_one z0
    have x0 := y0.2
    have x1 := y1.2
    have x2 := y2.2
    have x3 := y3.2
    clear y0 y1 y2 y3
    omega
  rw [if_neg c1] at hr
  by_cases c2 : rB s (0, 0) = 2
  · rw [if_pos c2] at hr
    simp only [Prod.mk.injEq] at hr
    obtain ⟨_, rfl, rfl⟩ := hr
    have q1 := rN_in q0
    have q2 := rN_in q1
    have q3 := (rI_in q2).1
    refine ⟨q3.1, q3.2, fun hb => ?_⟩
    have z3 : (rI' s (rN' s (rN' s (rB' s (0, 0))))).2 = 0 := by simpa using hb
    have y2 := rI_mono q2 z3
    have z2 := y2.1
    have y1 := rN_mono q1 z2
    have z1 := y1.1
    have y0 := rN_mono q0 z1
    have z0 := y0.1
    have o := rB_one z0
    have x0 := y0.2
    have x1 := y1.2
    have x2 := y2.2
    clear y0 y1 y2
    omega
  rw [if_neg c2] at hr
  by_cases c3 : rB s (0, 0) = 3
  · rw [if_pos c3] at hr
    simp only [Prod.mk.injEq] at hr
    obtain ⟨_, rfl, rfl⟩ := hr
    have q1 := rN_in q0
    have q2 := rN_in q1
    refine ⟨q2.1, q2.2, fun hb => ?_⟩
    have z2 : (rN' s (rN' s (rB' s (0, 0)))).2 = 0 := by simpa using hb
    have y1 := rN_mono q1 z2
    have z1 := y1.1
    have y0 := rN_mono q0 z1
    have z0 := y0.1
    have o := rB_one z0
    have x0 := y0.2
    have x1 := y1.2
    clear y0 y1
    omega
  rw [if_neg c3] at hr
  by_cases c4 : rB s (0, 0) = 4
  · rw [if_pos c4] at hr
    simp only [Prod.mk.injEq] at hr
    obtain ⟨_, rfl, rfl⟩ := hr
    have q1 := rN_in q0
    refine ⟨q1.1, q1.2, fun hb => ?_⟩
    have z1 : (rN' s (rB' s (0, 0))).2 = 0 := by simpa using hb
    have y0 := rN_mono q0 z1
    have z0 := y0.1
    have o := rB_one z0
    have x0 := y0.2
    clear y0
    omega
  rw [if_neg c4] at hr
  by_cases c5 : rB s (0, 0) = 5
  · rw [if_pos c5] at hr
    simp only [Prod.mk.injEq] at hr
    obtain ⟨_, rfl, rfl⟩ := hr
    have q1 := rN_in q0
    refine ⟨q1.1, q1.2, fun hb => ?_⟩
    have z1 : (rN' s (rB' s (0, 0))).2 = 0 := by simpa using hb
    have y0 := rN_mono q0 z1
    have z0 := y0.1
    have o := rB_one z0
    have x0 := y0.2
    clear y0
    omega
  rw [if_neg c5] at hr
  by_cases c6 : rB s (0, 0) = 6
  · rw [if_pos c6] at hr
    simp only [Prod.mk.injEq] at hr
    obtain ⟨_, rfl, rfl⟩ := hr
    have q1 := rN_in q0
    refine ⟨q1.1, q1.2, fun hb => ?_⟩
    have z1 : (rN' s (rB' s (0, 0))).2 = 0 := by simpa using hb
    have y0 := rN_mono q0 z1
    have z0 := y0.1
    have o := rB_one z0
    have x0 := y0.2
    clear y0
    omega
  rw [if_neg c6] at hr
  by_cases c7 : rB s (0, 0) = 7
  · rw [if_pos c7] at hr
    simp only [Prod.mk.injEq] at hr
    obtain ⟨_, rfl, rfl⟩ := hr
    have q1 := rN_in q0
    refine ⟨q1.1, q1.2, fun hb => ?_⟩
    have z1 : (rN' s (rB' s (0, 0))).2 = 0 := by simpa using hb
    have y0 := rN_mono q0 z1
    have z0 := y0.1
    have o := rB_one z0
    have x0 := y0.2
    clear y0
    omega
  rw [if_neg c7] at hr
  by_cases c8 : rB s (0, 0) = 8
  · rw [if_pos c8] at hr
    simp only [Prod.mk.injEq] at hr
    obtain ⟨_, rfl, rfl⟩ := hr
    have q1 := rN_in q0
    refine ⟨q1.1, q1.2, fun hb => ?_⟩
    have z1 : (rN' s (rB' s (0, 0))).2 = 0 := by simpa using hb
    have y0 := rN_mono q0 z1
    have z0 := y0.1
    have o := rB_one z0
    have x0 := y0.2
    clear y0
    omega
  rw [if_neg c8] at hr
  simp only [Prod.mk.injEq] at hr
  obtain ⟨_, rfl, rfl⟩ := hr
  exact ⟨q0.1, q0.2, fun h => absurd h (by simp)⟩
end Go.Proofs.Ytapkoiaeghjpdaa.PScriptWrites
