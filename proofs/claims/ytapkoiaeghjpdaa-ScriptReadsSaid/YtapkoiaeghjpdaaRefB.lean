/- The document's decoding (meterref27.Decode). -/
import Derived.Test.YtapkoiaeghjpdaaRefA
import Derived.Test.YtapkoiaeghjpdaaScr13
import Derived.Test.YtapkoiaeghjpdaaScr14
import Derived.Test.YtapkoiaeghjpdaaScr15
namespace Go.Proofs.Ytapkoiaeghjpdaa.PScriptWrites
open Go.RowKit Go.Proofs.YtapkoiaeghjpdaaW.PrintWords Go.Proofs.YtapkoiaeghjpdaaW.PrintLast Go.Proofs.YtapkoiaeghjpdaaW.PrintMore
open Go.Proofs.YtapkoiaeghjpdaaO
open Go.Proofs.YtapkoiaeghjpdaaO
attribute [local go_sem] max2_int min2_int max_two min_two max_three min_three max_four min_four
set_option linter.unusedVariables false
set_option linter.unusedSimpArgs false
/-- What the document's Read hands back. -/
def readP (s : ByteArray) (p : Nat) : ActS × Int × Bool :=
  if rB s (p, 0) = 1 then (⟨1, rN s (rB' s (p, 0)), 0, rT s (rN' s (rB' s (p, 0))), rI s (rT' s (rN' s (rB' s (p, 0)))), rI s (rI' s (rT' s (rN' s (rB' s (p, 0)))))⟩, (rI' s (rI' s (rT' s (rN' s (rB' s (p, 0)))))).1, (rI' s (rI' s (rT' s (rN' s (rB' s (p, 0)))))).2 == 0) else if rB s (p, 0) = 2 then (⟨2, rN s (rB' s (p, 0)), rN s (rN' s (rB' s (p, 0))), ⟨#[]⟩, rI s (rN' s (rN' s (rB' s (p, 0)))), 0⟩, (rI' s (rN' s (rN' s (rB' s (p, 0))))).1, (rI' s (rN' s (rN' s (rB' s (p, 0))))).2 == 0) else if rB s (p, 0) = 3 then (⟨3, rN s (rB' s (p, 0)), rN s (rN' s (rB' s (p, 0))), ⟨#[]⟩, 0, 0⟩, (rN' s (rN' s (rB' s (p, 0)))).1, (rN' s (rN' s (rB' s (p, 0)))).2 == 0) else if 4 ≤ rB s (p, 0) ∧ rB s (p, 0) ≤ 8 then (⟨rB s (p, 0), rN s (rB' s (p, 0)), 0, ⟨#[]⟩, 0, 0⟩, (rN' s (rB' s (p, 0))).1, (rN' s (rB' s (p, 0))).2 == 0) else (⟨0, 0, 0, ⟨#[]⟩, 0, 0⟩, p, false)
theorem refReadF {w0 w : World} {R : List Asn} {s : ByteArray} (h : Own w0 w R) (hs : s.size < 1000000) (p : Nat) (hp : p ≤ s.size) (a : ActS) (m : Int) (b : Bool) (hr : readP s p = (a, m, b)) :
    Calls Try.prog 20 #[.string s, .int .i64 p] w fun e w' => e = .returned (.tuple #[.agg #[.int .u8 a.f0, .int .i64 a.f1, .int .i64 a.f2, .string a.f3, .int .i64 a.f4, .int .i64 a.f5], .int .i64 m, .bool b]) ∧ Own w0 w' R := by
  have q0 : inS s (rB' s (p, 0)) := rB_in ⟨by simp only; omega, by simp only; omega⟩
  have hb : rdByte s p 0 = (rB s (p, 0), (rB' s (p, 0)).1, (rB' s (p, 0)).2) := rfl
  unfold readP at hr
  by_cases c1 : rB s (p, 0) = 1
  · rw [if_pos c1] at hr
    simp only [Prod.mk.injEq] at hr
    obtain ⟨rfl, rfl, rfl⟩ := hr
    rw [c1] at hb
    have q1 := rN_in q0
    have q2 := rT_in hs q1
    have q3 := (rI_in q2).1
    exact rd1 h hs p hp hb _ _ _ _ rfl rfl rfl rfl q0 q1 q2 q3 (rI_in q3).1
  rw [if_neg c1] at hr
  by_cases c2 : rB s (p, 0) = 2
  · rw [if_pos c2] at hr
    simp only [Prod.mk.injEq] at hr
    obtain ⟨rfl, rfl, rfl⟩ := hr
    rw [c2] at hb
    have q1 := rN_in q0
    have q2 := rN_in q1
    exact rd2 h hs p hp hb _ _ _ rfl rfl rfl q0 q1 q2 (rI_in q2).1
  rw [if_neg c2] at hr
  by_cases c3 : rB s (p, 0) = 3
  · rw [if_pos c3] at hr
    simp only [Prod.mk.injEq] at hr
    obtain ⟨rfl, rfl, rfl⟩ := hr
    rw [c3] at hb
    have q1 := rN_in q0
    exact rd3 h hs p hp hb _ _ rfl rfl q0 q1 (rN_in q1)
  rw [if_neg c3] at hr
  by_cases c4 : 4 ≤ rB s (p, 0) ∧ rB s (p, 0) ≤ 8
  · rw [if_pos c4] at hr
    simp only [Prod.mk.injEq] at hr
    obtain ⟨rfl, rfl, rfl⟩ := hr
    exact rd4 h hs p hp _ c4.1 c4.2 hb _ rfl q0 (rN_in q0)
  rw [if_neg c4] at hr
  simp only [Prod.mk.injEq] at hr
  obtain ⟨rfl, rfl, rfl⟩ := hr
  by_cases c5 : rB s (p, 0) < 1
  · exact rd0a h hs p hp _ c5 hb
  · exact rd0b h hs p hp _ (by omega) hb
theorem rB_at {s : ByteArray} {A R : List Int} {b : Int} (h : bytesOf s = A ++ [b] ++ R) : rB s (((A.length : Nat) : Int), 0) = b ∧ rB' s (((A.length : Nat) : Int), 0) = (((A ++ [b]).length : Int), 0) := by
  have hl : s.size = A.length + 1 + R.length := by rw [← bytesOf_length, h]; simp; omega
  have hb : ((byteN s A.length : Nat) : Int) = b := by rw [byteN_list, h]; simp
  have e : rdByte s (A.length : Int) 0 = (b, (A.length : Int) + 1, 0) := by
    unfold rdByte byteR
    rw [if_neg (by simp), Int.toNat_natCast, if_neg (by omega), hb]
    rfl
  unfold rB rB'
  simp only
  rw [e, List.length_append]
  exact ⟨rfl, rfl⟩
theorem rB_atback {s : ByteArray} {A : List Int} (h : Tk s A ((A.length : Int), 0)) (h2 : (rB' s ((A.length : Int), 0)).2 = 0) : Tk s (A ++ [rB s ((A.length : Int), 0)]) (rB' s ((A.length : Int), 0)) := by
  obtain ⟨_, h1, ht⟩ := h
  unfold rB' rB at *
  rcases byte_back s A.length h1 with ⟨b, hb, e⟩ | ⟨m, _, _, e, hl, ht2⟩
  · simp only at h2
    rw [e] at h2
    exact absurd h2 hb
  · simp only
    rw [e]
    exact ⟨by rw [List.length_append], by rw [List.length_append]; exact hl, by rw [List.length_append, ht2, ht]⟩
theorem encA_small (k n : Int) (h4 : 4 ≤ k) (h8 : k ≤ 8) (f2 : Int) (f3 : ByteArray) (f4 f5 : Int) : encA ⟨k, n, f2, f3, f4, f5⟩ = [] ++ [k] ++ numB (uN n) := by
  have : k = 4 ∨ k = 5 ∨ k = 6 ∨ k = 7 ∨ k = 8 := by omega
  unfold encA encF
  rcases this with rfl | rfl | rfl | rfl | rfl <;> rfl
theorem okA_small (k n : Int) (h4 : 4 ≤ k) (h8 : k ≤ 8) (f2 : Int) (f3 : ByteArray) (f4 f5 : Int) : okA ⟨k, n, f2, f3, f4, f5⟩ = ((true && numOk n) && ((f2 == 0) && ((f3.toList == []) && ((f4 == 0) && (f5 == 0))))) := by
  have : k = 4 ∨ k = 5 ∨ k = 6 ∨ k = 7 ∨ k = 8 := by omega
  unfold okA okF
  rcases this with rfl | rfl | rfl | rfl | rfl <;> rfl
theorem okA_kind (a : ActS) (h : okA a = true) : 1 ≤ a.f0 ∧ a.f0 ≤ 8 := by
  obtain ⟨f0, f1, f2, f3, f4, f5⟩ := a
  unfold okA okF at h
  simp only at h ⊢
  by_cases c : 1 ≤ f0 ∧ f0 ≤ 8
  · exact c
  · rw [if_neg (by omega), if_neg (by omega), if_neg (by omega), if_neg (by omega), if_neg (by omega), if_neg (by omega), if_neg (by omega), if_neg (by omega)] at h
    exact absurd h (by simp)
/-- An act that stands at a place is read there. -/
theorem readP_enc {s : ByteArray} {a : ActS} {A R : List Int} (hs : s.size < 1000000) (ha : actIn a) (ho : okA a = true) (h : bytesOf s = A ++ encA a ++ R) : readP s A.length = (a, ((A.length + (encA a).length : Nat) : Int), true) := by
  have hkind := okA_kind a ho
  obtain ⟨f0, f1, f2, f3, f4, f5⟩ := a
  obtain ⟨⟨i4, j4⟩, ⟨i5, j5⟩, _⟩ := ha
  simp only at i4 j4 i5 j5 hkind
  by_cases c1 : f0 = 1
  · subst c1
    unfold okA okF at ho
    simp only [if_pos] at ho
    simp only [Bool.true_and, Bool.and_eq_true, beq_iff_eq, numOk, textOk, decide_eq_true_eq] at ho
    obtain ⟨⟨⟨n0, n1⟩, ht⟩, rfl⟩ := ho
    have hu := uN_of f1 n0 (by omega)
    have he : encA ⟨1, f1, 0, f3, f4, f5⟩ = [1] ++ numB (uN f1) ++ (numB f3.size ++ bytesOf f3) ++ numB (zigN f4) ++ numB (zigN f5) := rfl
    rw [he] at h ⊢
    have q4 : bytesOf s = A ++ [1] ++ numB (uN f1) ++ (numB f3.size ++ bytesOf f3) ++ numB (zigN f4) ++ numB (zigN f5) ++ R := by rw [h]; simp only [List.append_assoc]
    have q3 := q4; rw [List.append_assoc (bs := numB (zigN f5))] at q3
    have q2 := q3; rw [List.append_assoc (bs := numB (zigN f4))] at q2
    have q1 := q2; rw [List.append_assoc (bs := numB f3.size ++ bytesOf f3)] at q1
    have q0 := q1; rw [List.append_assoc (bs := numB (uN f1))] at q0
    have r0 := rB_at q0
    have r1 := rN_read (n := uN f1) (by omega) q1
    have r2 := rT_read hs ht q2
    have r3 := rI_read i4 j4 q3
    have r4 := rI_read i5 j5 q4
    unfold readP
    rw [r0.1, if_pos rfl, r0.2, r1.1, r1.2, r2.1, r2.2, r3.1, r3.2, r4.1, r4.2, hu]
    simp only [Prod.mk.injEq, List.length_append]
    refine ⟨trivial, by omega, rfl⟩
  by_cases c2 : f0 = 2
  · subst c2
    unfold okA okF at ho
    simp only [if_pos] at ho
    rw [if_neg (by omega)] at ho
    simp only [Bool.true_and, Bool.and_eq_true, beq_iff_eq, numOk, textOk, decide_eq_true_eq] at ho
    obtain ⟨⟨⟨n0, n1⟩, m0, m1⟩, ht, rfl⟩ := ho
    have hu := uN_of f1 n0 (by omega)
    have hu2 := uN_of f2 m0 (by omega)
    obtain rfl := empty_of (t := f3) (by rw [ht]; rfl)
    have he : encA ⟨2, f1, f2, ⟨#[]⟩, f4, 0⟩ = [2] ++ numB (uN f1) ++ numB (uN f2) ++ numB (zigN f4) := rfl
    rw [he] at h ⊢
    have q3 : bytesOf s = A ++ [2] ++ numB (uN f1) ++ numB (uN f2) ++ numB (zigN f4) ++ R := by rw [h]; simp only [List.append_assoc]
    have q2 := q3; rw [List.append_assoc (bs := numB (zigN f4))] at q2
    have q1 := q2; rw [List.append_assoc (bs := numB (uN f2))] at q1
    have q0 := q1; rw [List.append_assoc (bs := numB (uN f1))] at q0
    have r0 := rB_at q0
    have r1 := rN_read (n := uN f1) (by omega) q1
    have r2 := rN_read (n := uN f2) (by omega) q2
    have r3 := rI_read i4 j4 q3
    unfold readP
    rw [r0.1, if_neg (by omega), if_pos rfl, r0.2, r1.1, r1.2, r2.1, r2.2, r3.1, r3.2, hu, hu2]
    simp only [Prod.mk.injEq, List.length_append]
    refine ⟨trivial, by omega, rfl⟩
  by_cases c3 : f0 = 3
  · subst c3
    unfold okA okF at ho
    simp only [if_pos] at ho
    rw [if_neg (by omega), if_neg (by omega)] at ho
    simp only [Bool.true_and, Bool.and_eq_true, beq_iff_eq, numOk, textOk, decide_eq_true_eq] at ho
    obtain ⟨⟨⟨n0, n1⟩, m0, m1⟩, ht, rfl, rfl⟩ := ho
    have hu := uN_of f1 n0 (by omega)
    have hu2 := uN_of f2 m0 (by omega)
    obtain rfl := empty_of (t := f3) (by rw [ht]; rfl)
    have he : encA ⟨3, f1, f2, ⟨#[]⟩, 0, 0⟩ = [3] ++ numB (uN f1) ++ numB (uN f2) := rfl
    rw [he] at h ⊢
    have q2 : bytesOf s = A ++ [3] ++ numB (uN f1) ++ numB (uN f2) ++ R := by rw [h]; simp only [List.append_assoc]
    have q1 := q2; rw [List.append_assoc (bs := numB (uN f2))] at q1
    have q0 := q1; rw [List.append_assoc (bs := numB (uN f1))] at q0
    have r0 := rB_at q0
    have r1 := rN_read (n := uN f1) (by omega) q1
    have r2 := rN_read (n := uN f2) (by omega) q2
    unfold readP
    rw [r0.1, if_neg (by omega), if_neg (by omega), if_pos rfl, r0.2, r1.1, r1.2, r2.1, r2.2, hu, hu2]
    simp only [Prod.mk.injEq, List.length_append]
    refine ⟨trivial, by omega, rfl⟩
  have k4 : 4 ≤ f0 := by omega
  rw [okA_small f0 f1 k4 hkind.2] at ho
  simp only [Bool.true_and, Bool.and_eq_true, beq_iff_eq, numOk, decide_eq_true_eq] at ho
  obtain ⟨⟨n0, n1⟩, rfl, ht, rfl, rfl⟩ := ho
  have hu := uN_of f1 n0 (by omega)
  obtain rfl := empty_of (t := f3) (by rw [ht]; rfl)
  rw [encA_small f0 f1 k4 hkind.2, List.nil_append] at h ⊢
  have q1 : bytesOf s = A ++ [f0] ++ numB (uN f1) ++ R := by rw [h]; simp only [List.append_assoc]
  have q0 := q1; rw [List.append_assoc (bs := numB (uN f1))] at q0
  have r0 := rB_at q0
  have r1 := rN_read (n := uN f1) (by omega) q1
  unfold readP
  rw [r0.1, if_neg (by omega), if_neg (by omega), if_neg (by omega), if_pos ⟨k4, hkind.2⟩, r0.2, r1.1, r1.2, hu]
  simp only [Prod.mk.injEq, List.length_append]
  refine ⟨trivial, by omega, rfl⟩
/-- What is read at a place stands there. -/
theorem readP_back {s : ByteArray} {a : ActS} {m : Int} {A : List Int} (hs : s.size < 1000000) (hA : Tk s A ((A.length : Int), 0)) (h : readP s A.length = (a, m, true)) : okA a = true ∧ actIn a ∧ m = ((A.length + (encA a).length : Nat) : Int) ∧ A.length + (encA a).length ≤ s.size ∧ (bytesOf s).take (A.length + (encA a).length) = A ++ encA a := by
  have fin : ∀ (X : List Int) (q : Int × Int), Tk s (A ++ X) q → q.1 = ((A.length + X.length : Nat) : Int) ∧ A.length + X.length ≤ s.size ∧ (bytesOf s).take (A.length + X.length) = A ++ X := fun X q ⟨h1, h2, h3⟩ => by
    rw [List.length_append] at h1 h2 h3
    exact ⟨by rw [h1], h2, h3⟩
  have q0 : inS s (rB' s ((A.length : Int), 0)) := rB_in hA.inS
  unfold readP at h
  by_cases c1 : rB s ((A.length : Int), 0) = 1
  · rw [if_pos c1] at h
    simp only [Prod.mk.injEq, beq_iff_eq] at h
    obtain ⟨rfl, rfl, z4⟩ := h
    have q1 := rN_in q0
    have q2 := rT_in hs q1
    have q3 := (rI_in q2).1
    have z3 := (rI_mono q3 z4).1
    have z2 := (rI_mono q2 z3).1
    have z1 := (rT_mono hs q1 z2).1
    have z0 := (rN_mono q0 z1).1
    have t0 := rB_atback hA z0
    rw [c1] at t0
    obtain ⟨n, hn, e1, t1⟩ := rN_back t0 z1
    obtain ⟨ht, t2⟩ := rT_back hs t1 z2
    obtain ⟨h4, t3⟩ := rI_back t2 z3
    obtain ⟨h5, t4⟩ := rI_back t3 z4
    rw [e1]
    generalize rI s (rI' s (rT' s (rN' s (rB' s ((A.length : Int), 0))))) = y5 at *
    generalize rI s (rT' s (rN' s (rB' s ((A.length : Int), 0)))) = y4 at *
    generalize rT s (rN' s (rB' s ((A.length : Int), 0))) = y3 at *
    have he : encA ⟨1, (n : Int), 0, y3, y4, y5⟩ = [1] ++ numB n ++ (numB y3.size ++ bytesOf y3) ++ numB (zigN y4) ++ numB (zigN y5) := by
      unfold encA encF
      simp only
      rw [if_pos trivial, uN_nat n hn, List.nil_append]
    rw [he]
    have tf := fin ([1] ++ numB n ++ (numB y3.size ++ bytesOf y3) ++ numB (zigN y4) ++ numB (zigN y5)) _ (by simpa only [List.append_assoc] using t4)
    refine ⟨?_, ⟨h4, h5, by simp only; omega⟩, tf.1, tf.2.1, tf.2.2⟩
    unfold okA okF
    simp only
    rw [if_pos trivial, numOk_nat n hn, show textOk _ = true from decide_eq_true ht]
    rfl
  rw [if_neg c1] at h
  by_cases c2 : rB s ((A.length : Int), 0) = 2
  · rw [if_pos c2] at h
    simp only [Prod.mk.injEq, beq_iff_eq] at h
    obtain ⟨rfl, rfl, z3⟩ := h
    have q1 := rN_in q0
    have q2 := rN_in q1
    have z2 := (rI_mono q2 z3).1
    have z1 := (rN_mono q1 z2).1
    have z0 := (rN_mono q0 z1).1
    have t0 := rB_atback hA z0
    rw [c2] at t0
    obtain ⟨n, hn, e1, t1⟩ := rN_back t0 z1
    obtain ⟨n2, hn2, e2, t2⟩ := rN_back t1 z2
    obtain ⟨h4, t3⟩ := rI_back t2 z3
    rw [e1, e2]
    generalize rI s (rN' s (rN' s (rB' s ((A.length : Int), 0)))) = y4 at *
    have he : encA ⟨2, (n : Int), (n2 : Int), ⟨#[]⟩, y4, 0⟩ = [2] ++ numB n ++ numB n2 ++ numB (zigN y4) := by
      unfold encA encF
      simp only
      rw [if_neg (by omega), if_pos trivial, uN_nat n hn, uN_nat n2 hn2, List.nil_append]
    rw [he]
    have tf := fin ([2] ++ numB n ++ numB n2 ++ numB (zigN y4)) _ (by simpa only [List.append_assoc] using t3)
    refine ⟨?_, ⟨h4, ⟨by show -(2^63) ≤ (0 : Int); omega, by show (0 : Int) < 2 ^ 63; omega⟩, by show (0 : Nat) < 1000000; omega⟩, tf.1, tf.2.1, tf.2.2⟩
    unfold okA okF
    simp only
    rw [if_neg (by omega), if_pos trivial, numOk_nat n hn, numOk_nat n2 hn2, toList_empty]
    rfl
  rw [if_neg c2] at h
  by_cases c3 : rB s ((A.length : Int), 0) = 3
  · rw [if_pos c3] at h
    simp only [Prod.mk.injEq, beq_iff_eq] at h
    obtain ⟨rfl, rfl, z2⟩ := h
    have q1 := rN_in q0
    have z1 := (rN_mono q1 z2).1
    have z0 := (rN_mono q0 z1).1
    have t0 := rB_atback hA z0
    rw [c3] at t0
    obtain ⟨n, hn, e1, t1⟩ := rN_back t0 z1
    obtain ⟨n2, hn2, e2, t2⟩ := rN_back t1 z2
    rw [e1, e2]
    have he : encA ⟨3, (n : Int), (n2 : Int), ⟨#[]⟩, 0, 0⟩ = [3] ++ numB n ++ numB n2 := by
      unfold encA encF
      simp only
      rw [if_neg (by omega), if_neg (by omega), if_pos trivial, uN_nat n hn, uN_nat n2 hn2, List.nil_append]
    rw [he]
    have tf := fin ([3] ++ numB n ++ numB n2) _ (by simpa only [List.append_assoc] using t2)
    refine ⟨?_, ⟨⟨by show -(2^63) ≤ (0 : Int); omega, by show (0 : Int) < 2 ^ 63; omega⟩, ⟨by show -(2^63) ≤ (0 : Int); omega, by show (0 : Int) < 2 ^ 63; omega⟩, by show (0 : Nat) < 1000000; omega⟩, tf.1, tf.2.1, tf.2.2⟩
    unfold okA okF
    simp only
    rw [if_neg (by omega), if_neg (by omega), if_pos trivial, numOk_nat n hn, numOk_nat n2 hn2, toList_empty]
    rfl
  rw [if_neg c3] at h
  by_cases c4 : 4 ≤ rB s ((A.length : Int), 0) ∧ rB s ((A.length : Int), 0) ≤ 8
  · rw [if_pos c4] at h
    simp only [Prod.mk.injEq, beq_iff_eq] at h
    obtain ⟨rfl, rfl, z1⟩ := h
    have z0 := (rN_mono q0 z1).1
    have t0 := rB_atback hA z0
    obtain ⟨n, hn, e1, t1⟩ := rN_back t0 z1
    rw [e1]
    generalize rB s ((A.length : Int), 0) = k at *
    rw [encA_small k n c4.1 c4.2, uN_nat n hn, List.nil_append]
    have tf := fin ([k] ++ numB n) _ (by simpa only [List.append_assoc] using t1)
    refine ⟨?_, ⟨⟨by show -(2^63) ≤ (0 : Int); omega, by show (0 : Int) < 2 ^ 63; omega⟩, ⟨by show -(2^63) ≤ (0 : Int); omega, by show (0 : Int) < 2 ^ 63; omega⟩, by show (0 : Nat) < 1000000; omega⟩, tf.1, tf.2.1, tf.2.2⟩
    rw [okA_small k n c4.1 c4.2, numOk_nat n hn, toList_empty]
    rfl
  · rw [if_neg c4] at h
    simp at h

theorem dec_skip {L : List Int} (hr : rg L) (hne : L ≠ []) (h : (readC L).2.2 = false) : dec L = dec (L.drop 1) := by
  have hpos : 0 < L.length := List.length_pos_iff.2 hne
  obtain ⟨k, hk⟩ : ∃ k, L.length = k + 1 := ⟨L.length - 1, by omega⟩
  unfold dec
  rw [hk, decU, if_neg hne, h, if_neg (by simp)]
  exact decU_fuel _ _ _ (rg_drop hr _) (by rw [List.length_drop]; omega) (Nat.le_refl _)
theorem tk_at (s : ByteArray) (p : Nat) (hp : p ≤ s.size) : ∃ A : List Int, A.length = p ∧ Tk s A ((A.length : Int), 0) ∧ bytesOf s = A ++ (bytesOf s).drop p := by
  have hl : ((bytesOf s).take p).length = p := by rw [List.length_take, bytesOf_length]; omega
  exact ⟨(bytesOf s).take p, hl, ⟨rfl, by omega, by rw [hl]⟩, (List.take_append_drop p _).symm⟩
/-- One step of the document's decoding. -/
theorem step_ok {s : ByteArray} (hs : s.size < 1000000) {p : Nat} (hp : p ≤ s.size) {a : ActS} {m : Int} (h : readP s p = (a, m, true)) : ∃ m2 : Nat, m = (m2 : Int) ∧ p < m2 ∧ m2 ≤ s.size ∧ dec ((bytesOf s).drop p) = a :: dec ((bytesOf s).drop m2) := by
  obtain ⟨A, hA, ht, he⟩ := tk_at s p hp
  subst hA
  obtain ⟨h1, h2, h3, h4, h5⟩ := readP_back hs ht h
  have hpos := encA_pos a h1
  refine ⟨A.length + (encA a).length, h3, by omega, h4, ?_⟩
  have e : (bytesOf s).drop A.length = encA a ++ (bytesOf s).drop (A.length + (encA a).length) := by
    have e2 : bytesOf s = A ++ encA a ++ (bytesOf s).drop (A.length + (encA a).length) := by
      conv => lhs; rw [← List.take_append_drop (A.length + (encA a).length) (bytesOf s), h5]
    conv => lhs; rw [e2, List.append_assoc, List.drop_left]
  rw [e, dec_enc (rg_drop (bytesOf_range s) _) h2 h1]
theorem step_no {s : ByteArray} (hs : s.size < 1000000) {p : Nat} (hp : p < s.size) {a : ActS} {m : Int} (h : readP s p = (a, m, false)) : dec ((bytesOf s).drop p) = dec ((bytesOf s).drop (p + 1)) := by
  have hrg := rg_drop (bytesOf_range s) p
  have hne : (bytesOf s).drop p ≠ [] := fun h => by
    have := congrArg List.length h
    rw [List.length_drop, bytesOf_length] at this
    simp at this
    omega
  rw [← List.drop_drop]
  refine dec_skip hrg hne ?_
  rcases hc : readC ((bytesOf s).drop p) with ⟨a2, m2, b⟩
  cases b with
  | false => rfl
  | true =>
    exfalso
    obtain ⟨h1, h2, h3, h4, h5⟩ := readC_back hrg hc
    obtain ⟨A, hA, ht, he⟩ := tk_at s p (by omega)
    subst hA
    have := readP_enc (A := A) hs h2 h1 (R := ((bytesOf s).drop A.length).drop (encA a2).length) (by rw [List.append_assoc, ← h5, ← he])
    rw [this] at h
    simp at h
section
variable {w0 w w' : World} {R : List Asn}
set_option maxHeartbeats 8000000 in
set_option maxRecDepth 100000 in
theorem refDecS (h : Own w0 w R) (s : ByteArray) (hs : s.size ≤ 65536) (dl : List ActS) (hd : decR (bytesOf s) = dl) :
    Calls Try.prog 13 #[.string s] w fun e w' => ∃ A' c', e = .returned (.slice A' dl.length c') ∧ Own w0 w' (Row k33 33 (.slice A' dl.length c') dl :: R) := by
  have H := Aside0.mk (h.row_nil k33 33)
  have HS6 := Aside0.mk (show s.size < 1000000 by omega)
  have HDL := Aside0.mk (show [] ++ (dec (bytesOf s)).take (4096 - ([] : List ActS).length) = dl by
    rw [← hd]
    unfold decR
    rw [List.take_of_length_le (l := bytesOf s) (by rw [bytesOf_length]; exact hs)]
    rfl)
  have d0 : decide ((s.size : Int) > 65536) = false := decide_eq_false (by omega)
  clear h hd
  go_enter Try.func13, Try.ntmps13
  go_wp2
  go_loopw [3, 4] (fun v3 v4 wr => ∃ (p : Nat) (acc : List ActS) (B : Option Addr) (d : Nat), p ≤ s.size ∧ v3 = .slice B acc.length d ∧ v4 = .int .i64 p ∧ acc.length ≤ 4096 ∧ Aside0 (acc ++ (dec ((bytesOf s).drop p)).take (4096 - acc.length) = dl) ∧ Aside0 (Own w0 wr (Row k33 33 (.slice B acc.length d) acc :: R))) (fun _ v4 _ => s.size - (RowKit.intOf v4).toNat)
  case atStart => exact ⟨0, [], none, 0, Nat.zero_le _, rfl, rfl, by simp, ⟨by rw [List.drop_zero]; exact HDL.out⟩, H⟩
  case round =>
    obtain ⟨p, acc, B, d, hp, rfl, rfl, ha, HG, HO⟩ := hrel
    by_cases c0 : p < s.size
    · by_cases c1 : acc.length < 4096
      · have d1 : decide ((acc.length : Int) < 4096) = true := decide_eq_true (by omega)
        rcases hv : readP s p with ⟨⟨f0, f1, f2, f3, f4, f5⟩, m, b⟩
        have HV := Lib.hid hv
        have HPS := Aside0.mk hp
        cases b with
        | true =>
          obtain ⟨m2, rfl, hm1, hm2, hst⟩ := step_ok HS6.out hp hv
          have hg := HG.out
          rw [hst, show 4096 - acc.length = (4096 - (acc.length + 1)) + 1 by omega, List.take_succ_cons] at hg
          have HST := Aside0.mk hg
          clear hv hst hg
          go_wp2_with (first
            | (go_at_call 20; (with_reducible refine (refReadF HO.out HS6.out p HPS.out _ _ _ HV.out).mono ?_); rintro e w5 ⟨rfl, h⟩; have H5 := Aside0.mk h; clear h)
            | ((with_reducible refine gate_builtin (b := .append) (xs := #[.tmp 30, .tmp 32]) rfl ?_); at_builtin; refine Own.append k33 rfl (.tmp 30) (.tmp 32) 24 33 (.agg #[.int .u8 0, .int .i64 0, .int .i64 0, .string ⟨#[]⟩, .int .i64 0, .int .i64 0]) 56 rfl Try.underlying24 infoAct rfl (by decide) (by omega) (.slice B acc.length d) acc ⟨f0, f1, f2, f3, f4, f5⟩ [.int .u8 f0, .int .i64 f1, .int .i64 f2, .string f3, .int .i64 f4, .int .i64 f5] rfl (by rw [alloc_size]; rfl) (fun _ => k33_mkM _ _ _ _) (H5.out.junk (.cells #[.int .u8 f0, .int .i64 f1, .int .i64 f2, .string f3, .int .i64 f4, .int .i64 f5] 33 (0, 0))) (by omega) ?_; intro A6 c6 w6 h; have H6 := Aside0.mk h; clear h))
          go_roundw
          case rel =>
            refine ⟨m2, acc ++ [(⟨f0, f1, f2, f3, f4, f5⟩ : ActS)], A6, c6, hm2, by rw [List.length_append]; rfl, rfl, by rw [List.length_append, List.length_singleton]; omega, ⟨?_⟩, by rw [List.length_append]; exact H6⟩
            rw [List.length_append, List.length_singleton, List.append_assoc]
            exact HST.out
          case measure => first | (simp [RowKit.intOf]; done) | (simp [RowKit.intOf]; omega)
        | false =>
          have hst := step_no HS6.out c0 hv
          have hg := HG.out
          rw [hst] at hg
          have HST := Aside0.mk hg
          clear hv hst hg
          go_wp2_with (go_at_call 20; (with_reducible refine (refReadF HO.out HS6.out p HPS.out _ _ _ HV.out).mono ?_); rintro e w5 ⟨rfl, h⟩; have H5 := Aside0.mk h; clear h)
          go_roundw
          case rel => exact ⟨p + 1, acc, B, d, by omega, rfl, by first | rfl | go_num, ha, HST, ⟨H5.out.junk _⟩⟩
          case measure => first | (simp [RowKit.intOf]; done) | (simp [RowKit.intOf]; omega)
      · have d1 : decide ((acc.length : Int) < 4096) = false := decide_eq_false (by omega)
        have hres : Aside0 (acc = dl) := ⟨by have h := HG.out; rwa [show 4096 - acc.length = 0 by omega, List.take_zero, List.append_nil] at h⟩
        go_wp2
        go_ret
        rw [← hres.out]
        exact ⟨B, d, rfl, HO.out⟩
    · have hres : Aside0 (acc = dl) := ⟨by have h := HG.out; rwa [List.drop_of_length_le (by rw [bytesOf_length]; omega), dec_nil, List.take_nil, List.append_nil] at h⟩
      go_wp2
      go_ret
      rw [← hres.out]
      exact ⟨B, d, rfl, HO.out⟩
set_option maxHeartbeats 8000000 in
set_option maxRecDepth 100000 in
theorem refDecB (h : Own w0 w R) (s : ByteArray) (hs : 65536 < s.size) (hs2 : s.size < 1000000) (dl : List ActS) (hd : decR (bytesOf s) = dl) :
    Calls Try.prog 13 #[.string s] w fun e w' => ∃ A' c', e = .returned (.slice A' dl.length c') ∧ Own w0 w' (Row k33 33 (.slice A' dl.length c') dl :: R) := by
  have H := Aside0.mk (h.row_nil k33 33)
  obtain ⟨u, hu⟩ : ∃ u, s.extract 0 65536 = u := ⟨_, rfl⟩
  have hus : u.size = 65536 := by rw [← hu, ByteArray.size_extract]; omega
  have HS6 := Aside0.mk (show u.size < 1000000 by omega)
  have HDL := Aside0.mk (show [] ++ (dec (bytesOf u)).take (4096 - ([] : List ActS).length) = dl by
    rw [← hd, ← hu, bytesOf_extract, List.drop_zero]
    rfl)
  have d0 : decide ((s.size : Int) > 65536) = true := decide_eq_true (by omega)
  clear h hd
  go_enter Try.func13, Try.ntmps13
  go_wp2
  have hus2 : u.size ≤ 65536 := by omega
  clear hus
  go_loopw [3, 4] (fun v3 v4 wr => ∃ (p : Nat) (acc : List ActS) (B : Option Addr) (d : Nat), p ≤ u.size ∧ v3 = .slice B acc.length d ∧ v4 = .int .i64 p ∧ acc.length ≤ 4096 ∧ Aside0 (acc ++ (dec ((bytesOf u).drop p)).take (4096 - acc.length) = dl) ∧ Aside0 (Own w0 wr (Row k33 33 (.slice B acc.length d) acc :: R))) (fun _ v4 _ => u.size - (RowKit.intOf v4).toNat)
  case atStart => exact ⟨0, [], none, 0, Nat.zero_le _, rfl, rfl, by simp, ⟨by rw [List.drop_zero]; exact HDL.out⟩, H⟩
  case round =>
    obtain ⟨p, acc, B, d, hp, rfl, rfl, ha, HG, HO⟩ := hrel
    by_cases c0 : p < u.size
    · by_cases c1 : acc.length < 4096
      · have d1 : decide ((acc.length : Int) < 4096) = true := decide_eq_true (by omega)
        rcases hv : readP u p with ⟨⟨f0, f1, f2, f3, f4, f5⟩, m, b⟩
        have HV := Lib.hid hv
        have HPS := Aside0.mk hp
        cases b with
        | true =>
          obtain ⟨m2, rfl, hm1, hm2, hst⟩ := step_ok HS6.out hp hv
          have hg := HG.out
          rw [hst, show 4096 - acc.length = (4096 - (acc.length + 1)) + 1 by omega, List.take_succ_cons] at hg
          have HST := Aside0.mk hg
          clear hv hst hg
          go_wp2_with (first
            | (go_at_call 20; (with_reducible refine (refReadF HO.out HS6.out p HPS.out _ _ _ HV.out).mono ?_); rintro e w5 ⟨rfl, h⟩; have H5 := Aside0.mk h; clear h)
            | ((with_reducible refine gate_builtin (b := .append) (xs := #[.tmp 30, .tmp 32]) rfl ?_); at_builtin; refine Own.append k33 rfl (.tmp 30) (.tmp 32) 24 33 (.agg #[.int .u8 0, .int .i64 0, .int .i64 0, .string ⟨#[]⟩, .int .i64 0, .int .i64 0]) 56 rfl Try.underlying24 infoAct rfl (by decide) (by omega) (.slice B acc.length d) acc ⟨f0, f1, f2, f3, f4, f5⟩ [.int .u8 f0, .int .i64 f1, .int .i64 f2, .string f3, .int .i64 f4, .int .i64 f5] rfl (by rw [alloc_size]; rfl) (fun _ => k33_mkM _ _ _ _) (H5.out.junk (.cells #[.int .u8 f0, .int .i64 f1, .int .i64 f2, .string f3, .int .i64 f4, .int .i64 f5] 33 (0, 0))) (by omega) ?_; intro A6 c6 w6 h; have H6 := Aside0.mk h; clear h))
          go_roundw
          case rel =>
            refine ⟨m2, acc ++ [(⟨f0, f1, f2, f3, f4, f5⟩ : ActS)], A6, c6, hm2, by rw [List.length_append]; rfl, rfl, by rw [List.length_append, List.length_singleton]; omega, ⟨?_⟩, by rw [List.length_append]; exact H6⟩
            rw [List.length_append, List.length_singleton, List.append_assoc]
            exact HST.out
          case measure => first | (simp [RowKit.intOf]; done) | (simp [RowKit.intOf]; omega)
        | false =>
          have hst := step_no HS6.out c0 hv
          have hg := HG.out
          rw [hst] at hg
          have HST := Aside0.mk hg
          clear hv hst hg
          go_wp2_with (go_at_call 20; (with_reducible refine (refReadF HO.out HS6.out p HPS.out _ _ _ HV.out).mono ?_); rintro e w5 ⟨rfl, h⟩; have H5 := Aside0.mk h; clear h)
          go_roundw
          case rel => exact ⟨p + 1, acc, B, d, by omega, rfl, by first | rfl | go_num, ha, HST, ⟨H5.out.junk _⟩⟩
          case measure => first | (simp [RowKit.intOf]; done) | (simp [RowKit.intOf]; omega)
      · have d1 : decide ((acc.length : Int) < 4096) = false := decide_eq_false (by omega)
        have hres : Aside0 (acc = dl) := ⟨by have h := HG.out; rwa [show 4096 - acc.length = 0 by omega, List.take_zero, List.append_nil] at h⟩
        go_wp2
        go_ret
        rw [← hres.out]
        exact ⟨B, d, rfl, HO.out⟩
    · have hres : Aside0 (acc = dl) := ⟨by have h := HG.out; rwa [List.drop_of_length_le (by rw [bytesOf_length]; omega), dec_nil, List.take_nil, List.append_nil] at h⟩
      go_wp2
      go_ret
      rw [← hres.out]
      exact ⟨B, d, rfl, HO.out⟩
theorem refDecodeF (h : Own w0 w R) (s : ByteArray) (hs : s.size < 1000000) (dl : List ActS) (hd : decR (bytesOf s) = dl) :
    Calls Try.prog 13 #[.string s] w fun e w' => ∃ A' c', e = .returned (.slice A' dl.length c') ∧ Own w0 w' (Row k33 33 (.slice A' dl.length c') dl :: R) := by
  by_cases c : s.size ≤ 65536
  · exact refDecS h s c dl hd
  · exact refDecB h s (by omega) hs dl hd
end
end Go.Proofs.Ytapkoiaeghjpdaa.PScriptWrites
