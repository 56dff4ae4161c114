/- Acts as bytes (package script): what is written, read; what is read, written. -/
import Derived.Test.YtapkoiaeghjpdaaScr9
import Derived.Test.YtapkoiaeghjpdaaScr11a
namespace Go.Proofs.Ytapkoiaeghjpdaa.PScriptWrites
open Go.RowKit Go.Proofs.YtapkoiaeghjpdaaW.PrintWords Go.Proofs.YtapkoiaeghjpdaaW.PrintLast Go.Proofs.YtapkoiaeghjpdaaW.PrintMore
open Go.Proofs.YtapkoiaeghjpdaaO
attribute [local go_sem] max2_int min2_int max_two min_two max_three min_three max_four min_four
set_option linter.unusedVariables false
set_option linter.unusedSimpArgs false
/-! ### One reading, of what was written -/
theorem rB_read {s : ByteArray} {b : Int} {R : List Int} (h : bytesOf s = b :: R) : rB s (0, 0) = b ∧ rB' s (0, 0) = (1, 0) := by
  have hl : s.size ≠ 0 := by rw [← bytesOf_length, h]; simp
  have hb : ((byteN s 0 : Nat) : Int) = b := by rw [byteN_list, h]; rfl
  have e : rdByte s 0 0 = (b, 1, 0) := by
    unfold rdByte byteR
    rw [if_neg (by simp)]
    show finR (if (0 : Nat) = s.size then ((0 : Int), 7, ((0 : Nat) : Int)) else (((byteN s 0 : Nat) : Int), 0, ((0 : Nat) : Int) + 1)) 0 = _
    rw [if_neg (fun h => hl h.symm), hb]
    rfl
  unfold rB rB'
  simp only
  rw [e]
  exact ⟨rfl, rfl⟩
theorem rN_read {s : ByteArray} {A R : List Int} {n : Nat} (hn : n ≤ 2147483647) (h : bytesOf s = A ++ numB n ++ R) : rN s ((A.length : Int), 0) = (n : Int) ∧ rN' s ((A.length : Int), 0) = (((A ++ numB n).length : Int), 0) := by
  have hd : (bytesOf s).drop A.length = numB n ++ R := by rw [h, List.append_assoc, List.drop_left]
  have hp := numP_read s A.length n R (by omega) hd
  have e : rdMost s (A.length : Int) 0 2147483647 = ((n : Int), ((A.length + (numB n).length : Nat) : Int), 0) := by
    unfold rdMost mostR
    rw [if_neg (by simp), Int.toNat_natCast, hp]
    rw [if_neg (by simp only; omega)]
    rfl
  unfold rN rN'
  simp only
  rw [e, List.length_append]
  exact ⟨rfl, rfl⟩
theorem rI_read {s : ByteArray} {A R : List Int} {i : Int} (h0 : -(2^63) ≤ i) (h1 : i < 2 ^ 63) (h : bytesOf s = A ++ numB (zigN i) ++ R) : rI s ((A.length : Int), 0) = i ∧ rI' s ((A.length : Int), 0) = (((A ++ numB (zigN i)).length : Int), 0) := by
  have hd : (bytesOf s).drop A.length = numB (zigN i) ++ R := by rw [h, List.append_assoc, List.drop_left]
  have hp := numP_read s A.length (zigN i) R (zigN_lt i h0 h1) hd
  have e : rdNum s (A.length : Int) 0 = ((zigN i : Int), ((A.length + (numB (zigN i)).length : Nat) : Int), 0) := by
    unfold rdNum
    rw [if_neg (by simp), Int.toNat_natCast, hp]
    rfl
  unfold rI rI'
  simp only
  rw [e, List.length_append, Int.toNat_natCast, zag_zig]
  exact ⟨rfl, rfl⟩
theorem rT_read {s : ByteArray} {A R : List Int} {t : ByteArray} (hs : s.size < 1000000) (ht : t.size ≤ 255) (h : bytesOf s = A ++ (numB t.size ++ bytesOf t) ++ R) : rT s ((A.length : Int), 0) = t ∧ rT' s ((A.length : Int), 0) = (((A ++ (numB t.size ++ bytesOf t)).length : Int), 0) := by
  have hd : (bytesOf s).drop A.length = numB t.size ++ (bytesOf t ++ R) := by rw [h, List.append_assoc, List.drop_left, List.append_assoc]
  have hp := numP_read s A.length t.size _ (by omega) hd
  have hl : ((bytesOf s).drop A.length).length = (numB t.size).length + (t.size + R.length) := by rw [hd]; simp [bytesOf_length]
  rw [List.length_drop, bytesOf_length] at hl
  have hm2 : mostR s A.length 255 = ((t.size : Int), 0, ((A.length + (numB t.size).length : Nat) : Int)) := by
    unfold mostR
    rw [hp]
    rw [if_neg (by simp only; omega)]
  have hpos := numB_pos t.size
  have e : rdText s (A.length : Int) 0 255 = (t, ((A.length + (numB t.size).length + t.size : Nat) : Int), 0) := by
    unfold rdText textR
    rw [if_neg (by simp), Int.toNat_natCast, hm2]
    simp only
    rw [if_neg (by simp), if_neg (by omega)]
    rw [Int.toNat_natCast, Int.toNat_natCast]
    refine Prod.ext (bytesOf_inj ?_) (Prod.ext (by simp only [finR]; rw [if_pos trivial]; omega) rfl)
    show bytesOf (s.extract _ _) = _
    rw [bytesOf_extract, List.drop_take, show A.length + (numB t.size).length + t.size - (A.length + (numB t.size).length) = t.size by omega, ← List.drop_drop, hd, List.drop_left, List.take_left' (bytesOf_length t)]
  unfold rT rT'
  simp only
  rw [e, List.length_append, List.length_append, bytesOf_length, ← Nat.add_assoc]
  exact ⟨rfl, rfl⟩
theorem empty_of {t : ByteArray} (h : (t.toList == []) = true) : t = ⟨#[]⟩ := by
  rw [ba_toList] at h
  apply ByteArray.ext
  apply Array.toList_inj.1
  simpa using h
/-- What was written is read, whatever stands behind it. -/
theorem read_enc {s : ByteArray} {a : ActS} {R : List Int} (hs : s.size < 1000000) (ha : actIn a) (ho : okA a = true) (h : bytesOf s = encA a ++ R) : readV s = (a, ((encA a).length : Int), true) := by
  obtain ⟨f0, f1, f2, f3, f4, f5⟩ := a
  obtain ⟨⟨i4, j4⟩, ⟨i5, j5⟩, _⟩ := ha
  simp only at i4 j4 i5 j5
  unfold encA encF at h ⊢
  unfold okA okF at ho
  unfold readV
  simp only at h ho ⊢
  by_cases c1 : f0 = 1
  · subst c1
    simp only [if_pos] at h ho ⊢
    simp only [Bool.true_and, Bool.and_eq_true, beq_iff_eq, numOk, textOk, decide_eq_true_eq] at ho
    obtain ⟨⟨⟨n0, n1⟩, ht⟩, rfl⟩ := ho
    have hu := uN_of f1 n0 (by omega)
    have q4 := h
    have q3 := q4; rw [List.append_assoc (bs := numB (zigN f5))] at q3
    have q2 := q3; rw [List.append_assoc (bs := numB (zigN f4))] at q2
    have q1 := q2; rw [List.append_assoc (bs := numB f3.size ++ bytesOf f3)] at q1
    have q0 := q1; rw [List.append_assoc (bs := numB (uN f1))] at q0
    have r0 := rB_read q0
    have r1 := rN_read (n := uN f1) (by omega) q1
    have r2 := rT_read hs ht q2
    have r3 := rI_read i4 j4 q3
    have r4 := rI_read i5 j5 q4
    have e0 : (1, 0) = (((([] ++ [1] : List Int)).length : Int), (0 : Int)) := rfl
    rw [r0.1, if_pos rfl, r0.2, e0, r1.1, r1.2, r2.1, r2.2, r3.1, r3.2, r4.1, r4.2, hu]
    rfl
  rw [if_neg c1] at h ho ⊢
  by_cases c2 : f0 = 2
  · subst c2
    simp only [if_pos] at h ho ⊢
    simp only [Bool.true_and, Bool.and_eq_true, beq_iff_eq, numOk, textOk, decide_eq_true_eq] at ho
    obtain ⟨⟨⟨n0, n1⟩, m0, m1⟩, ht, rfl⟩ := ho
    have hu := uN_of f1 n0 (by omega)
    have hu2 := uN_of f2 m0 (by omega)
    obtain rfl := empty_of (t := f3) (by rw [ht]; rfl)
    have q3 := h
    have q2 := q3; rw [List.append_assoc (bs := numB (zigN f4))] at q2
    have q1 := q2; rw [List.append_assoc (bs := numB (uN f2))] at q1
    have q0 := q1; rw [List.append_assoc (bs := numB (uN f1))] at q0
    have r0 := rB_read q0
    have r1 := rN_read (n := uN f1) (by omega) q1
    have r2 := rN_read (n := uN f2) (by omega) q2
    have r3 := rI_read i4 j4 q3
    have e0 : (1, 0) = (((([] ++ [2] : List Int)).length : Int), (0 : Int)) := rfl
    rw [r0.1, if_neg (by omega), if_pos rfl, r0.2, e0, r1.1, r1.2, r2.1, r2.2, r3.1, r3.2, hu, hu2]
    rfl
  rw [if_neg c2] at h ho ⊢
  by_cases c3 : f0 = 3
  · subst c3
    simp only [if_pos] at h ho ⊢
    simp only [Bool.true_and, Bool.and_eq_true, beq_iff_eq, numOk, textOk, decide_eq_true_eq] at ho
    obtain ⟨⟨⟨n0, n1⟩, m0, m1⟩, ht, rfl, rfl⟩ := ho
    have hu := uN_of f1 n0 (by omega)
    have hu2 := uN_of f2 m0 (by omega)
    obtain rfl := empty_of (t := f3) (by rw [ht]; rfl)
    have q2 := h
    have q1 := q2; rw [List.append_assoc (bs := numB (uN f2))] at q1
    have q0 := q1; rw [List.append_assoc (bs := numB (uN f1))] at q0
    have r0 := rB_read q0
    have r1 := rN_read (n := uN f1) (by omega) q1
    have r2 := rN_read (n := uN f2) (by omega) q2
    have e0 : (1, 0) = (((([] ++ [3] : List Int)).length : Int), (0 : Int)) := rfl
    rw [r0.1, if_neg (by omega), if_neg (by omega), if_pos rfl, r0.2, e0, r1.1, r1.2, r2.1, r2.2, hu, hu2]
    rfl
  rw [if_neg c3] at h ho ⊢
  have small : ∀ (k : Int), bytesOf s = ([] ++ [k]) ++ numB (uN f1) ++ R → (0 ≤ f1 ∧ f1 ≤ 2147483647) → rB s (0, 0) = k ∧ rN s (rB' s (0, 0)) = f1 ∧ rN' s (rB' s (0, 0)) = (((([] ++ [k]) ++ numB (uN f1)).length : Int), 0) := fun k h hn => by
    have hu := uN_of f1 hn.1 (by omega)
    have q0 := h; rw [List.append_assoc (bs := numB (uN f1))] at q0
    have r0 := rB_read q0
    have r1 := rN_read (n := uN f1) (by omega) h
    have e0 : (1, 0) = (((([] ++ [k] : List Int)).length : Int), (0 : Int)) := rfl
    rw [r0.2, e0, r1.1, r1.2, hu]
    exact ⟨r0.1, rfl, rfl⟩
  have fin : ∀ (k : Int), bytesOf s = ([] ++ [k]) ++ numB (uN f1) ++ R → (true && numOk f1 && (f2 == 0 && (f3.toList == [] && (f4 == 0 && f5 == 0)))) = true → rB s (0, 0) = k ∧ rN s (rB' s (0, 0)) = f1 ∧ rN' s (rB' s (0, 0)) = (((([] ++ [k]) ++ numB (uN f1)).length : Int), 0) ∧ f2 = 0 ∧ f3 = ⟨#[]⟩ ∧ f4 = 0 ∧ f5 = 0 := fun k h ho => by
    simp only [Bool.true_and, Bool.and_eq_true, beq_iff_eq, numOk, decide_eq_true_eq] at ho
    obtain ⟨hn, h2, ht, h4, h5⟩ := ho
    obtain ⟨a1, a2, a3⟩ := small k h hn
    exact ⟨a1, a2, a3, h2, empty_of (t := f3) (by rw [ht]; rfl), h4, h5⟩
  by_cases c4 : f0 = 4
  · subst c4
    simp only [if_pos] at h ho ⊢
    obtain ⟨a1, a2, a3, rfl, rfl, rfl, rfl⟩ := fin _ h ho
    rw [a1, if_neg (by omega), if_neg (by omega), if_neg (by omega), if_pos rfl, a2, a3]
    rfl
  rw [if_neg c4] at h ho ⊢
  by_cases c5 : f0 = 5
  · subst c5
    simp only [if_pos] at h ho ⊢
    obtain ⟨a1, a2, a3, rfl, rfl, rfl, rfl⟩ := fin _ h ho
    rw [a1, if_neg (by omega), if_neg (by omega), if_neg (by omega), if_neg (by omega), if_pos rfl, a2, a3]
    rfl
  rw [if_neg c5] at h ho ⊢
  by_cases c6 : f0 = 6
  · subst c6
    simp only [if_pos] at h ho ⊢
    obtain ⟨a1, a2, a3, rfl, rfl, rfl, rfl⟩ := fin _ h ho
    rw [a1, if_neg (by omega), if_neg (by omega), if_neg (by omega), if_neg (by omega), if_neg (by omega), if_pos rfl, a2, a3]
    rfl
  rw [if_neg c6] at h ho ⊢
  by_cases c7 : f0 = 7
  · subst c7
    simp only [if_pos] at h ho ⊢
    obtain ⟨a1, a2, a3, rfl, rfl, rfl, rfl⟩ := fin _ h ho
    rw [a1, if_neg (by omega), if_neg (by omega), if_neg (by omega), if_neg (by omega), if_neg (by omega), if_neg (by omega), if_pos rfl, a2, a3]
    rfl
  rw [if_neg c7] at h ho ⊢
  by_cases c8 : f0 = 8
  · subst c8
    simp only [if_pos] at h ho ⊢
    obtain ⟨a1, a2, a3, rfl, rfl, rfl, rfl⟩ := fin _ h ho
    rw [a1, if_neg (by omega), if_neg (by omega), if_neg (by omega), if_neg (by omega), if_neg (by omega), if_neg (by omega), if_neg (by omega), if_pos rfl, a2, a3]
    rfl
  rw [if_neg c8] at ho
  exact absurd ho (by simp)
/-! ### One reading that went well: what stands there -/
/-- The place is behind the bytes A, with which the text begins. -/
def Tk (s : ByteArray) (A : List Int) (p : Int × Int) : Prop := p = ((A.length : Int), 0) ∧ A.length ≤ s.size ∧ (bytesOf s).take A.length = A
theorem Tk.inS {s : ByteArray} {A : List Int} {p : Int × Int} (h : Tk s A p) : inS s p := by
  obtain ⟨rfl, h1, _⟩ := h
  exact ⟨by simp only; omega, by simp only; omega⟩
theorem rB_back {s : ByteArray} (h2 : (rB' s (0, 0)).2 = 0) : Tk s ([] ++ [rB s (0, 0)]) (rB' s (0, 0)) := by
  unfold rB' rB at *
  rcases byte_back s 0 (by omega) with ⟨b, hb, e⟩ | ⟨m, _, _, e, hl, ht⟩
  · have e' : rdByte s 0 0 = (0, ((0 : Nat) : Int), b) := e
    simp only at h2
    rw [e'] at h2
    exact absurd h2 hb
  · have e' : rdByte s 0 0 = (m, ((0 + [m].length : Nat) : Int), 0) := e
    simp only
    rw [e']
    simp only [Nat.zero_add] at hl ht
    refine ⟨rfl, hl, ?_⟩
    simpa using ht
theorem rN_back {s : ByteArray} {A : List Int} {p : Int × Int} (h : Tk s A p) (h2 : (rN' s p).2 = 0) : ∃ n : Nat, n ≤ 2147483647 ∧ rN s p = (n : Int) ∧ Tk s (A ++ numB n) (rN' s p) := by
  obtain ⟨rfl, h1, ht⟩ := h
  unfold rN' rN at *
  simp only at h2 ⊢
  rcases most_back s A.length h1 2147483647 with ⟨b, hb, e⟩ | ⟨m, hm, _, e, hl, ht2⟩
  · rw [e] at h2; exact absurd h2 hb
  · refine ⟨m, by omega, by rw [e], ?_⟩
    rw [e]
    refine ⟨by rw [List.length_append], by rw [List.length_append]; exact hl, ?_⟩
    rw [List.length_append, ht2, ht]
theorem rI_back {s : ByteArray} {A : List Int} {p : Int × Int} (h : Tk s A p) (h2 : (rI' s p).2 = 0) : (-(2^63) ≤ rI s p ∧ rI s p < 2 ^ 63) ∧ Tk s (A ++ numB (zigN (rI s p))) (rI' s p) := by
  obtain ⟨rfl, h1, ht⟩ := h
  unfold rI' rI at *
  simp only at h2 ⊢
  rcases num_back s A.length h1 with ⟨b, hb, e⟩ | ⟨m, hm, e, hl, ht2⟩
  · rw [e] at h2; exact absurd h2 hb
  · rw [e]
    simp only [Int.toNat_natCast]
    refine ⟨zag_range m hm, ?_⟩
    rw [zig_zag]
    refine ⟨by rw [List.length_append], by rw [List.length_append]; exact hl, ?_⟩
    rw [List.length_append, ht2, ht]
theorem rT_back {s : ByteArray} (hs : s.size < 1000000) {A : List Int} {p : Int × Int} (h : Tk s A p) (h2 : (rT' s p).2 = 0) : (rT s p).size ≤ 255 ∧ Tk s (A ++ (numB (rT s p).size ++ bytesOf (rT s p))) (rT' s p) := by
  obtain ⟨rfl, h1, ht⟩ := h
  unfold rT' rT at *
  simp only at h2 ⊢
  rcases text_back s A.length h1 hs 255 (by omega) with ⟨b, hb, e⟩ | ⟨t, hm, e, hl, ht2⟩
  · rw [e] at h2; exact absurd h2 hb
  · have h255 : t.size ≤ 255 := by
      unfold rdText textR mostR at e
      rw [if_neg (by simp), Int.toNat_natCast] at e
      rcases hp : numP s A.length with ⟨v, c, a'⟩
      rw [hp] at e
      simp only at e
      by_cases c1 : c = 0 ∧ ((255 : Int) < 0 ∨ 255 < v)
      · rw [if_pos c1] at e
        simp only [finR] at e
        simp at e
      · rw [if_neg c1] at e
        simp only at e
        by_cases c2 : c ≠ 0
        · rw [if_pos c2] at e
          simp only [finR, if_neg c2, Prod.mk.injEq] at e
          exact absurd e.2.2 c2
        · rw [if_neg c2] at e
          by_cases c3 : (s.size : Int) - a' < v
          · rw [if_pos c3] at e
            simp [finR] at e
          · rw [if_neg c3] at e
            simp only [finR, Prod.mk.injEq] at e
            rw [← e.1, ByteArray.size_extract]
            have : ¬ (255 < v) := fun h => c1 ⟨by omega, .inr h⟩
            omega
    rw [e]
    refine ⟨h255, by simp only [List.length_append], by rw [List.length_append]; exact hl, ?_⟩
    rw [List.length_append, ht2, ht]
theorem toList_empty : ((⟨#[]⟩ : ByteArray).toList == []) = true := by rw [ba_toList]; rfl
theorem uN_nat (n : Nat) (h : n ≤ 2147483647) : uN (n : Int) = n := by unfold uN; omega
theorem numOk_nat (n : Nat) (h : n ≤ 2147483647) : numOk (n : Int) = true := by
  unfold numOk
  rw [decide_eq_true (by omega), decide_eq_true (by omega)]
  rfl
/-- What is read of a text is right, and stands there. -/
theorem read_back {s : ByteArray} {a : ActS} {m : Int} (hs : s.size < 1000000) (h : readV s = (a, m, true)) : okA a = true ∧ actIn a ∧ m = ((encA a).length : Int) ∧ (encA a).length ≤ s.size ∧ (bytesOf s).take (encA a).length = encA a := by
  have q0 := rB_in0 (s := s)
  unfold readV at h
  by_cases c1 : rB s (0, 0) = 1
  · rw [if_pos c1] at h
    simp only [Prod.mk.injEq, beq_iff_eq] at h
    obtain ⟨rfl, rfl, z4⟩ := h
    have q1 := rN_in q0
    have q2 := rT_in hs q1
    have q3 := (rI_in q2).1
    have z3 := (rI_mono q3 z4).1
    have z2 := (rI_mono q2 z3).1
    have z1 := (rT_mono hs q1 z2).1
    have z0 := (rN_mono q0 z1).1
    have t0 := rB_back z0
    rw [c1] at t0
    obtain ⟨n, hn, e1, t1⟩ := rN_back t0 z1
    obtain ⟨ht, t2⟩ := rT_back hs t1 z2
    obtain ⟨h4, t3⟩ := rI_back t2 z3
    obtain ⟨h5, t4⟩ := rI_back t3 z4
    rw [e1]
    have he : encA ⟨1, (n : Int), 0, rT s (rN' s (rB' s (0, 0))), rI s (rT' s (rN' s (rB' s (0, 0)))), rI s (rI' s (rT' s (rN' s (rB' s (0, 0)))))⟩ = [] ++ [1] ++ numB n ++ (numB (rT s (rN' s (rB' s (0, 0)))).size ++ bytesOf (rT s (rN' s (rB' s (0, 0))))) ++ numB (zigN (rI s (rT' s (rN' s (rB' s (0, 0)))))) ++ numB (zigN (rI s (rI' s (rT' s (rN' s (rB' s (0, 0))))))) := by
      unfold encA encF
      simp only
      rw [if_pos trivial, uN_nat n hn]
    rw [he]
    refine ⟨?_, ⟨h4, h5, by simp only; omega⟩, congrArg Prod.fst t4.1, t4.2.1, t4.2.2⟩
    unfold okA okF
    simp only
    rw [if_pos trivial, numOk_nat n hn, show textOk _ = true from decide_eq_true ht]
    rfl
  rw [if_neg c1] at h
  by_cases c2 : rB s (0, 0) = 2
  · rw [if_pos c2] at h
    simp only [Prod.mk.injEq, beq_iff_eq] at h
    obtain ⟨rfl, rfl, z3⟩ := h
    have q1 := rN_in q0
    have q2 := rN_in q1
    have z2 := (rI_mono q2 z3).1
    have z1 := (rN_mono q1 z2).1
    have z0 := (rN_mono q0 z1).1
    have t0 := rB_back z0
    rw [c2] at t0
    obtain ⟨n, hn, e1, t1⟩ := rN_back t0 z1
    obtain ⟨n2, hn2, e2, t2⟩ := rN_back t1 z2
    obtain ⟨h4, t3⟩ := rI_back t2 z3
    rw [e1, e2]
    have he : encA ⟨2, (n : Int), (n2 : Int), ⟨#[]⟩, rI s (rN' s (rN' s (rB' s (0, 0)))), 0⟩ = [] ++ [2] ++ numB n ++ numB n2 ++ numB (zigN (rI s (rN' s (rN' s (rB' s (0, 0)))))) := by
      unfold encA encF
      simp only
      rw [if_neg (by omega), if_pos trivial, uN_nat n hn, uN_nat n2 hn2]
    rw [he]
    refine ⟨?_, ⟨h4, ⟨by show -(2^63) ≤ (0 : Int); omega, by show (0 : Int) < 2 ^ 63; omega⟩, by show (0 : Nat) < 1000000; omega⟩, congrArg Prod.fst t3.1, t3.2.1, t3.2.2⟩
    unfold okA okF
    simp only
    rw [if_neg (by omega), if_pos trivial, numOk_nat n hn, numOk_nat n2 hn2, toList_empty]
    rfl
  rw [if_neg c2] at h
  by_cases c3 : rB s (0, 0) = 3
  · rw [if_pos c3] at h
    simp only [Prod.mk.injEq, beq_iff_eq] at h
    obtain ⟨rfl, rfl, z2⟩ := h
    have q1 := rN_in q0
    have z1 := (rN_mono q1 z2).1
    have z0 := (rN_mono q0 z1).1
    have t0 := rB_back z0
    rw [c3] at t0
    obtain ⟨n, hn, e1, t1⟩ := rN_back t0 z1
    obtain ⟨n2, hn2, e2, t2⟩ := rN_back t1 z2
    rw [e1, e2]
    have he : encA ⟨3, (n : Int), (n2 : Int), ⟨#[]⟩, 0, 0⟩ = [] ++ [3] ++ numB n ++ numB n2 := by
      unfold encA encF
      simp only
      rw [if_neg (by omega), if_neg (by omega), if_pos trivial, uN_nat n hn, uN_nat n2 hn2]
    rw [he]
    refine ⟨?_, ⟨⟨by show -(2^63) ≤ (0 : Int); omega, by show (0 : Int) < 2 ^ 63; omega⟩, ⟨by show -(2^63) ≤ (0 : Int); omega, by show (0 : Int) < 2 ^ 63; omega⟩, by show (0 : Nat) < 1000000; omega⟩, congrArg Prod.fst t2.1, t2.2.1, t2.2.2⟩
    unfold okA okF
    simp only
    rw [if_neg (by omega), if_neg (by omega), if_pos trivial, numOk_nat n hn, numOk_nat n2 hn2, toList_empty]
    rfl
  rw [if_neg c3] at h
  have small : ∀ (k : Int), (k = 4 ∨ k = 5 ∨ k = 6 ∨ k = 7 ∨ k = 8) → rB s (0, 0) = k → (⟨k, rN s (rB' s (0, 0)), 0, ⟨#[]⟩, 0, 0⟩, (rN' s (rB' s (0, 0))).1, (rN' s (rB' s (0, 0))).2 == 0) = (a, m, true) → okA a = true ∧ actIn a ∧ m = ((encA a).length : Int) ∧ (encA a).length ≤ s.size ∧ (bytesOf s).take (encA a).length = encA a := by
    intro k hk ck h
    simp only [Prod.mk.injEq, beq_iff_eq] at h
    obtain ⟨rfl, rfl, z1⟩ := h
    have z0 := (rN_mono q0 z1).1
    have t0 := rB_back z0
    rw [ck] at t0
    obtain ⟨n, hn, e1, t1⟩ := rN_back t0 z1
    rw [e1]
    have he : encA ⟨k, (n : Int), 0, ⟨#[]⟩, 0, 0⟩ = [] ++ [k] ++ numB n := by
      unfold encA encF
      simp only
      rw [uN_nat n hn]
      rcases hk with rfl | rfl | rfl | rfl | rfl <;> rfl
    rw [he]
    refine ⟨?_, ⟨⟨by show -(2^63) ≤ (0 : Int); omega, by show (0 : Int) < 2 ^ 63; omega⟩, ⟨by show -(2^63) ≤ (0 : Int); omega, by show (0 : Int) < 2 ^ 63; omega⟩, by show (0 : Nat) < 1000000; omega⟩, congrArg Prod.fst t1.1, t1.2.1, t1.2.2⟩
    unfold okA okF
    simp only
    rw [numOk_nat n hn, toList_empty]
    rcases hk with rfl | rfl | rfl | rfl | rfl <;> rfl
  by_cases c4 : rB s (0, 0) = 4
  · rw [if_pos c4] at h; exact small 4 (by omega) c4 h
  rw [if_neg c4] at h
  by_cases c5 : rB s (0, 0) = 5
  · rw [if_pos c5] at h; exact small 5 (by omega) c5 h
  rw [if_neg c5] at h
  by_cases c6 : rB s (0, 0) = 6
  · rw [if_pos c6] at h; exact small 6 (by omega) c6 h
  rw [if_neg c6] at h
  by_cases c7 : rB s (0, 0) = 7
  · rw [if_pos c7] at h; exact small 7 (by omega) c7 h
  rw [if_neg c7] at h
  by_cases c8 : rB s (0, 0) = 8
  · rw [if_pos c8] at h; exact small 8 (by omega) c8 h
  rw [if_neg c8] at h
  simp at h
/-- No act begins with a byte that is no kind. -/
theorem read_no {s : ByteArray} {b : Int} {R : List Int} (hb : b < 1 ∨ 8 < b) (h : bytesOf s = b :: R) : (readV s).2.2 = false := by
  have r0 := (rB_read h).1
  unfold readV
  rw [r0, if_neg (by omega), if_neg (by omega), if_neg (by omega), if_neg (by omega), if_neg (by omega), if_neg (by omega), if_neg (by omega), if_neg (by omega)]
end Go.Proofs.Ytapkoiaeghjpdaa.PScriptWrites
