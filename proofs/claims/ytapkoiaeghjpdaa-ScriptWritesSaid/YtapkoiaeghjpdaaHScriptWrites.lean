/- The law ScriptWrites, walked. -/
import Derived.Test.YtapkoiaeghjpdaaRefX
import Derived.Test.YtapkoiaeghjpdaaRefC
import Derived.Test.YtapkoiaeghjpdaaRefD
import Derived.Test.YtapkoiaeghjpdaaRefE
import Derived.Test.YtapkoiaeghjpdaaScr17
import Derived.Deep.RegionHeld3
namespace Go.Proofs.Ytapkoiaeghjpdaa.PScriptWrites
open Go.RowKit Go.Proofs.YtapkoiaeghjpdaaW.PrintWords Go.Proofs.YtapkoiaeghjpdaaW.PrintLast Go.Proofs.YtapkoiaeghjpdaaW.PrintMore
open Go.Proofs.YtapkoiaeghjpdaaO
open Go.Proofs.YtapkoiaeghjpdaaO
open Go.Proofs.YtapkoiaeghjpdaaO
attribute [local go_sem] max2_int min2_int max_two min_two max_three min_three max_four min_four
set_option linter.unusedVariables false
set_option linter.unusedSimpArgs false
theorem okF_iff (f0 f1 f2 : Int) (f3 : ByteArray) (f4 f5 : Int) : okF f0 f1 f2 f3 f4 f5 = true ↔ (1 ≤ f0 ∧ f0 ≤ 8) ∧ ((f0 == (onlyA ⟨f0, f1, f2, f3, f4, f5⟩).f0 && (f1 == (onlyA ⟨f0, f1, f2, f3, f4, f5⟩).f1 && (f2 == (onlyA ⟨f0, f1, f2, f3, f4, f5⟩).f2 && (f3.toList == (onlyA ⟨f0, f1, f2, f3, f4, f5⟩).f3.toList && (f4 == (onlyA ⟨f0, f1, f2, f3, f4, f5⟩).f4 && (f5 == (onlyA ⟨f0, f1, f2, f3, f4, f5⟩).f5)))))) = true) ∧ (0 ≤ f1 ∧ f1 ≤ 2147483647) ∧ (0 ≤ f2 ∧ f2 ≤ 2147483647) ∧ f3.size ≤ 255 := by
  have hz : f3.toList = [] → f3.size ≤ 255 := fun h => by
    have := empty_of (t := f3) (by rw [h]; rfl)
    rw [this]
    show (0 : Nat) ≤ 255
    omega
  have e0 : (⟨#[]⟩ : ByteArray).toList = [] := by rw [ba_toList]
  by_cases c1 : f0 = 1
  · subst c1
    have e : okF 1 f1 f2 f3 f4 f5 = (((true && numOk f1) && textOk f3) && ((f2 == 0))) := rfl
    rw [e]
    unfold onlyA numOk textOk
    simp only [Bool.true_and, Bool.and_eq_true, decide_eq_true_eq, beq_iff_eq]
    constructor
    · rintro ⟨⟨⟨h1, h2⟩, h3⟩, h4⟩
      subst h4
      simp
      omega
    · rintro ⟨_, ⟨_, _, h, _⟩, ⟨h1, h2⟩, _, h3⟩
      refine ⟨⟨⟨h1, h2⟩, h3⟩, ?_⟩
      simpa using h
  by_cases c2 : f0 = 2
  · subst c2
    have e : okF 2 f1 f2 f3 f4 f5 = (((true && numOk f1) && numOk f2) && ((f3.toList == []) && ((f5 == 0)))) := rfl
    rw [e]
    unfold onlyA numOk
    simp only [Bool.true_and, Bool.and_eq_true, decide_eq_true_eq, beq_iff_eq]
    constructor
    · rintro ⟨⟨⟨h1, h2⟩, h3, h4⟩, h5, h6⟩
      subst h6
      refine ⟨by omega, ⟨trivial, trivial, ?_, ?_, ?_, ?_⟩, ⟨h1, h2⟩, ⟨h3, h4⟩, hz h5⟩
      · simp
      · rw [h5]; simp [e0]
      · simp
      · simp
    · rintro ⟨_, ⟨_, _, _, h5, _, h6⟩, ⟨h1, h2⟩, ⟨h3, h4⟩, _⟩
      refine ⟨⟨⟨h1, h2⟩, h3, h4⟩, ?_, ?_⟩
      · rw [h5]; simp [e0]
      · simpa using h6
  by_cases c3 : f0 = 3
  · subst c3
    have e : okF 3 f1 f2 f3 f4 f5 = (((true && numOk f1) && numOk f2) && ((f3.toList == []) && ((f4 == 0) && ((f5 == 0))))) := rfl
    rw [e]
    unfold onlyA numOk
    simp only [Bool.true_and, Bool.and_eq_true, decide_eq_true_eq, beq_iff_eq]
    constructor
    · rintro ⟨⟨⟨h1, h2⟩, h3, h4⟩, h5, h6, h7⟩
      subst h6 h7
      refine ⟨by omega, ⟨trivial, trivial, ?_, ?_, ?_, ?_⟩, ⟨h1, h2⟩, ⟨h3, h4⟩, hz h5⟩
      · simp
      · rw [h5]; simp [e0]
      · simp
      · simp
    · rintro ⟨_, ⟨_, _, _, h5, h6, h7⟩, ⟨h1, h2⟩, ⟨h3, h4⟩, _⟩
      refine ⟨⟨⟨h1, h2⟩, h3, h4⟩, ?_, ?_, ?_⟩
      · rw [h5]; simp [e0]
      · simpa using h6
      · simpa using h7
  by_cases hk : 1 ≤ f0 ∧ f0 ≤ 8
  · have e : okF f0 f1 f2 f3 f4 f5 = ((true && numOk f1) && ((f2 == 0) && ((f3.toList == []) && ((f4 == 0) && (f5 == 0))))) := okA_small f0 f1 (by omega) hk.2 f2 f3 f4 f5
    rw [e]
    unfold onlyA numOk
    simp only [Bool.true_and, Bool.and_eq_true, decide_eq_true_eq, beq_iff_eq]
    rw [if_neg (by omega), if_neg c1, if_neg (by omega), if_neg c1]
    constructor
    · rintro ⟨⟨h1, h2⟩, h3, h5, h6, h7⟩
      subst h3 h6 h7
      exact ⟨hk, ⟨trivial, trivial, rfl, by rw [h5, e0], rfl, rfl⟩, ⟨h1, h2⟩, by omega, hz h5⟩
    · rintro ⟨_, ⟨_, _, h3, h5, h6, h7⟩, ⟨h1, h2⟩, _⟩
      exact ⟨⟨h1, h2⟩, h3, by rw [h5, e0], h6, h7⟩
  · have e : okF f0 f1 f2 f3 f4 f5 = false := by
      unfold okF
      rw [if_neg (by omega), if_neg (by omega), if_neg (by omega), if_neg (by omega), if_neg (by omega), if_neg (by omega), if_neg (by omega), if_neg (by omega)]
    rw [e]
    exact ⟨fun h => by simp at h, fun h => absurd h.1 hk⟩
theorem refRightF {w0 w : World} {R : List Asn} (h : Own w0 w R) (f0 f1 f2 : Int) (f3 : ByteArray) (f4 f5 : Int) :
    Calls Try.prog 18 #[.agg #[.int .u8 f0, .int .i64 f1, .int .i64 f2, .string f3, .int .i64 f4, .int .i64 f5]] w fun e w' => e = .returned (.bool (okF f0 f1 f2 f3 f4 f5)) ∧ Own w0 w' R := by
  have hi := okF_iff f0 f1 f2 f3 f4 f5
  have hno : ¬ (okF f0 f1 f2 f3 f4 f5 = true) → okF f0 f1 f2 f3 f4 f5 = false := fun h => by simpa using h
  by_cases k1 : f0 < 1
  · rw [hno (fun h => by have := (hi.1 h).1; omega)]; exact right_a h f0 f1 f2 f3 f4 f5 k1
  by_cases k8 : 8 < f0
  · rw [hno (fun h => by have := (hi.1 h).1; omega)]; exact right_b h f0 f1 f2 f3 f4 f5 k8
  obtain ⟨eb, heb⟩ : ∃ eb, ((f0 == (onlyA ⟨f0, f1, f2, f3, f4, f5⟩).f0 && (f1 == (onlyA ⟨f0, f1, f2, f3, f4, f5⟩).f1 && (f2 == (onlyA ⟨f0, f1, f2, f3, f4, f5⟩).f2 && (f3.toList == (onlyA ⟨f0, f1, f2, f3, f4, f5⟩).f3.toList && (f4 == (onlyA ⟨f0, f1, f2, f3, f4, f5⟩).f4 && (f5 == (onlyA ⟨f0, f1, f2, f3, f4, f5⟩).f5))))))) = eb := ⟨_, rfl⟩
  rw [heb] at hi
  cases eb with
  | false => rw [hno (fun h => by have := (hi.1 h).2.1; simp at this)]; exact right_c h f0 f1 f2 f3 f4 f5 (by omega) (by omega) _ rfl heb
  | true =>
  by_cases a0 : f1 < 0
  · rw [hno (fun h => by have := (hi.1 h).2.2.1; omega)]; exact right_d h f0 f1 f2 f3 f4 f5 (by omega) (by omega) _ rfl heb a0
  by_cases a1 : 2147483647 < f1
  · rw [hno (fun h => by have := (hi.1 h).2.2.1; omega)]; exact right_e h f0 f1 f2 f3 f4 f5 (by omega) (by omega) _ rfl heb (by omega) a1
  by_cases b0 : f2 < 0
  · rw [hno (fun h => by have := (hi.1 h).2.2.2.1; omega)]; exact right_f h f0 f1 f2 f3 f4 f5 (by omega) (by omega) _ rfl heb (by omega) (by omega) b0
  by_cases b1 : 2147483647 < f2
  · rw [hno (fun h => by have := (hi.1 h).2.2.2.1; omega)]; exact right_g h f0 f1 f2 f3 f4 f5 (by omega) (by omega) _ rfl heb (by omega) (by omega) (by omega) b1
  by_cases l0 : 255 < f3.size
  · rw [hno (fun h => by have := (hi.1 h).2.2.2.2; omega)]; exact right_h h f0 f1 f2 f3 f4 f5 (by omega) (by omega) _ rfl heb (by omega) (by omega) (by omega) (by omega) l0
  rw [hi.2 ⟨by omega, rfl, by omega, by omega, by omega⟩]
  exact right_i h f0 f1 f2 f3 f4 f5 (by omega) (by omega) _ rfl heb (by omega) (by omega) (by omega) (by omega) (by omega)

section
variable {w0 w w' : World} {R : List Asn}
theorem refBytesF (h : Own w0 w R) (f0 f1 f2 : Int) (f3 : ByteArray) (f4 f5 : Int) (ho : okF f0 f1 f2 f3 f4 f5 = true) (hx4 : -(2^63) ≤ f4 ∧ f4 < 2 ^ 63) (hx5 : -(2^63) ≤ f5 ∧ f5 < 2 ^ 63) (T : ByteArray) (hT : strOfNums (encF f0 f1 f2 f3 f4 f5) = T) :
    Calls Try.prog 22 #[.agg #[.int .u8 f0, .int .i64 f1, .int .i64 f2, .string f3, .int .i64 f4, .int .i64 f5]] w fun e w' => e = .returned (.string T) ∧ Own w0 w' R := by
  subst hT
  obtain ⟨⟨k1, k8⟩, he, ⟨a0, a1⟩, ⟨b0, b1⟩, hl⟩ := (okF_iff f0 f1 f2 f3 f4 f5).1 ho
  simp only [Bool.and_eq_true, beq_iff_eq] at he
  obtain ⟨_, _, e2, _, _, _⟩ := he
  unfold onlyA at e2
  simp only at e2
  obtain ⟨n1, rfl⟩ := Int.eq_ofNat_of_zero_le a0
  have hu1 := uN_nat n1 (by omega)
  by_cases c1 : f0 = 1
  · subst c1
    rw [if_neg (by omega)] at e2
    subst e2
    refine bytes1 h n1 0 (by omega) (by omega) f3 hl f4 f5 hx4.1 hx4.2 hx5.1 hx5.2 _ ?_
    have e : encF 1 (n1 : Int) 0 f3 f4 f5 = [1] ++ numB (uN n1) ++ (numB f3.size ++ bytesOf f3) ++ numB (zigN f4) ++ numB (zigN f5) := rfl
    rw [e, hu1]
    simp only [strOf_append]
  by_cases c2 : f0 = 2
  · subst c2
    obtain ⟨n2, rfl⟩ := Int.eq_ofNat_of_zero_le b0
    refine bytes2 h n1 n2 (by omega) (by omega) f3 hl f4 f5 hx4.1 hx4.2 hx5.1 hx5.2 _ ?_
    have e : encF 2 (n1 : Int) (n2 : Int) f3 f4 f5 = [2] ++ numB (uN n1) ++ numB (uN n2) ++ numB (zigN f4) := rfl
    rw [e, hu1, uN_nat n2 (by omega)]
    simp only [strOf_append]
  by_cases c3 : f0 = 3
  · subst c3
    obtain ⟨n2, rfl⟩ := Int.eq_ofNat_of_zero_le b0
    refine bytes3 h n1 n2 (by omega) (by omega) f3 hl f4 f5 hx4.1 hx4.2 hx5.1 hx5.2 _ ?_
    have e : encF 3 (n1 : Int) (n2 : Int) f3 f4 f5 = [3] ++ numB (uN n1) ++ numB (uN n2) := rfl
    rw [e, hu1, uN_nat n2 (by omega)]
    simp only [strOf_append]
  rw [if_neg (by omega)] at e2
  subst e2
  refine bytes4 h f0 n1 0 (by omega) (by omega) f3 hl f4 f5 hx4.1 hx4.2 hx5.1 hx5.2 c1 c2 c3 _ ?_
  have e : encF f0 (n1 : Int) 0 f3 f4 f5 = [] ++ [f0] ++ numB (uN n1) := encA_small f0 n1 (by omega) k8 0 f3 f4 f5
  rw [e, hu1, List.nil_append]
  simp only [strOf_append]
set_option maxHeartbeats 8000000 in
set_option maxRecDepth 100000 in
theorem refEncodeF (h : Own w0 w R) (A : Option Addr) (c : Nat) (l : List ActS) (hr : Kd.C k33 w0 A l.length l) (hQ : ∀ x ∈ l, actIn x) (hL : l.length ≤ 5000) (x : List Int) (code : Int) (he : encR l = (x, code)) :
    Calls Try.prog 16 #[.slice A l.length c] w fun e w' => e = .returned (.tuple #[.int .i64 x.length, .int .i64 code]) ∧ Own w0 w' R := by
  have HR := Aside0.mk hr
  have HQ := Aside0.mk hQ
  have HE := Lib.hid he
  have H := Aside0.mk h
  clear hr hQ h he
  go_enter Try.func16, Try.ntmps16
  go_wp2
  go_loopw [4, 5] (fun v4 v5 wr => ∃ i : Nat, i ≤ l.length ∧ v4 = .int .i64 (encL (l.take i)).length ∧ v5 = .int .i64 i ∧ Aside0 ((l.take i).all okA = true) ∧ Aside0 (Own w0 wr R)) (fun _ v5 _ => l.length - (RowKit.intOf v5).toNat)
  case atStart => exact ⟨0, Nat.zero_le _, rfl, rfl, ⟨rfl⟩, H⟩
  case round =>
    obtain ⟨i, hi, rfl, rfl, HAL, HO⟩ := hrel
    by_cases hlt : i < l.length
    · have hgx := List.getElem?_eq_getElem hlt
      obtain ⟨xi, hx⟩ : ∃ xi, l[i] = xi := ⟨_, rfl⟩
      rw [hx] at hgx
      have hmem := List.mem_of_getElem? hgx
      have hq := HQ.out xi hmem
      have hall : l.all okA = true → okA xi = true := fun h => List.all_eq_true.1 h xi hmem
      clear hmem
      have hsn := congrArg List.length (encL_snoc l i xi hgx)
      rw [List.length_append] at hsn
      have has := all_snoc l i xi hgx
      rw [HAL.out, Bool.true_and] at has
      have hln := encA_len xi hq
      have hbl := encL_len (l.take i) (fun y hy => HQ.out y (List.mem_of_mem_take hy)) HAL.out
      rw [List.length_take, Nat.min_eq_left hi] at hbl
      obtain ⟨f0, f1, f2, f3, f4, f5⟩ := xi
      rcases A with _ | ad
      · exact absurd (HR.out.2.2 (by omega)) (by rintro ⟨_, h, _⟩; cases h)
      obtain ⟨a0, a1, a2, a3, a4, a5⟩ := act_at HR.out HO.out.bel i hlt f0 f1 f2 f3 f4 f5 hgx
      have HGX := Aside0.mk hgx
      have HLT := Aside0.mk hlt
      have HW4 := Aside0.mk hq.1
      have HW5 := Aside0.mk hq.2.1
      obtain ⟨s, hs⟩ : ∃ s, (encL (l.take i)).length = s := ⟨_, rfl⟩
      rw [hs] at hsn hbl ⊢
      obtain ⟨T, hT⟩ : ∃ T, strOfNums (encF f0 f1 f2 f3 f4 f5) = T := ⟨_, rfl⟩
      have hts : T.size = (encA ⟨f0, f1, f2, f3, f4, f5⟩).length := by rw [← hT, size_strOf]; rfl
      rw [← hts] at hsn hln
      have HT := Aside0.mk hT
      have HSN := Lib.hid hsn
      clear hgx hx hq hs hT hts hsn
      obtain ⟨b, hb⟩ : ∃ b, okF f0 f1 f2 f3 f4 f5 = b := ⟨_, rfl⟩
      have HB := Lib.hid hb
      have HAS := Lib.hid (has.trans hb)
      have HALL := Aside0.mk (show l.all okA = true → b = true from fun h => by rw [← hb]; exact hall h)
      have hln2 : b = true → T.size ≤ 1000 := fun h => hln (hb.trans h)
      clear hb has hln hall
      cases b with
      | true =>
        have hl2 := hln2 rfl
        clear hln2
        go_wp2_with (first
          | (go_at_call 18; ((with_reducible refine (refRightF HO.out f0 f1 f2 f3 f4 f5).mono ?_)); rintro e w5 ⟨rfl, h⟩; rw [HB.out]; obtain ⟨b0, b1, b2, b3, b4, b5⟩ := act_at HR.out h.bel i HLT.out f0 f1 f2 f3 f4 f5 HGX.out; have H5 := Aside0.mk h; clear h a0 a1 a2 a3 a4 a5)
          | (go_at_call 22; ((with_reducible refine (refBytesF H5.out f0 f1 f2 f3 f4 f5 HB.out HW4.out HW5.out T HT.out).mono ?_)); rintro e w6 ⟨rfl, h⟩; have H6 := Aside0.mk h; clear h))
        go_roundw
        case rel => exact ⟨i + 1, by omega, by rw [HSN.out]; first | rfl | go_num, by first | rfl | go_num, ⟨HAS.out⟩, H6⟩
        case measure => first | (simp [RowKit.intOf]; done) | (simp [RowKit.intOf]; omega)
      | false =>
        clear hln2
        go_wp2_with (go_at_call 18; ((with_reducible refine (refRightF HO.out f0 f1 f2 f3 f4 f5).mono ?_)); rintro e w5 ⟨rfl, h⟩; rw [HB.out]; have H5 := Aside0.mk h; clear h)
        go_ret2
        have h2 := HE.out
        unfold encR at h2
        rw [if_neg (fun h => absurd (HALL.out h) (by simp))] at h2
        simp only [Prod.mk.injEq] at h2
        rw [← h2.1, ← h2.2]
        exact ⟨rfl, H5.out⟩
    · obtain rfl : i = l.length := by omega
      have h2 := HE.out
      unfold encR at h2
      have hal := HAL.out
      rw [List.take_length] at hal ⊢
      rw [if_pos hal] at h2
      clear hal HAL
      by_cases c1 : 4096 < l.length
      · have d1 : decide ((l.length : Int) > 4096) = true := decide_eq_true (by omega)
        rw [if_pos (.inl c1)] at h2
        have H2 := Lib.hid h2
        clear h2
        go_wp2
        go_ret2
        have h2 := H2.out
        simp only [Prod.mk.injEq] at h2
        rw [← h2.1, ← h2.2]
        exact ⟨rfl, HO.out⟩
      · have d1 : decide ((l.length : Int) > 4096) = false := decide_eq_false (by omega)
        by_cases c2 : 65536 < (encL l).length
        · have d2 : decide (((encL l).length : Int) > 65536) = true := decide_eq_true (by omega)
          rw [if_pos (.inr c2)] at h2
          have H2 := Lib.hid h2
          clear h2
          go_wp2
          go_ret2
          have h2 := H2.out
          simp only [Prod.mk.injEq] at h2
          rw [← h2.1, ← h2.2]
          exact ⟨rfl, HO.out⟩
        · have d2 : decide (((encL l).length : Int) > 65536) = false := decide_eq_false (by omega)
          rw [if_neg (by omega)] at h2
          have H2 := Lib.hid h2
          clear h2
          go_wp2
          go_ret2
          have h2 := H2.out
          simp only [Prod.mk.injEq] at h2
          rw [← h2.1, ← h2.2]
          exact ⟨rfl, HO.out⟩
end

theorem own_C {w0 w : World} {R : List Asn} {α : Type} {d : Kd α} {A : Option Addr} {n c : Nat} {l : List α} {e : TypeId} (h : Own w0 w (Row d e (.slice A n c) l :: R)) : d.C w A n l := by
  obtain ⟨h1, _, h3⟩ := own_reads h
  rw [h1]
  exact h3
theorem encR_cases (l : List ActS) : (l.all okA = true ∧ l.length ≤ 4096 ∧ (encL l).length ≤ 65536 ∧ encR l = (encL l, 0)) ∨ encR l = ([], 1) ∨ encR l = ([], 3) := by
  unfold encR
  by_cases h1 : l.all okA = true
  · rw [if_pos h1]
    by_cases h2 : 4096 < l.length ∨ 65536 < (encL l).length
    · rw [if_pos h2]; exact .inr (.inr rfl)
    · rw [if_neg h2]; exact .inl ⟨h1, by omega, by omega, rfl⟩
  · rw [if_neg h1]; exact .inr (.inl rfl)
set_option maxHeartbeats 8000000 in
set_option maxRecDepth 100000 in
theorem ScriptWrites_great (A : Option Addr) (c : Nat) (l : List ActS) (w : World) (hr : Kd.C k33 w A l.length l) (hc : l.length ≤ c) {k : Nat} (hf : meterlaw27_Great.f k l = some true) :
    Calls Try.prog 8 #[.slice A l.length c] w fun e w' => e = .returned (.bool true) ∧ Below w.heap.size w w' := by
  have HR := Aside0.mk hr
  have HC := Aside0.mk hc
  have HF := Aside0.mk hf
  have H0 := Aside0.mk (Own.nil w)
  clear hr hc hf
  go_enter Try.func8, Try.ntmps8
  go_wp2_with (first
    | (go_at_call 10; ((with_reducible refine (awake_calls H0.out).mono ?_)); rintro e w1 ⟨rfl, h⟩; have H1 := Aside0.mk h; clear h)
    | (go_at_call 15; ((with_reducible refine (great_calls H1.out HF.out A c (C_of_own H1.out HR.out) HC.out).mono ?_)); rintro e w2 ⟨rfl, h⟩; have H2 := Aside0.mk h; clear h))
  go_ret
  exact ⟨rfl, H2.out.bel⟩
set_option maxHeartbeats 8000000 in
set_option maxRecDepth 100000 in
theorem ScriptWrites_bad1 (A : Option Addr) (c : Nat) (l : List ActS) (w : World) (hr : Kd.C k33 w A l.length l) (hc : l.length ≤ c) {k : Nat} (hf : meterlaw27_Great.f k l = some false) (hq : Small l) (x : List Int) (he : encR l = (x, 1)) :
    Calls Try.prog 8 #[.slice A l.length c] w fun e w' => e = .returned (.bool true) ∧ Below w.heap.size w w' := by
  have HR := Aside0.mk hr
  have HC := Aside0.mk hc
  have HF := Aside0.mk hf
  have H0 := Aside0.mk (Own.nil w)
  have HQ := Aside0.mk hq.2
  have HL := Aside0.mk (show l.length ≤ 10000000 from by have := hq.1; omega)
  have HLL := Aside0.mk (show l.length ≤ 1000000 from by have := hq.1; omega)
  have hl5 := hq.1
  have HE := Aside0.mk he
  have HL5 := Aside0.mk hl5
  clear hr hc hf hq he
  go_enter Try.func8, Try.ntmps8
  go_wp2_with (first
    | (go_at_call 10; ((with_reducible refine (awake_calls H0.out).mono ?_)); rintro e w1 ⟨rfl, h⟩; have H1 := Aside0.mk h; clear h)
    | (go_at_call 15; ((with_reducible refine (great_calls H1.out HF.out A c (C_of_own H1.out HR.out) HC.out).mono ?_)); rintro e w2 ⟨rfl, h⟩; have H2 := Aside0.mk h; clear h)
    | (go_at_call 14; ((with_reducible refine (EncodeB H2.out A c l (C_of_own H2.out HR.out) HQ.out HL.out x 1 HE.out).mono ?_)); rintro e w3 ⟨A1, c1, rfl, h⟩; have H3 := Aside0.mk h; clear h)
    | (go_at_call 16; ((with_reducible refine (refEncodeF H3.out A c l HR.out HQ.out HL5.out x 1 HE.out).mono ?_)); rintro e w4 ⟨rfl, h⟩; have H4 := Aside0.mk h; clear h))
  rename World => wo
  go_loopw [7] (fun v7 wr => ∃ i : Nat, i ≤ l.length ∧ v7 = .int .i64 i ∧ Aside0 (Own w wr (Row (Kd.int .u8) 5 (.slice A1 x.length c1) x :: []))) (fun v7 _ => l.length - (RowKit.intOf v7).toNat)
  case atStart => exact ⟨0, Nat.zero_le _, rfl, H4⟩
  case round =>
    obtain ⟨i, hi, rfl, HO⟩ := hrel
    by_cases hlt : i < l.length
    · have hgx := List.getElem?_eq_getElem hlt
      obtain ⟨xi, hxi⟩ : ∃ xi, l[i] = xi := ⟨_, rfl⟩
      rw [hxi] at hgx
      have hmem := List.mem_of_getElem? hgx
      have hqx := HQ.out xi hmem
      clear hmem
      obtain ⟨f0, f1, f2, f3, f4, f5⟩ := xi
      rcases A with _ | ad
      · exact absurd (HR.out.2.2 (by omega)) (by rintro ⟨_, h, _⟩; cases h)
      obtain ⟨a0, a1, a2, a3, a4, a5⟩ := act_at HR.out HO.out.drew.bel i hlt f0 f1 f2 f3 f4 f5 hgx
      obtain ⟨y0, y1, y2, y3, y4, y5⟩ := act_at HR.out HO.out.bel i hlt f0 f1 f2 f3 f4 f5 hgx
      have HGX := Aside0.mk hgx
      have HLT := Aside0.mk hlt
      have HW4 := Aside0.mk hqx.1
      have HW5 := Aside0.mk hqx.2.1
      have HW3 := Aside0.mk hqx.2.2
      clear hgx hxi hqx
      obtain ⟨b, hb⟩ : ∃ b, okF f0 f1 f2 f3 f4 f5 = b := ⟨_, rfl⟩
      have HB := Lib.hid hb
      clear hb
      cases b with
      | true =>
        go_wp2
        go_region_held3 (fun w' => w'.cell? (ad.add (i * 6)) = some (.int .u8 f0) ∧ w'.cell? ⟨(ad.add (i * 6)).block, (ad.add (i * 6)).off + 1, none⟩ = some (.int .i64 f1) ∧ w'.cell? ⟨(ad.add (i * 6)).block, (ad.add (i * 6)).off + 2, none⟩ = some (.int .i64 f2) ∧ w'.cell? ⟨(ad.add (i * 6)).block, (ad.add (i * 6)).off + 3, none⟩ = some (.string f3) ∧ w'.cell? ⟨(ad.add (i * 6)).block, (ad.add (i * 6)).off + 4, none⟩ = some (.int .i64 f4) ∧ w'.cell? ⟨(ad.add (i * 6)).block, (ad.add (i * 6)).off + 5, none⟩ = some (.int .i64 f5)) (first | (with_reducible exact ⟨a0, a1, a2, a3, a4, a5⟩) | (with_reducible exact ⟨b0, b1, b2, b3, b4, b5⟩) | (with_reducible exact ⟨d0, d1, d2, d3, d4, d5⟩)) (first | (go_at_call 17; (with_reducible refine (RightF HO.out.drew f0 f1 f2 f3 f4 f5 HW4.out HW5.out HW3.out).mono ?_); rintro e w5 ⟨rfl, h⟩; rw [HB.out]; obtain ⟨b0, b1, b2, b3, b4, b5⟩ := act_at HR.out h.bel i HLT.out f0 f1 f2 f3 f4 f5 HGX.out; have H5 := Aside0.mk h; clear h) | (go_at_call 18; (with_reducible refine (refRightF H5.out f0 f1 f2 f3 f4 f5).mono ?_); rintro e w6 ⟨rfl, h⟩; rw [HB.out]; obtain ⟨d0, d1, d2, d3, d4, d5⟩ := act_at HR.out h.bel i HLT.out f0 f1 f2 f3 f4 f5 HGX.out; have H6 := Aside0.mk h; clear h))
        all_goals go_wp2
        all_goals go_roundw
        case rel => exact ⟨i + 1, by omega, by first | rfl | go_num, H6⟩
        case measure => first | (simp [RowKit.intOf]; done) | (simp [RowKit.intOf]; omega)
      | false =>
        go_wp2
        go_region_held3 (fun w' => w'.cell? (ad.add (i * 6)) = some (.int .u8 f0) ∧ w'.cell? ⟨(ad.add (i * 6)).block, (ad.add (i * 6)).off + 1, none⟩ = some (.int .i64 f1) ∧ w'.cell? ⟨(ad.add (i * 6)).block, (ad.add (i * 6)).off + 2, none⟩ = some (.int .i64 f2) ∧ w'.cell? ⟨(ad.add (i * 6)).block, (ad.add (i * 6)).off + 3, none⟩ = some (.string f3) ∧ w'.cell? ⟨(ad.add (i * 6)).block, (ad.add (i * 6)).off + 4, none⟩ = some (.int .i64 f4) ∧ w'.cell? ⟨(ad.add (i * 6)).block, (ad.add (i * 6)).off + 5, none⟩ = some (.int .i64 f5)) (first | (with_reducible exact ⟨a0, a1, a2, a3, a4, a5⟩) | (with_reducible exact ⟨b0, b1, b2, b3, b4, b5⟩) | (with_reducible exact ⟨d0, d1, d2, d3, d4, d5⟩)) (first | (go_at_call 17; (with_reducible refine (RightF HO.out.drew f0 f1 f2 f3 f4 f5 HW4.out HW5.out HW3.out).mono ?_); rintro e w5 ⟨rfl, h⟩; rw [HB.out]; obtain ⟨b0, b1, b2, b3, b4, b5⟩ := act_at HR.out h.bel i HLT.out f0 f1 f2 f3 f4 f5 HGX.out; have H5 := Aside0.mk h; clear h) | (go_at_call 18; (with_reducible refine (refRightF H5.out f0 f1 f2 f3 f4 f5).mono ?_); rintro e w6 ⟨rfl, h⟩; rw [HB.out]; obtain ⟨d0, d1, d2, d3, d4, d5⟩ := act_at HR.out h.bel i HLT.out f0 f1 f2 f3 f4 f5 HGX.out; have H6 := Aside0.mk h; clear h))
        all_goals go_wp2
        all_goals go_roundw
        case rel => exact ⟨i + 1, by omega, by first | rfl | go_num, H6⟩
        case measure => first | (simp [RowKit.intOf]; done) | (simp [RowKit.intOf]; omega)
    · have d9 : decide ((i : Int) < (l.length : Int)) = false := decide_eq_false (by omega)
      go_wp2
      go_ret
      exact ⟨rfl, HO.out.bel⟩
set_option maxHeartbeats 8000000 in
set_option maxRecDepth 100000 in
theorem ScriptWrites_bad3 (A : Option Addr) (c : Nat) (l : List ActS) (w : World) (hr : Kd.C k33 w A l.length l) (hc : l.length ≤ c) {k : Nat} (hf : meterlaw27_Great.f k l = some false) (hq : Small l) (x : List Int) (he : encR l = (x, 3)) :
    Calls Try.prog 8 #[.slice A l.length c] w fun e w' => e = .returned (.bool true) ∧ Below w.heap.size w w' := by
  have HR := Aside0.mk hr
  have HC := Aside0.mk hc
  have HF := Aside0.mk hf
  have H0 := Aside0.mk (Own.nil w)
  have HQ := Aside0.mk hq.2
  have HL := Aside0.mk (show l.length ≤ 10000000 from by have := hq.1; omega)
  have HLL := Aside0.mk (show l.length ≤ 1000000 from by have := hq.1; omega)
  have hl5 := hq.1
  have HE := Aside0.mk he
  have HL5 := Aside0.mk hl5
  clear hr hc hf hq he
  go_enter Try.func8, Try.ntmps8
  go_wp2_with (first
    | (go_at_call 10; ((with_reducible refine (awake_calls H0.out).mono ?_)); rintro e w1 ⟨rfl, h⟩; have H1 := Aside0.mk h; clear h)
    | (go_at_call 15; ((with_reducible refine (great_calls H1.out HF.out A c (C_of_own H1.out HR.out) HC.out).mono ?_)); rintro e w2 ⟨rfl, h⟩; have H2 := Aside0.mk h; clear h)
    | (go_at_call 14; ((with_reducible refine (EncodeB H2.out A c l (C_of_own H2.out HR.out) HQ.out HL.out x 3 HE.out).mono ?_)); rintro e w3 ⟨A1, c1, rfl, h⟩; have H3 := Aside0.mk h; clear h)
    | (go_at_call 16; ((with_reducible refine (refEncodeF H3.out A c l HR.out HQ.out HL5.out x 3 HE.out).mono ?_)); rintro e w4 ⟨rfl, h⟩; have H4 := Aside0.mk h; clear h))
  rename World => wo
  go_loopw [7] (fun v7 wr => ∃ i : Nat, i ≤ l.length ∧ v7 = .int .i64 i ∧ Aside0 (Own w wr (Row (Kd.int .u8) 5 (.slice A1 x.length c1) x :: []))) (fun v7 _ => l.length - (RowKit.intOf v7).toNat)
  case atStart => exact ⟨0, Nat.zero_le _, rfl, H4⟩
  case round =>
    obtain ⟨i, hi, rfl, HO⟩ := hrel
    by_cases hlt : i < l.length
    · have hgx := List.getElem?_eq_getElem hlt
      obtain ⟨xi, hxi⟩ : ∃ xi, l[i] = xi := ⟨_, rfl⟩
      rw [hxi] at hgx
      have hmem := List.mem_of_getElem? hgx
      have hqx := HQ.out xi hmem
      clear hmem
      obtain ⟨f0, f1, f2, f3, f4, f5⟩ := xi
      rcases A with _ | ad
      · exact absurd (HR.out.2.2 (by omega)) (by rintro ⟨_, h, _⟩; cases h)
      obtain ⟨a0, a1, a2, a3, a4, a5⟩ := act_at HR.out HO.out.drew.bel i hlt f0 f1 f2 f3 f4 f5 hgx
      obtain ⟨y0, y1, y2, y3, y4, y5⟩ := act_at HR.out HO.out.bel i hlt f0 f1 f2 f3 f4 f5 hgx
      have HGX := Aside0.mk hgx
      have HLT := Aside0.mk hlt
      have HW4 := Aside0.mk hqx.1
      have HW5 := Aside0.mk hqx.2.1
      have HW3 := Aside0.mk hqx.2.2
      clear hgx hxi hqx
      obtain ⟨b, hb⟩ : ∃ b, okF f0 f1 f2 f3 f4 f5 = b := ⟨_, rfl⟩
      have HB := Lib.hid hb
      clear hb
      cases b with
      | true =>
        go_wp2
        go_region_held3 (fun w' => w'.cell? (ad.add (i * 6)) = some (.int .u8 f0) ∧ w'.cell? ⟨(ad.add (i * 6)).block, (ad.add (i * 6)).off + 1, none⟩ = some (.int .i64 f1) ∧ w'.cell? ⟨(ad.add (i * 6)).block, (ad.add (i * 6)).off + 2, none⟩ = some (.int .i64 f2) ∧ w'.cell? ⟨(ad.add (i * 6)).block, (ad.add (i * 6)).off + 3, none⟩ = some (.string f3) ∧ w'.cell? ⟨(ad.add (i * 6)).block, (ad.add (i * 6)).off + 4, none⟩ = some (.int .i64 f4) ∧ w'.cell? ⟨(ad.add (i * 6)).block, (ad.add (i * 6)).off + 5, none⟩ = some (.int .i64 f5)) (first | (with_reducible exact ⟨a0, a1, a2, a3, a4, a5⟩) | (with_reducible exact ⟨b0, b1, b2, b3, b4, b5⟩) | (with_reducible exact ⟨d0, d1, d2, d3, d4, d5⟩)) (first | (go_at_call 17; (with_reducible refine (RightF HO.out.drew f0 f1 f2 f3 f4 f5 HW4.out HW5.out HW3.out).mono ?_); rintro e w5 ⟨rfl, h⟩; rw [HB.out]; obtain ⟨b0, b1, b2, b3, b4, b5⟩ := act_at HR.out h.bel i HLT.out f0 f1 f2 f3 f4 f5 HGX.out; have H5 := Aside0.mk h; clear h) | (go_at_call 18; (with_reducible refine (refRightF H5.out f0 f1 f2 f3 f4 f5).mono ?_); rintro e w6 ⟨rfl, h⟩; rw [HB.out]; obtain ⟨d0, d1, d2, d3, d4, d5⟩ := act_at HR.out h.bel i HLT.out f0 f1 f2 f3 f4 f5 HGX.out; have H6 := Aside0.mk h; clear h))
        all_goals go_wp2
        all_goals go_roundw
        case rel => exact ⟨i + 1, by omega, by first | rfl | go_num, H6⟩
        case measure => first | (simp [RowKit.intOf]; done) | (simp [RowKit.intOf]; omega)
      | false =>
        go_wp2
        go_region_held3 (fun w' => w'.cell? (ad.add (i * 6)) = some (.int .u8 f0) ∧ w'.cell? ⟨(ad.add (i * 6)).block, (ad.add (i * 6)).off + 1, none⟩ = some (.int .i64 f1) ∧ w'.cell? ⟨(ad.add (i * 6)).block, (ad.add (i * 6)).off + 2, none⟩ = some (.int .i64 f2) ∧ w'.cell? ⟨(ad.add (i * 6)).block, (ad.add (i * 6)).off + 3, none⟩ = some (.string f3) ∧ w'.cell? ⟨(ad.add (i * 6)).block, (ad.add (i * 6)).off + 4, none⟩ = some (.int .i64 f4) ∧ w'.cell? ⟨(ad.add (i * 6)).block, (ad.add (i * 6)).off + 5, none⟩ = some (.int .i64 f5)) (first | (with_reducible exact ⟨a0, a1, a2, a3, a4, a5⟩) | (with_reducible exact ⟨b0, b1, b2, b3, b4, b5⟩) | (with_reducible exact ⟨d0, d1, d2, d3, d4, d5⟩)) (first | (go_at_call 17; (with_reducible refine (RightF HO.out.drew f0 f1 f2 f3 f4 f5 HW4.out HW5.out HW3.out).mono ?_); rintro e w5 ⟨rfl, h⟩; rw [HB.out]; obtain ⟨b0, b1, b2, b3, b4, b5⟩ := act_at HR.out h.bel i HLT.out f0 f1 f2 f3 f4 f5 HGX.out; have H5 := Aside0.mk h; clear h) | (go_at_call 18; (with_reducible refine (refRightF H5.out f0 f1 f2 f3 f4 f5).mono ?_); rintro e w6 ⟨rfl, h⟩; rw [HB.out]; obtain ⟨d0, d1, d2, d3, d4, d5⟩ := act_at HR.out h.bel i HLT.out f0 f1 f2 f3 f4 f5 HGX.out; have H6 := Aside0.mk h; clear h))
        all_goals go_wp2
        all_goals go_roundw
        case rel => exact ⟨i + 1, by omega, by first | rfl | go_num, H6⟩
        case measure => first | (simp [RowKit.intOf]; done) | (simp [RowKit.intOf]; omega)
    · have d9 : decide ((i : Int) < (l.length : Int)) = false := decide_eq_false (by omega)
      go_wp2
      go_ret
      exact ⟨rfl, HO.out.bel⟩
set_option maxHeartbeats 8000000 in
set_option maxRecDepth 100000 in
theorem ScriptWrites_fine (A : Option Addr) (c : Nat) (l : List ActS) (w : World) (hr : Kd.C k33 w A l.length l) (hc : l.length ≤ c) {k : Nat} (hf : meterlaw27_Great.f k l = some false) (hq : Small l) (x : List Int) (hx : encL l = x) (ho : l.all okA = true) (h4 : l.length ≤ 4096) (h6 : x.length ≤ 65536) :
    Calls Try.prog 8 #[.slice A l.length c] w fun e w' => e = .returned (.bool true) ∧ Below w.heap.size w w' := by
  have HR := Aside0.mk hr
  have HC := Aside0.mk hc
  have HF := Aside0.mk hf
  have H0 := Aside0.mk (Own.nil w)
  have HQ := Aside0.mk hq.2
  have HL := Aside0.mk (show l.length ≤ 10000000 from by have := hq.1; omega)
  have HLL := Aside0.mk (show l.length ≤ 1000000 from by have := hq.1; omega)
  have hl5 := hq.1
  have HE := Aside0.mk (show encR l = (x, 0) by rw [← hx]; exact encR_yes ho h4 (hx ▸ h6))
  have HL5 := Aside0.mk hl5
  have hgx0 : rg x := by rw [← hx]; exact rg_encL l
  have hdx : decR x = l := by rw [← hx]; exact decR_enc hq.2 ho h4 (hx ▸ h6)
  obtain ⟨S, hS⟩ : ∃ S, strOfNums x = S := ⟨_, rfl⟩
  have HSX := Aside0.mk hS
  have HSZ := Aside0.mk (show S.size < 1000000 by rw [← hS, size_strOf]; omega)
  have HDS := Aside0.mk (show decR (bytesOf S) = l by rw [← hS, bytes_strOf x hgx0]; exact hdx)
  clear hr hc hf hq ho hx hgx0 hdx hS
  go_enter Try.func8, Try.ntmps8
  go_wp2_with (first
    | (go_at_call 10; ((with_reducible refine (awake_calls H0.out).mono ?_)); rintro e w1 ⟨rfl, h⟩; have H1 := Aside0.mk h; clear h)
    | (go_at_call 15; ((with_reducible refine (great_calls H1.out HF.out A c (C_of_own H1.out HR.out) HC.out).mono ?_)); rintro e w2 ⟨rfl, h⟩; have H2 := Aside0.mk h; clear h)
    | (go_at_call 14; ((with_reducible refine (EncodeB H2.out A c l (C_of_own H2.out HR.out) HQ.out HL.out x 0 HE.out).mono ?_)); rintro e w3 ⟨A1, c1, rfl, h⟩; have H3 := Aside0.mk h; clear h)
    | (go_at_call 16; ((with_reducible refine (refEncodeF H3.out A c l HR.out HQ.out HL5.out x 0 HE.out).mono ?_)); rintro e w4 ⟨rfl, h⟩; have H4 := Aside0.mk h; clear h))
  rename World => wo
  go_loopw [7] (fun v7 wr => ∃ i : Nat, i ≤ l.length ∧ v7 = .int .i64 i ∧ Aside0 (Own w wr (Row (Kd.int .u8) 5 (.slice A1 x.length c1) x :: []))) (fun v7 _ => l.length - (RowKit.intOf v7).toNat)
  case atStart => exact ⟨0, Nat.zero_le _, rfl, H4⟩
  case round =>
    obtain ⟨i, hi, rfl, HO⟩ := hrel
    by_cases hlt : i < l.length
    · have hgx := List.getElem?_eq_getElem hlt
      obtain ⟨xi, hxi⟩ : ∃ xi, l[i] = xi := ⟨_, rfl⟩
      rw [hxi] at hgx
      have hmem := List.mem_of_getElem? hgx
      have hqx := HQ.out xi hmem
      clear hmem
      obtain ⟨f0, f1, f2, f3, f4, f5⟩ := xi
      rcases A with _ | ad
      · exact absurd (HR.out.2.2 (by omega)) (by rintro ⟨_, h, _⟩; cases h)
      obtain ⟨a0, a1, a2, a3, a4, a5⟩ := act_at HR.out HO.out.drew.bel i hlt f0 f1 f2 f3 f4 f5 hgx
      obtain ⟨y0, y1, y2, y3, y4, y5⟩ := act_at HR.out HO.out.bel i hlt f0 f1 f2 f3 f4 f5 hgx
      have HGX := Aside0.mk hgx
      have HLT := Aside0.mk hlt
      have HW4 := Aside0.mk hqx.1
      have HW5 := Aside0.mk hqx.2.1
      have HW3 := Aside0.mk hqx.2.2
      clear hgx hxi hqx
      obtain ⟨b, hb⟩ : ∃ b, okF f0 f1 f2 f3 f4 f5 = b := ⟨_, rfl⟩
      have HB := Lib.hid hb
      clear hb
      cases b with
      | true =>
        go_wp2
        go_region_held3 (fun w' => w'.cell? (ad.add (i * 6)) = some (.int .u8 f0) ∧ w'.cell? ⟨(ad.add (i * 6)).block, (ad.add (i * 6)).off + 1, none⟩ = some (.int .i64 f1) ∧ w'.cell? ⟨(ad.add (i * 6)).block, (ad.add (i * 6)).off + 2, none⟩ = some (.int .i64 f2) ∧ w'.cell? ⟨(ad.add (i * 6)).block, (ad.add (i * 6)).off + 3, none⟩ = some (.string f3) ∧ w'.cell? ⟨(ad.add (i * 6)).block, (ad.add (i * 6)).off + 4, none⟩ = some (.int .i64 f4) ∧ w'.cell? ⟨(ad.add (i * 6)).block, (ad.add (i * 6)).off + 5, none⟩ = some (.int .i64 f5)) (first | (with_reducible exact ⟨a0, a1, a2, a3, a4, a5⟩) | (with_reducible exact ⟨b0, b1, b2, b3, b4, b5⟩) | (with_reducible exact ⟨d0, d1, d2, d3, d4, d5⟩)) (first | (go_at_call 17; (with_reducible refine (RightF HO.out.drew f0 f1 f2 f3 f4 f5 HW4.out HW5.out HW3.out).mono ?_); rintro e w5 ⟨rfl, h⟩; rw [HB.out]; obtain ⟨b0, b1, b2, b3, b4, b5⟩ := act_at HR.out h.bel i HLT.out f0 f1 f2 f3 f4 f5 HGX.out; have H5 := Aside0.mk h; clear h) | (go_at_call 18; (with_reducible refine (refRightF H5.out f0 f1 f2 f3 f4 f5).mono ?_); rintro e w6 ⟨rfl, h⟩; rw [HB.out]; obtain ⟨d0, d1, d2, d3, d4, d5⟩ := act_at HR.out h.bel i HLT.out f0 f1 f2 f3 f4 f5 HGX.out; have H6 := Aside0.mk h; clear h))
        all_goals go_wp2
        all_goals go_roundw
        case rel => exact ⟨i + 1, by omega, by first | rfl | go_num, H6⟩
        case measure => first | (simp [RowKit.intOf]; done) | (simp [RowKit.intOf]; omega)
      | false =>
        go_wp2
        go_region_held3 (fun w' => w'.cell? (ad.add (i * 6)) = some (.int .u8 f0) ∧ w'.cell? ⟨(ad.add (i * 6)).block, (ad.add (i * 6)).off + 1, none⟩ = some (.int .i64 f1) ∧ w'.cell? ⟨(ad.add (i * 6)).block, (ad.add (i * 6)).off + 2, none⟩ = some (.int .i64 f2) ∧ w'.cell? ⟨(ad.add (i * 6)).block, (ad.add (i * 6)).off + 3, none⟩ = some (.string f3) ∧ w'.cell? ⟨(ad.add (i * 6)).block, (ad.add (i * 6)).off + 4, none⟩ = some (.int .i64 f4) ∧ w'.cell? ⟨(ad.add (i * 6)).block, (ad.add (i * 6)).off + 5, none⟩ = some (.int .i64 f5)) (first | (with_reducible exact ⟨a0, a1, a2, a3, a4, a5⟩) | (with_reducible exact ⟨b0, b1, b2, b3, b4, b5⟩) | (with_reducible exact ⟨d0, d1, d2, d3, d4, d5⟩)) (first | (go_at_call 17; (with_reducible refine (RightF HO.out.drew f0 f1 f2 f3 f4 f5 HW4.out HW5.out HW3.out).mono ?_); rintro e w5 ⟨rfl, h⟩; rw [HB.out]; obtain ⟨b0, b1, b2, b3, b4, b5⟩ := act_at HR.out h.bel i HLT.out f0 f1 f2 f3 f4 f5 HGX.out; have H5 := Aside0.mk h; clear h) | (go_at_call 18; (with_reducible refine (refRightF H5.out f0 f1 f2 f3 f4 f5).mono ?_); rintro e w6 ⟨rfl, h⟩; rw [HB.out]; obtain ⟨d0, d1, d2, d3, d4, d5⟩ := act_at HR.out h.bel i HLT.out f0 f1 f2 f3 f4 f5 HGX.out; have H6 := Aside0.mk h; clear h))
        all_goals go_wp2
        all_goals go_roundw
        case rel => exact ⟨i + 1, by omega, by first | rfl | go_num, H6⟩
        case measure => first | (simp [RowKit.intOf]; done) | (simp [RowKit.intOf]; omega)
    · have d9 : decide ((i : Int) < (l.length : Int)) = false := decide_eq_false (by omega)
      have kcv := Kd.C_string (P := Try.prog) (c := c1) Try.underlying22 Try.underlying5 Try.underlying9 (own_C HO.out)
      rw [HSX.out] at kcv
      go_wp2_with (first
        | (go_at_call 13; ((with_reducible refine (refDecodeF HO.out S HSZ.out l HDS.out).mono ?_)); rintro e w7 ⟨A7, c7, rfl, h⟩; have H7 := Aside0.mk h; clear h)
        | (go_at_call 12; ((with_reducible refine (same_calls H7.out A7 A _ _ c7 c l rfl rfl (own_reads H7.out).2.2 (C_of_own H7.out HR.out) (own_reads H7.out).2.1 HC.out HLL.out).mono ?_)); rintro e w8 ⟨rfl, h⟩; have H8 := Aside0.mk h; clear h))
      go_ret
      exact ⟨rfl, H8.out.bel⟩
theorem ScriptWrites_law (A : Option Addr) (c : Nat) (l : List ActS) (w : World) (hr : Kd.C k33 w A l.length l) (hc : l.length ≤ c) (hq : l.length ≤ 9223372036854775807 ∧ ∀ x ∈ l, Q33 x) :
    Calls Try.prog 8 #[.slice A l.length c] w fun e w' => e = .returned (.bool true) ∧ Below w.heap.size w w' := by
  obtain ⟨k, r, hf, hg⟩ := great_f l
  cases r with
  | true => exact ScriptWrites_great A c l w hr hc hf
  | false =>
  have hsm := small_of hq.2 (hg rfl)
  rcases encR_cases l with ⟨h1, h2, h3, h4⟩ | h | h
  · exact ScriptWrites_fine A c l w hr hc hf hsm _ rfl h1 h2 h3
  · exact ScriptWrites_bad1 A c l w hr hc hf hsm _ h
  · exact ScriptWrites_bad3 A c l w hr hc hf hsm _ h
end Go.Proofs.Ytapkoiaeghjpdaa.PScriptWrites
