/- The law PackMost, walked: a bounded number, a bounded text. -/
import Derived.Test.YtjlcggjghlmiaaaPackG
namespace Go.Proofs.Ytjlcggjghlmiaaa.PPackWrites
open Go.RowKit Go.Proofs.YtjlcggjghlmiaaaW.PrintWords Go.Proofs.YtjlcggjghlmiaaaW.PrintLast Go.Proofs.YtjlcggjghlmiaaaW.PrintMore
open Go.Proofs.YtjlcggjghlmiaaaO
attribute [local go_sem] max2_int min2_int max_two min_two max_three min_three max_four min_four
set_option linter.unusedVariables false
set_option linter.unusedSimpArgs false
theorem most_ok (s : ByteArray) (at_ n : Nat) (R : List Int) (hn : n < 2 ^ 64) (h : (bytesOf s).drop at_ = numB n ++ R) (most : Int) (hm : (n : Int) ≤ most) : rdMost s at_ 0 most = ((n : Int), ((at_ + (numB n).length : Nat) : Int), 0) := by
  unfold rdMost mostR
  rw [if_neg (by simp), Int.toNat_natCast, numP_read s at_ n R hn h]
  rw [if_neg (by simp only; omega)]
  rfl
theorem most_no (s : ByteArray) (at_ n : Nat) (R : List Int) (hn : n < 2 ^ 64) (h : (bytesOf s).drop at_ = numB n ++ R) (most : Int) (hm : most < 0 ∨ most < n) : rdMost s at_ 0 most = (0, (at_ : Int), 8) := by
  unfold rdMost mostR
  rw [if_neg (by simp), Int.toNat_natCast, numP_read s at_ n R hn h]
  rw [if_pos ⟨rfl, by simp only; omega⟩]
  rfl
theorem text_no (s : ByteArray) (at_ n : Nat) (R : List Int) (hn : n < 2 ^ 64) (h : (bytesOf s).drop at_ = numB n ++ R) (most : Int) (hm : most < 0 ∨ most < n) : rdText s at_ 0 most = (.empty, (at_ : Int), 8) := by
  have h2 : mostR s at_ most = (0, 8, ((at_ + (numB n).length : Nat) : Int)) := by
    unfold mostR
    rw [numP_read s at_ n R hn h]
    rw [if_pos ⟨rfl, by simp only; omega⟩]
  unfold rdText textR
  rw [if_neg (by simp), Int.toNat_natCast, h2]
  rfl
set_option maxHeartbeats 4000000 in
set_option maxRecDepth 100000 in
theorem PackMost_long (n most : Int) (s : ByteArray) (w : World) (h : 60000 < s.size) :
    Calls Try.prog 5 #[.int .u64 n, .int .i64 most, .string s] w fun e w' => e = .returned (.bool true) ∧ Below w.heap.size w w' := by
  have d1 : decide ((s.size : Int) > 60000) = true := decide_eq_true (by omega)
  clear h
  go_enter Try.func5, Try.ntmps5
  go_wp2_with (go_at_call 9; with_reducible refine (awake_calls w).mono ?_; rintro e w1 ⟨rfl, hb⟩; have B1 := Aside0.mk hb; clear hb)
  go_ret
  exact ⟨rfl, B1.out⟩
theorem qT (N s : ByteArray) : bytesOf (⟨#[113]⟩ ++ N ++ s) = 113 :: (bytesOf N ++ bytesOf s) := by
  rw [bytesOf_append, bytesOf_append]
  rfl
theorem rdByte_q (N s : ByteArray) : rdByte (⟨#[113]⟩ ++ N ++ s) 0 0 = (113, 1, 0) := by
  unfold rdByte byteR
  have h : ((byteN (⟨#[113]⟩ ++ N ++ s) 0 : Nat) : Int) = 113 := by rw [byteN_list, qT]; rfl
  have hs : (⟨#[113]⟩ ++ N ++ s).size = 1 + N.size + s.size := by rw [ByteArray.size_append, ByteArray.size_append]; rfl
  rw [if_neg (by simp), if_neg (by rw [hs]; simp; omega)]
  show (_, _, _) = _
  rw [show (Int.toNat 0) = 0 from rfl, h]
  rfl
theorem InLeftR {w0 w : World} {L : List Asn} {g : Nat} {s : ByteArray} {a bad : Int} (h : Own w0 w (InA g s a bad :: L)) (h0 : 0 ≤ a) (h1 : a ≤ s.size) (hs : s.size ≤ 1000000) (r : Int) (hr : r = (s.size : Int) - a) :
    Calls Try.prog 22 #[.pointer (some ⟨g, 0, none⟩)] w fun e w' => e = .returned (.int .i64 r) ∧ Own w0 w' (InA g s a bad :: L) := by
  subst hr
  exact InLeft h h0 h1 hs
set_option maxHeartbeats 4000000 in
set_option maxRecDepth 100000 in
theorem PackMost_neg (n : Nat) (most : Int) (s : ByteArray) (w : World) (hn : n < 2 ^ 64) (hs : s.size ≤ 60000) (hm : most < 0) (hm1 : -(2^63) ≤ most) :
    Calls Try.prog 5 #[.int .u64 n, .int .i64 most, .string s] w fun e w' => e = .returned (.bool true) ∧ Below w.heap.size w w' := by
  have d1 : decide ((s.size : Int) > 60000) = false := decide_eq_false (by omega)
  obtain ⟨N, hN⟩ : ∃ N, N = strOfNums (numB n) := ⟨_, rfl⟩
  have hNb : bytesOf N = numB n := by rw [hN]; exact bytes_strOf _ (numB_range n)
  have hNs : N.size = (numB n).length := by rw [hN]; exact size_strOf _
  have hl := (numB_len n 10 (pow10 _ hn)).2
  have hT : (⟨#[113]⟩ ++ N ++ s).size = 1 + N.size + s.size := by rw [ByteArray.size_append, ByteArray.size_append]; rfl
  have hdrop : (bytesOf (⟨#[113]⟩ ++ N ++ s)).drop 1 = numB n ++ bytesOf s := by rw [qT, hNb]; rfl
  have R1 := Aside0.mk (most_no _ 1 n _ hn hdrop most (by omega))
  have hS2 : bytesOf (strOfNums (numB s.size ++ bytesOf s)) = numB s.size ++ bytesOf s := by exact bytes_strOf _ (fun x hx => by rcases List.mem_append.1 hx with h | h; exact numB_range _ x h; exact bytesOf_range s x h)
  have hl2 := (numB_len s.size 10 (pow10 _ (by omega))).2
  have hSz : (strOfNums (numB s.size ++ bytesOf s)).size = (numB s.size).length + s.size := by rw [← bytesOf_length, hS2, List.length_append, bytesOf_length]
  have R2 : Aside0 (rdText (strOfNums (numB s.size ++ bytesOf s)) 0 0 most = (.empty, 0, 8)) := Aside0.mk (text_no (strOfNums (numB s.size ++ bytesOf s)) 0 s.size _ (by omega) hS2 most (by omega))
  have hc1 : (⟨#[113]⟩ : ByteArray).size + N.size ≤ 9223372036854775807 := by show 1 + N.size ≤ _; omega
  have hc2 : (⟨#[113]⟩ ++ N).size + s.size ≤ 9223372036854775807 := by rw [ByteArray.size_append]; show 1 + N.size + s.size ≤ _; omega
  have hc3 : (⟨#[113]⟩ : ByteArray).size + N.size + s.size ≤ 9223372036854775807 := by show 1 + N.size + s.size ≤ _; omega
  have hNle : N.size ≤ 10 := by omega
  have HN := Lib.hid hN
  have HNs := Lib.hid hNs
  have HT := Lib.hid hT
  have HSz := Lib.hid hSz
  have HL2 := Lib.hid hl2
  have HNN := Lib.hid hn
  have HLL := Lib.hid hl
  obtain ⟨T, hTT⟩ : ∃ T, T = ⟨#[113]⟩ ++ N ++ s := ⟨_, rfl⟩
  have hq := Aside0.mk (rdByte_q N s)
  have e1 : decide (most ≥ 0) = false := decide_eq_false (by omega)
  have e2 : decide (0 ≤ most) = false := decide_eq_false (by omega)
  clear hN hNb hNs hT hdrop hS2 hSz hl2 hn hl hTT
  go_enter Try.func5, Try.ntmps5
  go_wp2_with (first
    | (go_at_call 9; with_reducible refine (awake_calls w).mono ?_; rintro e w1 ⟨rfl, hb⟩; have B1 := Aside0.mk ((Own.nil w).below hb); clear hb)
    | (go_at_call 13; with_reducible refine (num_calls n _ rfl HNN.out w1).mono ?_; rintro e w2 ⟨rfl, h⟩; have H0 := Aside0.mk (B1.out.below h); clear h; rw [← HN.out])
    | (go_at_call 18; with_reducible refine (InOf H0.out _).mono ?_; rintro e w3 ⟨g, rfl, h⟩; have H1 := Aside0.mk h; clear h)
    | (go_at_call 19; with_reducible refine (InByte H1.out (by omega) (by omega) (by rw [HT.out]; omega) _ _ _ hq.out).mono ?_; rintro e w4 ⟨rfl, h⟩; have H2 := Aside0.mk h; clear h)
    | (go_at_call 20; with_reducible refine (InMost H2.out (by omega) (by rw [HT.out]; omega) (by rw [HT.out]; omega) most (by omega) _ _ _ R1.out).mono ?_; rintro e w5 ⟨rfl, h⟩; have H3 := Aside0.mk h; clear h)
    | (go_at_call 21; with_reducible refine (InFault1 H3.out (by omega)).mono ?_; rintro e w6 ⟨rfl, h⟩; have H4 := Aside0.mk h; clear h)
    | (go_at_call 22; with_reducible refine (InLeftR H4.out (by omega) (by rw [HT.out]; omega) (by rw [HT.out]; omega) ((N.size : Int) + (s.size : Int)) (by rw [HT.out]; omega)).mono ?_; rintro e w7 ⟨rfl, h⟩; have H45 := Aside0.mk h; clear h)
    | (go_at_call 13; with_reducible refine (num_calls n _ rfl HNN.out w7).mono ?_; rintro e w8 ⟨rfl, h⟩; have H5 := Aside0.mk (out_new ((H45.out.below h).alloc (.cells #[.slice none 0 0] 26 (0, 0)))); clear h; rw [← HN.out])
    | (go_at_call 11; with_reducible refine (OutText H5.out s (by omega) (by simp)).mono ?_; rintro e w9 ⟨rfl, h⟩; rw [List.nil_append] at h; have H6 := Aside0.mk h; clear h)
    | (go_at_call 14; with_reducible refine (OutString H6.out).mono ?_; rintro e w10 ⟨rfl, rfl⟩)
    | (go_at_call 18; with_reducible refine (InOf H6.out _).mono ?_; rintro e w10 ⟨g2, rfl, h⟩; have H7 := Aside0.mk h; clear h)
    | (go_at_call 23; with_reducible refine (InText H7.out (by omega) (by omega) (by rw [HSz.out]; have := HL2.out; omega) most (by omega) _ _ _ R2.out).mono ?_; rintro e w11 ⟨rfl, h⟩; have H8 := Aside0.mk h; clear h)
    | (go_at_call 24; with_reducible refine (InEnd H8.out (by omega) (by omega) (by rw [HSz.out]; have := HL2.out; omega) 8 (by rw [if_neg (by omega)])).mono ?_; rintro e w12 ⟨rfl, h⟩; have H89 := Aside0.mk h; clear h)
    | (go_at_call 22; with_reducible refine (InLeftR H89.out (by omega) (by omega) (by rw [HSz.out]; have := HL2.out; omega) ((strOfNums (numB s.size ++ bytesOf s)).size : Int) (by omega)).mono ?_; rintro e w13 ⟨rfl, h⟩; have H9 := Aside0.mk h; clear h)
    | (go_at_call 14; with_reducible refine (OutString H9.out.r1).mono ?_; rintro e w14 ⟨rfl, rfl⟩))
  go_ret
  exact ⟨rfl, H9.out.bel⟩
set_option maxHeartbeats 4000000 in
set_option maxRecDepth 100000 in
theorem PackMost_m00 (n : Nat) (most : Int) (s : ByteArray) (w : World) (hn : n < 2 ^ 64) (hs : s.size ≤ 60000) (hm0 : 0 ≤ most) (hm : most < 2 ^ 63) (hA : most < n) (hB : most < s.size) :
    Calls Try.prog 5 #[.int .u64 n, .int .i64 most, .string s] w fun e w' => e = .returned (.bool true) ∧ Below w.heap.size w w' := by
  have d1 : decide ((s.size : Int) > 60000) = false := decide_eq_false (by omega)
  obtain ⟨N, hN⟩ : ∃ N, N = strOfNums (numB n) := ⟨_, rfl⟩
  have hNb : bytesOf N = numB n := by rw [hN]; exact bytes_strOf _ (numB_range n)
  have hNs : N.size = (numB n).length := by rw [hN]; exact size_strOf _
  have hl := (numB_len n 10 (pow10 _ hn)).2
  have hT : (⟨#[113]⟩ ++ N ++ s).size = 1 + N.size + s.size := by rw [ByteArray.size_append, ByteArray.size_append]; rfl
  have hdrop : (bytesOf (⟨#[113]⟩ ++ N ++ s)).drop 1 = numB n ++ bytesOf s := by rw [qT, hNb]; rfl
  have R1 := Aside0.mk (most_no _ 1 n _ hn hdrop most (.inr hA))
  have hS2 : bytesOf (strOfNums (numB s.size ++ bytesOf s)) = numB s.size ++ bytesOf s := by exact bytes_strOf _ (fun x hx => by rcases List.mem_append.1 hx with h | h; exact numB_range _ x h; exact bytesOf_range s x h)
  have hl2 := (numB_len s.size 10 (pow10 _ (by omega))).2
  have hSz : (strOfNums (numB s.size ++ bytesOf s)).size = (numB s.size).length + s.size := by rw [← bytesOf_length, hS2, List.length_append, bytesOf_length]
  have R2 : Aside0 (rdText (strOfNums (numB s.size ++ bytesOf s)) 0 0 most = (.empty, 0, 8)) := Aside0.mk (text_no (strOfNums (numB s.size ++ bytesOf s)) 0 s.size _ (by omega) hS2 most (.inr hB))
  have hc1 : (⟨#[113]⟩ : ByteArray).size + N.size ≤ 9223372036854775807 := by show 1 + N.size ≤ _; omega
  have hc2 : (⟨#[113]⟩ ++ N).size + s.size ≤ 9223372036854775807 := by rw [ByteArray.size_append]; show 1 + N.size + s.size ≤ _; omega
  have hc3 : (⟨#[113]⟩ : ByteArray).size + N.size + s.size ≤ 9223372036854775807 := by show 1 + N.size + s.size ≤ _; omega
  have hNle : N.size ≤ 10 := by omega
  have HN := Lib.hid hN
  have HNs := Lib.hid hNs
  have HT := Lib.hid hT
  have HSz := Lib.hid hSz
  have HL2 := Lib.hid hl2
  have HNN := Lib.hid hn
  have HLL := Lib.hid hl
  obtain ⟨T, hTT⟩ : ∃ T, T = ⟨#[113]⟩ ++ N ++ s := ⟨_, rfl⟩
  have hq := Aside0.mk (rdByte_q N s)
  have e1 : decide (most ≥ 0) = true := decide_eq_true (by omega)
  have e2 : decide (0 ≤ most) = true := decide_eq_true (by omega)
  have e3 : IntKind.u64.wrap most = most := by simp only [IntKind.wrap, IntKind.bits, IntKind.signed]; simp; omega
  have e4 : decide ((n : Int) ≤ most) = false := decide_eq_false (by omega)
  have e5 : decide ((s.size : Int) ≤ most) = false := decide_eq_false (by omega)
  clear hN hNb hNs hT hdrop hS2 hSz hl2 hn hl hTT
  go_enter Try.func5, Try.ntmps5
  go_wp2_with (first
    | (go_at_call 9; with_reducible refine (awake_calls w).mono ?_; rintro e w1 ⟨rfl, hb⟩; have B1 := Aside0.mk ((Own.nil w).below hb); clear hb)
    | (go_at_call 13; with_reducible refine (num_calls n _ rfl HNN.out w1).mono ?_; rintro e w2 ⟨rfl, h⟩; have H0 := Aside0.mk (B1.out.below h); clear h; rw [← HN.out])
    | (go_at_call 18; with_reducible refine (InOf H0.out _).mono ?_; rintro e w3 ⟨g, rfl, h⟩; have H1 := Aside0.mk h; clear h)
    | (go_at_call 19; with_reducible refine (InByte H1.out (by omega) (by omega) (by rw [HT.out]; omega) _ _ _ hq.out).mono ?_; rintro e w4 ⟨rfl, h⟩; have H2 := Aside0.mk h; clear h)
    | (go_at_call 20; with_reducible refine (InMost H2.out (by omega) (by rw [HT.out]; omega) (by rw [HT.out]; omega) most (by omega) _ _ _ R1.out).mono ?_; rintro e w5 ⟨rfl, h⟩; have H3 := Aside0.mk h; clear h)
    | (go_at_call 21; with_reducible refine (InFault1 H3.out (by omega)).mono ?_; rintro e w6 ⟨rfl, h⟩; have H4 := Aside0.mk h; clear h)
    | (go_at_call 22; with_reducible refine (InLeftR H4.out (by omega) (by rw [HT.out]; omega) (by rw [HT.out]; omega) ((N.size : Int) + (s.size : Int)) (by rw [HT.out]; omega)).mono ?_; rintro e w7 ⟨rfl, h⟩; have H45 := Aside0.mk h; clear h)
    | (go_at_call 13; with_reducible refine (num_calls n _ rfl HNN.out w7).mono ?_; rintro e w8 ⟨rfl, h⟩; have H5 := Aside0.mk (out_new ((H45.out.below h).alloc (.cells #[.slice none 0 0] 26 (0, 0)))); clear h; rw [← HN.out])
    | (go_at_call 11; with_reducible refine (OutText H5.out s (by omega) (by simp)).mono ?_; rintro e w9 ⟨rfl, h⟩; rw [List.nil_append] at h; have H6 := Aside0.mk h; clear h)
    | (go_at_call 14; with_reducible refine (OutString H6.out).mono ?_; rintro e w10 ⟨rfl, rfl⟩)
    | (go_at_call 18; with_reducible refine (InOf H6.out _).mono ?_; rintro e w10 ⟨g2, rfl, h⟩; have H7 := Aside0.mk h; clear h)
    | (go_at_call 23; with_reducible refine (InText H7.out (by omega) (by omega) (by rw [HSz.out]; have := HL2.out; omega) most (by omega) _ _ _ R2.out).mono ?_; rintro e w11 ⟨rfl, h⟩; have H8 := Aside0.mk h; clear h)
    | (go_at_call 24; with_reducible refine (InEnd H8.out (by omega) (by omega) (by rw [HSz.out]; have := HL2.out; omega) 8 (by rw [if_neg (by omega)])).mono ?_; rintro e w12 ⟨rfl, h⟩; have H89 := Aside0.mk h; clear h)
    | (go_at_call 22; with_reducible refine (InLeftR H89.out (by omega) (by omega) (by rw [HSz.out]; have := HL2.out; omega) ((strOfNums (numB s.size ++ bytesOf s)).size : Int) (by omega)).mono ?_; rintro e w13 ⟨rfl, h⟩; have H9 := Aside0.mk h; clear h)
    | (go_at_call 14; with_reducible refine (OutString H9.out.r1).mono ?_; rintro e w14 ⟨rfl, rfl⟩))
  go_ret
  exact ⟨rfl, H9.out.bel⟩
set_option maxHeartbeats 4000000 in
set_option maxRecDepth 100000 in
theorem PackMost_m01 (n : Nat) (most : Int) (s : ByteArray) (w : World) (hn : n < 2 ^ 64) (hs : s.size ≤ 60000) (hm0 : 0 ≤ most) (hm : most < 2 ^ 63) (hA : most < n) (hB : (s.size : Int) ≤ most) :
    Calls Try.prog 5 #[.int .u64 n, .int .i64 most, .string s] w fun e w' => e = .returned (.bool true) ∧ Below w.heap.size w w' := by
  have d1 : decide ((s.size : Int) > 60000) = false := decide_eq_false (by omega)
  obtain ⟨N, hN⟩ : ∃ N, N = strOfNums (numB n) := ⟨_, rfl⟩
  have hNb : bytesOf N = numB n := by rw [hN]; exact bytes_strOf _ (numB_range n)
  have hNs : N.size = (numB n).length := by rw [hN]; exact size_strOf _
  have hl := (numB_len n 10 (pow10 _ hn)).2
  have hT : (⟨#[113]⟩ ++ N ++ s).size = 1 + N.size + s.size := by rw [ByteArray.size_append, ByteArray.size_append]; rfl
  have hdrop : (bytesOf (⟨#[113]⟩ ++ N ++ s)).drop 1 = numB n ++ bytesOf s := by rw [qT, hNb]; rfl
  have R1 := Aside0.mk (most_no _ 1 n _ hn hdrop most (.inr hA))
  have hS2 : bytesOf (strOfNums (numB s.size ++ bytesOf s)) = numB s.size ++ bytesOf s := by exact bytes_strOf _ (fun x hx => by rcases List.mem_append.1 hx with h | h; exact numB_range _ x h; exact bytesOf_range s x h)
  have hl2 := (numB_len s.size 10 (pow10 _ (by omega))).2
  have hSz : (strOfNums (numB s.size ++ bytesOf s)).size = (numB s.size).length + s.size := by rw [← bytesOf_length, hS2, List.length_append, bytesOf_length]
  have R2 : Aside0 (rdText (strOfNums (numB s.size ++ bytesOf s)) 0 0 most = (s, ((0 + (numB s.size).length + s.size : Nat) : Int), 0)) := Aside0.mk (rdText_read (strOfNums (numB s.size ++ bytesOf s)) 0 s [] most (by omega) hB (by omega) (by rw [hS2, List.append_nil]; rfl))
  have hc1 : (⟨#[113]⟩ : ByteArray).size + N.size ≤ 9223372036854775807 := by show 1 + N.size ≤ _; omega
  have hc2 : (⟨#[113]⟩ ++ N).size + s.size ≤ 9223372036854775807 := by rw [ByteArray.size_append]; show 1 + N.size + s.size ≤ _; omega
  have hc3 : (⟨#[113]⟩ : ByteArray).size + N.size + s.size ≤ 9223372036854775807 := by show 1 + N.size + s.size ≤ _; omega
  have hNle : N.size ≤ 10 := by omega
  have HN := Lib.hid hN
  have HNs := Lib.hid hNs
  have HT := Lib.hid hT
  have HSz := Lib.hid hSz
  have HL2 := Lib.hid hl2
  have HNN := Lib.hid hn
  have HLL := Lib.hid hl
  obtain ⟨T, hTT⟩ : ∃ T, T = ⟨#[113]⟩ ++ N ++ s := ⟨_, rfl⟩
  have hq := Aside0.mk (rdByte_q N s)
  have e1 : decide (most ≥ 0) = true := decide_eq_true (by omega)
  have e2 : decide (0 ≤ most) = true := decide_eq_true (by omega)
  have e3 : IntKind.u64.wrap most = most := by simp only [IntKind.wrap, IntKind.bits, IntKind.signed]; simp; omega
  have e4 : decide ((n : Int) ≤ most) = false := decide_eq_false (by omega)
  have e5 : decide ((s.size : Int) ≤ most) = true := decide_eq_true (by omega)
  clear hN hNb hNs hT hdrop hS2 hSz hl2 hn hl hTT
  go_enter Try.func5, Try.ntmps5
  go_wp2_with (first
    | (go_at_call 9; with_reducible refine (awake_calls w).mono ?_; rintro e w1 ⟨rfl, hb⟩; have B1 := Aside0.mk ((Own.nil w).below hb); clear hb)
    | (go_at_call 13; with_reducible refine (num_calls n _ rfl HNN.out w1).mono ?_; rintro e w2 ⟨rfl, h⟩; have H0 := Aside0.mk (B1.out.below h); clear h; rw [← HN.out])
    | (go_at_call 18; with_reducible refine (InOf H0.out _).mono ?_; rintro e w3 ⟨g, rfl, h⟩; have H1 := Aside0.mk h; clear h)
    | (go_at_call 19; with_reducible refine (InByte H1.out (by omega) (by omega) (by rw [HT.out]; omega) _ _ _ hq.out).mono ?_; rintro e w4 ⟨rfl, h⟩; have H2 := Aside0.mk h; clear h)
    | (go_at_call 20; with_reducible refine (InMost H2.out (by omega) (by rw [HT.out]; omega) (by rw [HT.out]; omega) most (by omega) _ _ _ R1.out).mono ?_; rintro e w5 ⟨rfl, h⟩; have H3 := Aside0.mk h; clear h)
    | (go_at_call 21; with_reducible refine (InFault1 H3.out (by omega)).mono ?_; rintro e w6 ⟨rfl, h⟩; have H4 := Aside0.mk h; clear h)
    | (go_at_call 22; with_reducible refine (InLeftR H4.out (by omega) (by rw [HT.out]; omega) (by rw [HT.out]; omega) ((N.size : Int) + (s.size : Int)) (by rw [HT.out]; omega)).mono ?_; rintro e w7 ⟨rfl, h⟩; have H45 := Aside0.mk h; clear h)
    | (go_at_call 13; with_reducible refine (num_calls n _ rfl HNN.out w7).mono ?_; rintro e w8 ⟨rfl, h⟩; have H5 := Aside0.mk (out_new ((H45.out.below h).alloc (.cells #[.slice none 0 0] 26 (0, 0)))); clear h; rw [← HN.out])
    | (go_at_call 11; with_reducible refine (OutText H5.out s (by omega) (by simp)).mono ?_; rintro e w9 ⟨rfl, h⟩; rw [List.nil_append] at h; have H6 := Aside0.mk h; clear h)
    | (go_at_call 14; with_reducible refine (OutString H6.out).mono ?_; rintro e w10 ⟨rfl, rfl⟩)
    | (go_at_call 18; with_reducible refine (InOf H6.out _).mono ?_; rintro e w10 ⟨g2, rfl, h⟩; have H7 := Aside0.mk h; clear h)
    | (go_at_call 23; with_reducible refine (InText H7.out (by omega) (by omega) (by rw [HSz.out]; have := HL2.out; omega) most (by omega) _ _ _ R2.out).mono ?_; rintro e w11 ⟨rfl, h⟩; have H8 := Aside0.mk h; clear h)
    | (go_at_call 24; with_reducible refine (InEnd H8.out (by omega) (by rw [HSz.out]; omega) (by rw [HSz.out]; have := HL2.out; omega) 0 (by rw [if_pos rfl, if_neg (by rw [HSz.out]; omega)])).mono ?_; rintro e w12 ⟨rfl, h⟩; have H9 := Aside0.mk h; clear h))
  go_ret
  exact ⟨rfl, H9.out.bel⟩
set_option maxHeartbeats 4000000 in
set_option maxRecDepth 100000 in
theorem PackMost_m10 (n : Nat) (most : Int) (s : ByteArray) (w : World) (hn : n < 2 ^ 64) (hs : s.size ≤ 60000) (hm0 : 0 ≤ most) (hm : most < 2 ^ 63) (hA : (n : Int) ≤ most) (hB : most < s.size) :
    Calls Try.prog 5 #[.int .u64 n, .int .i64 most, .string s] w fun e w' => e = .returned (.bool true) ∧ Below w.heap.size w w' := by
  have d1 : decide ((s.size : Int) > 60000) = false := decide_eq_false (by omega)
  obtain ⟨N, hN⟩ : ∃ N, N = strOfNums (numB n) := ⟨_, rfl⟩
  have hNb : bytesOf N = numB n := by rw [hN]; exact bytes_strOf _ (numB_range n)
  have hNs : N.size = (numB n).length := by rw [hN]; exact size_strOf _
  have hl := (numB_len n 10 (pow10 _ hn)).2
  have hT : (⟨#[113]⟩ ++ N ++ s).size = 1 + N.size + s.size := by rw [ByteArray.size_append, ByteArray.size_append]; rfl
  have hdrop : (bytesOf (⟨#[113]⟩ ++ N ++ s)).drop 1 = numB n ++ bytesOf s := by rw [qT, hNb]; rfl
  have R1 := Aside0.mk (most_ok _ 1 n _ hn hdrop most hA)
  have hS2 : bytesOf (strOfNums (numB s.size ++ bytesOf s)) = numB s.size ++ bytesOf s := by exact bytes_strOf _ (fun x hx => by rcases List.mem_append.1 hx with h | h; exact numB_range _ x h; exact bytesOf_range s x h)
  have hl2 := (numB_len s.size 10 (pow10 _ (by omega))).2
  have hSz : (strOfNums (numB s.size ++ bytesOf s)).size = (numB s.size).length + s.size := by rw [← bytesOf_length, hS2, List.length_append, bytesOf_length]
  have R2 : Aside0 (rdText (strOfNums (numB s.size ++ bytesOf s)) 0 0 most = (.empty, 0, 8)) := Aside0.mk (text_no (strOfNums (numB s.size ++ bytesOf s)) 0 s.size _ (by omega) hS2 most (.inr hB))
  have hc1 : (⟨#[113]⟩ : ByteArray).size + N.size ≤ 9223372036854775807 := by show 1 + N.size ≤ _; omega
  have hc2 : (⟨#[113]⟩ ++ N).size + s.size ≤ 9223372036854775807 := by rw [ByteArray.size_append]; show 1 + N.size + s.size ≤ _; omega
  have hc3 : (⟨#[113]⟩ : ByteArray).size + N.size + s.size ≤ 9223372036854775807 := by show 1 + N.size + s.size ≤ _; omega
  have hNle : N.size ≤ 10 := by omega
  have HN := Lib.hid hN
  have HNs := Lib.hid hNs
  have HT := Lib.hid hT
  have HSz := Lib.hid hSz
  have HL2 := Lib.hid hl2
  have HNN := Lib.hid hn
  have HLL := Lib.hid hl
  obtain ⟨T, hTT⟩ : ∃ T, T = ⟨#[113]⟩ ++ N ++ s := ⟨_, rfl⟩
  have hq := Aside0.mk (rdByte_q N s)
  have e1 : decide (most ≥ 0) = true := decide_eq_true (by omega)
  have e2 : decide (0 ≤ most) = true := decide_eq_true (by omega)
  have e3 : IntKind.u64.wrap most = most := by simp only [IntKind.wrap, IntKind.bits, IntKind.signed]; simp; omega
  have e4 : decide ((n : Int) ≤ most) = true := decide_eq_true (by omega)
  have e5 : decide ((s.size : Int) ≤ most) = false := decide_eq_false (by omega)
  have e6 : IntKind.u64.wrap (n : Int) = n := wrapU n hn
  clear hN hNb hNs hT hdrop hS2 hSz hl2 hn hl hTT
  go_enter Try.func5, Try.ntmps5
  go_wp2_with (first
    | (go_at_call 9; with_reducible refine (awake_calls w).mono ?_; rintro e w1 ⟨rfl, hb⟩; have B1 := Aside0.mk ((Own.nil w).below hb); clear hb)
    | (go_at_call 13; with_reducible refine (num_calls n _ rfl HNN.out w1).mono ?_; rintro e w2 ⟨rfl, h⟩; have H0 := Aside0.mk (B1.out.below h); clear h; rw [← HN.out])
    | (go_at_call 18; with_reducible refine (InOf H0.out _).mono ?_; rintro e w3 ⟨g, rfl, h⟩; have H1 := Aside0.mk h; clear h)
    | (go_at_call 19; with_reducible refine (InByte H1.out (by omega) (by omega) (by rw [HT.out]; omega) _ _ _ hq.out).mono ?_; rintro e w4 ⟨rfl, h⟩; have H2 := Aside0.mk h; clear h)
    | (go_at_call 20; with_reducible refine (InMost H2.out (by omega) (by rw [HT.out]; omega) (by rw [HT.out]; omega) most (by omega) _ _ _ R1.out).mono ?_; rintro e w5 ⟨rfl, h⟩; have H3 := Aside0.mk h; clear h)
    | (go_at_call 21; with_reducible refine (InFault0 H3.out).mono ?_; rintro e w6 ⟨rfl, h⟩; have H4 := Aside0.mk h; clear h)
    | (go_at_call 22; with_reducible refine (InLeftR H4.out (by omega) (by rw [HT.out, HNs.out]; omega) (by rw [HT.out]; omega) (s.size : Int) (by rw [HT.out, HNs.out]; omega)).mono ?_; rintro e w7 ⟨rfl, h⟩; have H5 := Aside0.mk (out_new (h.alloc (.cells #[.slice none 0 0] 26 (0, 0)))); clear h)
    | (go_at_call 11; with_reducible refine (OutText H5.out s (by omega) (by simp)).mono ?_; rintro e w9 ⟨rfl, h⟩; rw [List.nil_append] at h; have H6 := Aside0.mk h; clear h)
    | (go_at_call 14; with_reducible refine (OutString H6.out).mono ?_; rintro e w10 ⟨rfl, rfl⟩)
    | (go_at_call 18; with_reducible refine (InOf H6.out _).mono ?_; rintro e w10 ⟨g2, rfl, h⟩; have H7 := Aside0.mk h; clear h)
    | (go_at_call 23; with_reducible refine (InText H7.out (by omega) (by omega) (by rw [HSz.out]; have := HL2.out; omega) most (by omega) _ _ _ R2.out).mono ?_; rintro e w11 ⟨rfl, h⟩; have H8 := Aside0.mk h; clear h)
    | (go_at_call 24; with_reducible refine (InEnd H8.out (by omega) (by omega) (by rw [HSz.out]; have := HL2.out; omega) 8 (by rw [if_neg (by omega)])).mono ?_; rintro e w12 ⟨rfl, h⟩; have H89 := Aside0.mk h; clear h)
    | (go_at_call 22; with_reducible refine (InLeftR H89.out (by omega) (by omega) (by rw [HSz.out]; have := HL2.out; omega) ((strOfNums (numB s.size ++ bytesOf s)).size : Int) (by omega)).mono ?_; rintro e w13 ⟨rfl, h⟩; have H9 := Aside0.mk h; clear h)
    | (go_at_call 14; with_reducible refine (OutString H9.out.r1).mono ?_; rintro e w14 ⟨rfl, rfl⟩))
  go_ret
  exact ⟨rfl, H9.out.bel⟩
set_option maxHeartbeats 4000000 in
set_option maxRecDepth 100000 in
theorem PackMost_m11 (n : Nat) (most : Int) (s : ByteArray) (w : World) (hn : n < 2 ^ 64) (hs : s.size ≤ 60000) (hm0 : 0 ≤ most) (hm : most < 2 ^ 63) (hA : (n : Int) ≤ most) (hB : (s.size : Int) ≤ most) :
    Calls Try.prog 5 #[.int .u64 n, .int .i64 most, .string s] w fun e w' => e = .returned (.bool true) ∧ Below w.heap.size w w' := by
  have d1 : decide ((s.size : Int) > 60000) = false := decide_eq_false (by omega)
  obtain ⟨N, hN⟩ : ∃ N, N = strOfNums (numB n) := ⟨_, rfl⟩
  have hNb : bytesOf N = numB n := by rw [hN]; exact bytes_strOf _ (numB_range n)
  have hNs : N.size = (numB n).length := by rw [hN]; exact size_strOf _
  have hl := (numB_len n 10 (pow10 _ hn)).2
  have hT : (⟨#[113]⟩ ++ N ++ s).size = 1 + N.size + s.size := by rw [ByteArray.size_append, ByteArray.size_append]; rfl
  have hdrop : (bytesOf (⟨#[113]⟩ ++ N ++ s)).drop 1 = numB n ++ bytesOf s := by rw [qT, hNb]; rfl
  have R1 := Aside0.mk (most_ok _ 1 n _ hn hdrop most hA)
  have hS2 : bytesOf (strOfNums (numB s.size ++ bytesOf s)) = numB s.size ++ bytesOf s := by exact bytes_strOf _ (fun x hx => by rcases List.mem_append.1 hx with h | h; exact numB_range _ x h; exact bytesOf_range s x h)
  have hl2 := (numB_len s.size 10 (pow10 _ (by omega))).2
  have hSz : (strOfNums (numB s.size ++ bytesOf s)).size = (numB s.size).length + s.size := by rw [← bytesOf_length, hS2, List.length_append, bytesOf_length]
  have R2 : Aside0 (rdText (strOfNums (numB s.size ++ bytesOf s)) 0 0 most = (s, ((0 + (numB s.size).length + s.size : Nat) : Int), 0)) := Aside0.mk (rdText_read (strOfNums (numB s.size ++ bytesOf s)) 0 s [] most (by omega) hB (by omega) (by rw [hS2, List.append_nil]; rfl))
  have hc1 : (⟨#[113]⟩ : ByteArray).size + N.size ≤ 9223372036854775807 := by show 1 + N.size ≤ _; omega
  have hc2 : (⟨#[113]⟩ ++ N).size + s.size ≤ 9223372036854775807 := by rw [ByteArray.size_append]; show 1 + N.size + s.size ≤ _; omega
  have hc3 : (⟨#[113]⟩ : ByteArray).size + N.size + s.size ≤ 9223372036854775807 := by show 1 + N.size + s.size ≤ _; omega
  have hNle : N.size ≤ 10 := by omega
  have HN := Lib.hid hN
  have HNs := Lib.hid hNs
  have HT := Lib.hid hT
  have HSz := Lib.hid hSz
  have HL2 := Lib.hid hl2
  have HNN := Lib.hid hn
  have HLL := Lib.hid hl
  obtain ⟨T, hTT⟩ : ∃ T, T = ⟨#[113]⟩ ++ N ++ s := ⟨_, rfl⟩
  have hq := Aside0.mk (rdByte_q N s)
  have e1 : decide (most ≥ 0) = true := decide_eq_true (by omega)
  have e2 : decide (0 ≤ most) = true := decide_eq_true (by omega)
  have e3 : IntKind.u64.wrap most = most := by simp only [IntKind.wrap, IntKind.bits, IntKind.signed]; simp; omega
  have e4 : decide ((n : Int) ≤ most) = true := decide_eq_true (by omega)
  have e5 : decide ((s.size : Int) ≤ most) = true := decide_eq_true (by omega)
  have e6 : IntKind.u64.wrap (n : Int) = n := wrapU n hn
  clear hN hNb hNs hT hdrop hS2 hSz hl2 hn hl hTT
  go_enter Try.func5, Try.ntmps5
  go_wp2_with (first
    | (go_at_call 9; with_reducible refine (awake_calls w).mono ?_; rintro e w1 ⟨rfl, hb⟩; have B1 := Aside0.mk ((Own.nil w).below hb); clear hb)
    | (go_at_call 13; with_reducible refine (num_calls n _ rfl HNN.out w1).mono ?_; rintro e w2 ⟨rfl, h⟩; have H0 := Aside0.mk (B1.out.below h); clear h; rw [← HN.out])
    | (go_at_call 18; with_reducible refine (InOf H0.out _).mono ?_; rintro e w3 ⟨g, rfl, h⟩; have H1 := Aside0.mk h; clear h)
    | (go_at_call 19; with_reducible refine (InByte H1.out (by omega) (by omega) (by rw [HT.out]; omega) _ _ _ hq.out).mono ?_; rintro e w4 ⟨rfl, h⟩; have H2 := Aside0.mk h; clear h)
    | (go_at_call 20; with_reducible refine (InMost H2.out (by omega) (by rw [HT.out]; omega) (by rw [HT.out]; omega) most (by omega) _ _ _ R1.out).mono ?_; rintro e w5 ⟨rfl, h⟩; have H3 := Aside0.mk h; clear h)
    | (go_at_call 21; with_reducible refine (InFault0 H3.out).mono ?_; rintro e w6 ⟨rfl, h⟩; have H4 := Aside0.mk h; clear h)
    | (go_at_call 22; with_reducible refine (InLeftR H4.out (by omega) (by rw [HT.out, HNs.out]; omega) (by rw [HT.out]; omega) (s.size : Int) (by rw [HT.out, HNs.out]; omega)).mono ?_; rintro e w7 ⟨rfl, h⟩; have H5 := Aside0.mk (out_new (h.alloc (.cells #[.slice none 0 0] 26 (0, 0)))); clear h)
    | (go_at_call 11; with_reducible refine (OutText H5.out s (by omega) (by simp)).mono ?_; rintro e w9 ⟨rfl, h⟩; rw [List.nil_append] at h; have H6 := Aside0.mk h; clear h)
    | (go_at_call 14; with_reducible refine (OutString H6.out).mono ?_; rintro e w10 ⟨rfl, rfl⟩)
    | (go_at_call 18; with_reducible refine (InOf H6.out _).mono ?_; rintro e w10 ⟨g2, rfl, h⟩; have H7 := Aside0.mk h; clear h)
    | (go_at_call 23; with_reducible refine (InText H7.out (by omega) (by omega) (by rw [HSz.out]; have := HL2.out; omega) most (by omega) _ _ _ R2.out).mono ?_; rintro e w11 ⟨rfl, h⟩; have H8 := Aside0.mk h; clear h)
    | (go_at_call 24; with_reducible refine (InEnd H8.out (by omega) (by rw [HSz.out]; omega) (by rw [HSz.out]; have := HL2.out; omega) 0 (by rw [if_pos rfl, if_neg (by rw [HSz.out]; omega)])).mono ?_; rintro e w12 ⟨rfl, h⟩; have H9 := Aside0.mk h; clear h))
  go_ret
  exact ⟨rfl, H9.out.bel⟩
theorem PackMost_law (n most : Int) (s : ByteArray) (w : World) (wn : (Lit.int .u64 n).wf = true) (wm : (Lit.int .i64 most).wf = true) (_ : s.size ≤ 140737488351232) :
    Calls Try.prog 5 #[.int .u64 n, .int .i64 most, .string s] w fun e w' => e = .returned (.bool true) ∧ Below w.heap.size w w' := by
  simp [Lit.wf, IntKind.min, IntKind.max, IntKind.signed, IntKind.bits] at wn wm
  by_cases h : 60000 < s.size
  · exact PackMost_long n most s w h
  obtain ⟨n, rfl⟩ := Int.eq_ofNat_of_zero_le wn.1
  by_cases h0 : most < 0
  · exact PackMost_neg n most s w (by omega) (by omega) h0 (by omega)
  by_cases hA : (n : Int) ≤ most <;> by_cases hB : (s.size : Int) ≤ most
  · exact PackMost_m11 n most s w (by omega) (by omega) (by omega) (by omega) hA hB
  · exact PackMost_m10 n most s w (by omega) (by omega) (by omega) (by omega) hA (by omega)
  · exact PackMost_m01 n most s w (by omega) (by omega) (by omega) (by omega) (by omega) hB
  · exact PackMost_m00 n most s w (by omega) (by omega) (by omega) (by omega) (by omega) (by omega)
end Go.Proofs.Ytjlcggjghlmiaaa.PPackWrites
