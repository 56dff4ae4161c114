/- The law PackApart, walked: two texts of bytes begin one another just if they are of the same. -/
import Derived.Test.YtjlcggjghlmiaaaPackG
namespace Go.Proofs.Ytjlcggjghlmiaaa.PPackWrites
open Go.RowKit Go.Proofs.YtjlcggjghlmiaaaW.PrintWords Go.Proofs.YtjlcggjghlmiaaaW.PrintLast Go.Proofs.YtjlcggjghlmiaaaW.PrintMore
open Go.Proofs.YtjlcggjghlmiaaaO
attribute [local go_sem] max2_int min2_int max_two min_two max_three min_three max_four min_four
set_option linter.unusedVariables false
set_option linter.unusedSimpArgs false
theorem begins_of (X Y : List Int) (hX : ∀ x ∈ X, 0 ≤ x ∧ x < 256) (hY : ∀ x ∈ Y, 0 ≤ x ∧ x < 256) (r : Bool) (h : (∃ R, Y = X ++ R) ↔ r = true) : meterlaw02_begins.f (strOfNums X) (strOfNums Y) = some r := by
  unfold meterlaw02_begins.f
  rw [size_strOf, size_strOf]
  by_cases hl : X.length ≤ Y.length
  · rw [if_pos (by omega), if_pos (by omega)]
    congr 1
    rw [Int.toNat_natCast, Bool.eq_iff_iff, ← h, beq_iff_eq, ba_toList, ba_toList]
    constructor
    · intro he
      refine ⟨Y.drop X.length, ?_⟩
      have h2 : bytesOf ((strOfNums Y).extract 0 X.length) = bytesOf (strOfNums X) := congrArg (List.map fun b : UInt8 => (b.toNat : Int)) he
      rw [bytesOf_extract, bytes_strOf Y hY, bytes_strOf X hX, List.drop_zero] at h2
      rw [← h2, List.length_take, Nat.min_eq_left hl, List.take_append_drop]
    · rintro ⟨R, rfl⟩
      have h2 : bytesOf ((strOfNums (X ++ R)).extract 0 X.length) = bytesOf (strOfNums X) := by
        rw [bytesOf_extract, bytes_strOf _ hY, bytes_strOf X hX, List.drop_zero, List.take_left']
        rfl
      exact congrArg (fun s : ByteArray => s.data.toList) (bytesOf_inj h2)
  · rw [if_neg (by omega)]
    congr 1
    cases r with
    | false => rfl
    | true =>
      obtain ⟨R, rfl⟩ := h.2 rfl
      exact absurd (by simp) hl
theorem apart_num (a b : Nat) (ha : a < 2 ^ 64) (hb : b < 2 ^ 64) (r : Bool) (h : a = b ↔ r = true) : meterlaw02_begins.f (strOfNums (numB a)) (strOfNums (numB b)) = some r := by
  refine begins_of _ _ (numB_range a) (numB_range b) r (Iff.trans ⟨?_, ?_⟩ h)
  · rintro ⟨R, hR⟩
    exact ((numB_front (R := []) hb ha (by rw [List.append_nil]; exact hR)).1).symm
  · rintro rfl
    exact ⟨[], by simp⟩
theorem zig_inj (i k : Int) (h : zigN i = zigN k) : i = k := by
  unfold zigN at h
  split at h <;> split at h <;> omega
theorem textB_range (s : ByteArray) : ∀ x ∈ numB s.size ++ bytesOf s, 0 ≤ x ∧ x < 256 := by
  intro x hx
  rcases List.mem_append.1 hx with h | h
  · exact numB_range _ x h
  · exact bytesOf_range s x h
theorem apart_text (s t : ByteArray) (hs : s.size < 2 ^ 64) (ht : t.size < 2 ^ 64) (r : Bool) (h : s = t ↔ r = true) : meterlaw02_begins.f (strOfNums (numB s.size ++ bytesOf s)) (strOfNums (numB t.size ++ bytesOf t)) = some r := by
  refine begins_of _ _ (textB_range s) (textB_range t) r (Iff.trans ⟨?_, ?_⟩ h)
  · rintro ⟨R, hR⟩
    rw [List.append_assoc] at hR
    obtain ⟨h1, h2⟩ := numB_front ht hs hR
    have h3 := congrArg List.length h2
    rw [List.length_append, bytesOf_length, bytesOf_length] at h3
    obtain rfl : R = [] := List.eq_nil_of_length_eq_zero (by omega)
    rw [List.append_nil] at h2
    exact (bytesOf_inj h2).symm
  · rintro rfl
    exact ⟨[], by simp⟩
set_option maxHeartbeats 4000000 in
set_option maxRecDepth 100000 in
theorem PackApart_long (a b i k : Int) (s t : ByteArray) (w : World) (h : 60000 < s.size ∨ 60000 < t.size) :
    Calls Try.prog 3 #[.int .u64 a, .int .u64 b, .int .i64 i, .int .i64 k, .string s, .string t] w fun e w' => e = .returned (.bool true) ∧ Below w.heap.size w w' := by
  by_cases h1 : 60000 < s.size
  · have d1 : decide ((s.size : Int) > 60000) = true := decide_eq_true (by omega)
    clear h
    go_enter Try.func3, Try.ntmps3
    go_wp2_with (go_at_call 9; with_reducible refine (awake_calls w).mono ?_; rintro e w1 ⟨rfl, hb⟩; have B1 := Aside0.mk hb; clear hb)
    go_ret
    exact ⟨rfl, B1.out⟩
  · have h2 : 60000 < t.size := by omega
    have d1 : decide ((s.size : Int) > 60000) = false := decide_eq_false (by omega)
    have d2 : decide ((t.size : Int) > 60000) = true := decide_eq_true (by omega)
    clear h
    go_enter Try.func3, Try.ntmps3
    go_wp2_with (go_at_call 9; with_reducible refine (awake_calls w).mono ?_; rintro e w1 ⟨rfl, hb⟩; have B1 := Aside0.mk hb; clear hb)
    go_ret
    exact ⟨rfl, B1.out⟩
set_option maxHeartbeats 4000000 in
set_option maxRecDepth 100000 in
theorem PackApart_small (a b : Nat) (i k : Int) (s t : ByteArray) (w : World) (ha : a < 2 ^ 64) (hb : b < 2 ^ 64) (hi0 : -(2^63) ≤ i) (hi1 : i < 2 ^ 63) (hk0 : -(2^63) ≤ k) (hk1 : k < 2 ^ 63) (hs : s.size ≤ 60000) (ht : t.size ≤ 60000)
    (r1 r2 r3 : Bool) (h1 : ((a : Int) == (b : Int)) = r1) (h2 : (i == k) = r2) (h3 : (s.toList == t.toList) = r3) :
    Calls Try.prog 3 #[.int .u64 a, .int .u64 b, .int .i64 i, .int .i64 k, .string s, .string t] w fun e w' => e = .returned (.bool true) ∧ Below w.heap.size w w' := by
  have g1 := Aside0.mk (apart_num a b ha hb r1 (by rw [← h1, beq_iff_eq]; omega))
  have g2 := Aside0.mk (apart_num (zigN i) (zigN k) (zigN_lt i hi0 hi1) (zigN_lt k hk0 hk1) r2 (by rw [← h2, beq_iff_eq]; exact ⟨zig_inj i k, fun h => by rw [h]⟩))
  have g3 := Aside0.mk (apart_text s t (by omega) (by omega) r3 (by rw [← h3, beq_iff_eq, ba_toList, ba_toList]; exact ⟨fun h => by rw [h], fun h => ByteArray.ext (Array.toList_inj.1 h)⟩))
  have d1 : decide ((s.size : Int) > 60000) = false := decide_eq_false (by omega)
  have d2 : decide ((t.size : Int) > 60000) = false := decide_eq_false (by omega)
  have HA := Lib.hid ha
  have HB := Lib.hid hb
  go_enter Try.func3, Try.ntmps3
  go_wp2_with (first
    | (go_at_call 9; with_reducible refine (awake_calls w).mono ?_; rintro e w1 ⟨rfl, hb⟩; have B1 := Aside0.mk hb; clear hb; have h := out_new ((out_new ((out_new ((out_new (((Own.nil w).below B1.out).alloc (.cells #[.slice none 0 0] 26 (0, 0)))).alloc (.cells #[.slice none 0 0] 26 (0, 0)))).alloc (.cells #[.slice none 0 0] 26 (0, 0)))).alloc (.cells #[.slice none 0 0] 26 (0, 0))); simp only [alloc_size, Nat.add_assoc, Nat.reduceAdd] at h; have H0 := Aside0.mk h; clear h)
    | (go_at_call 10; with_reducible refine (OutInt H0.out.r3 i hi0 hi1 (by simp)).mono ?_; rintro e w2 ⟨rfl, h⟩; have H1 := Aside0.mk h; clear h)
    | (go_at_call 10; with_reducible refine (OutInt H1.out.r3 k hk0 hk1 (by simp)).mono ?_; rintro e w3 ⟨rfl, h⟩; have H2 := Aside0.mk h; clear h)
    | (go_at_call 11; with_reducible refine (OutText H2.out.r3 s (by omega) (by simp)).mono ?_; rintro e w4 ⟨rfl, h⟩; have H3 := Aside0.mk h; clear h)
    | (go_at_call 11; with_reducible refine (OutText H3.out.r3 t (by omega) (by simp)).mono ?_; rintro e w5 ⟨rfl, h⟩; have H4 := Aside0.mk h; clear h)
    | (go_at_call 13; with_reducible refine (num_calls a _ rfl HA.out w5).mono ?_; rintro e w6 ⟨rfl, h⟩; have H5 := Aside0.mk (H4.out.below h); clear h)
    | (go_at_call 13; with_reducible refine (num_calls b _ rfl HB.out w6).mono ?_; rintro e w7 ⟨rfl, h⟩; have H6 := Aside0.mk (H5.out.below h); clear h)
    | (go_at_call 12; with_reducible refine (meterlaw02_begins.calls _ _ r1 w7 g1.out).mono ?_; rintro e w8 ⟨rfl, h⟩; have H7 := Aside0.mk (H6.out.drawn h); clear h)
    | (go_at_call 14; with_reducible refine (OutString H7.out.r3).mono ?_; rintro e w9 ⟨rfl, rfl⟩)
    | (go_at_call 14; with_reducible refine (OutString H7.out.r2).mono ?_; rintro e w9 ⟨rfl, rfl⟩)
    | (go_at_call 12; with_reducible refine (meterlaw02_begins.calls _ _ r2 _ g2.out).mono ?_; rintro e w9 ⟨rfl, h⟩; have H8 := Aside0.mk (H7.out.drawn h); clear h)
    | (go_at_call 14; with_reducible refine (OutString H8.out.r1).mono ?_; rintro e w10 ⟨rfl, rfl⟩)
    | (go_at_call 14; with_reducible refine (OutString H8.out).mono ?_; rintro e w10 ⟨rfl, rfl⟩)
    | (go_at_call 12; with_reducible refine (meterlaw02_begins.calls _ _ r3 _ g3.out).mono ?_; rintro e w10 ⟨rfl, h⟩; have H9 := Aside0.mk (H8.out.drawn h); clear h))
  go_ret
  exact ⟨rfl, H9.out.bel⟩
theorem PackApart_law (a b i k : Int) (s t : ByteArray) (w : World) (wa : (Lit.int .u64 a).wf = true) (wb : (Lit.int .u64 b).wf = true) (wi : (Lit.int .i64 i).wf = true) (wk : (Lit.int .i64 k).wf = true) (_ : s.size ≤ 140737488351232) (_ : t.size ≤ 140737488351232) :
    Calls Try.prog 3 #[.int .u64 a, .int .u64 b, .int .i64 i, .int .i64 k, .string s, .string t] w fun e w' => e = .returned (.bool true) ∧ Below w.heap.size w w' := by
  simp [Lit.wf, IntKind.min, IntKind.max, IntKind.signed, IntKind.bits] at wa wb wi wk
  by_cases h : 60000 < s.size ∨ 60000 < t.size
  · exact PackApart_long a b i k s t w h
  · obtain ⟨a, rfl⟩ := Int.eq_ofNat_of_zero_le wa.1
    obtain ⟨b, rfl⟩ := Int.eq_ofNat_of_zero_le wb.1
    exact PackApart_small a b i k s t w (by omega) (by omega) (by omega) (by omega) (by omega) (by omega) (by omega) (by omega) _ _ _ rfl rfl rfl
end Go.Proofs.Ytjlcggjghlmiaaa.PPackWrites
