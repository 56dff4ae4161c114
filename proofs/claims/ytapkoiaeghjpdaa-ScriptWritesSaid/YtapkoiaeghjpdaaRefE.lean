/- The document's writing of acts (meterref27): Bytes. -/
import Derived.Test.YtapkoiaeghjpdaaRefX
import Derived.Deep.RegionWith
namespace Go.Proofs.Ytapkoiaeghjpdaa.PScriptWrites
open Go.RowKit Go.Proofs.YtapkoiaeghjpdaaW.PrintWords Go.Proofs.YtapkoiaeghjpdaaW.PrintLast Go.Proofs.YtapkoiaeghjpdaaW.PrintMore
open Go.Proofs.YtapkoiaeghjpdaaO
attribute [local go_sem] max2_int min2_int max_two min_two max_three min_three max_four min_four
set_option linter.unusedVariables false
set_option linter.unusedSimpArgs false
/-- What holds at the region's end; nothing is asked of other exits. -/
def Qn (K : Act → World → Prop) : Exit → Act → World → Prop
  | .normal, a, w => K a w
  | _, _, _ => False
section
variable {w0 w w' : World} {R : List Asn}
theorem refNumO (h : Own w0 w R) (n : Nat) (hn : n < 2 ^ 64) (S : ByteArray) (hS : strOfNums (numB n) = S) : Calls Try.prog 48 #[.int .u64 n] w fun e w' => e = .returned (.string S) ∧ Own w0 w' R := by
  subst hS
  exact (refNum_calls n n rfl w hn).mono fun e w' ⟨he, hb⟩ => ⟨he, h.below hb⟩
theorem refTextO (h : Own w0 w R) (s : ByteArray) (hs : s.size < 1000000) (S : ByteArray) (hS : strOfNums (numB s.size ++ bytesOf s) = S) : Calls Try.prog 50 #[.string s] w fun e w' => e = .returned (.string S) ∧ Own w0 w' R := by
  subst hS
  exact (refText_calls s hs w).mono fun e w' ⟨he, hb⟩ => ⟨he, h.below hb⟩
set_option maxHeartbeats 8000000 in
set_option maxRecDepth 100000 in
theorem bytes1 (h : Own w0 w R) (n1 n2 : Nat) (hn1 : n1 ≤ 2147483647) (hn2 : n2 ≤ 2147483647) (f3 : ByteArray) (hs3 : f3.size ≤ 255) (f4 f5 : Int) (h40 : -(2^63) ≤ f4) (h41 : f4 < 2 ^ 63) (h50 : -(2^63) ≤ f5) (h51 : f5 < 2 ^ 63) (T : ByteArray) (hT : strOfNums [(1 : Int)] ++ strOfNums (numB n1) ++ strOfNums (numB f3.size ++ bytesOf f3) ++ strOfNums (numB (zigN f4)) ++ strOfNums (numB (zigN f5)) = T) :
    Calls Try.prog 22 #[.agg #[.int .u8 1, .int .i64 (n1 : Int), .int .i64 0, .string f3, .int .i64 f4, .int .i64 f5]] w fun e w' => e = .returned (.string T) ∧ Own w0 w' R := by
  have h2 := h.alloc (.cells #[.int .u8 1, .int .i64 (n1 : Int), .int .i64 0, .string f3, .int .i64 f4, .int .i64 f5] 33 (0, 0))
  obtain ⟨S0, hS0⟩ : ∃ S, strOfNums [(1 : Int)] = S := ⟨_, rfl⟩
  obtain ⟨S1, hS1⟩ : ∃ S, strOfNums (numB n1) = S := ⟨_, rfl⟩
  obtain ⟨S2, hS2⟩ : ∃ S, strOfNums (numB n2) = S := ⟨_, rfl⟩
  obtain ⟨S4, hS4⟩ : ∃ S, strOfNums (numB (zigN f4)) = S := ⟨_, rfl⟩
  obtain ⟨S5, hS5⟩ : ∃ S, strOfNums (numB (zigN f5)) = S := ⟨_, rfl⟩
  obtain ⟨S3, hS3⟩ : ∃ S, strOfNums (numB f3.size ++ bytesOf f3) = S := ⟨_, rfl⟩
  rw [hS0, hS1] at hT
  try rw [hS2] at hT
  try rw [hS3] at hT
  try rw [hS4] at hT
  try rw [hS5] at hT
  have z0 : S0.size = 1 := by rw [← hS0, size_strOf]; rfl
  have z1 : S1.size ≤ 10 := by rw [← hS1, size_strOf]; exact numB_len10 _ (by omega)
  have z2 : S2.size ≤ 10 := by rw [← hS2, size_strOf]; exact numB_len10 _ (by omega)
  have z4 : S4.size ≤ 10 := by rw [← hS4, size_strOf]; exact numB_len10 _ (zigN_lt f4 h40 h41)
  have z5 : S5.size ≤ 10 := by rw [← hS5, size_strOf]; exact numB_len10 _ (zigN_lt f5 h50 h51)
  have z3 : S3.size ≤ 265 := by rw [← hS3, size_strOf, List.length_append, bytesOf_length]; have := numB_len10 f3.size (by omega); omega
  have HS1 := Aside0.mk hS1
  have HS2 := Aside0.mk hS2
  have HS3 := Aside0.mk hS3
  have HS4 := Aside0.mk hS4
  have HS5 := Aside0.mk hS5
  have HT := Lib.hid hT
  have HN1 := Aside0.mk (show n1 < 2 ^ 64 by omega)
  have HN2 := Aside0.mk (show n2 < 2 ^ 64 by omega)
  have HL3 := Aside0.mk (show f3.size < 1000000 by omega)
  have HZ40 := Aside0.mk h40
  have HZ41 := Aside0.mk h41
  have HZ50 := Aside0.mk h50
  have HZ51 := Aside0.mk h51
  have HZ4 := Aside0.mk (zigN_lt f4 h40 h41)
  have HZ5 := Aside0.mk (zigN_lt f5 h50 h51)
  have wn1 : IntKind.u64.wrap (n1 : Int) = (n1 : Int) := wrapU n1 (by omega)
  have wn2 : IntKind.u64.wrap (n2 : Int) = (n2 : Int) := wrapU n2 (by omega)
  have sz0 : S0.size + S1.size ≤ 9223372036854775807 := by (try simp only [ByteArray.size_append]); omega
  have sz1 : (S0 ++ S1).size + S3.size ≤ 9223372036854775807 := by (try simp only [ByteArray.size_append]); omega
  have sz2 : (S0 ++ S1 ++ S3).size + S4.size ≤ 9223372036854775807 := by (try simp only [ByteArray.size_append]); omega
  have sz3 : (S0 ++ S1 ++ S3 ++ S4).size + S5.size ≤ 9223372036854775807 := by (try simp only [ByteArray.size_append]); omega
  clear hS1 hS2 hS3 hS4 hS5 hT h40 h41 h50 h51
  go_enter Try.func22, Try.ntmps22
  go_wp2
  obtain ⟨W, hW⟩ : ∃ W, W = w.alloc (.cells #[.int .u8 1, .int .i64 (n1 : Int), .int .i64 0, .string f3, .int .i64 f4, .int .i64 f5] 33 (0, 0)) := ⟨_, rfl⟩
  rw [← hW] at h2 ⊢
  obtain ⟨g, hg⟩ : ∃ g, w.heap.size = g := ⟨_, rfl⟩
  rw [hg] at h2 ⊢
  clear hW hg h
  have xa0 := (blk_cell h2.at0 0).trans (rfl : (_ : Option Value) = some (Value.int .u8 1)); have xa1 := (blk_cell h2.at0 1).trans (rfl : (_ : Option Value) = some (Value.int .i64 (n1 : Int))); have xa2 := (blk_cell h2.at0 2).trans (rfl : (_ : Option Value) = some (Value.int .i64 0)); have xa3 := (blk_cell h2.at0 3).trans (rfl : (_ : Option Value) = some (Value.string f3)); have xa4 := (blk_cell h2.at0 4).trans (rfl : (_ : Option Value) = some (Value.int .i64 f4)); have xa5 := (blk_cell h2.at0 5).trans (rfl : (_ : Option Value) = some (Value.int .i64 f5))
  have h3 := h2.junk (.cells #[.int .u8 1] 5 (0, 0))
  have xj0 := (blk_cell h3.at0 0).trans (rfl : (_ : Option Value) = some (Value.int .u8 1)); have xj1 := (blk_cell h3.at0 1).trans (rfl : (_ : Option Value) = some (Value.int .i64 (n1 : Int))); have xj2 := (blk_cell h3.at0 2).trans (rfl : (_ : Option Value) = some (Value.int .i64 0)); have xj3 := (blk_cell h3.at0 3).trans (rfl : (_ : Option Value) = some (Value.string f3)); have xj4 := (blk_cell h3.at0 4).trans (rfl : (_ : Option Value) = some (Value.int .i64 f4)); have xj5 := (blk_cell h3.at0 5).trans (rfl : (_ : Option Value) = some (Value.int .i64 f5))
  have hc0 : (convert 22 9 (.slice (some ⟨W.heap.size, 0, none⟩) 1 1)).run Try.prog (W.alloc (.cells #[.int .u8 1] 5)).drew = .ok (.string S0) (W.alloc (.cells #[.int .u8 1] 5)).drew := hS0 ▸ one_byte W.drew 1
  have H := Aside0.mk h2
  have HJ := Aside0.mk h3
  clear h2 h3
  refine Code.wp_mono (Q := Qn (fun a' w' => (∃ u, a' = ⟨#[.agg #[.int .u8 1, .int .i64 (n1 : Int), .int .i64 0, .string f3, .int .i64 f4, .int .i64 f5], .pointer (some ⟨g, 0, none⟩), .string ⟨#[]⟩, .string (S0 ++ S1), undef, .pointer (some ⟨g, 0, none⟩), .int .u8 1, u, .string S0, .pointer (some ⟨g, 1, none⟩), .int .i64 (n1 : Int), .int .u64 (n1 : Int), .string S1, .string (S0 ++ S1), undef, undef, undef, undef, undef, undef, undef, undef, undef, undef, undef, undef, undef, undef, undef, undef, undef, undef, undef, undef, undef, undef, undef, undef, undef, undef, undef, undef, undef, undef, undef, undef, undef, undef, undef, undef, undef, undef, undef], []⟩) ∧ Own w0 w' (Blk g (.cells #[.int .u8 1, .int .i64 (n1 : Int), .int .i64 0, .string f3, .int .i64 f4, .int .i64 f5] 33 (0, 0)) :: R))) ?_ ?_
  · intro e a' w' hh
    cases e with
    | normal =>
      obtain ⟨⟨u, rfl⟩, h⟩ := hh
      clear xa0 xa1 xa2 xa3 xa4 xa5 xj0 xj1 xj2 xj3 xj4 xj5 hc0 H HJ
      have xn0 := (blk_cell h.at0 0).trans (rfl : (_ : Option Value) = some (Value.int .u8 1)); have xn1 := (blk_cell h.at0 1).trans (rfl : (_ : Option Value) = some (Value.int .i64 (n1 : Int))); have xn2 := (blk_cell h.at0 2).trans (rfl : (_ : Option Value) = some (Value.int .i64 0)); have xn3 := (blk_cell h.at0 3).trans (rfl : (_ : Option Value) = some (Value.string f3)); have xn4 := (blk_cell h.at0 4).trans (rfl : (_ : Option Value) = some (Value.int .i64 f4)); have xn5 := (blk_cell h.at0 5).trans (rfl : (_ : Option Value) = some (Value.int .i64 f5))
      have H1 := Aside0.mk h
      clear h
      go_wp2_with (first
        | (go_at_call 49; (with_reducible refine (refZig_calls f4 HZ40.out HZ41.out _).mono ?_); rintro e wz ⟨rfl, rfl⟩)
        | (go_at_call 48; (with_reducible refine (refNumO H1.out (zigN f4) HZ4.out S4 HS4.out).mono ?_); rintro e w3 ⟨rfl, h⟩; have yc0 := (blk_cell h.at0 0).trans (rfl : (_ : Option Value) = some (Value.int .u8 1)); have yc1 := (blk_cell h.at0 1).trans (rfl : (_ : Option Value) = some (Value.int .i64 (n1 : Int))); have yc2 := (blk_cell h.at0 2).trans (rfl : (_ : Option Value) = some (Value.int .i64 0)); have yc3 := (blk_cell h.at0 3).trans (rfl : (_ : Option Value) = some (Value.string f3)); have yc4 := (blk_cell h.at0 4).trans (rfl : (_ : Option Value) = some (Value.int .i64 f4)); have yc5 := (blk_cell h.at0 5).trans (rfl : (_ : Option Value) = some (Value.int .i64 f5)); have H3 := Aside0.mk h; clear h xn0 xn1 xn2 xn3 xn4 xn5 H1))
      have h3 := H3.out.drew
      have yw0 := (blk_cell h3.at0 0).trans (rfl : (_ : Option Value) = some (Value.int .u8 1)); have yw1 := (blk_cell h3.at0 1).trans (rfl : (_ : Option Value) = some (Value.int .i64 (n1 : Int))); have yw2 := (blk_cell h3.at0 2).trans (rfl : (_ : Option Value) = some (Value.int .i64 0)); have yw3 := (blk_cell h3.at0 3).trans (rfl : (_ : Option Value) = some (Value.string f3)); have yw4 := (blk_cell h3.at0 4).trans (rfl : (_ : Option Value) = some (Value.int .i64 f4)); have yw5 := (blk_cell h3.at0 5).trans (rfl : (_ : Option Value) = some (Value.int .i64 f5))
      clear h3
      go_region_with (first | (go_at_call 50; (with_reducible refine (refTextO H3.out.drew f3 HL3.out S3 HS3.out).mono ?_); rintro e w4 ⟨rfl, h⟩; have yd0 := (blk_cell h.at0 0).trans (rfl : (_ : Option Value) = some (Value.int .u8 1)); have yd1 := (blk_cell h.at0 1).trans (rfl : (_ : Option Value) = some (Value.int .i64 (n1 : Int))); have yd2 := (blk_cell h.at0 2).trans (rfl : (_ : Option Value) = some (Value.int .i64 0)); have yd3 := (blk_cell h.at0 3).trans (rfl : (_ : Option Value) = some (Value.string f3)); have yd4 := (blk_cell h.at0 4).trans (rfl : (_ : Option Value) = some (Value.int .i64 f4)); have yd5 := (blk_cell h.at0 5).trans (rfl : (_ : Option Value) = some (Value.int .i64 f5)); have H4 := Aside0.mk h; clear h) | (go_at_call 49; (with_reducible refine (refZig_calls f5 HZ50.out HZ51.out _).mono ?_); rintro e wz ⟨rfl, rfl⟩) | (go_at_call 48; (with_reducible refine (refNumO H4.out (zigN f5) HZ5.out S5 HS5.out).mono ?_); rintro e w5 ⟨rfl, h⟩; have ye0 := (blk_cell h.at0 0).trans (rfl : (_ : Option Value) = some (Value.int .u8 1)); have ye1 := (blk_cell h.at0 1).trans (rfl : (_ : Option Value) = some (Value.int .i64 (n1 : Int))); have ye2 := (blk_cell h.at0 2).trans (rfl : (_ : Option Value) = some (Value.int .i64 0)); have ye3 := (blk_cell h.at0 3).trans (rfl : (_ : Option Value) = some (Value.string f3)); have ye4 := (blk_cell h.at0 4).trans (rfl : (_ : Option Value) = some (Value.int .i64 f4)); have ye5 := (blk_cell h.at0 5).trans (rfl : (_ : Option Value) = some (Value.int .i64 f5)); have H5 := Aside0.mk h; clear h))
      all_goals go_wp2
      all_goals go_ret
      all_goals exact ⟨by rw [← HT.out]; rfl, H5.out.tail⟩
    | _ => exact hh.elim
  · go_region_with (go_at_call 48; (with_reducible refine (refNum_calls n1 _ rfl _ HN1.out).mono ?_); rintro e w1 ⟨rfl, hb⟩; rw [HS1.out]; have hc2 := one_byte w1 1; rw [hS0] at hc2; (try (have hc3 := one_byte2 W 1 w1 hb; rw [hS0] at hc3)); (first | (have h := H.out.drew.below hb) | (have h := HJ.out.drew.below hb)); have xb0 := (blk_cell h.at0 0).trans (rfl : (_ : Option Value) = some (Value.int .u8 1)); have xb1 := (blk_cell h.at0 1).trans (rfl : (_ : Option Value) = some (Value.int .i64 (n1 : Int))); have xb2 := (blk_cell h.at0 2).trans (rfl : (_ : Option Value) = some (Value.int .i64 0)); have xb3 := (blk_cell h.at0 3).trans (rfl : (_ : Option Value) = some (Value.string f3)); have xb4 := (blk_cell h.at0 4).trans (rfl : (_ : Option Value) = some (Value.int .i64 f4)); have xb5 := (blk_cell h.at0 5).trans (rfl : (_ : Option Value) = some (Value.int .i64 f5)); have hj := h.junk (.cells #[.int .u8 1] 5 (0, 0)); have xk0 := (blk_cell hj.at0 0).trans (rfl : (_ : Option Value) = some (Value.int .u8 1)); have xk1 := (blk_cell hj.at0 1).trans (rfl : (_ : Option Value) = some (Value.int .i64 (n1 : Int))); have xk2 := (blk_cell hj.at0 2).trans (rfl : (_ : Option Value) = some (Value.int .i64 0)); have xk3 := (blk_cell hj.at0 3).trans (rfl : (_ : Option Value) = some (Value.string f3)); have xk4 := (blk_cell hj.at0 4).trans (rfl : (_ : Option Value) = some (Value.int .i64 f4)); have xk5 := (blk_cell hj.at0 5).trans (rfl : (_ : Option Value) = some (Value.int .i64 f5)); have H1 := Aside0.mk h; have HJ1 := Aside0.mk hj; clear h hj hb)
    all_goals first | exact ⟨⟨_, rfl⟩, H1.out⟩ | exact ⟨⟨_, rfl⟩, HJ1.out⟩
set_option maxHeartbeats 8000000 in
set_option maxRecDepth 100000 in
theorem bytes2 (h : Own w0 w R) (n1 n2 : Nat) (hn1 : n1 ≤ 2147483647) (hn2 : n2 ≤ 2147483647) (f3 : ByteArray) (hs3 : f3.size ≤ 255) (f4 f5 : Int) (h40 : -(2^63) ≤ f4) (h41 : f4 < 2 ^ 63) (h50 : -(2^63) ≤ f5) (h51 : f5 < 2 ^ 63) (T : ByteArray) (hT : strOfNums [(2 : Int)] ++ strOfNums (numB n1) ++ strOfNums (numB n2) ++ strOfNums (numB (zigN f4)) = T) :
    Calls Try.prog 22 #[.agg #[.int .u8 2, .int .i64 (n1 : Int), .int .i64 (n2 : Int), .string f3, .int .i64 f4, .int .i64 f5]] w fun e w' => e = .returned (.string T) ∧ Own w0 w' R := by
  have h2 := h.alloc (.cells #[.int .u8 2, .int .i64 (n1 : Int), .int .i64 (n2 : Int), .string f3, .int .i64 f4, .int .i64 f5] 33 (0, 0))
  obtain ⟨S0, hS0⟩ : ∃ S, strOfNums [(2 : Int)] = S := ⟨_, rfl⟩
  obtain ⟨S1, hS1⟩ : ∃ S, strOfNums (numB n1) = S := ⟨_, rfl⟩
  obtain ⟨S2, hS2⟩ : ∃ S, strOfNums (numB n2) = S := ⟨_, rfl⟩
  obtain ⟨S4, hS4⟩ : ∃ S, strOfNums (numB (zigN f4)) = S := ⟨_, rfl⟩
  obtain ⟨S5, hS5⟩ : ∃ S, strOfNums (numB (zigN f5)) = S := ⟨_, rfl⟩
  obtain ⟨S3, hS3⟩ : ∃ S, strOfNums (numB f3.size ++ bytesOf f3) = S := ⟨_, rfl⟩
  rw [hS0, hS1] at hT
  try rw [hS2] at hT
  try rw [hS3] at hT
  try rw [hS4] at hT
  try rw [hS5] at hT
  have z0 : S0.size = 1 := by rw [← hS0, size_strOf]; rfl
  have z1 : S1.size ≤ 10 := by rw [← hS1, size_strOf]; exact numB_len10 _ (by omega)
  have z2 : S2.size ≤ 10 := by rw [← hS2, size_strOf]; exact numB_len10 _ (by omega)
  have z4 : S4.size ≤ 10 := by rw [← hS4, size_strOf]; exact numB_len10 _ (zigN_lt f4 h40 h41)
  have z5 : S5.size ≤ 10 := by rw [← hS5, size_strOf]; exact numB_len10 _ (zigN_lt f5 h50 h51)
  have z3 : S3.size ≤ 265 := by rw [← hS3, size_strOf, List.length_append, bytesOf_length]; have := numB_len10 f3.size (by omega); omega
  have HS1 := Aside0.mk hS1
  have HS2 := Aside0.mk hS2
  have HS3 := Aside0.mk hS3
  have HS4 := Aside0.mk hS4
  have HS5 := Aside0.mk hS5
  have HT := Lib.hid hT
  have HN1 := Aside0.mk (show n1 < 2 ^ 64 by omega)
  have HN2 := Aside0.mk (show n2 < 2 ^ 64 by omega)
  have HL3 := Aside0.mk (show f3.size < 1000000 by omega)
  have HZ40 := Aside0.mk h40
  have HZ41 := Aside0.mk h41
  have HZ50 := Aside0.mk h50
  have HZ51 := Aside0.mk h51
  have HZ4 := Aside0.mk (zigN_lt f4 h40 h41)
  have HZ5 := Aside0.mk (zigN_lt f5 h50 h51)
  have wn1 : IntKind.u64.wrap (n1 : Int) = (n1 : Int) := wrapU n1 (by omega)
  have wn2 : IntKind.u64.wrap (n2 : Int) = (n2 : Int) := wrapU n2 (by omega)
  have sz0 : S0.size + S1.size ≤ 9223372036854775807 := by (try simp only [ByteArray.size_append]); omega
  have sz1 : (S0 ++ S1).size + S2.size ≤ 9223372036854775807 := by (try simp only [ByteArray.size_append]); omega
  have sz2 : (S0 ++ S1 ++ S2).size + S4.size ≤ 9223372036854775807 := by (try simp only [ByteArray.size_append]); omega
  clear hS1 hS2 hS3 hS4 hS5 hT h40 h41 h50 h51
  go_enter Try.func22, Try.ntmps22
  go_wp2
  obtain ⟨W, hW⟩ : ∃ W, W = w.alloc (.cells #[.int .u8 2, .int .i64 (n1 : Int), .int .i64 (n2 : Int), .string f3, .int .i64 f4, .int .i64 f5] 33 (0, 0)) := ⟨_, rfl⟩
  rw [← hW] at h2 ⊢
  obtain ⟨g, hg⟩ : ∃ g, w.heap.size = g := ⟨_, rfl⟩
  rw [hg] at h2 ⊢
  clear hW hg h
  have xa0 := (blk_cell h2.at0 0).trans (rfl : (_ : Option Value) = some (Value.int .u8 2)); have xa1 := (blk_cell h2.at0 1).trans (rfl : (_ : Option Value) = some (Value.int .i64 (n1 : Int))); have xa2 := (blk_cell h2.at0 2).trans (rfl : (_ : Option Value) = some (Value.int .i64 (n2 : Int))); have xa3 := (blk_cell h2.at0 3).trans (rfl : (_ : Option Value) = some (Value.string f3)); have xa4 := (blk_cell h2.at0 4).trans (rfl : (_ : Option Value) = some (Value.int .i64 f4)); have xa5 := (blk_cell h2.at0 5).trans (rfl : (_ : Option Value) = some (Value.int .i64 f5))
  have h3 := h2.junk (.cells #[.int .u8 2] 5 (0, 0))
  have xj0 := (blk_cell h3.at0 0).trans (rfl : (_ : Option Value) = some (Value.int .u8 2)); have xj1 := (blk_cell h3.at0 1).trans (rfl : (_ : Option Value) = some (Value.int .i64 (n1 : Int))); have xj2 := (blk_cell h3.at0 2).trans (rfl : (_ : Option Value) = some (Value.int .i64 (n2 : Int))); have xj3 := (blk_cell h3.at0 3).trans (rfl : (_ : Option Value) = some (Value.string f3)); have xj4 := (blk_cell h3.at0 4).trans (rfl : (_ : Option Value) = some (Value.int .i64 f4)); have xj5 := (blk_cell h3.at0 5).trans (rfl : (_ : Option Value) = some (Value.int .i64 f5))
  have hc0 : (convert 22 9 (.slice (some ⟨W.heap.size, 0, none⟩) 1 1)).run Try.prog (W.alloc (.cells #[.int .u8 2] 5)).drew = .ok (.string S0) (W.alloc (.cells #[.int .u8 2] 5)).drew := hS0 ▸ one_byte W.drew 2
  have H := Aside0.mk h2
  have HJ := Aside0.mk h3
  clear h2 h3
  refine Code.wp_mono (Q := Qn (fun a' w' => (∃ u, a' = ⟨#[.agg #[.int .u8 2, .int .i64 (n1 : Int), .int .i64 (n2 : Int), .string f3, .int .i64 f4, .int .i64 f5], .pointer (some ⟨g, 0, none⟩), .string ⟨#[]⟩, .string (S0 ++ S1), undef, .pointer (some ⟨g, 0, none⟩), .int .u8 2, u, .string S0, .pointer (some ⟨g, 1, none⟩), .int .i64 (n1 : Int), .int .u64 (n1 : Int), .string S1, .string (S0 ++ S1), undef, undef, undef, undef, undef, undef, undef, undef, undef, undef, undef, undef, undef, undef, undef, undef, undef, undef, undef, undef, undef, undef, undef, undef, undef, undef, undef, undef, undef, undef, undef, undef, undef, undef, undef, undef, undef, undef, undef], []⟩) ∧ Own w0 w' (Blk g (.cells #[.int .u8 2, .int .i64 (n1 : Int), .int .i64 (n2 : Int), .string f3, .int .i64 f4, .int .i64 f5] 33 (0, 0)) :: R))) ?_ ?_
  · intro e a' w' hh
    cases e with
    | normal =>
      obtain ⟨⟨u, rfl⟩, h⟩ := hh
      clear xa0 xa1 xa2 xa3 xa4 xa5 xj0 xj1 xj2 xj3 xj4 xj5 hc0 H HJ
      have xn0 := (blk_cell h.at0 0).trans (rfl : (_ : Option Value) = some (Value.int .u8 2)); have xn1 := (blk_cell h.at0 1).trans (rfl : (_ : Option Value) = some (Value.int .i64 (n1 : Int))); have xn2 := (blk_cell h.at0 2).trans (rfl : (_ : Option Value) = some (Value.int .i64 (n2 : Int))); have xn3 := (blk_cell h.at0 3).trans (rfl : (_ : Option Value) = some (Value.string f3)); have xn4 := (blk_cell h.at0 4).trans (rfl : (_ : Option Value) = some (Value.int .i64 f4)); have xn5 := (blk_cell h.at0 5).trans (rfl : (_ : Option Value) = some (Value.int .i64 f5))
      have H1 := Aside0.mk h
      clear h
      go_wp2_with (first
        | (go_at_call 49; (with_reducible refine (refZig_calls f4 HZ40.out HZ41.out _).mono ?_); rintro e wz ⟨rfl, rfl⟩)
        | (go_at_call 48; (with_reducible refine (refNumO H1.out (zigN f4) HZ4.out S4 HS4.out).mono ?_); rintro e w3 ⟨rfl, h⟩; have yc0 := (blk_cell h.at0 0).trans (rfl : (_ : Option Value) = some (Value.int .u8 2)); have yc1 := (blk_cell h.at0 1).trans (rfl : (_ : Option Value) = some (Value.int .i64 (n1 : Int))); have yc2 := (blk_cell h.at0 2).trans (rfl : (_ : Option Value) = some (Value.int .i64 (n2 : Int))); have yc3 := (blk_cell h.at0 3).trans (rfl : (_ : Option Value) = some (Value.string f3)); have yc4 := (blk_cell h.at0 4).trans (rfl : (_ : Option Value) = some (Value.int .i64 f4)); have yc5 := (blk_cell h.at0 5).trans (rfl : (_ : Option Value) = some (Value.int .i64 f5)); have H3 := Aside0.mk h; clear h xn0 xn1 xn2 xn3 xn4 xn5 H1)
        | (go_at_call 48; (with_reducible refine (refNumO H3.out n2 HN2.out S2 HS2.out).mono ?_); rintro e w5 ⟨rfl, h⟩; have H5 := Aside0.mk h; clear h))
      go_ret
      exact ⟨by rw [← HT.out]; rfl, H5.out.tail⟩
    | _ => exact hh.elim
  · go_region_with (go_at_call 48; (with_reducible refine (refNum_calls n1 _ rfl _ HN1.out).mono ?_); rintro e w1 ⟨rfl, hb⟩; rw [HS1.out]; have hc2 := one_byte w1 2; rw [hS0] at hc2; (try (have hc3 := one_byte2 W 2 w1 hb; rw [hS0] at hc3)); (first | (have h := H.out.drew.below hb) | (have h := HJ.out.drew.below hb)); have xb0 := (blk_cell h.at0 0).trans (rfl : (_ : Option Value) = some (Value.int .u8 2)); have xb1 := (blk_cell h.at0 1).trans (rfl : (_ : Option Value) = some (Value.int .i64 (n1 : Int))); have xb2 := (blk_cell h.at0 2).trans (rfl : (_ : Option Value) = some (Value.int .i64 (n2 : Int))); have xb3 := (blk_cell h.at0 3).trans (rfl : (_ : Option Value) = some (Value.string f3)); have xb4 := (blk_cell h.at0 4).trans (rfl : (_ : Option Value) = some (Value.int .i64 f4)); have xb5 := (blk_cell h.at0 5).trans (rfl : (_ : Option Value) = some (Value.int .i64 f5)); have hj := h.junk (.cells #[.int .u8 2] 5 (0, 0)); have xk0 := (blk_cell hj.at0 0).trans (rfl : (_ : Option Value) = some (Value.int .u8 2)); have xk1 := (blk_cell hj.at0 1).trans (rfl : (_ : Option Value) = some (Value.int .i64 (n1 : Int))); have xk2 := (blk_cell hj.at0 2).trans (rfl : (_ : Option Value) = some (Value.int .i64 (n2 : Int))); have xk3 := (blk_cell hj.at0 3).trans (rfl : (_ : Option Value) = some (Value.string f3)); have xk4 := (blk_cell hj.at0 4).trans (rfl : (_ : Option Value) = some (Value.int .i64 f4)); have xk5 := (blk_cell hj.at0 5).trans (rfl : (_ : Option Value) = some (Value.int .i64 f5)); have H1 := Aside0.mk h; have HJ1 := Aside0.mk hj; clear h hj hb)
    all_goals first | exact ⟨⟨_, rfl⟩, H1.out⟩ | exact ⟨⟨_, rfl⟩, HJ1.out⟩
set_option maxHeartbeats 8000000 in
set_option maxRecDepth 100000 in
theorem bytes3 (h : Own w0 w R) (n1 n2 : Nat) (hn1 : n1 ≤ 2147483647) (hn2 : n2 ≤ 2147483647) (f3 : ByteArray) (hs3 : f3.size ≤ 255) (f4 f5 : Int) (h40 : -(2^63) ≤ f4) (h41 : f4 < 2 ^ 63) (h50 : -(2^63) ≤ f5) (h51 : f5 < 2 ^ 63) (T : ByteArray) (hT : strOfNums [(3 : Int)] ++ strOfNums (numB n1) ++ strOfNums (numB n2) = T) :
    Calls Try.prog 22 #[.agg #[.int .u8 3, .int .i64 (n1 : Int), .int .i64 (n2 : Int), .string f3, .int .i64 f4, .int .i64 f5]] w fun e w' => e = .returned (.string T) ∧ Own w0 w' R := by
  have h2 := h.alloc (.cells #[.int .u8 3, .int .i64 (n1 : Int), .int .i64 (n2 : Int), .string f3, .int .i64 f4, .int .i64 f5] 33 (0, 0))
  obtain ⟨S0, hS0⟩ : ∃ S, strOfNums [(3 : Int)] = S := ⟨_, rfl⟩
  obtain ⟨S1, hS1⟩ : ∃ S, strOfNums (numB n1) = S := ⟨_, rfl⟩
  obtain ⟨S2, hS2⟩ : ∃ S, strOfNums (numB n2) = S := ⟨_, rfl⟩
  obtain ⟨S4, hS4⟩ : ∃ S, strOfNums (numB (zigN f4)) = S := ⟨_, rfl⟩
  obtain ⟨S5, hS5⟩ : ∃ S, strOfNums (numB (zigN f5)) = S := ⟨_, rfl⟩
  obtain ⟨S3, hS3⟩ : ∃ S, strOfNums (numB f3.size ++ bytesOf f3) = S := ⟨_, rfl⟩
  rw [hS0, hS1] at hT
  try rw [hS2] at hT
  try rw [hS3] at hT
  try rw [hS4] at hT
  try rw [hS5] at hT
  have z0 : S0.size = 1 := by rw [← hS0, size_strOf]; rfl
  have z1 : S1.size ≤ 10 := by rw [← hS1, size_strOf]; exact numB_len10 _ (by omega)
  have z2 : S2.size ≤ 10 := by rw [← hS2, size_strOf]; exact numB_len10 _ (by omega)
  have z4 : S4.size ≤ 10 := by rw [← hS4, size_strOf]; exact numB_len10 _ (zigN_lt f4 h40 h41)
  have z5 : S5.size ≤ 10 := by rw [← hS5, size_strOf]; exact numB_len10 _ (zigN_lt f5 h50 h51)
  have z3 : S3.size ≤ 265 := by rw [← hS3, size_strOf, List.length_append, bytesOf_length]; have := numB_len10 f3.size (by omega); omega
  have HS1 := Aside0.mk hS1
  have HS2 := Aside0.mk hS2
  have HS3 := Aside0.mk hS3
  have HS4 := Aside0.mk hS4
  have HS5 := Aside0.mk hS5
  have HT := Lib.hid hT
  have HN1 := Aside0.mk (show n1 < 2 ^ 64 by omega)
  have HN2 := Aside0.mk (show n2 < 2 ^ 64 by omega)
  have HL3 := Aside0.mk (show f3.size < 1000000 by omega)
  have HZ40 := Aside0.mk h40
  have HZ41 := Aside0.mk h41
  have HZ50 := Aside0.mk h50
  have HZ51 := Aside0.mk h51
  have HZ4 := Aside0.mk (zigN_lt f4 h40 h41)
  have HZ5 := Aside0.mk (zigN_lt f5 h50 h51)
  have wn1 : IntKind.u64.wrap (n1 : Int) = (n1 : Int) := wrapU n1 (by omega)
  have wn2 : IntKind.u64.wrap (n2 : Int) = (n2 : Int) := wrapU n2 (by omega)
  have sz0 : S0.size + S1.size ≤ 9223372036854775807 := by (try simp only [ByteArray.size_append]); omega
  have sz1 : (S0 ++ S1).size + S2.size ≤ 9223372036854775807 := by (try simp only [ByteArray.size_append]); omega
  clear hS1 hS2 hS3 hS4 hS5 hT h40 h41 h50 h51
  go_enter Try.func22, Try.ntmps22
  go_wp2
  obtain ⟨W, hW⟩ : ∃ W, W = w.alloc (.cells #[.int .u8 3, .int .i64 (n1 : Int), .int .i64 (n2 : Int), .string f3, .int .i64 f4, .int .i64 f5] 33 (0, 0)) := ⟨_, rfl⟩
  rw [← hW] at h2 ⊢
  obtain ⟨g, hg⟩ : ∃ g, w.heap.size = g := ⟨_, rfl⟩
  rw [hg] at h2 ⊢
  clear hW hg h
  have xa0 := (blk_cell h2.at0 0).trans (rfl : (_ : Option Value) = some (Value.int .u8 3)); have xa1 := (blk_cell h2.at0 1).trans (rfl : (_ : Option Value) = some (Value.int .i64 (n1 : Int))); have xa2 := (blk_cell h2.at0 2).trans (rfl : (_ : Option Value) = some (Value.int .i64 (n2 : Int))); have xa3 := (blk_cell h2.at0 3).trans (rfl : (_ : Option Value) = some (Value.string f3)); have xa4 := (blk_cell h2.at0 4).trans (rfl : (_ : Option Value) = some (Value.int .i64 f4)); have xa5 := (blk_cell h2.at0 5).trans (rfl : (_ : Option Value) = some (Value.int .i64 f5))
  have h3 := h2.junk (.cells #[.int .u8 3] 5 (0, 0))
  have xj0 := (blk_cell h3.at0 0).trans (rfl : (_ : Option Value) = some (Value.int .u8 3)); have xj1 := (blk_cell h3.at0 1).trans (rfl : (_ : Option Value) = some (Value.int .i64 (n1 : Int))); have xj2 := (blk_cell h3.at0 2).trans (rfl : (_ : Option Value) = some (Value.int .i64 (n2 : Int))); have xj3 := (blk_cell h3.at0 3).trans (rfl : (_ : Option Value) = some (Value.string f3)); have xj4 := (blk_cell h3.at0 4).trans (rfl : (_ : Option Value) = some (Value.int .i64 f4)); have xj5 := (blk_cell h3.at0 5).trans (rfl : (_ : Option Value) = some (Value.int .i64 f5))
  have hc0 : (convert 22 9 (.slice (some ⟨W.heap.size, 0, none⟩) 1 1)).run Try.prog (W.alloc (.cells #[.int .u8 3] 5)).drew = .ok (.string S0) (W.alloc (.cells #[.int .u8 3] 5)).drew := hS0 ▸ one_byte W.drew 3
  have H := Aside0.mk h2
  have HJ := Aside0.mk h3
  clear h2 h3
  refine Code.wp_mono (Q := Qn (fun a' w' => (∃ u, a' = ⟨#[.agg #[.int .u8 3, .int .i64 (n1 : Int), .int .i64 (n2 : Int), .string f3, .int .i64 f4, .int .i64 f5], .pointer (some ⟨g, 0, none⟩), .string ⟨#[]⟩, .string (S0 ++ S1), undef, .pointer (some ⟨g, 0, none⟩), .int .u8 3, u, .string S0, .pointer (some ⟨g, 1, none⟩), .int .i64 (n1 : Int), .int .u64 (n1 : Int), .string S1, .string (S0 ++ S1), undef, undef, undef, undef, undef, undef, undef, undef, undef, undef, undef, undef, undef, undef, undef, undef, undef, undef, undef, undef, undef, undef, undef, undef, undef, undef, undef, undef, undef, undef, undef, undef, undef, undef, undef, undef, undef, undef, undef], []⟩) ∧ Own w0 w' (Blk g (.cells #[.int .u8 3, .int .i64 (n1 : Int), .int .i64 (n2 : Int), .string f3, .int .i64 f4, .int .i64 f5] 33 (0, 0)) :: R))) ?_ ?_
  · intro e a' w' hh
    cases e with
    | normal =>
      obtain ⟨⟨u, rfl⟩, h⟩ := hh
      clear xa0 xa1 xa2 xa3 xa4 xa5 xj0 xj1 xj2 xj3 xj4 xj5 hc0 H HJ
      have xn0 := (blk_cell h.at0 0).trans (rfl : (_ : Option Value) = some (Value.int .u8 3)); have xn1 := (blk_cell h.at0 1).trans (rfl : (_ : Option Value) = some (Value.int .i64 (n1 : Int))); have xn2 := (blk_cell h.at0 2).trans (rfl : (_ : Option Value) = some (Value.int .i64 (n2 : Int))); have xn3 := (blk_cell h.at0 3).trans (rfl : (_ : Option Value) = some (Value.string f3)); have xn4 := (blk_cell h.at0 4).trans (rfl : (_ : Option Value) = some (Value.int .i64 f4)); have xn5 := (blk_cell h.at0 5).trans (rfl : (_ : Option Value) = some (Value.int .i64 f5))
      have H1 := Aside0.mk h
      clear h
      go_wp2_with (first
        | (go_at_call 49; (with_reducible refine (refZig_calls f4 HZ40.out HZ41.out _).mono ?_); rintro e wz ⟨rfl, rfl⟩)
        | (go_at_call 48; (with_reducible refine (refNumO H1.out (zigN f4) HZ4.out S4 HS4.out).mono ?_); rintro e w3 ⟨rfl, h⟩; have yc0 := (blk_cell h.at0 0).trans (rfl : (_ : Option Value) = some (Value.int .u8 3)); have yc1 := (blk_cell h.at0 1).trans (rfl : (_ : Option Value) = some (Value.int .i64 (n1 : Int))); have yc2 := (blk_cell h.at0 2).trans (rfl : (_ : Option Value) = some (Value.int .i64 (n2 : Int))); have yc3 := (blk_cell h.at0 3).trans (rfl : (_ : Option Value) = some (Value.string f3)); have yc4 := (blk_cell h.at0 4).trans (rfl : (_ : Option Value) = some (Value.int .i64 f4)); have yc5 := (blk_cell h.at0 5).trans (rfl : (_ : Option Value) = some (Value.int .i64 f5)); have H3 := Aside0.mk h; clear h xn0 xn1 xn2 xn3 xn4 xn5 H1)
        | (go_at_call 48; (with_reducible refine (refNumO H3.out n2 HN2.out S2 HS2.out).mono ?_); rintro e w5 ⟨rfl, h⟩; have H5 := Aside0.mk h; clear h))
      go_ret
      exact ⟨by rw [← HT.out]; rfl, H5.out.tail⟩
    | _ => exact hh.elim
  · go_region_with (go_at_call 48; (with_reducible refine (refNum_calls n1 _ rfl _ HN1.out).mono ?_); rintro e w1 ⟨rfl, hb⟩; rw [HS1.out]; have hc2 := one_byte w1 3; rw [hS0] at hc2; (try (have hc3 := one_byte2 W 3 w1 hb; rw [hS0] at hc3)); (first | (have h := H.out.drew.below hb) | (have h := HJ.out.drew.below hb)); have xb0 := (blk_cell h.at0 0).trans (rfl : (_ : Option Value) = some (Value.int .u8 3)); have xb1 := (blk_cell h.at0 1).trans (rfl : (_ : Option Value) = some (Value.int .i64 (n1 : Int))); have xb2 := (blk_cell h.at0 2).trans (rfl : (_ : Option Value) = some (Value.int .i64 (n2 : Int))); have xb3 := (blk_cell h.at0 3).trans (rfl : (_ : Option Value) = some (Value.string f3)); have xb4 := (blk_cell h.at0 4).trans (rfl : (_ : Option Value) = some (Value.int .i64 f4)); have xb5 := (blk_cell h.at0 5).trans (rfl : (_ : Option Value) = some (Value.int .i64 f5)); have hj := h.junk (.cells #[.int .u8 3] 5 (0, 0)); have xk0 := (blk_cell hj.at0 0).trans (rfl : (_ : Option Value) = some (Value.int .u8 3)); have xk1 := (blk_cell hj.at0 1).trans (rfl : (_ : Option Value) = some (Value.int .i64 (n1 : Int))); have xk2 := (blk_cell hj.at0 2).trans (rfl : (_ : Option Value) = some (Value.int .i64 (n2 : Int))); have xk3 := (blk_cell hj.at0 3).trans (rfl : (_ : Option Value) = some (Value.string f3)); have xk4 := (blk_cell hj.at0 4).trans (rfl : (_ : Option Value) = some (Value.int .i64 f4)); have xk5 := (blk_cell hj.at0 5).trans (rfl : (_ : Option Value) = some (Value.int .i64 f5)); have H1 := Aside0.mk h; have HJ1 := Aside0.mk hj; clear h hj hb)
    all_goals first | exact ⟨⟨_, rfl⟩, H1.out⟩ | exact ⟨⟨_, rfl⟩, HJ1.out⟩
set_option maxHeartbeats 8000000 in
set_option maxRecDepth 100000 in
theorem bytes4 (h : Own w0 w R) (k : Int) (n1 n2 : Nat) (hn1 : n1 ≤ 2147483647) (hn2 : n2 ≤ 2147483647) (f3 : ByteArray) (hs3 : f3.size ≤ 255) (f4 f5 : Int) (h40 : -(2^63) ≤ f4) (h41 : f4 < 2 ^ 63) (h50 : -(2^63) ≤ f5) (h51 : f5 < 2 ^ 63) (h1 : k ≠ 1) (h2' : k ≠ 2) (h3' : k ≠ 3) (T : ByteArray) (hT : strOfNums [(k : Int)] ++ strOfNums (numB n1) = T) :
    Calls Try.prog 22 #[.agg #[.int .u8 k, .int .i64 (n1 : Int), .int .i64 0, .string f3, .int .i64 f4, .int .i64 f5]] w fun e w' => e = .returned (.string T) ∧ Own w0 w' R := by
  have h2 := h.alloc (.cells #[.int .u8 k, .int .i64 (n1 : Int), .int .i64 0, .string f3, .int .i64 f4, .int .i64 f5] 33 (0, 0))
  have q1 : (k == 1) = false := beq_eq_false_iff_ne.2 h1
  have q2 : (k == 2) = false := beq_eq_false_iff_ne.2 h2'
  have q3 : (k == 3) = false := beq_eq_false_iff_ne.2 h3'
  clear h1 h2' h3'
  obtain ⟨S0, hS0⟩ : ∃ S, strOfNums [(k : Int)] = S := ⟨_, rfl⟩
  obtain ⟨S1, hS1⟩ : ∃ S, strOfNums (numB n1) = S := ⟨_, rfl⟩
  obtain ⟨S2, hS2⟩ : ∃ S, strOfNums (numB n2) = S := ⟨_, rfl⟩
  obtain ⟨S4, hS4⟩ : ∃ S, strOfNums (numB (zigN f4)) = S := ⟨_, rfl⟩
  obtain ⟨S5, hS5⟩ : ∃ S, strOfNums (numB (zigN f5)) = S := ⟨_, rfl⟩
  obtain ⟨S3, hS3⟩ : ∃ S, strOfNums (numB f3.size ++ bytesOf f3) = S := ⟨_, rfl⟩
  rw [hS0, hS1] at hT
  try rw [hS2] at hT
  try rw [hS3] at hT
  try rw [hS4] at hT
  try rw [hS5] at hT
  have z0 : S0.size = 1 := by rw [← hS0, size_strOf]; rfl
  have z1 : S1.size ≤ 10 := by rw [← hS1, size_strOf]; exact numB_len10 _ (by omega)
  have z2 : S2.size ≤ 10 := by rw [← hS2, size_strOf]; exact numB_len10 _ (by omega)
  have z4 : S4.size ≤ 10 := by rw [← hS4, size_strOf]; exact numB_len10 _ (zigN_lt f4 h40 h41)
  have z5 : S5.size ≤ 10 := by rw [← hS5, size_strOf]; exact numB_len10 _ (zigN_lt f5 h50 h51)
  have z3 : S3.size ≤ 265 := by rw [← hS3, size_strOf, List.length_append, bytesOf_length]; have := numB_len10 f3.size (by omega); omega
  have HS1 := Aside0.mk hS1
  have HS2 := Aside0.mk hS2
  have HS3 := Aside0.mk hS3
  have HS4 := Aside0.mk hS4
  have HS5 := Aside0.mk hS5
  have HT := Lib.hid hT
  have HN1 := Aside0.mk (show n1 < 2 ^ 64 by omega)
  have HN2 := Aside0.mk (show n2 < 2 ^ 64 by omega)
  have HL3 := Aside0.mk (show f3.size < 1000000 by omega)
  have HZ40 := Aside0.mk h40
  have HZ41 := Aside0.mk h41
  have HZ50 := Aside0.mk h50
  have HZ51 := Aside0.mk h51
  have HZ4 := Aside0.mk (zigN_lt f4 h40 h41)
  have HZ5 := Aside0.mk (zigN_lt f5 h50 h51)
  have wn1 : IntKind.u64.wrap (n1 : Int) = (n1 : Int) := wrapU n1 (by omega)
  have wn2 : IntKind.u64.wrap (n2 : Int) = (n2 : Int) := wrapU n2 (by omega)
  have sz0 : S0.size + S1.size ≤ 9223372036854775807 := by (try simp only [ByteArray.size_append]); omega
  clear hS1 hS2 hS3 hS4 hS5 hT h40 h41 h50 h51
  go_enter Try.func22, Try.ntmps22
  go_wp2
  obtain ⟨W, hW⟩ : ∃ W, W = w.alloc (.cells #[.int .u8 k, .int .i64 (n1 : Int), .int .i64 0, .string f3, .int .i64 f4, .int .i64 f5] 33 (0, 0)) := ⟨_, rfl⟩
  rw [← hW] at h2 ⊢
  obtain ⟨g, hg⟩ : ∃ g, w.heap.size = g := ⟨_, rfl⟩
  rw [hg] at h2 ⊢
  clear hW hg h
  have xa0 := (blk_cell h2.at0 0).trans (rfl : (_ : Option Value) = some (Value.int .u8 k)); have xa1 := (blk_cell h2.at0 1).trans (rfl : (_ : Option Value) = some (Value.int .i64 (n1 : Int))); have xa2 := (blk_cell h2.at0 2).trans (rfl : (_ : Option Value) = some (Value.int .i64 0)); have xa3 := (blk_cell h2.at0 3).trans (rfl : (_ : Option Value) = some (Value.string f3)); have xa4 := (blk_cell h2.at0 4).trans (rfl : (_ : Option Value) = some (Value.int .i64 f4)); have xa5 := (blk_cell h2.at0 5).trans (rfl : (_ : Option Value) = some (Value.int .i64 f5))
  have h3 := h2.junk (.cells #[.int .u8 k] 5 (0, 0))
  have xj0 := (blk_cell h3.at0 0).trans (rfl : (_ : Option Value) = some (Value.int .u8 k)); have xj1 := (blk_cell h3.at0 1).trans (rfl : (_ : Option Value) = some (Value.int .i64 (n1 : Int))); have xj2 := (blk_cell h3.at0 2).trans (rfl : (_ : Option Value) = some (Value.int .i64 0)); have xj3 := (blk_cell h3.at0 3).trans (rfl : (_ : Option Value) = some (Value.string f3)); have xj4 := (blk_cell h3.at0 4).trans (rfl : (_ : Option Value) = some (Value.int .i64 f4)); have xj5 := (blk_cell h3.at0 5).trans (rfl : (_ : Option Value) = some (Value.int .i64 f5))
  have hc0 : (convert 22 9 (.slice (some ⟨W.heap.size, 0, none⟩) 1 1)).run Try.prog (W.alloc (.cells #[.int .u8 k] 5)).drew = .ok (.string S0) (W.alloc (.cells #[.int .u8 k] 5)).drew := hS0 ▸ one_byte W.drew k
  have H := Aside0.mk h2
  have HJ := Aside0.mk h3
  clear h2 h3
  refine Code.wp_mono (Q := Qn (fun a' w' => (∃ u, a' = ⟨#[.agg #[.int .u8 k, .int .i64 (n1 : Int), .int .i64 0, .string f3, .int .i64 f4, .int .i64 f5], .pointer (some ⟨g, 0, none⟩), .string ⟨#[]⟩, .string (S0 ++ S1), undef, .pointer (some ⟨g, 0, none⟩), .int .u8 k, u, .string S0, .pointer (some ⟨g, 1, none⟩), .int .i64 (n1 : Int), .int .u64 (n1 : Int), .string S1, .string (S0 ++ S1), undef, undef, undef, undef, undef, undef, undef, undef, undef, undef, undef, undef, undef, undef, undef, undef, undef, undef, undef, undef, undef, undef, undef, undef, undef, undef, undef, undef, undef, undef, undef, undef, undef, undef, undef, undef, undef, undef, undef], []⟩) ∧ Own w0 w' (Blk g (.cells #[.int .u8 k, .int .i64 (n1 : Int), .int .i64 0, .string f3, .int .i64 f4, .int .i64 f5] 33 (0, 0)) :: R))) ?_ ?_
  · intro e a' w' hh
    cases e with
    | normal =>
      obtain ⟨⟨u, rfl⟩, h⟩ := hh
      clear xa0 xa1 xa2 xa3 xa4 xa5 xj0 xj1 xj2 xj3 xj4 xj5 hc0 H HJ
      have xn0 := (blk_cell h.at0 0).trans (rfl : (_ : Option Value) = some (Value.int .u8 k)); have xn1 := (blk_cell h.at0 1).trans (rfl : (_ : Option Value) = some (Value.int .i64 (n1 : Int))); have xn2 := (blk_cell h.at0 2).trans (rfl : (_ : Option Value) = some (Value.int .i64 0)); have xn3 := (blk_cell h.at0 3).trans (rfl : (_ : Option Value) = some (Value.string f3)); have xn4 := (blk_cell h.at0 4).trans (rfl : (_ : Option Value) = some (Value.int .i64 f4)); have xn5 := (blk_cell h.at0 5).trans (rfl : (_ : Option Value) = some (Value.int .i64 f5))
      have H1 := Aside0.mk h
      clear h
      go_wp2_with (first
        | (go_at_call 49; (with_reducible refine (refZig_calls f4 HZ40.out HZ41.out _).mono ?_); rintro e wz ⟨rfl, rfl⟩)
        | (go_at_call 48; (with_reducible refine (refNumO H1.out (zigN f4) HZ4.out S4 HS4.out).mono ?_); rintro e w3 ⟨rfl, h⟩; have yc0 := (blk_cell h.at0 0).trans (rfl : (_ : Option Value) = some (Value.int .u8 k)); have yc1 := (blk_cell h.at0 1).trans (rfl : (_ : Option Value) = some (Value.int .i64 (n1 : Int))); have yc2 := (blk_cell h.at0 2).trans (rfl : (_ : Option Value) = some (Value.int .i64 0)); have yc3 := (blk_cell h.at0 3).trans (rfl : (_ : Option Value) = some (Value.string f3)); have yc4 := (blk_cell h.at0 4).trans (rfl : (_ : Option Value) = some (Value.int .i64 f4)); have yc5 := (blk_cell h.at0 5).trans (rfl : (_ : Option Value) = some (Value.int .i64 f5)); have H3 := Aside0.mk h; clear h xn0 xn1 xn2 xn3 xn4 xn5 H1))
      go_ret
      exact ⟨by rw [← HT.out]; rfl, H3.out.tail⟩
    | _ => exact hh.elim
  · go_region_with (go_at_call 48; (with_reducible refine (refNum_calls n1 _ rfl _ HN1.out).mono ?_); rintro e w1 ⟨rfl, hb⟩; rw [HS1.out]; have hc2 := one_byte w1 k; rw [hS0] at hc2; (try (have hc3 := one_byte2 W k w1 hb; rw [hS0] at hc3)); (first | (have h := H.out.drew.below hb) | (have h := HJ.out.drew.below hb)); have xb0 := (blk_cell h.at0 0).trans (rfl : (_ : Option Value) = some (Value.int .u8 k)); have xb1 := (blk_cell h.at0 1).trans (rfl : (_ : Option Value) = some (Value.int .i64 (n1 : Int))); have xb2 := (blk_cell h.at0 2).trans (rfl : (_ : Option Value) = some (Value.int .i64 0)); have xb3 := (blk_cell h.at0 3).trans (rfl : (_ : Option Value) = some (Value.string f3)); have xb4 := (blk_cell h.at0 4).trans (rfl : (_ : Option Value) = some (Value.int .i64 f4)); have xb5 := (blk_cell h.at0 5).trans (rfl : (_ : Option Value) = some (Value.int .i64 f5)); have hj := h.junk (.cells #[.int .u8 k] 5 (0, 0)); have xk0 := (blk_cell hj.at0 0).trans (rfl : (_ : Option Value) = some (Value.int .u8 k)); have xk1 := (blk_cell hj.at0 1).trans (rfl : (_ : Option Value) = some (Value.int .i64 (n1 : Int))); have xk2 := (blk_cell hj.at0 2).trans (rfl : (_ : Option Value) = some (Value.int .i64 0)); have xk3 := (blk_cell hj.at0 3).trans (rfl : (_ : Option Value) = some (Value.string f3)); have xk4 := (blk_cell hj.at0 4).trans (rfl : (_ : Option Value) = some (Value.int .i64 f4)); have xk5 := (blk_cell hj.at0 5).trans (rfl : (_ : Option Value) = some (Value.int .i64 f5)); have H1 := Aside0.mk h; have HJ1 := Aside0.mk hj; clear h hj hb)
    all_goals first | exact ⟨⟨_, rfl⟩, H1.out⟩ | exact ⟨⟨_, rfl⟩, HJ1.out⟩
end
end Go.Proofs.Ytapkoiaeghjpdaa.PScriptWrites
