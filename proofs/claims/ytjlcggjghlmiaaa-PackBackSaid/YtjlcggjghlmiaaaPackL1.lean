/- The laws' own helpers over writers and readers of bytes. -/
import Derived.Test.YtjlcggjghlmiaaaPack4
namespace Go.Proofs.Ytjlcggjghlmiaaa.PPackWrites
open Go.RowKit Go.Proofs.YtjlcggjghlmiaaaW.PrintWords Go.Proofs.YtjlcggjghlmiaaaW.PrintLast Go.Proofs.YtjlcggjghlmiaaaW.PrintMore
open Go.Proofs.YtjlcggjghlmiaaaO
attribute [local go_sem] max2_int min2_int max_two min_two max_three min_three max_four min_four
set_option linter.unusedVariables false
set_option linter.unusedSimpArgs false
theorem textR_read (s : ByteArray) (at_ : Nat) (t : ByteArray) (R : List Int) (most : Int) (ht : t.size < 1000000) (hm : (t.size : Int) ≤ most) (hs : s.size ≤ 1000000) (h : (bytesOf s).drop at_ = numB t.size ++ (bytesOf t ++ R)) : textR s at_ most = (t, 0, ((at_ + (numB t.size).length + t.size : Nat) : Int)) := by
  have hp := numP_read s at_ t.size _ (by omega) h
  have hl : ((bytesOf s).drop at_).length = (numB t.size).length + (t.size + R.length) := by rw [h]; simp [bytesOf_length]
  rw [List.length_drop, bytesOf_length] at hl
  have hm2 : mostR s at_ most = ((t.size : Int), 0, ((at_ + (numB t.size).length : Nat) : Int)) := by
    unfold mostR
    rw [hp]
    rw [if_neg (by simp only; omega)]
  have hpos := numB_pos t.size
  unfold textR
  rw [hm2]
  simp only
  rw [if_neg (by simp), if_neg (by omega)]
  rw [Int.toNat_natCast, Int.toNat_natCast]
  refine Prod.ext (bytesOf_inj ?_) (Prod.ext rfl (by simp only; omega))
  rw [bytesOf_extract, List.drop_take, show at_ + (numB t.size).length + t.size - (at_ + (numB t.size).length) = t.size by omega, ← List.drop_drop, h, List.drop_left, List.take_left' (bytesOf_length t)]
theorem rdNum_read (s : ByteArray) (at_ n : Nat) (R : List Int) (hn : n < 2 ^ 64) (h : (bytesOf s).drop at_ = numB n ++ R) : rdNum s at_ 0 = ((n : Int), ((at_ + (numB n).length : Nat) : Int), 0) := by
  unfold rdNum
  rw [if_neg (by simp), Int.toNat_natCast, numP_read s at_ n R hn h]
  rfl
theorem rdText_read (s : ByteArray) (at_ : Nat) (t : ByteArray) (R : List Int) (most : Int) (ht : t.size < 1000000) (hm : (t.size : Int) ≤ most) (hs : s.size ≤ 1000000) (h : (bytesOf s).drop at_ = numB t.size ++ (bytesOf t ++ R)) : rdText s at_ 0 most = (t, ((at_ + (numB t.size).length + t.size : Nat) : Int), 0) := by
  unfold rdText
  rw [if_neg (by simp), Int.toNat_natCast, textR_read s at_ t R most ht hm hs h]
  rfl
theorem numB_lt (n : Nat) (h : n < 128) : numB n = [(n : Int)] := by rw [numB, if_pos h]
theorem numB_ge (n : Nat) (h : ¬ n < 128) : numB n = ((n % 128 + 128 : Nat) : Int) :: numB (n / 128) := by rw [numB, if_neg h]
theorem n300 : numB 300 = [172, 2] := by rw [numB_ge 300 (by omega), numB_lt (300 / 128) (by omega)]; rfl
theorem n2 : numB 2 = [2] := numB_lt 2 (by omega)
theorem aw_bytes : [] ++ numB 300 ++ (numB 2 ++ bytesOf ⟨#[97, 98]⟩) = [172, 2, 2, 97, 98] := by
  rw [n300, n2]
  rfl
theorem aw_num : rdNum (strOfNums [172, 2, 2, 97, 98]) 0 0 = (300, 2, 0) := by
  have := rdNum_read (strOfNums [172, 2, 2, 97, 98]) 0 300 [2, 97, 98] (by omega) (by rw [n300]; rfl)
  rw [n300] at this
  exact this
theorem aw_text : rdText (strOfNums [172, 2, 2, 97, 98]) 2 0 9 = (⟨#[97, 98]⟩, 5, 0) := by
  have := rdText_read (strOfNums [172, 2, 2, 97, 98]) 2 ⟨#[97, 98]⟩ [] 9 (by decide) (by decide) (by decide) (by show _ = numB 2 ++ _; rw [n2]; rfl)
  rw [show (⟨#[97, 98]⟩ : ByteArray).size = 2 from rfl, n2] at this
  exact this
set_option maxHeartbeats 4000000 in
set_option maxRecDepth 100000 in
theorem awake_calls (w : World) : Calls Try.prog 9 #[] w fun e w' => e = .returned (.bool true) ∧ Below w.heap.size w w' := by
  have f1 : (strOfNums [172, 2, 2, 97, 98]).toList = [172, 2, 2, 97, 98] := ba_toList _
  have H0 := Aside0.mk (out_new ((Own.nil w).alloc (.cells #[.slice none 0 0] 26 (0, 0))))
  go_enter Try.func9, Try.ntmps9
  go_wp2_with (first
    | (go_at_call 28; with_reducible refine (OutNum H0.out 300 300 rfl (by omega) (by simp)).mono ?_; rintro e w1 ⟨rfl, h⟩; have H1 := Aside0.mk h; clear h)
    | (go_at_call 11; with_reducible refine (OutText H1.out ⟨#[97, 98]⟩ (by decide) (by rw [n300]; simp)).mono ?_; rintro e w2 ⟨rfl, h⟩; rw [show (⟨#[97, 98]⟩ : ByteArray).size = 2 from rfl, aw_bytes] at h; have H2 := Aside0.mk h; clear h)
    | (go_at_call 14; with_reducible refine (OutString H2.out).mono ?_; rintro e w3 ⟨rfl, rfl⟩)
    | (go_at_call 18; with_reducible refine (InOf H2.out _).mono ?_; rintro e w4 ⟨g, rfl, h⟩; have H3 := Aside0.mk h; clear h)
    | (go_at_call 26; with_reducible refine (InNum H3.out (by omega) (by simp) (by decide) _ _ _ aw_num).mono ?_; rintro e w5 ⟨rfl, h⟩; have H4 := Aside0.mk h; clear h)
    | (go_at_call 23; with_reducible refine (InText H4.out (by omega) (by decide) (by decide) 9 (by omega) _ _ _ aw_text).mono ?_; rintro e w6 ⟨rfl, h⟩; have H5 := Aside0.mk h; clear h)
    | (go_at_call 14; with_reducible refine (OutString H5.out.tail).mono ?_; rintro e w7 ⟨rfl, rfl⟩)
    | (go_at_call 24; with_reducible refine (InEnd H5.out (by omega) (by decide) (by decide) 0 (by decide)).mono ?_; rintro e w8 ⟨rfl, h⟩; have H6 := Aside0.mk h; clear h))
  go_ret
  exact ⟨rfl, H6.out.bel⟩
/-- A number's text. -/
theorem num_calls (n : Nat) (x : Int) (hx : x = n) (hn : n < 2 ^ 64) (w : World) : Calls Try.prog 13 #[.int .u64 x] w fun e w' => e = .returned (.string (strOfNums (numB n))) ∧ Below w.heap.size w w' := by
  have H0 := Aside0.mk (out_new ((Own.nil w).alloc (.cells #[.slice none 0 0] 26 (0, 0))))
  have HX := Lib.hid hx
  clear hx
  go_enter Try.func13, Try.ntmps13
  go_wp2_with (first
    | (go_at_call 28; with_reducible refine (OutNum H0.out x n HX.out hn (by simp)).mono ?_; rintro e w1 ⟨rfl, h⟩; have H1 := Aside0.mk h; clear h)
    | (go_at_call 14; with_reducible refine (OutString H1.out).mono ?_; rintro e w3 ⟨rfl, rfl⟩))
  go_ret
  exact ⟨rfl, H1.out.bel⟩
/-- A part's bytes. -/
def partB (x : S38) : List Int := if x.f0 = 0 then numB x.f1.toNat else if x.f0 = 1 then numB (zigN x.f2) else if x.f0 = 2 then numB x.f3.size ++ bytesOf x.f3 else if x.f0 = 3 then [x.f4] else []
/-- What is right of a part: its numbers' ranges. -/
structure PartOk (x : S38) : Prop where
  k0 : -(2^63) ≤ x.f0
  k1 : x.f0 < 2^63
  n0 : 0 ≤ x.f1
  n1 : x.f1 < 2^64
  i0 : -(2^63) ≤ x.f2
  i1 : x.f2 < 2^63
  b0 : 0 ≤ x.f4
  b1 : x.f4 < 256
  m0 : -(2^63) ≤ x.f5
  m1 : x.f5 < 2^63
def partV (x : S38) : Value := .agg #[.int .i64 x.f0, .int .u64 x.f1, .int .i64 x.f2, .string x.f3, .int .u8 x.f4, .int .i64 x.f5]
set_option maxHeartbeats 4000000 in
set_option maxRecDepth 100000 in
theorem write_calls {w0 w : World} {L : List Asn} {g : Nat} {l : List Int} (h : Own w0 w (Out g l :: L)) (k n i : Int) (s : ByteArray) (b m : Int) (hx : PartOk ⟨k, n, i, s, b, m⟩) (hs : s.size < 1000000) (hl : l.length < 100000000000) :
    Calls Try.prog 16 #[.pointer (some ⟨g, 0, none⟩), .agg #[.int .i64 k, .int .u64 n, .int .i64 i, .string s, .int .u8 b, .int .i64 m]] w fun e w' => e = .returned (.tuple #[]) ∧ Own w0 w' (Out g (l ++ partB ⟨k, n, i, s, b, m⟩) :: L) := by
  obtain ⟨_, _, n0, n1, i0, i1, b0, b1, _, _⟩ := hx
  simp only at n0 n1 i0 i1 b0 b1
  by_cases k0 : k = 0
  · subst k0
    have H0 := Aside0.mk (h.junk (.cells #[.int .i64 0, .int .u64 n, .int .i64 i, .string s, .int .u8 b, .int .i64 m] 38 (0, 0)))
    clear h
    obtain ⟨n, rfl⟩ := Int.eq_ofNat_of_zero_le n0
    go_enter Try.func16, Try.ntmps16
    go_wp2_with (first
      | (go_at_call 28; with_reducible refine (OutNum H0.out (n : Int) n rfl (by omega) (by omega)).mono ?_; rintro e w1 ⟨rfl, h⟩; have H1 := Aside0.mk h; clear h))
    exact Go.Great.bodyPost_end0 (by kernel_rfl) rfl ⟨rfl, H1.out⟩
  by_cases k1 : k = 1
  · subst k1
    have H0 := Aside0.mk (h.junk (.cells #[.int .i64 1, .int .u64 n, .int .i64 i, .string s, .int .u8 b, .int .i64 m] 38 (0, 0)))
    clear h
    go_enter Try.func16, Try.ntmps16
    go_wp2_with (first
      | (go_at_call 10; with_reducible refine (OutInt H0.out i i0 i1 (by omega)).mono ?_; rintro e w1 ⟨rfl, h⟩; have H1 := Aside0.mk h; clear h))
    exact Go.Great.bodyPost_end0 (by kernel_rfl) rfl ⟨rfl, H1.out⟩
  by_cases k2 : k = 2
  · subst k2
    have H0 := Aside0.mk (h.junk (.cells #[.int .i64 2, .int .u64 n, .int .i64 i, .string s, .int .u8 b, .int .i64 m] 38 (0, 0)))
    clear h
    go_enter Try.func16, Try.ntmps16
    go_wp2_with (first
      | (go_at_call 11; with_reducible refine (OutText H0.out s hs (by omega)).mono ?_; rintro e w1 ⟨rfl, h⟩; have H1 := Aside0.mk h; clear h))
    exact Go.Great.bodyPost_end0 (by kernel_rfl) rfl ⟨rfl, H1.out⟩
  by_cases k3 : k = 3
  · subst k3
    have H0 := Aside0.mk (h.junk (.cells #[.int .i64 3, .int .u64 n, .int .i64 i, .string s, .int .u8 b, .int .i64 m] 38 (0, 0)))
    clear h
    go_enter Try.func16, Try.ntmps16
    go_wp2_with (first
      | (go_at_call 30; with_reducible refine (OutByte H0.out b (by omega)).mono ?_; rintro e w1 ⟨rfl, h⟩; have H1 := Aside0.mk h; clear h))
    exact Go.Great.bodyPost_end0 (by kernel_rfl) rfl ⟨rfl, H1.out⟩
  have P := Aside0.mk (show partB ⟨k, n, i, s, b, m⟩ = [] by unfold partB; rw [if_neg k0, if_neg k1, if_neg k2, if_neg k3])
  have H0 := Aside0.mk (h.junk (.cells #[.int .i64 k, .int .u64 n, .int .i64 i, .string s, .int .u8 b, .int .i64 m] 38 (0, 0)))
  clear h
  have e0 : (k == 0) = false := beq_eq_false_iff_ne.mpr k0
  have e1 : (k == 1) = false := beq_eq_false_iff_ne.mpr k1
  have e2 : (k == 2) = false := beq_eq_false_iff_ne.mpr k2
  have e3 : (k == 3) = false := beq_eq_false_iff_ne.mpr k3
  go_enter Try.func16, Try.ntmps16
  go_wp2
  exact Go.Great.bodyPost_end0 (by kernel_rfl) rfl ⟨rfl, by rw [P.out, List.append_nil]; exact H0.out⟩
set_option maxHeartbeats 4000000 in
set_option maxRecDepth 100000 in
theorem write_nil (w : World) (k n i : Int) (s : ByteArray) (b m : Int) :
    Calls Try.prog 16 #[.pointer none, .agg #[.int .i64 k, .int .u64 n, .int .i64 i, .string s, .int .u8 b, .int .i64 m]] w fun e w' => e = .returned (.tuple #[]) ∧ Below w.heap.size w w' := by
  have hb := below_alloc (Below.refl w.heap.size w) (.cells #[.int .i64 k, .int .u64 n, .int .i64 i, .string s, .int .u8 b, .int .i64 m] 38 (0, 0))
  have HB := Aside0.mk hb
  clear hb
  go_enter Try.func16, Try.ntmps16
  go_wp2_with (first
      | (go_at_call 28; with_reducible refine (onum_nil _ _).mono ?_; rintro e w1 ⟨rfl, rfl⟩)
      | (go_at_call 10; with_reducible refine (oint_nil _ _).mono ?_; rintro e w1 ⟨rfl, rfl⟩)
      | (go_at_call 11; with_reducible refine (otext_nil _ _).mono ?_; rintro e w1 ⟨rfl, rfl⟩)
      | (go_at_call 30; with_reducible refine (obyte_nil _ _).mono ?_; rintro e w1 ⟨rfl, rfl⟩))
  all_goals exact Go.Great.bodyPost_end0 (by kernel_rfl) rfl ⟨rfl, HB.out⟩
end Go.Proofs.Ytjlcggjghlmiaaa.PPackWrites
