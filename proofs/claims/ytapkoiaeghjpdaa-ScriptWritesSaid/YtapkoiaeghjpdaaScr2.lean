/- Acts as bytes (package script): what write hands back, by kinds. -/
import Derived.Test.YtapkoiaeghjpdaaScr1
namespace Go.Proofs.Ytapkoiaeghjpdaa.PScriptWrites
open Go.RowKit Go.Proofs.YtapkoiaeghjpdaaW.PrintWords Go.Proofs.YtapkoiaeghjpdaaW.PrintLast Go.Proofs.YtapkoiaeghjpdaaW.PrintMore
open Go.Proofs.YtapkoiaeghjpdaaO
attribute [local go_sem] max2_int min2_int max_two min_two max_three min_three max_four min_four
set_option linter.unusedVariables false
set_option linter.unusedSimpArgs false
attribute [local go_sem high] eqA33
section
variable {w0 w w' : World} {R : List Asn}
set_option maxHeartbeats 4000000 in
set_option maxRecDepth 100000 in
theorem write1 (h : Own w0 w R) (f1 f2 f4 f5 : Int) (f3 : ByteArray) (hx4 : -(2^63) ≤ f4 ∧ f4 < 2 ^ 63) (hx5 : -(2^63) ≤ f5 ∧ f5 < 2 ^ 63) (hs : f3.size < 1000000) (lr : List Int) (br : Bool) (hlr : lr = ((((([] ++ [1]) ++ numB (uN f1)) ++ (numB f3.size ++ bytesOf f3)) ++ numB (zigN f4)) ++ numB (zigN f5))) (hbr : br = (((true && numOk f1) && textOk f3) && ((f2 == 0)))) :
    Calls Try.prog 21 #[.agg #[(.int .u8 1), .int .i64 f1, .int .i64 f2, .string f3, .int .i64 f4, .int .i64 f5]] w fun e w' => e = .returned (.tuple #[.string (strOfNums lr), .bool br]) ∧ Own w0 w' R := by
  have HLR := Lib.hid hlr
  have HBR := Lib.hid hbr
  clear hlr hbr
  have h0 := (((h.alloc (.cells #[(.int .u8 1), .int .i64 f1, .int .i64 f2, .string f3, .int .i64 f4, .int .i64 f5] 33 (0, 0))).alloc (.cells #[.slice none 0 0] 72 (0, 0))).alloc (.cells #[.bool true] 4 (0, 0))).alloc (.cells #[(.int .u8 1), .int .i64 f1, .int .i64 f2, .string f3, .int .i64 f4, .int .i64 f5] 33 (0, 0))
  simp only [alloc_size] at h0
  have H0 := Aside0.mk (out_new h0.r2)
  have HX4 := Aside0.mk hx4
  have HX5 := Aside0.mk hx5
  have HS := Aside0.mk hs
  clear h h0 hx4 hx5 hs
  obtain ⟨ok, hok⟩ : ∃ b, ((true && numOk f1) && textOk f3) = b := ⟨_, rfl⟩
  have HOK := Lib.hid hok
  clear hok
  go_enter Try.func21, Try.ntmps21
  cases ok with
  | true =>
    go_wp2_with (first
      | (go_at_call 40; (with_reducible refine (OutByte (l := []) H0.out 1 (by simp)).mono ?_); rintro e w1 ⟨rfl, h⟩; have H1 := Aside0.mk h.r2; clear h)
      | (go_at_call 26; (with_reducible refine (wfields1 H1.out.r2 HX4.out HX5.out HS.out (by simp)).mono ?_); rintro e w3 ⟨rfl, h⟩; rw [HOK.out] at h; have z2 := (blk_cell h.at1 0).trans rfl; have f2' := blk_frozen h.at1 0; have H3 := Aside0.mk h; clear h)
      | (go_at_call 47; (with_reducible refine (OutString ((H3.out.r1.set 0 (.bool true)).r2)).mono ?_); rintro e w7 ⟨rfl, rfl⟩))
    have H5 := Aside0.mk ((H3.out.r1.set 0 (.bool true)).r2)
    have h5 := H5.out
    have y2 := (blk_cell h5.at1 0).trans rfl
    have yr0 := (blk_cell h5.at2 0).trans rfl
    have yr1 := (blk_cell h5.at2 1).trans rfl
    have yr2 := (blk_cell h5.at2 2).trans rfl
    have yr3 := (blk_cell h5.at2 3).trans rfl
    have yr4 := (blk_cell h5.at2 4).trans rfl
    have yr5 := (blk_cell h5.at2 5).trans rfl
    have ya0 := (blk_cell h5.at3 0).trans rfl
    clear h5
    go_quiet ((refine (OutString (H5.out.drewN _)).mono ?_; rintro e w8 ⟨rfl, rfl⟩; exact ⟨rfl, _, rfl⟩))
    go_wp2
    go_ret2
    exact ⟨by rw [HLR.out, HBR.out, HOK.out]; first | rfl | simp, (H5.out.drewN _).tail.tail.tail.tail⟩
  | false =>
    go_wp2_with (first
      | (go_at_call 40; (with_reducible refine (OutByte (l := []) H0.out 1 (by simp)).mono ?_); rintro e w1 ⟨rfl, h⟩; have H1 := Aside0.mk h.r2; clear h)
      | (go_at_call 26; (with_reducible refine (wfields1 H1.out.r2 HX4.out HX5.out HS.out (by simp)).mono ?_); rintro e w3 ⟨rfl, h⟩; rw [HOK.out] at h; have z2 := (blk_cell h.at1 0).trans rfl; have f2' := blk_frozen h.at1 0; have H3 := Aside0.mk h; clear h)
      | (go_at_call 47; (with_reducible refine (OutString ((H3.out.r1.set 0 (.bool false)).r2)).mono ?_); rintro e w7 ⟨rfl, rfl⟩))
    have H5 := Aside0.mk ((H3.out.r1.set 0 (.bool false)).r2)
    have h5 := H5.out
    have y2 := (blk_cell h5.at1 0).trans rfl
    have yr0 := (blk_cell h5.at2 0).trans rfl
    have yr1 := (blk_cell h5.at2 1).trans rfl
    have yr2 := (blk_cell h5.at2 2).trans rfl
    have yr3 := (blk_cell h5.at2 3).trans rfl
    have yr4 := (blk_cell h5.at2 4).trans rfl
    have yr5 := (blk_cell h5.at2 5).trans rfl
    have ya0 := (blk_cell h5.at3 0).trans rfl
    clear h5
    go_quiet ((refine (OutString (H5.out.drewN _)).mono ?_; rintro e w8 ⟨rfl, rfl⟩; exact ⟨rfl, _, rfl⟩))
    go_wp2
    go_ret2
    exact ⟨by rw [HLR.out, HBR.out, HOK.out]; first | rfl | simp, (H5.out.drewN _).tail.tail.tail.tail⟩
set_option maxHeartbeats 4000000 in
set_option maxRecDepth 100000 in
theorem write2 (h : Own w0 w R) (f1 f2 f4 f5 : Int) (f3 : ByteArray) (hx4 : -(2^63) ≤ f4 ∧ f4 < 2 ^ 63) (hx5 : -(2^63) ≤ f5 ∧ f5 < 2 ^ 63) (hs : f3.size < 1000000) (lr : List Int) (br : Bool) (hlr : lr = (((([] ++ [2]) ++ numB (uN f1)) ++ numB (uN f2)) ++ numB (zigN f4))) (hbr : br = (((true && numOk f1) && numOk f2) && ((f3.toList == []) && ((f5 == 0))))) :
    Calls Try.prog 21 #[.agg #[(.int .u8 2), .int .i64 f1, .int .i64 f2, .string f3, .int .i64 f4, .int .i64 f5]] w fun e w' => e = .returned (.tuple #[.string (strOfNums lr), .bool br]) ∧ Own w0 w' R := by
  have HLR := Lib.hid hlr
  have HBR := Lib.hid hbr
  clear hlr hbr
  have h0 := (((h.alloc (.cells #[(.int .u8 2), .int .i64 f1, .int .i64 f2, .string f3, .int .i64 f4, .int .i64 f5] 33 (0, 0))).alloc (.cells #[.slice none 0 0] 72 (0, 0))).alloc (.cells #[.bool true] 4 (0, 0))).alloc (.cells #[(.int .u8 2), .int .i64 f1, .int .i64 f2, .string f3, .int .i64 f4, .int .i64 f5] 33 (0, 0))
  simp only [alloc_size] at h0
  have H0 := Aside0.mk (out_new h0.r2)
  have HX4 := Aside0.mk hx4
  have HX5 := Aside0.mk hx5
  have HS := Aside0.mk hs
  clear h h0 hx4 hx5 hs
  obtain ⟨ok, hok⟩ : ∃ b, ((true && numOk f1) && numOk f2) = b := ⟨_, rfl⟩
  have HOK := Lib.hid hok
  clear hok
  go_enter Try.func21, Try.ntmps21
  cases ok with
  | true =>
    go_wp2_with (first
      | (go_at_call 40; (with_reducible refine (OutByte (l := []) H0.out 2 (by simp)).mono ?_); rintro e w1 ⟨rfl, h⟩; have H1 := Aside0.mk h.r2; clear h)
      | (go_at_call 26; (with_reducible refine (wfields2 H1.out.r2 HX4.out HX5.out HS.out (by simp)).mono ?_); rintro e w3 ⟨rfl, h⟩; rw [HOK.out] at h; have z2 := (blk_cell h.at1 0).trans rfl; have f2' := blk_frozen h.at1 0; have H3 := Aside0.mk h; clear h)
      | (go_at_call 47; (with_reducible refine (OutString ((H3.out.r1.set 0 (.bool true)).r2)).mono ?_); rintro e w7 ⟨rfl, rfl⟩))
    have H5 := Aside0.mk ((H3.out.r1.set 0 (.bool true)).r2)
    have h5 := H5.out
    have y2 := (blk_cell h5.at1 0).trans rfl
    have yr0 := (blk_cell h5.at2 0).trans rfl
    have yr1 := (blk_cell h5.at2 1).trans rfl
    have yr2 := (blk_cell h5.at2 2).trans rfl
    have yr3 := (blk_cell h5.at2 3).trans rfl
    have yr4 := (blk_cell h5.at2 4).trans rfl
    have yr5 := (blk_cell h5.at2 5).trans rfl
    have ya0 := (blk_cell h5.at3 0).trans rfl
    clear h5
    go_quiet ((refine (OutString (H5.out.drewN _)).mono ?_; rintro e w8 ⟨rfl, rfl⟩; exact ⟨rfl, _, rfl⟩))
    go_wp2
    go_ret2
    exact ⟨by rw [HLR.out, HBR.out, HOK.out]; first | rfl | simp, (H5.out.drewN _).tail.tail.tail.tail⟩
  | false =>
    go_wp2_with (first
      | (go_at_call 40; (with_reducible refine (OutByte (l := []) H0.out 2 (by simp)).mono ?_); rintro e w1 ⟨rfl, h⟩; have H1 := Aside0.mk h.r2; clear h)
      | (go_at_call 26; (with_reducible refine (wfields2 H1.out.r2 HX4.out HX5.out HS.out (by simp)).mono ?_); rintro e w3 ⟨rfl, h⟩; rw [HOK.out] at h; have z2 := (blk_cell h.at1 0).trans rfl; have f2' := blk_frozen h.at1 0; have H3 := Aside0.mk h; clear h)
      | (go_at_call 47; (with_reducible refine (OutString ((H3.out.r1.set 0 (.bool false)).r2)).mono ?_); rintro e w7 ⟨rfl, rfl⟩))
    have H5 := Aside0.mk ((H3.out.r1.set 0 (.bool false)).r2)
    have h5 := H5.out
    have y2 := (blk_cell h5.at1 0).trans rfl
    have yr0 := (blk_cell h5.at2 0).trans rfl
    have yr1 := (blk_cell h5.at2 1).trans rfl
    have yr2 := (blk_cell h5.at2 2).trans rfl
    have yr3 := (blk_cell h5.at2 3).trans rfl
    have yr4 := (blk_cell h5.at2 4).trans rfl
    have yr5 := (blk_cell h5.at2 5).trans rfl
    have ya0 := (blk_cell h5.at3 0).trans rfl
    clear h5
    go_quiet ((refine (OutString (H5.out.drewN _)).mono ?_; rintro e w8 ⟨rfl, rfl⟩; exact ⟨rfl, _, rfl⟩))
    go_wp2
    go_ret2
    exact ⟨by rw [HLR.out, HBR.out, HOK.out]; first | rfl | simp, (H5.out.drewN _).tail.tail.tail.tail⟩
set_option maxHeartbeats 4000000 in
set_option maxRecDepth 100000 in
theorem write3 (h : Own w0 w R) (f1 f2 f4 f5 : Int) (f3 : ByteArray) (hx4 : -(2^63) ≤ f4 ∧ f4 < 2 ^ 63) (hx5 : -(2^63) ≤ f5 ∧ f5 < 2 ^ 63) (hs : f3.size < 1000000) (lr : List Int) (br : Bool) (hlr : lr = ((([] ++ [3]) ++ numB (uN f1)) ++ numB (uN f2))) (hbr : br = (((true && numOk f1) && numOk f2) && ((f3.toList == []) && ((f4 == 0) && ((f5 == 0)))))) :
    Calls Try.prog 21 #[.agg #[(.int .u8 3), .int .i64 f1, .int .i64 f2, .string f3, .int .i64 f4, .int .i64 f5]] w fun e w' => e = .returned (.tuple #[.string (strOfNums lr), .bool br]) ∧ Own w0 w' R := by
  have HLR := Lib.hid hlr
  have HBR := Lib.hid hbr
  clear hlr hbr
  have h0 := (((h.alloc (.cells #[(.int .u8 3), .int .i64 f1, .int .i64 f2, .string f3, .int .i64 f4, .int .i64 f5] 33 (0, 0))).alloc (.cells #[.slice none 0 0] 72 (0, 0))).alloc (.cells #[.bool true] 4 (0, 0))).alloc (.cells #[(.int .u8 3), .int .i64 f1, .int .i64 f2, .string f3, .int .i64 f4, .int .i64 f5] 33 (0, 0))
  simp only [alloc_size] at h0
  have H0 := Aside0.mk (out_new h0.r2)
  have HX4 := Aside0.mk hx4
  have HX5 := Aside0.mk hx5
  have HS := Aside0.mk hs
  clear h h0 hx4 hx5 hs
  obtain ⟨ok, hok⟩ : ∃ b, ((true && numOk f1) && numOk f2) = b := ⟨_, rfl⟩
  have HOK := Lib.hid hok
  clear hok
  go_enter Try.func21, Try.ntmps21
  cases ok with
  | true =>
    go_wp2_with (first
      | (go_at_call 40; (with_reducible refine (OutByte (l := []) H0.out 3 (by simp)).mono ?_); rintro e w1 ⟨rfl, h⟩; have H1 := Aside0.mk h.r2; clear h)
      | (go_at_call 26; (with_reducible refine (wfields3 H1.out.r2 HX4.out HX5.out HS.out (by simp)).mono ?_); rintro e w3 ⟨rfl, h⟩; rw [HOK.out] at h; have z2 := (blk_cell h.at1 0).trans rfl; have f2' := blk_frozen h.at1 0; have H3 := Aside0.mk h; clear h)
      | (go_at_call 47; (with_reducible refine (OutString ((H3.out.r1.set 0 (.bool true)).r2)).mono ?_); rintro e w7 ⟨rfl, rfl⟩))
    have H5 := Aside0.mk ((H3.out.r1.set 0 (.bool true)).r2)
    have h5 := H5.out
    have y2 := (blk_cell h5.at1 0).trans rfl
    have yr0 := (blk_cell h5.at2 0).trans rfl
    have yr1 := (blk_cell h5.at2 1).trans rfl
    have yr2 := (blk_cell h5.at2 2).trans rfl
    have yr3 := (blk_cell h5.at2 3).trans rfl
    have yr4 := (blk_cell h5.at2 4).trans rfl
    have yr5 := (blk_cell h5.at2 5).trans rfl
    have ya0 := (blk_cell h5.at3 0).trans rfl
    clear h5
    go_quiet ((refine (OutString (H5.out.drewN _)).mono ?_; rintro e w8 ⟨rfl, rfl⟩; exact ⟨rfl, _, rfl⟩))
    go_wp2
    go_ret2
    exact ⟨by rw [HLR.out, HBR.out, HOK.out]; first | rfl | simp, (H5.out.drewN _).tail.tail.tail.tail⟩
  | false =>
    go_wp2_with (first
      | (go_at_call 40; (with_reducible refine (OutByte (l := []) H0.out 3 (by simp)).mono ?_); rintro e w1 ⟨rfl, h⟩; have H1 := Aside0.mk h.r2; clear h)
      | (go_at_call 26; (with_reducible refine (wfields3 H1.out.r2 HX4.out HX5.out HS.out (by simp)).mono ?_); rintro e w3 ⟨rfl, h⟩; rw [HOK.out] at h; have z2 := (blk_cell h.at1 0).trans rfl; have f2' := blk_frozen h.at1 0; have H3 := Aside0.mk h; clear h)
      | (go_at_call 47; (with_reducible refine (OutString ((H3.out.r1.set 0 (.bool false)).r2)).mono ?_); rintro e w7 ⟨rfl, rfl⟩))
    have H5 := Aside0.mk ((H3.out.r1.set 0 (.bool false)).r2)
    have h5 := H5.out
    have y2 := (blk_cell h5.at1 0).trans rfl
    have yr0 := (blk_cell h5.at2 0).trans rfl
    have yr1 := (blk_cell h5.at2 1).trans rfl
    have yr2 := (blk_cell h5.at2 2).trans rfl
    have yr3 := (blk_cell h5.at2 3).trans rfl
    have yr4 := (blk_cell h5.at2 4).trans rfl
    have yr5 := (blk_cell h5.at2 5).trans rfl
    have ya0 := (blk_cell h5.at3 0).trans rfl
    clear h5
    go_quiet ((refine (OutString (H5.out.drewN _)).mono ?_; rintro e w8 ⟨rfl, rfl⟩; exact ⟨rfl, _, rfl⟩))
    go_wp2
    go_ret2
    exact ⟨by rw [HLR.out, HBR.out, HOK.out]; first | rfl | simp, (H5.out.drewN _).tail.tail.tail.tail⟩
set_option maxHeartbeats 4000000 in
set_option maxRecDepth 100000 in
theorem write4 (h : Own w0 w R) (f1 f2 f4 f5 : Int) (f3 : ByteArray) (hx4 : -(2^63) ≤ f4 ∧ f4 < 2 ^ 63) (hx5 : -(2^63) ≤ f5 ∧ f5 < 2 ^ 63) (hs : f3.size < 1000000) (lr : List Int) (br : Bool) (hlr : lr = (([] ++ [4]) ++ numB (uN f1))) (hbr : br = ((true && numOk f1) && ((f2 == 0) && ((f3.toList == []) && ((f4 == 0) && ((f5 == 0))))))) :
    Calls Try.prog 21 #[.agg #[(.int .u8 4), .int .i64 f1, .int .i64 f2, .string f3, .int .i64 f4, .int .i64 f5]] w fun e w' => e = .returned (.tuple #[.string (strOfNums lr), .bool br]) ∧ Own w0 w' R := by
  have HLR := Lib.hid hlr
  have HBR := Lib.hid hbr
  clear hlr hbr
  have h0 := (((h.alloc (.cells #[(.int .u8 4), .int .i64 f1, .int .i64 f2, .string f3, .int .i64 f4, .int .i64 f5] 33 (0, 0))).alloc (.cells #[.slice none 0 0] 72 (0, 0))).alloc (.cells #[.bool true] 4 (0, 0))).alloc (.cells #[(.int .u8 4), .int .i64 f1, .int .i64 f2, .string f3, .int .i64 f4, .int .i64 f5] 33 (0, 0))
  simp only [alloc_size] at h0
  have H0 := Aside0.mk (out_new h0.r2)
  have HX4 := Aside0.mk hx4
  have HX5 := Aside0.mk hx5
  have HS := Aside0.mk hs
  clear h h0 hx4 hx5 hs
  obtain ⟨ok, hok⟩ : ∃ b, (true && numOk f1) = b := ⟨_, rfl⟩
  have HOK := Lib.hid hok
  clear hok
  go_enter Try.func21, Try.ntmps21
  cases ok with
  | true =>
    go_wp2_with (first
      | (go_at_call 40; (with_reducible refine (OutByte (l := []) H0.out 4 (by simp)).mono ?_); rintro e w1 ⟨rfl, h⟩; have H1 := Aside0.mk h.r2; clear h)
      | (go_at_call 26; (with_reducible refine (wfields4 H1.out.r2 HX4.out HX5.out HS.out (by simp)).mono ?_); rintro e w3 ⟨rfl, h⟩; rw [HOK.out] at h; have z2 := (blk_cell h.at1 0).trans rfl; have f2' := blk_frozen h.at1 0; have H3 := Aside0.mk h; clear h)
      | (go_at_call 47; (with_reducible refine (OutString ((H3.out.r1.set 0 (.bool true)).r2)).mono ?_); rintro e w7 ⟨rfl, rfl⟩))
    have H5 := Aside0.mk ((H3.out.r1.set 0 (.bool true)).r2)
    have h5 := H5.out
    have y2 := (blk_cell h5.at1 0).trans rfl
    have yr0 := (blk_cell h5.at2 0).trans rfl
    have yr1 := (blk_cell h5.at2 1).trans rfl
    have yr2 := (blk_cell h5.at2 2).trans rfl
    have yr3 := (blk_cell h5.at2 3).trans rfl
    have yr4 := (blk_cell h5.at2 4).trans rfl
    have yr5 := (blk_cell h5.at2 5).trans rfl
    have ya0 := (blk_cell h5.at3 0).trans rfl
    clear h5
    go_quiet ((refine (OutString (H5.out.drewN _)).mono ?_; rintro e w8 ⟨rfl, rfl⟩; exact ⟨rfl, _, rfl⟩))
    go_wp2
    go_ret2
    exact ⟨by rw [HLR.out, HBR.out, HOK.out]; first | rfl | simp, (H5.out.drewN _).tail.tail.tail.tail⟩
  | false =>
    go_wp2_with (first
      | (go_at_call 40; (with_reducible refine (OutByte (l := []) H0.out 4 (by simp)).mono ?_); rintro e w1 ⟨rfl, h⟩; have H1 := Aside0.mk h.r2; clear h)
      | (go_at_call 26; (with_reducible refine (wfields4 H1.out.r2 HX4.out HX5.out HS.out (by simp)).mono ?_); rintro e w3 ⟨rfl, h⟩; rw [HOK.out] at h; have z2 := (blk_cell h.at1 0).trans rfl; have f2' := blk_frozen h.at1 0; have H3 := Aside0.mk h; clear h)
      | (go_at_call 47; (with_reducible refine (OutString ((H3.out.r1.set 0 (.bool false)).r2)).mono ?_); rintro e w7 ⟨rfl, rfl⟩))
    have H5 := Aside0.mk ((H3.out.r1.set 0 (.bool false)).r2)
    have h5 := H5.out
    have y2 := (blk_cell h5.at1 0).trans rfl
    have yr0 := (blk_cell h5.at2 0).trans rfl
    have yr1 := (blk_cell h5.at2 1).trans rfl
    have yr2 := (blk_cell h5.at2 2).trans rfl
    have yr3 := (blk_cell h5.at2 3).trans rfl
    have yr4 := (blk_cell h5.at2 4).trans rfl
    have yr5 := (blk_cell h5.at2 5).trans rfl
    have ya0 := (blk_cell h5.at3 0).trans rfl
    clear h5
    go_quiet ((refine (OutString (H5.out.drewN _)).mono ?_; rintro e w8 ⟨rfl, rfl⟩; exact ⟨rfl, _, rfl⟩))
    go_wp2
    go_ret2
    exact ⟨by rw [HLR.out, HBR.out, HOK.out]; first | rfl | simp, (H5.out.drewN _).tail.tail.tail.tail⟩
set_option maxHeartbeats 4000000 in
set_option maxRecDepth 100000 in
theorem write5 (h : Own w0 w R) (f1 f2 f4 f5 : Int) (f3 : ByteArray) (hx4 : -(2^63) ≤ f4 ∧ f4 < 2 ^ 63) (hx5 : -(2^63) ≤ f5 ∧ f5 < 2 ^ 63) (hs : f3.size < 1000000) (lr : List Int) (br : Bool) (hlr : lr = (([] ++ [5]) ++ numB (uN f1))) (hbr : br = ((true && numOk f1) && ((f2 == 0) && ((f3.toList == []) && ((f4 == 0) && ((f5 == 0))))))) :
    Calls Try.prog 21 #[.agg #[(.int .u8 5), .int .i64 f1, .int .i64 f2, .string f3, .int .i64 f4, .int .i64 f5]] w fun e w' => e = .returned (.tuple #[.string (strOfNums lr), .bool br]) ∧ Own w0 w' R := by
  have HLR := Lib.hid hlr
  have HBR := Lib.hid hbr
  clear hlr hbr
  have h0 := (((h.alloc (.cells #[(.int .u8 5), .int .i64 f1, .int .i64 f2, .string f3, .int .i64 f4, .int .i64 f5] 33 (0, 0))).alloc (.cells #[.slice none 0 0] 72 (0, 0))).alloc (.cells #[.bool true] 4 (0, 0))).alloc (.cells #[(.int .u8 5), .int .i64 f1, .int .i64 f2, .string f3, .int .i64 f4, .int .i64 f5] 33 (0, 0))
  simp only [alloc_size] at h0
  have H0 := Aside0.mk (out_new h0.r2)
  have HX4 := Aside0.mk hx4
  have HX5 := Aside0.mk hx5
  have HS := Aside0.mk hs
  clear h h0 hx4 hx5 hs
  obtain ⟨ok, hok⟩ : ∃ b, (true && numOk f1) = b := ⟨_, rfl⟩
  have HOK := Lib.hid hok
  clear hok
  go_enter Try.func21, Try.ntmps21
  cases ok with
  | true =>
    go_wp2_with (first
      | (go_at_call 40; (with_reducible refine (OutByte (l := []) H0.out 5 (by simp)).mono ?_); rintro e w1 ⟨rfl, h⟩; have H1 := Aside0.mk h.r2; clear h)
      | (go_at_call 26; (with_reducible refine (wfields5 H1.out.r2 HX4.out HX5.out HS.out (by simp)).mono ?_); rintro e w3 ⟨rfl, h⟩; rw [HOK.out] at h; have z2 := (blk_cell h.at1 0).trans rfl; have f2' := blk_frozen h.at1 0; have H3 := Aside0.mk h; clear h)
      | (go_at_call 47; (with_reducible refine (OutString ((H3.out.r1.set 0 (.bool true)).r2)).mono ?_); rintro e w7 ⟨rfl, rfl⟩))
    have H5 := Aside0.mk ((H3.out.r1.set 0 (.bool true)).r2)
    have h5 := H5.out
    have y2 := (blk_cell h5.at1 0).trans rfl
    have yr0 := (blk_cell h5.at2 0).trans rfl
    have yr1 := (blk_cell h5.at2 1).trans rfl
    have yr2 := (blk_cell h5.at2 2).trans rfl
    have yr3 := (blk_cell h5.at2 3).trans rfl
    have yr4 := (blk_cell h5.at2 4).trans rfl
    have yr5 := (blk_cell h5.at2 5).trans rfl
    have ya0 := (blk_cell h5.at3 0).trans rfl
    clear h5
    go_quiet ((refine (OutString (H5.out.drewN _)).mono ?_; rintro e w8 ⟨rfl, rfl⟩; exact ⟨rfl, _, rfl⟩))
    go_wp2
    go_ret2
    exact ⟨by rw [HLR.out, HBR.out, HOK.out]; first | rfl | simp, (H5.out.drewN _).tail.tail.tail.tail⟩
  | false =>
    go_wp2_with (first
      | (go_at_call 40; (with_reducible refine (OutByte (l := []) H0.out 5 (by simp)).mono ?_); rintro e w1 ⟨rfl, h⟩; have H1 := Aside0.mk h.r2; clear h)
      | (go_at_call 26; (with_reducible refine (wfields5 H1.out.r2 HX4.out HX5.out HS.out (by simp)).mono ?_); rintro e w3 ⟨rfl, h⟩; rw [HOK.out] at h; have z2 := (blk_cell h.at1 0).trans rfl; have f2' := blk_frozen h.at1 0; have H3 := Aside0.mk h; clear h)
      | (go_at_call 47; (with_reducible refine (OutString ((H3.out.r1.set 0 (.bool false)).r2)).mono ?_); rintro e w7 ⟨rfl, rfl⟩))
    have H5 := Aside0.mk ((H3.out.r1.set 0 (.bool false)).r2)
    have h5 := H5.out
    have y2 := (blk_cell h5.at1 0).trans rfl
    have yr0 := (blk_cell h5.at2 0).trans rfl
    have yr1 := (blk_cell h5.at2 1).trans rfl
    have yr2 := (blk_cell h5.at2 2).trans rfl
    have yr3 := (blk_cell h5.at2 3).trans rfl
    have yr4 := (blk_cell h5.at2 4).trans rfl
    have yr5 := (blk_cell h5.at2 5).trans rfl
    have ya0 := (blk_cell h5.at3 0).trans rfl
    clear h5
    go_quiet ((refine (OutString (H5.out.drewN _)).mono ?_; rintro e w8 ⟨rfl, rfl⟩; exact ⟨rfl, _, rfl⟩))
    go_wp2
    go_ret2
    exact ⟨by rw [HLR.out, HBR.out, HOK.out]; first | rfl | simp, (H5.out.drewN _).tail.tail.tail.tail⟩
set_option maxHeartbeats 4000000 in
set_option maxRecDepth 100000 in
theorem write6 (h : Own w0 w R) (f1 f2 f4 f5 : Int) (f3 : ByteArray) (hx4 : -(2^63) ≤ f4 ∧ f4 < 2 ^ 63) (hx5 : -(2^63) ≤ f5 ∧ f5 < 2 ^ 63) (hs : f3.size < 1000000) (lr : List Int) (br : Bool) (hlr : lr = (([] ++ [6]) ++ numB (uN f1))) (hbr : br = ((true && numOk f1) && ((f2 == 0) && ((f3.toList == []) && ((f4 == 0) && ((f5 == 0))))))) :
    Calls Try.prog 21 #[.agg #[(.int .u8 6), .int .i64 f1, .int .i64 f2, .string f3, .int .i64 f4, .int .i64 f5]] w fun e w' => e = .returned (.tuple #[.string (strOfNums lr), .bool br]) ∧ Own w0 w' R := by
  have HLR := Lib.hid hlr
  have HBR := Lib.hid hbr
  clear hlr hbr
  have h0 := (((h.alloc (.cells #[(.int .u8 6), .int .i64 f1, .int .i64 f2, .string f3, .int .i64 f4, .int .i64 f5] 33 (0, 0))).alloc (.cells #[.slice none 0 0] 72 (0, 0))).alloc (.cells #[.bool true] 4 (0, 0))).alloc (.cells #[(.int .u8 6), .int .i64 f1, .int .i64 f2, .string f3, .int .i64 f4, .int .i64 f5] 33 (0, 0))
  simp only [alloc_size] at h0
  have H0 := Aside0.mk (out_new h0.r2)
  have HX4 := Aside0.mk hx4
  have HX5 := Aside0.mk hx5
  have HS := Aside0.mk hs
  clear h h0 hx4 hx5 hs
  obtain ⟨ok, hok⟩ : ∃ b, (true && numOk f1) = b := ⟨_, rfl⟩
  have HOK := Lib.hid hok
  clear hok
  go_enter Try.func21, Try.ntmps21
  cases ok with
  | true =>
    go_wp2_with (first
      | (go_at_call 40; (with_reducible refine (OutByte (l := []) H0.out 6 (by simp)).mono ?_); rintro e w1 ⟨rfl, h⟩; have H1 := Aside0.mk h.r2; clear h)
      | (go_at_call 26; (with_reducible refine (wfields6 H1.out.r2 HX4.out HX5.out HS.out (by simp)).mono ?_); rintro e w3 ⟨rfl, h⟩; rw [HOK.out] at h; have z2 := (blk_cell h.at1 0).trans rfl; have f2' := blk_frozen h.at1 0; have H3 := Aside0.mk h; clear h)
      | (go_at_call 47; (with_reducible refine (OutString ((H3.out.r1.set 0 (.bool true)).r2)).mono ?_); rintro e w7 ⟨rfl, rfl⟩))
    have H5 := Aside0.mk ((H3.out.r1.set 0 (.bool true)).r2)
    have h5 := H5.out
    have y2 := (blk_cell h5.at1 0).trans rfl
    have yr0 := (blk_cell h5.at2 0).trans rfl
    have yr1 := (blk_cell h5.at2 1).trans rfl
    have yr2 := (blk_cell h5.at2 2).trans rfl
    have yr3 := (blk_cell h5.at2 3).trans rfl
    have yr4 := (blk_cell h5.at2 4).trans rfl
    have yr5 := (blk_cell h5.at2 5).trans rfl
    have ya0 := (blk_cell h5.at3 0).trans rfl
    clear h5
    go_quiet ((refine (OutString (H5.out.drewN _)).mono ?_; rintro e w8 ⟨rfl, rfl⟩; exact ⟨rfl, _, rfl⟩))
    go_wp2
    go_ret2
    exact ⟨by rw [HLR.out, HBR.out, HOK.out]; first | rfl | simp, (H5.out.drewN _).tail.tail.tail.tail⟩
  | false =>
    go_wp2_with (first
      | (go_at_call 40; (with_reducible refine (OutByte (l := []) H0.out 6 (by simp)).mono ?_); rintro e w1 ⟨rfl, h⟩; have H1 := Aside0.mk h.r2; clear h)
      | (go_at_call 26; (with_reducible refine (wfields6 H1.out.r2 HX4.out HX5.out HS.out (by simp)).mono ?_); rintro e w3 ⟨rfl, h⟩; rw [HOK.out] at h; have z2 := (blk_cell h.at1 0).trans rfl; have f2' := blk_frozen h.at1 0; have H3 := Aside0.mk h; clear h)
      | (go_at_call 47; (with_reducible refine (OutString ((H3.out.r1.set 0 (.bool false)).r2)).mono ?_); rintro e w7 ⟨rfl, rfl⟩))
    have H5 := Aside0.mk ((H3.out.r1.set 0 (.bool false)).r2)
    have h5 := H5.out
    have y2 := (blk_cell h5.at1 0).trans rfl
    have yr0 := (blk_cell h5.at2 0).trans rfl
    have yr1 := (blk_cell h5.at2 1).trans rfl
    have yr2 := (blk_cell h5.at2 2).trans rfl
    have yr3 := (blk_cell h5.at2 3).trans rfl
    have yr4 := (blk_cell h5.at2 4).trans rfl
    have yr5 := (blk_cell h5.at2 5).trans rfl
    have ya0 := (blk_cell h5.at3 0).trans rfl
    clear h5
    go_quiet ((refine (OutString (H5.out.drewN _)).mono ?_; rintro e w8 ⟨rfl, rfl⟩; exact ⟨rfl, _, rfl⟩))
    go_wp2
    go_ret2
    exact ⟨by rw [HLR.out, HBR.out, HOK.out]; first | rfl | simp, (H5.out.drewN _).tail.tail.tail.tail⟩
set_option maxHeartbeats 4000000 in
set_option maxRecDepth 100000 in
theorem write7 (h : Own w0 w R) (f1 f2 f4 f5 : Int) (f3 : ByteArray) (hx4 : -(2^63) ≤ f4 ∧ f4 < 2 ^ 63) (hx5 : -(2^63) ≤ f5 ∧ f5 < 2 ^ 63) (hs : f3.size < 1000000) (lr : List Int) (br : Bool) (hlr : lr = (([] ++ [7]) ++ numB (uN f1))) (hbr : br = ((true && numOk f1) && ((f2 == 0) && ((f3.toList == []) && ((f4 == 0) && ((f5 == 0))))))) :
    Calls Try.prog 21 #[.agg #[(.int .u8 7), .int .i64 f1, .int .i64 f2, .string f3, .int .i64 f4, .int .i64 f5]] w fun e w' => e = .returned (.tuple #[.string (strOfNums lr), .bool br]) ∧ Own w0 w' R := by
  have HLR := Lib.hid hlr
  have HBR := Lib.hid hbr
  clear hlr hbr
  have h0 := (((h.alloc (.cells #[(.int .u8 7), .int .i64 f1, .int .i64 f2, .string f3, .int .i64 f4, .int .i64 f5] 33 (0, 0))).alloc (.cells #[.slice none 0 0] 72 (0, 0))).alloc (.cells #[.bool true] 4 (0, 0))).alloc (.cells #[(.int .u8 7), .int .i64 f1, .int .i64 f2, .string f3, .int .i64 f4, .int .i64 f5] 33 (0, 0))
  simp only [alloc_size] at h0
  have H0 := Aside0.mk (out_new h0.r2)
  have HX4 := Aside0.mk hx4
  have HX5 := Aside0.mk hx5
  have HS := Aside0.mk hs
  clear h h0 hx4 hx5 hs
  obtain ⟨ok, hok⟩ : ∃ b, (true && numOk f1) = b := ⟨_, rfl⟩
  have HOK := Lib.hid hok
  clear hok
  go_enter Try.func21, Try.ntmps21
  cases ok with
  | true =>
    go_wp2_with (first
      | (go_at_call 40; (with_reducible refine (OutByte (l := []) H0.out 7 (by simp)).mono ?_); rintro e w1 ⟨rfl, h⟩; have H1 := Aside0.mk h.r2; clear h)
      | (go_at_call 26; (with_reducible refine (wfields7 H1.out.r2 HX4.out HX5.out HS.out (by simp)).mono ?_); rintro e w3 ⟨rfl, h⟩; rw [HOK.out] at h; have z2 := (blk_cell h.at1 0).trans rfl; have f2' := blk_frozen h.at1 0; have H3 := Aside0.mk h; clear h)
      | (go_at_call 47; (with_reducible refine (OutString ((H3.out.r1.set 0 (.bool true)).r2)).mono ?_); rintro e w7 ⟨rfl, rfl⟩))
    have H5 := Aside0.mk ((H3.out.r1.set 0 (.bool true)).r2)
    have h5 := H5.out
    have y2 := (blk_cell h5.at1 0).trans rfl
    have yr0 := (blk_cell h5.at2 0).trans rfl
    have yr1 := (blk_cell h5.at2 1).trans rfl
    have yr2 := (blk_cell h5.at2 2).trans rfl
    have yr3 := (blk_cell h5.at2 3).trans rfl
    have yr4 := (blk_cell h5.at2 4).trans rfl
    have yr5 := (blk_cell h5.at2 5).trans rfl
    have ya0 := (blk_cell h5.at3 0).trans rfl
    clear h5
    go_quiet ((refine (OutString (H5.out.drewN _)).mono ?_; rintro e w8 ⟨rfl, rfl⟩; exact ⟨rfl, _, rfl⟩))
    go_wp2
    go_ret2
    exact ⟨by rw [HLR.out, HBR.out, HOK.out]; first | rfl | simp, (H5.out.drewN _).tail.tail.tail.tail⟩
  | false =>
    go_wp2_with (first
      | (go_at_call 40; (with_reducible refine (OutByte (l := []) H0.out 7 (by simp)).mono ?_); rintro e w1 ⟨rfl, h⟩; have H1 := Aside0.mk h.r2; clear h)
      | (go_at_call 26; (with_reducible refine (wfields7 H1.out.r2 HX4.out HX5.out HS.out (by simp)).mono ?_); rintro e w3 ⟨rfl, h⟩; rw [HOK.out] at h; have z2 := (blk_cell h.at1 0).trans rfl; have f2' := blk_frozen h.at1 0; have H3 := Aside0.mk h; clear h)
      | (go_at_call 47; (with_reducible refine (OutString ((H3.out.r1.set 0 (.bool false)).r2)).mono ?_); rintro e w7 ⟨rfl, rfl⟩))
    have H5 := Aside0.mk ((H3.out.r1.set 0 (.bool false)).r2)
    have h5 := H5.out
    have y2 := (blk_cell h5.at1 0).trans rfl
    have yr0 := (blk_cell h5.at2 0).trans rfl
    have yr1 := (blk_cell h5.at2 1).trans rfl
    have yr2 := (blk_cell h5.at2 2).trans rfl
    have yr3 := (blk_cell h5.at2 3).trans rfl
    have yr4 := (blk_cell h5.at2 4).trans rfl
    have yr5 := (blk_cell h5.at2 5).trans rfl
    have ya0 := (blk_cell h5.at3 0).trans rfl
    clear h5
    go_quiet ((refine (OutString (H5.out.drewN _)).mono ?_; rintro e w8 ⟨rfl, rfl⟩; exact ⟨rfl, _, rfl⟩))
    go_wp2
    go_ret2
    exact ⟨by rw [HLR.out, HBR.out, HOK.out]; first | rfl | simp, (H5.out.drewN _).tail.tail.tail.tail⟩
set_option maxHeartbeats 4000000 in
set_option maxRecDepth 100000 in
theorem write8 (h : Own w0 w R) (f1 f2 f4 f5 : Int) (f3 : ByteArray) (hx4 : -(2^63) ≤ f4 ∧ f4 < 2 ^ 63) (hx5 : -(2^63) ≤ f5 ∧ f5 < 2 ^ 63) (hs : f3.size < 1000000) (lr : List Int) (br : Bool) (hlr : lr = (([] ++ [8]) ++ numB (uN f1))) (hbr : br = ((true && numOk f1) && ((f2 == 0) && ((f3.toList == []) && ((f4 == 0) && ((f5 == 0))))))) :
    Calls Try.prog 21 #[.agg #[(.int .u8 8), .int .i64 f1, .int .i64 f2, .string f3, .int .i64 f4, .int .i64 f5]] w fun e w' => e = .returned (.tuple #[.string (strOfNums lr), .bool br]) ∧ Own w0 w' R := by
  have HLR := Lib.hid hlr
  have HBR := Lib.hid hbr
  clear hlr hbr
  have h0 := (((h.alloc (.cells #[(.int .u8 8), .int .i64 f1, .int .i64 f2, .string f3, .int .i64 f4, .int .i64 f5] 33 (0, 0))).alloc (.cells #[.slice none 0 0] 72 (0, 0))).alloc (.cells #[.bool true] 4 (0, 0))).alloc (.cells #[(.int .u8 8), .int .i64 f1, .int .i64 f2, .string f3, .int .i64 f4, .int .i64 f5] 33 (0, 0))
  simp only [alloc_size] at h0
  have H0 := Aside0.mk (out_new h0.r2)
  have HX4 := Aside0.mk hx4
  have HX5 := Aside0.mk hx5
  have HS := Aside0.mk hs
  clear h h0 hx4 hx5 hs
  obtain ⟨ok, hok⟩ : ∃ b, (true && numOk f1) = b := ⟨_, rfl⟩
  have HOK := Lib.hid hok
  clear hok
  go_enter Try.func21, Try.ntmps21
  cases ok with
  | true =>
    go_wp2_with (first
      | (go_at_call 40; (with_reducible refine (OutByte (l := []) H0.out 8 (by simp)).mono ?_); rintro e w1 ⟨rfl, h⟩; have H1 := Aside0.mk h.r2; clear h)
      | (go_at_call 26; (with_reducible refine (wfields8 H1.out.r2 HX4.out HX5.out HS.out (by simp)).mono ?_); rintro e w3 ⟨rfl, h⟩; rw [HOK.out] at h; have z2 := (blk_cell h.at1 0).trans rfl; have f2' := blk_frozen h.at1 0; have H3 := Aside0.mk h; clear h)
      | (go_at_call 47; (with_reducible refine (OutString ((H3.out.r1.set 0 (.bool true)).r2)).mono ?_); rintro e w7 ⟨rfl, rfl⟩))
    have H5 := Aside0.mk ((H3.out.r1.set 0 (.bool true)).r2)
    have h5 := H5.out
    have y2 := (blk_cell h5.at1 0).trans rfl
    have yr0 := (blk_cell h5.at2 0).trans rfl
    have yr1 := (blk_cell h5.at2 1).trans rfl
    have yr2 := (blk_cell h5.at2 2).trans rfl
    have yr3 := (blk_cell h5.at2 3).trans rfl
    have yr4 := (blk_cell h5.at2 4).trans rfl
    have yr5 := (blk_cell h5.at2 5).trans rfl
    have ya0 := (blk_cell h5.at3 0).trans rfl
    clear h5
    go_quiet ((refine (OutString (H5.out.drewN _)).mono ?_; rintro e w8 ⟨rfl, rfl⟩; exact ⟨rfl, _, rfl⟩))
    go_wp2
    go_ret2
    exact ⟨by rw [HLR.out, HBR.out, HOK.out]; first | rfl | simp, (H5.out.drewN _).tail.tail.tail.tail⟩
  | false =>
    go_wp2_with (first
      | (go_at_call 40; (with_reducible refine (OutByte (l := []) H0.out 8 (by simp)).mono ?_); rintro e w1 ⟨rfl, h⟩; have H1 := Aside0.mk h.r2; clear h)
      | (go_at_call 26; (with_reducible refine (wfields8 H1.out.r2 HX4.out HX5.out HS.out (by simp)).mono ?_); rintro e w3 ⟨rfl, h⟩; rw [HOK.out] at h; have z2 := (blk_cell h.at1 0).trans rfl; have f2' := blk_frozen h.at1 0; have H3 := Aside0.mk h; clear h)
      | (go_at_call 47; (with_reducible refine (OutString ((H3.out.r1.set 0 (.bool false)).r2)).mono ?_); rintro e w7 ⟨rfl, rfl⟩))
    have H5 := Aside0.mk ((H3.out.r1.set 0 (.bool false)).r2)
    have h5 := H5.out
    have y2 := (blk_cell h5.at1 0).trans rfl
    have yr0 := (blk_cell h5.at2 0).trans rfl
    have yr1 := (blk_cell h5.at2 1).trans rfl
    have yr2 := (blk_cell h5.at2 2).trans rfl
    have yr3 := (blk_cell h5.at2 3).trans rfl
    have yr4 := (blk_cell h5.at2 4).trans rfl
    have yr5 := (blk_cell h5.at2 5).trans rfl
    have ya0 := (blk_cell h5.at3 0).trans rfl
    clear h5
    go_quiet ((refine (OutString (H5.out.drewN _)).mono ?_; rintro e w8 ⟨rfl, rfl⟩; exact ⟨rfl, _, rfl⟩))
    go_wp2
    go_ret2
    exact ⟨by rw [HLR.out, HBR.out, HOK.out]; first | rfl | simp, (H5.out.drewN _).tail.tail.tail.tail⟩
set_option maxHeartbeats 4000000 in
set_option maxRecDepth 100000 in
theorem wfields0 {gc : Nat} (A1 A2 A3 : Value) {f0 f1 f2 f4 f5 : Int} {f3 : ByteArray} {t : Nat} (h : Own w0 w (Blk gc (.cells #[(.int .u8 f0), .int .i64 f1, .int .i64 f2, .string f3, .int .i64 f4, .int .i64 f5] t (0, 0)) :: R)) (hk : f0 < 1 ∨ 8 < f0) :
    Calls Try.prog 26 #[.pointer (some ⟨gc, 0, none⟩), A1, A2, A3] w fun e w' => e = .returned (.bool false) ∧ w = w' := by
  have z0 := (blk_cell h.at0 0).trans rfl
  have d1 : (f0 == 1) = false := beq_false_of_ne (by omega)
  have e1 : decide (f0 = 1) = false := decide_eq_false (by omega)
  have d2 : (f0 == 2) = false := beq_false_of_ne (by omega)
  have e2 : decide (f0 = 2) = false := decide_eq_false (by omega)
  have d3 : (f0 == 3) = false := beq_false_of_ne (by omega)
  have e3 : decide (f0 = 3) = false := decide_eq_false (by omega)
  have d4 : (f0 == 4) = false := beq_false_of_ne (by omega)
  have e4 : decide (f0 = 4) = false := decide_eq_false (by omega)
  have d5 : (f0 == 5) = false := beq_false_of_ne (by omega)
  have e5 : decide (f0 = 5) = false := decide_eq_false (by omega)
  have d6 : (f0 == 6) = false := beq_false_of_ne (by omega)
  have e6 : decide (f0 = 6) = false := decide_eq_false (by omega)
  have d7 : (f0 == 7) = false := beq_false_of_ne (by omega)
  have e7 : decide (f0 = 7) = false := decide_eq_false (by omega)
  have d8 : (f0 == 8) = false := beq_false_of_ne (by omega)
  have e8 : decide (f0 = 8) = false := decide_eq_false (by omega)
  clear h hk
  go_enter Try.func26, Try.ntmps26
  go_wp2
  go_ret
  exact ⟨rfl, rfl⟩
set_option maxHeartbeats 4000000 in
set_option maxRecDepth 100000 in
theorem write0 (h : Own w0 w R) (f0 f1 f2 f4 f5 : Int) (f3 : ByteArray) (hk : f0 < 1 ∨ 8 < f0) :
    Calls Try.prog 21 #[.agg #[(.int .u8 f0), .int .i64 f1, .int .i64 f2, .string f3, .int .i64 f4, .int .i64 f5]] w fun e w' => (∃ s, e = .returned (.tuple #[.string s, .bool false])) ∧ Own w0 w' R := by
  have h0 := (((h.alloc (.cells #[(.int .u8 f0), .int .i64 f1, .int .i64 f2, .string f3, .int .i64 f4, .int .i64 f5] 33 (0, 0))).alloc (.cells #[.slice none 0 0] 72 (0, 0))).alloc (.cells #[.bool true] 4 (0, 0))).alloc (.cells #[(.int .u8 f0), .int .i64 f1, .int .i64 f2, .string f3, .int .i64 f4, .int .i64 f5] 33 (0, 0))
  simp only [alloc_size] at h0
  have H0 := Aside0.mk (out_new h0.r2)
  have HK := Aside0.mk hk
  clear h h0 hk
  go_enter Try.func21, Try.ntmps21
  go_wp2_with (first
    | (go_at_call 40; (with_reducible refine (OutByte (l := []) H0.out f0 (by simp)).mono ?_); rintro e w1 ⟨rfl, h⟩; have H1 := Aside0.mk h.r2.r2; have z2 := (blk_cell h.at2 0).trans rfl; have f2' := blk_frozen h.at2 0; clear h)
    | (go_at_call 26; (with_reducible refine (wfields0 _ _ _ H1.out HK.out).mono ?_); rintro e w3 ⟨rfl, rfl⟩))
  have H5 := Aside0.mk ((H1.out.r1.set 0 (.bool false)).r2)
  have h5 := H5.out
  have y2 := (blk_cell h5.at1 0).trans rfl
  clear h5
  go_quiet ((refine (OutString (H5.out.drewN _)).mono ?_; rintro e w8 ⟨rfl, rfl⟩; exact ⟨rfl, _, rfl⟩))
  go_wp2
  go_ret2
  exact ⟨⟨_, rfl⟩, (H5.out.drewN _).tail.tail.tail.tail⟩
end
end Go.Proofs.Ytapkoiaeghjpdaa.PScriptWrites
