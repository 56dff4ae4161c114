/- The law PackKnown, walked: the chapter's examples; a nil reader. -/
import Derived.Test.YtjlcggjghlmiaaaPackInt
import Derived.Test.YtjlcggjghlmiaaaHPackMost
namespace Go.Proofs.Ytjlcggjghlmiaaa.PPackWrites
open Go.RowKit Go.Proofs.YtjlcggjghlmiaaaW.PrintWords Go.Proofs.YtjlcggjghlmiaaaW.PrintLast Go.Proofs.YtjlcggjghlmiaaaW.PrintMore
open Go.Proofs.YtjlcggjghlmiaaaO
attribute [local go_sem] max2_int min2_int max_two min_two max_three min_three max_four min_four
set_option linter.unusedVariables false
set_option linter.unusedSimpArgs false
theorem hO : [] ++ numB 0 ++ numB (zigN (-1)) ++ numB (zigN 64) = [0, 1, 128, 1] := by
  rw [show zigN (-1) = 1 from rfl, show zigN 64 = 128 from rfl, numB_lt 0 (by omega), numB_lt 1 (by omega), numB_ge 128 (by omega), numB_lt (128 / 128) (by omega)]
  rfl
theorem l1 : ([] ++ numB 0).length < 10000000000000 := by rw [numB_lt 0 (by omega)]; decide
theorem l2 : ([] ++ numB 0 ++ numB (zigN (-1))).length < 10000000000000 := by rw [show zigN (-1) = 1 from rfl, numB_lt 0 (by omega), numB_lt 1 (by omega)]; decide
theorem ra : rdNum ⟨#[128]⟩ 0 0 = (0, 0, 7) := by decide +kernel
theorem rb : rdNum ⟨#[128, 0]⟩ 0 0 = (0, 0, 8) := by decide +kernel
theorem rc1 : rdMost ⟨#[5, 3, 97]⟩ 0 0 5 = (5, 1, 0) := by decide +kernel
theorem rc2 : rdText ⟨#[5, 3, 97]⟩ 1 0 9 = (⟨#[]⟩, 1, 7) := by decide +kernel
theorem rc3 : rdByte ⟨#[5, 3, 97]⟩ 1 7 = (0, 1, 7) := by decide +kernel
theorem rd1 : rdMost ⟨#[5]⟩ 0 0 4 = (0, 0, 8) := by decide +kernel
theorem rz : rdByte ⟨#[1, 2]⟩ 0 0 = (1, 1, 0) := by decide +kernel
set_option maxHeartbeats 8000000 in
set_option maxRecDepth 100000 in
theorem PackKnown_law (w : World) : Calls Try.prog 8 #[] w fun e w' => e = .returned (.bool true) ∧ Below w.heap.size w w' := by
  have H0 := Aside0.mk (out_new ((Own.nil w).alloc (.cells #[.slice none 0 0] 26 (0, 0))))
  have f1 : (strOfNums [0, 1, 128, 1]).toList = [0, 1, 128, 1] := ba_toList _
  go_enter Try.func8, Try.ntmps8
  go_wp2_with (first
    | (go_at_call 28; (with_reducible refine (OutNum H0.out 0 0 rfl (by omega) (by simp)).mono ?_); rintro e v1 ⟨rfl, h⟩; have H1 := Aside0.mk h; clear h)
    | (go_at_call 10; (with_reducible refine (OutInt H1.out (-1) (by omega) (by omega) l1).mono ?_); rintro e v2 ⟨rfl, h⟩; have H2 := Aside0.mk h; clear h)
    | (go_at_call 10; (with_reducible refine (OutInt H2.out 64 (by omega) (by omega) l2).mono ?_); rintro e v3 ⟨rfl, h⟩; rw [hO] at h; have H3 := Aside0.mk h; clear h)
    | (go_at_call 18; (with_reducible refine (InOf H3.out ⟨#[128]⟩).mono ?_); rintro e v4 ⟨ga, rfl, h⟩; have H4 := Aside0.mk h; clear h)
    | (go_at_call 18; (with_reducible refine (InOf H4.out ⟨#[128, 0]⟩).mono ?_); rintro e v5 ⟨gb, rfl, h⟩; have H5 := Aside0.mk h; clear h)
    | (go_at_call 26; (with_reducible refine (InNum H5.out.r1 (by omega) (by decide) (by decide) _ _ _ ra).mono ?_); rintro e w1 ⟨rfl, h⟩; have H6 := Aside0.mk h; clear h)
    | (go_at_call 26; (with_reducible refine (InNum H6.out.r1 (by omega) (by decide) (by decide) _ _ _ rb).mono ?_); rintro e w2 ⟨rfl, h⟩; have H7 := Aside0.mk h; clear h)
    | (go_at_call 21; (with_reducible refine (InFault1 H7.out.r1 (by omega)).mono ?_); rintro e v8 ⟨rfl, h⟩; have H8 := Aside0.mk h; clear h)
    | (go_at_call 21; (with_reducible refine (InFault1 H8.out.r1 (by omega)).mono ?_); rintro e v9 ⟨rfl, h⟩; have H9 := Aside0.mk h; clear h)
    | (go_at_call 18; (with_reducible refine (InOf H9.out ⟨#[5, 3, 97]⟩).mono ?_); rintro e v10 ⟨gc, rfl, h⟩; have H10 := Aside0.mk h; clear h)
    | (go_at_call 20; (with_reducible refine (InMost H10.out (by omega) (by decide) (by decide) 5 (by omega) _ _ _ rc1).mono ?_); rintro e w3 ⟨rfl, h⟩; have H11 := Aside0.mk h; clear h)
    | (go_at_call 23; (with_reducible refine (InText H11.out (by omega) (by decide) (by decide) 9 (by omega) _ _ _ rc2).mono ?_); rintro e w4 ⟨rfl, h⟩; have H12 := Aside0.mk h; clear h)
    | (go_at_call 19; (with_reducible refine (InByte H12.out (by omega) (by decide) (by decide) _ _ _ rc3).mono ?_); rintro e w5 ⟨rfl, h⟩; have H13 := Aside0.mk h; clear h)
    | (go_at_call 21; (with_reducible refine (InFault1 H13.out (by omega)).mono ?_); rintro e v14 ⟨rfl, h⟩; have H14 := Aside0.mk h; clear h)
    | (go_at_call 18; (with_reducible refine (InOf H14.out ⟨#[5]⟩).mono ?_); rintro e v15 ⟨gd, rfl, h⟩; have H15 := Aside0.mk h; clear h)
    | (go_at_call 20; (with_reducible refine (InMost H15.out (by omega) (by decide) (by decide) 4 (by omega) _ _ _ rd1).mono ?_); rintro e w6 ⟨rfl, h⟩; have H16 := Aside0.mk h; clear h)
    | (go_at_call 21; (with_reducible refine (InFault1 H16.out (by omega)).mono ?_); rintro e v17 ⟨rfl, h⟩; have H17 := Aside0.mk h; clear h)
    | (go_at_call 18; (with_reducible refine (InOf H17.out ⟨#[1, 2]⟩).mono ?_); rintro e v18 ⟨gz, rfl, h⟩; have H18 := Aside0.mk h; clear h)
    | (go_at_call 19; (with_reducible refine (InByte H18.out (by omega) (by decide) (by decide) _ _ _ rz).mono ?_); rintro e w7 ⟨rfl, h⟩; have H19 := Aside0.mk h; clear h)
    | (go_at_call 14; (with_reducible refine (OutString H19.out.r5).mono ?_); rintro e v19 ⟨rfl, rfl⟩)
    | (go_at_call 22; (with_reducible refine (InLeftR H19.out.r2 (by omega) (by decide) (by decide) 2 (by decide)).mono ?_); rintro e v20 ⟨rfl, h⟩; have H20 := Aside0.mk h; clear h)
    | (go_at_call 21; (with_reducible refine (InFault_nil _).mono ?_); rintro e v21 ⟨rfl, rfl⟩)
    | (go_at_call 9; (with_reducible refine (awake_calls v20).mono ?_); rintro e v22 ⟨rfl, h⟩; have H21 := Aside0.mk (H20.out.below h); clear h)
    | (go_at_call 24; (with_reducible refine (InEnd H21.out.r1 (by omega) (by decide) (by decide) 8 (by decide)).mono ?_); rintro e v23 ⟨rfl, h⟩; have H22 := Aside0.mk h; clear h)
    | (go_at_call 26; (with_reducible refine (InNum_nil v23).mono ?_); rintro e v24 ⟨rfl, h⟩; have H23 := Aside0.mk (H22.out.below h); clear h)
    | (go_at_call 27; (with_reducible refine (InInt_nil v24).mono ?_); rintro e v25 ⟨rfl, h⟩; have H24 := Aside0.mk (H23.out.below h); clear h)
    | (go_at_call 23; (with_reducible refine (Text_nil 9 w v25 H24.out.bel).mono ?_); rintro e v26 ⟨rfl, _, h⟩; have H25 := Aside0.mk (H24.out.below h); clear h)
    | (go_at_call 19; (with_reducible refine (Byte_nil w v26 H25.out.bel).mono ?_); rintro e v27 ⟨rfl, _, h⟩; have H26 := Aside0.mk (H25.out.below h); clear h)
    | (go_at_call 20; (with_reducible refine (Most_nil 3 w v27 H26.out.bel).mono ?_); rintro e v28 ⟨rfl, _, h⟩; have H27 := Aside0.mk (H26.out.below h); clear h)
    | (go_at_call 22; (with_reducible refine (InLeft_nil _).mono ?_); rintro e v29 ⟨rfl, rfl⟩)
    | (go_at_call 24; (with_reducible refine (InEnd_nil _).mono ?_); rintro e v30 ⟨rfl, rfl⟩))
  go_ret
  exact ⟨rfl, H27.out.bel⟩
end Go.Proofs.Ytjlcggjghlmiaaa.PPackWrites
