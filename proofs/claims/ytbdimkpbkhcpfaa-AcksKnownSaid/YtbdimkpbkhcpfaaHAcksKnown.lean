/- The law AcksKnown, walked. -/
import Derived.Test.YtbdimkpbkhcpfaaAckL4
namespace Go.Proofs.Ytbdimkpbkhcpfaa.PAcksPlays
open Go.RowKit Go.Proofs.YtbdimkpbkhcpfaaW.PrintWords Go.Proofs.YtbdimkpbkhcpfaaW.PrintLast Go.Proofs.YtbdimkpbkhcpfaaW.PrintMore
open Go.Proofs.YtbdimkpbkhcpfaaO
attribute [local go_sem] max2_int min2_int max_two min_two max_three min_three max_four min_four
set_option linter.unusedVariables false
set_option linter.unusedSimpArgs false
set_option maxHeartbeats 8000000 in
set_option maxRecDepth 100000 in
theorem AcksKnown_law (w : World) : Calls Try.prog 5 #[] w fun e w' => e = .returned (.bool true) ∧ Below w.heap.size w w' := by
  have H0 := Aside0.mk (Own.nil w)
  have f1 : freshB [] 2 = true := by decide
  have f2 : freshB [2] 1 = true := by decide
  have f3 : freshB [2] 2 = false := by decide
  have f4 : freshB [2] 0 = false := by decide
  have F1 := Lib.hid f1
  have F2 := Lib.hid f2
  have F3 := Lib.hid f3
  have F4 := Lib.hid f4
  have e1 := Lib.hid (show addL [] 2 = [2] by unfold addL; rw [if_pos f1]; rfl)
  have e2 := Lib.hid (show addL [2] 1 = [2, 1] by unfold addL; rw [if_pos f2]; rfl)
  have e3 := Lib.hid (show addL [2] 2 = [2] by unfold addL; rw [if_neg (by rw [f3]; decide)])
  have e4 := Lib.hid (show addL [2] 0 = [2] by unfold addL; rw [if_neg (by rw [f4]; decide)])
  have l1 := Aside0.mk (show LowIs [2] 0 from ⟨fun i a b => absurd a (by omega), by simp⟩)
  have l2 := Aside0.mk (show LowIs [2, 1] 2 from ⟨fun i a b => by simp; omega, by simp⟩)
  have s1 := Aside0.mk set2
  have s2 := Aside0.mk (show SetIs [2, 1] 2 [] from ⟨List.Pairwise.nil, fun x => by simp; omega⟩)
  obtain ⟨hul, hum⟩ := addUp0 1048576 (by omega)
  obtain ⟨U, hU⟩ : ∃ U, addUp [] 1048576 = U := ⟨_, rfl⟩
  rw [hU] at hul hum
  have HU := Lib.hid hU
  have HLU := Aside0.mk (bigLow U hum)
  have HUL := Lib.hid (show ((U.length : Int) - (([] : List Int).length : Int)) = 1048576 by rw [hul]; rfl)
  have HUB := Aside0.mk (show U.length < 100000000000 by omega)
  have f5 : freshB U 2147483647 = true := by
    unfold freshB
    exact decide_eq_true ⟨by omega, by omega, fun h => by have := (hum _).1 h; omega⟩
  have hv := addL_count U 2147483647
  rw [if_pos f5] at hv
  obtain ⟨V, hV⟩ : ∃ V, addL U 2147483647 = V := ⟨_, rfl⟩
  rw [hV] at hv
  have F5 := Lib.hid f5
  have e5 := Lib.hid hV
  have f6 : freshB V 2147483648 = false := by simp [freshB]
  have f7 : freshB V (-1) = false := by simp [freshB]
  have F6 := Lib.hid f6
  have F7 := Lib.hid f7
  have e6 := Lib.hid (show addL V 2147483648 = V by unfold addL; rw [if_neg (by rw [f6]; decide)])
  have e7 := Lib.hid (show addL V (-1) = V by unfold addL; rw [if_neg (by rw [f7]; decide)])
  have HVB := Aside0.mk (show V.length < 100000000000 by omega)
  have HVC := Aside0.mk (show V.length + [(-1 : Int), 0, 2147483648].length ≤ 1000000000 by simp; omega)
  clear f1 f2 f3 f4 hU hul hum f5 f6 f7 hv hV
  go_enter Try.func5, Try.ntmps5
  go_wp2_with (first
    | (go_at_call 10; ((with_reducible refine (AcksNew H0.out).mono ?_)); rintro e w1 ⟨ga, rfl, h⟩; have H1 := Aside0.mk h; clear h)
    | (go_at_call 18; ((with_reducible refine (AcksAdd H1.out 2 (by decide) (by simp) true F1.out).mono ?_)); rintro e w2 ⟨rfl, h⟩; rw [e1.out] at h; have H2 := Aside0.mk h; clear h)
    | (go_at_call 18; ((with_reducible refine (AcksAdd H2.out 2 (by decide) (by simp) false F3.out).mono ?_)); rintro e w3 ⟨rfl, h⟩; rw [e3.out] at h; have H3 := Aside0.mk h; clear h)
    | (go_at_call 18; ((with_reducible refine (AcksAdd H3.out 0 (by decide) (by simp) false F4.out).mono ?_)); rintro e w4 ⟨rfl, h⟩; rw [e4.out] at h; have H4 := Aside0.mk h; clear h)
    | (go_at_call 13; ((with_reducible refine (AcksLowE H4.out 0 l1.out).mono ?_)); rintro e w5 ⟨rfl, rfl⟩)
    | (go_at_call 12; ((with_reducible refine (AcksSetE H4.out (by simp) 0 [2] l1.out s1.out).mono ?_)); rintro e w6 ⟨B1, d1, rfl, _, h⟩; have H6 := Aside0.mk (h.litI .i64 3 [2] (by decide) 1 rfl #[.int .i64 2] rfl); clear h)
    | (go_at_call 16; ((with_reducible refine (same_N B1 d1 _ 1 1 [2] rfl (by decide) (row_C H6.out.r1) (row_C H6.out)).mono ?_)); rintro e w7 ⟨rfl, hb⟩; have H7 := Aside0.mk ((H6.out.drawn hb).pick [2]); clear hb)
    | (go_at_call 18; ((with_reducible refine (AcksAdd H7.out 1 (by decide) (by simp) true F2.out).mono ?_)); rintro e w8 ⟨rfl, h⟩; rw [e2.out] at h; have H8 := Aside0.mk h; clear h)
    | (go_at_call 13; ((with_reducible refine (AcksLowE H8.out 2 l2.out).mono ?_)); rintro e w9 ⟨rfl, rfl⟩)
    | (go_at_call 12; ((with_reducible refine (AcksSetE H8.out (by simp) 2 [] l2.out s2.out).mono ?_)); rintro e w10 ⟨B2, d2, rfl, _, h⟩; have H10 := Aside0.mk h; clear h)
    | (go_at_call 10; ((with_reducible refine (AcksNew H10.out).mono ?_)); rintro e w11 ⟨gb, rfl, h⟩; have H11 := Aside0.mk ((h.litI .i64 3 [5, 6, 5] (by decide) 3 rfl #[.int .i64 5, .int .i64 6, .int .i64 5] rfl).pick [1, 0]); clear h)
    | (go_at_call 15; ((with_reducible refine (AcksMergeN (n := 3) H11.out rfl 3 (by decide) (by simp) [1, 2, 3, 5, 6] k3 5 (by decide)).mono ?_)); rintro e w12 ⟨rfl, h⟩; have H12 := Aside0.mk (h.pick [0]); clear h)
    | (go_at_call 13; ((with_reducible refine (AcksLowE H12.out 3 low3).mono ?_)); rintro e w13 ⟨rfl, rfl⟩)
    | (go_at_call 12; ((with_reducible refine (AcksSetE H12.out (by simp) 3 [5, 6] low3 set3).mono ?_)); rintro e w14 ⟨B3, d3, rfl, _, h⟩; have H14 := Aside0.mk (h.litI .i64 3 [5, 6] (by decide) 2 rfl #[.int .i64 5, .int .i64 6] rfl); clear h)
    | (go_at_call 16; ((with_reducible refine (same_N B3 d3 _ 2 2 [5, 6] rfl (by decide) (row_C H14.out.r1) (row_C H14.out)).mono ?_)); rintro e w15 ⟨rfl, hb⟩; have H15 := Aside0.mk ((H14.out.drawn hb).pick [2]); clear hb)
    | (go_at_call 19; ((with_reducible refine (AcksMissing H15.out 7).mono ?_)); rintro e w16 ⟨v, rfl, h⟩; rw [miss3] at h; obtain ⟨B4, d4, rfl, _, _⟩ := h.row_reads; have H16 := Aside0.mk (h.litI .i64 3 [4, 7] (by decide) 2 rfl #[.int .i64 4, .int .i64 7] rfl); clear h)
    | (go_at_call 16; ((with_reducible refine (same_N B4 d4 _ 2 2 [4, 7] rfl (by decide) (row_C H16.out.r1) (row_C H16.out)).mono ?_)); rintro e w17 ⟨rfl, hb⟩; have H17 := Aside0.mk ((H16.out.drawn hb).pick [2]); clear hb)
    | (go_at_call 20; ((with_reducible refine (AcksWhole H17.out 3 3 low3).mono ?_)); rintro e w18 ⟨rfl, rfl⟩)
    | (go_at_call 20; ((with_reducible refine (AcksWhole H17.out 4 3 low3).mono ?_)); rintro e w19 ⟨rfl, rfl⟩)
    | (go_at_call 10; ((with_reducible refine (AcksNew H17.out).mono ?_)); rintro e w20 ⟨gc, rfl, h⟩; have H20 := Aside0.mk (h.pick [0]); clear h)
    | (go_at_call 8; ((with_reducible refine (awake_calls w20).mono ?_)); rintro e w21 ⟨rfl, h⟩; have H21 := Aside0.mk ((H20.out.below h).row_nil (Kd.int .i64) 3); clear h)
    | (go_at_call 15; ((with_reducible refine (AcksMergeN (n := 0) (l := []) H21.out.r1 rfl 4611686018427387904 (by simp) (by simp) U (bigM.trans HU.out) 1048576 HUL.out).mono ?_)); rintro e w22 ⟨rfl, h⟩; have H22 := Aside0.mk (h.pick [0]); clear h)
    | (go_at_call 13; ((with_reducible refine (AcksLowE H22.out 1048576 HLU.out).mono ?_)); rintro e w23 ⟨rfl, rfl⟩)
    | (go_at_call 20; ((with_reducible refine (AcksWhole H22.out 1048576 1048576 HLU.out).mono ?_)); rintro e w24 ⟨rfl, rfl⟩)
    | (go_at_call 20; ((with_reducible refine (AcksWhole H22.out 4611686018427387904 1048576 HLU.out).mono ?_)); rintro e w25 ⟨rfl, rfl⟩)
    | (go_at_call 19; ((with_reducible refine (AcksMissing H22.out 4611686018427387904).mono ?_)); rintro e w26 ⟨v, rfl, h⟩; rw [bigMiss U HLU.out] at h; obtain ⟨B5, d5, rfl, _, _⟩ := h.row_reads; have H26 := Aside0.mk h.tail; clear h)
    | (go_at_call 18; ((with_reducible refine (AcksAdd H26.out 2147483647 (by decide) HUB.out true F5.out).mono ?_)); rintro e w27 ⟨rfl, h⟩; rw [e5.out] at h; have H27 := Aside0.mk h; clear h)
    | (go_at_call 18; ((with_reducible refine (AcksAdd H27.out 2147483648 (by decide) HVB.out false F6.out).mono ?_)); rintro e w28 ⟨rfl, h⟩; rw [e6.out] at h; have H28 := Aside0.mk h; clear h)
    | (go_at_call 18; ((with_reducible refine (AcksAdd H28.out (-1) (by decide) HVB.out false F7.out).mono ?_)); rintro e w29 ⟨rfl, h⟩; rw [e7.out] at h; have H29 := Aside0.mk ((h.litI .i64 3 [-1, 0, 2147483648] (by decide) 3 rfl #[.int .i64 (-1), .int .i64 0, .int .i64 2147483648] rfl).pick [1, 0]); clear h)
    | (go_at_call 15; ((with_reducible refine (AcksMergeN (n := 3) H29.out rfl (-5) (by decide) HVC.out V (badM V) 0 (Int.sub_self _)).mono ?_)); rintro e w30 ⟨rfl, h⟩; have H30 := Aside0.mk h; clear h))
  go_ret
  exact ⟨rfl, H30.out.bel⟩
end Go.Proofs.Ytbdimkpbkhcpfaa.PAcksPlays
