/- The law NetKnown, walked. -/
import Derived.Test.YtdnpodpmicllgaaNet7
namespace Go.Proofs.Ytdnpodpmicllgaa.PNetPlays
open Go.RowKit Go.Proofs.YtdnpodpmicllgaaW.PrintWords Go.Proofs.YtdnpodpmicllgaaW.PrintLast Go.Proofs.YtdnpodpmicllgaaW.PrintMore
open Go.Proofs.YtdnpodpmicllgaaO Go.Proofs.YtdnpodpmicllgaaC
attribute [local go_sem] max2_int min2_int max_two min_two max_three min_three max_four min_four
set_option linter.unusedVariables false
set_option linter.unusedSimpArgs false
abbrev pkQ : Pk := ⟨8, 0, ⟨#[98]⟩⟩
abbrev pkB : Pk := ⟨0, 1, ⟨#[]⟩⟩
abbrev pkC : Pk := ⟨1, 0, ⟨#[]⟩⟩
theorem cnt_rep (k : Nat) : cntW (List.replicate k pkB) 0 1 = k := by
  unfold cntW
  rw [List.countP_replicate, if_pos (by rfl)]
theorem post_rep {k : Nat} (hk : k < 64) : postR (List.replicate k pkB) pkB = (List.replicate (k + 1) pkB, 0) := by
  unfold postR putR
  rw [if_pos (by simp [goodP]), if_pos (by rw [cnt_rep]; exact hk), List.replicate_succ']
set_option maxHeartbeats 8000000 in
set_option maxRecDepth 100000 in
theorem NetKnown_law (w : World) : Calls Try.prog 3 #[] w fun e w' => e = .returned (.bool true) ∧ Below w.heap.size w w' := by
  have H0 := Aside0.mk (Own.nil w)
  have E1 := Aside0.mk (show postR [] pkA = ([pkA], 0) by simp [postR, putR, cntW, goodP])
  have E2 := Aside0.mk (show postR [pkA] pkQ = ([pkA, pkQ], 0) by simp [postR, putR, cntW, goodP])
  have E3 := Aside0.mk (show dupR [pkA, pkQ] 0 = ([pkA, pkQ, pkA], 0) by simp [dupR, putR, cntW])
  have E4 := Aside0.mk (show takeR [pkA, pkQ, pkA] 0 = ([pkQ, pkA], pkA, 0) by simp [takeR])
  have E5 := Aside0.mk (show takeR [pkQ, pkA] 0 = ([pkA], pkQ, 0) by simp [takeR])
  have E6 := Aside0.mk (show takeR [pkA] 0 = ([], pkA, 0) by simp [takeR])
  have E7 := Aside0.mk (show takeR [] 0 = ([], ⟨0, 0, ⟨#[]⟩⟩, 4) by simp [takeR])
  have E8 := Aside0.mk (show postR [] ⟨9, 0, ⟨#[]⟩⟩ = ([], 1) by simp [postR, goodP])
  have E9 := Aside0.mk (show postR [] ⟨0, -1, ⟨#[]⟩⟩ = ([], 1) by simp [postR, goodP])
  have E10 := Aside0.mk (show postR [] ⟨3, 3, ⟨#[]⟩⟩ = ([⟨3, 3, ⟨#[]⟩⟩], 0) by simp [postR, putR, cntW, goodP])
  have hq := fun W => (neqPk 0 0 8 8 ⟨#[97]⟩ ⟨#[97]⟩ W).trans (by rw [samePk_self]; try rfl)
  have L64 := Aside0.mk (show (List.replicate 64 pkB).length ≤ 1000000000 by simp)
  have L65 := Aside0.mk (show (List.replicate 64 pkB ++ [pkC]).length ≤ 1000000000 by simp)
  have L66 := Aside0.mk (show ((List.replicate 64 pkB ++ [pkC]).eraseIdx 3).length ≤ 1000000000 by decide)
  have F1 := Aside0.mk (show postR (List.replicate 64 pkB) pkB = (List.replicate 64 pkB, 6) by unfold postR putR; rw [if_pos (by simp [goodP]), if_neg (by rw [cnt_rep]; decide)])
  have F2 := Aside0.mk (show dupR (List.replicate 64 pkB) 0 = (List.replicate 64 pkB, 6) by
    have e : (List.replicate 64 pkB)[(0 : Int).toNat]? = some pkB := rfl
    unfold dupR
    rw [if_pos (by decide), e]
    show putR _ _ = _
    unfold putR
    rw [if_neg (by rw [cnt_rep]; decide)])
  have F3 := Aside0.mk (show postR (List.replicate 64 pkB) pkC = (List.replicate 64 pkB ++ [pkC], 0) by unfold postR putR; rw [if_pos (by simp [goodP]), if_pos (by decide +kernel)])
  have F4 := Aside0.mk (show takeR (List.replicate 64 pkB ++ [pkC]) 3 = ((List.replicate 64 pkB ++ [pkC]).eraseIdx 3, pkB, 0) from takeR_yes (k := 3) rfl)
  have F5 := Aside0.mk (show dupR ((List.replicate 64 pkB ++ [pkC]).eraseIdx 3) 0 = ((List.replicate 64 pkB ++ [pkC]).eraseIdx 3 ++ [pkB], 0) by
    have e : ((List.replicate 64 pkB ++ [pkC]).eraseIdx 3)[(0 : Int).toNat]? = some pkB := rfl
    unfold dupR
    rw [if_pos (by decide), e]
    show putR _ _ = _
    unfold putR
    rw [if_pos (by decide +kernel)])
  go_enter Try.func3, Try.ntmps3
  go_wp2_with (first
    | (go_at_call 8; ((with_reducible refine (NetNew H0.out).mono ?_)); rintro e w1 ⟨g, rfl, h⟩; have h9 := (h.alloc (.cells #[.int .i64 0, .int .i64 8, .string ⟨#[97]⟩] 25)); have H1 := Aside0.mk h9.r1; have y0 := (blk_cell h9.at0 0).trans rfl; have y1 := (blk_cell h9.at0 1).trans rfl; have y2 := (blk_cell h9.at0 2).trans rfl; clear h h9)
    | (go_at_call 9; ((with_reducible refine (NetPostE H1.out 0 8 ⟨#[97]⟩ (by decide) (by decide) _ _ E1.out).mono ?_)); rintro e w2 ⟨rfl, h⟩; have H2 := Aside0.mk h; clear h y0 y1 y2)
    | (go_at_call 9; ((with_reducible refine (NetPostE H2.out 8 0 ⟨#[98]⟩ (by decide) (by decide) _ _ E2.out).mono ?_)); rintro e w3 ⟨rfl, h⟩; have H3 := Aside0.mk h; clear h)
    | (go_at_call 10; ((with_reducible refine (NetDupE H3.out 0 (by decide) (by decide) _ _ E3.out).mono ?_)); rintro e w4 ⟨rfl, h⟩; have H4 := Aside0.mk h; clear h)
    | (go_at_call 11; ((with_reducible refine (NetTakeE H4.out 0 (by decide) _ _ _ _ _ E4.out).mono ?_)); rintro e w5 ⟨rfl, h⟩; have H5 := Aside0.mk (h.alloc (.cells #[.int .i64 0, .int .i64 8, .string ⟨#[97]⟩] 25)).r1; clear h)
    | (go_at_call 12; ((with_reducible refine (NetLen H5.out 2 rfl).mono ?_)); rintro e w6 ⟨rfl, rfl⟩)
    | (go_at_call 13; ((with_reducible refine (NetLoseE H5.out 0 (by decide) _ _ _ E5.out).mono ?_)); rintro e w7 ⟨rfl, h⟩; have H6 := Aside0.mk h; clear h)
    | (go_at_call 11; ((with_reducible refine (NetTakeE H6.out 0 (by decide) _ _ _ _ _ E6.out).mono ?_)); rintro e w8 ⟨rfl, h⟩; have H7 := Aside0.mk (h.alloc (.cells #[.int .i64 0, .int .i64 8, .string ⟨#[97]⟩] 25)).r1; clear h)
    | (go_at_call 11; ((with_reducible refine (NetTakeE H7.out 0 (by decide) _ _ _ _ _ E7.out).mono ?_)); rintro e w9 ⟨rfl, h⟩; have h9 := (h.alloc (.cells #[.int .i64 0, .int .i64 0, .string ⟨#[]⟩] 25)).r1; have H8 := Aside0.mk h9; have a0 := (blk_cell h9.at2 0).trans rfl; have a1 := (blk_cell h9.at2 1).trans rfl; have a2 := (blk_cell h9.at2 2).trans rfl; have b0 := (blk_cell h9.at3 0).trans rfl; have b1 := (blk_cell h9.at3 1).trans rfl; have b2 := (blk_cell h9.at3 2).trans rfl; have y0 := (blk_cell (h9.get 4 rfl).1 0).trans rfl; have y1 := (blk_cell (h9.get 4 rfl).1 1).trans rfl; have y2 := (blk_cell (h9.get 4 rfl).1 2).trans rfl; clear h h9)
    | (go_at_call 9; ((with_reducible refine (NetPostE H8.out 9 0 ⟨#[]⟩ (by decide) (by decide) _ _ E8.out).mono ?_)); rintro e w10 ⟨rfl, h⟩; have H9 := Aside0.mk h; clear h a0 a1 a2 b0 b1 b2 y0 y1 y2)
    | (go_at_call 9; ((with_reducible refine (NetPostE H9.out 0 (-1) ⟨#[]⟩ (by decide) (by decide) _ _ E9.out).mono ?_)); rintro e w11 ⟨rfl, h⟩; have H10 := Aside0.mk h; clear h)
    | (go_at_call 9; ((with_reducible refine (NetPostE H10.out 3 3 ⟨#[]⟩ (by decide) (by decide) _ _ E10.out).mono ?_)); rintro e w12 ⟨rfl, h⟩; have H11 := Aside0.mk h; clear h)
    | (go_at_call 8; ((with_reducible refine (NetNew H11.out).mono ?_)); rintro e w13 ⟨gy, rfl, h⟩; have H12 := Aside0.mk (h.pick [0]); clear h))
  clear hq
  go_loopw [15] (fun v15 wr => ∃ k : Nat, k ≤ 64 ∧ v15 = .int .i64 k ∧ Aside0 (Own w wr [NetA gy (List.replicate k pkB) k])) (fun v15 _ => 64 - (RowKit.intOf v15).toNat)
  case atStart => exact ⟨0, by decide, rfl, H12⟩
  case round =>
    obtain ⟨k, hk, rfl, HO⟩ := hrel
    by_cases hlt : k < 64
    · have hki : (k : Int) < 64 := by omega
      have PR := Aside0.mk (post_rep hlt)
      have hkn : k < 1000000000 := by omega
      have hkl : (List.replicate k pkB).length ≤ 1000000000 := by rw [List.length_replicate]; omega
      have HKL := Aside0.mk hkl
      clear hkl
      go_wp2_with (go_at_call 9; ((with_reducible refine (NetPostE HO.out 0 1 ⟨#[]⟩ hkn HKL.out _ _ PR.out).mono ?_)); rintro e w20 ⟨rfl, h⟩; have H1 := Aside0.mk h; clear h)
      go_roundw
      case rel => exact ⟨k + 1, by omega, by first | rfl | go_num, H1⟩
      case measure => first | (simp [RowKit.intOf]; done) | (simp [RowKit.intOf]; omega)
    · obtain rfl : k = 64 := by omega
      clear hlt hk
      go_wp2_with (first
        | (go_at_call 14; ((with_reducible refine (awake_calls _).mono ?_)); rintro e w14 ⟨rfl, hb⟩; have H13 := Aside0.mk (HO.out.below hb); clear hb)
        | (go_at_call 9; ((with_reducible refine (NetPostE H13.out 0 1 ⟨#[]⟩ (by decide) L64.out _ _ F1.out).mono ?_)); rintro e w15 ⟨rfl, h⟩; have H14 := Aside0.mk h; clear h)
        | (go_at_call 10; ((with_reducible refine (NetDupE H14.out 0 (by decide) L64.out _ _ F2.out).mono ?_)); rintro e w16 ⟨rfl, h⟩; have H15 := Aside0.mk h; clear h)
        | (go_at_call 9; ((with_reducible refine (NetPostE H15.out 1 0 ⟨#[]⟩ (by decide) L64.out _ _ F3.out).mono ?_)); rintro e w17 ⟨rfl, h⟩; have H16 := Aside0.mk h; clear h)
        | (go_at_call 13; ((with_reducible refine (NetLoseE H16.out 3 L65.out _ _ _ F4.out).mono ?_)); rintro e w18 ⟨rfl, h⟩; have H17 := Aside0.mk h; clear h)
        | (go_at_call 10; ((with_reducible refine (NetDupE H17.out 0 (by decide) L66.out _ _ F5.out).mono ?_)); rintro e w19 ⟨rfl, h⟩; have H18 := Aside0.mk h; clear h))
      go_ret
      exact ⟨rfl, H18.out.bel⟩
end Go.Proofs.Ytdnpodpmicllgaa.PNetPlays
