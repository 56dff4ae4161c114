/- The law AcksMissing, walked. -/
import Derived.Test.YtbdimkpbkhcpfaaAckL2
namespace Go.Proofs.Ytbdimkpbkhcpfaa.PAcksPlays
open Go.RowKit Go.Proofs.YtbdimkpbkhcpfaaW.PrintWords Go.Proofs.YtbdimkpbkhcpfaaW.PrintLast Go.Proofs.YtbdimkpbkhcpfaaW.PrintMore
open Go.Proofs.YtbdimkpbkhcpfaaO
attribute [local go_sem] max2_int min2_int max_two min_two max_three min_three max_four min_four
set_option linter.unusedVariables false
set_option linter.unusedSimpArgs false
set_option maxHeartbeats 4000000 in
set_option maxRecDepth 100000 in
theorem AcksMissing_great (A : Option Addr) (c : Nat) (l : List S30) (upto : Int) (w : World) (hr : Kd.C k30 w A l.length l) (hc : l.length ≤ c) (hg : meterlaw12_Great.f (2 * min l.length 61 + 2) l = some true) :
    Calls Try.prog 7 #[.slice A l.length c, .int .i64 upto] w fun e w' => e = .returned (.bool true) ∧ Below w.heap.size w w' := by
  have HG := Aside0.mk hg
  have HR := Aside0.mk hr
  have HC := Aside0.mk hc
  clear hg hr hc
  go_enter Try.func7, Try.ntmps7
  go_wp2_with (first
    | (go_at_call 8; ((with_reducible refine (awake_calls w).mono ?_)); rintro e w1 ⟨rfl, hb⟩; have B1 := Aside0.mk hb; clear hb)
    | (go_at_call 9; ((with_reducible refine (meterlaw12_Great.calls _ A c l true w1 (Kd.C_below HR.out B1.out) HC.out HG.out).mono ?_)); rintro e w2 ⟨rfl, hb⟩; have B2 := Aside0.mk hb; clear hb))
  go_ret
  exact ⟨rfl, (((Own.nil w).below B1.out).drawn B2.out).bel⟩
set_option maxHeartbeats 4000000 in
set_option maxRecDepth 100000 in
theorem AcksMissing_small (A : Option Addr) (c : Nat) (l : List S30) (upto : Int) (w : World) (hr : Kd.C k30 w A l.length l) (hc : l.length ≤ c) (hx : ∀ x ∈ l, ActOk x) (hg : meterlaw12_Great.f (2 * min l.length 61 + 2) l = some false) (h5 : l.length ≤ 60) :
    Calls Try.prog 7 #[.slice A l.length c, .int .i64 upto] w fun e w' => e = .returned (.bool true) ∧ Below w.heap.size w w' := by
  obtain ⟨m, hm⟩ : ∃ m : Int, m = if 300 < upto then 300 else upto := ⟨_, rfl⟩
  have hm6 : m ≤ 300 := by rw [hm]; split <;> omega
  have hmin : (if 300 < upto then (300 : Int) else upto) = m := hm.symm
  have hm7 : (if 1048576 < m then (1048576 : Int) else m) = m := if_neg (by omega)
  have HM := Lib.hid hm7
  have HG := Aside0.mk hg
  have HR := Aside0.mk hr
  have HC := Aside0.mk hc
  have HX := Aside0.mk hx
  have H5 := Aside0.mk h5
  clear hg hr hc hx hm hm7 h5
  go_enter Try.func7, Try.ntmps7
  go_wp2_with (first
    | (go_at_call 8; ((with_reducible refine (awake_calls w).mono ?_)); rintro e w1 ⟨rfl, hb⟩; have B1 := Aside0.mk hb; clear hb)
    | (go_at_call 9; ((with_reducible refine (meterlaw12_Great.calls _ A c l false w1 (Kd.C_below HR.out B1.out) HC.out HG.out).mono ?_)); rintro e w2 ⟨rfl, hb⟩; have B2 := Aside0.mk hb; clear hb)
    | (go_at_call 17; ((with_reducible refine (after_calls (((Own.nil w).below B1.out).drawn B2.out) A c l HR.out HC.out HX.out H5.out).mono ?_)); rintro e w3 ⟨g, rfl, h⟩; have H3 := Aside0.mk h; clear h; obtain ⟨L, hL⟩ : ∃ L, L = afterL l := ⟨_, rfl⟩; rw [← hL] at H3; clear hL)
    | (go_at_call 19; ((with_reducible refine (AcksMissing H3.out m).mono ?_)); rintro e w4 ⟨v, rfl, h⟩; rw [HM.out] at h; obtain ⟨A4, c4, rfl, hlc, _⟩ := h.row_reads; have H4 := Aside0.mk h; clear h))
  obtain ⟨low, hlow⟩ := acks_low H4.out.tail
  have hmz := missL_zero L hlow m.toNat
  have hml := missL_len L m.toNat
  have HLOW := Aside0.mk hlow
  have HAT := Aside0.mk (missL_at L)
  obtain ⟨M, hM⟩ : ∃ M, M = missL L m.toNat := ⟨_, rfl⟩
  have HMM := Lib.hid hM
  rw [← hM] at H4 hmz hml hlc
  rw [← hM]
  clear hM hlow
  go_loopw [7, 8] (fun v7 v8 wr => ∃ k : Nat, (k = 0 ∨ (k : Int) ≤ m) ∧ v8 = .int .i64 ((k : Int) + 1) ∧ v7 = .int .i64 ((missL L k).length : Int) ∧ Aside0 (Own w wr (Row (Kd.int .i64) 3 (.slice A4 M.length c4) M :: Acks g L :: []))) (fun _ v8 _ => 400 - (RowKit.intOf v8).toNat)
  case atStart => exact ⟨0, .inl rfl, rfl, rfl, H4⟩
  case round =>
    obtain ⟨k, hk2, rfl, rfl, HO⟩ := hrel
    have hln := missL_len L k
    by_cases hle : (k : Int) + 1 ≤ m
    · have d1 : decide ((k : Int) + 1 ≤ m) = true := decide_eq_true hle
      have hk3 : (k : Int) ≤ 300 := by omega
      clear hk2 hmz
      by_cases hf : ((k : Int) + 1) ∈ L
      · have HF := Aside0.mk (decide_eq_true hf)
        have HMS := Lib.hid (show missL L (k + 1) = missL L k by rw [missL]; exact if_pos hf)
        clear hf
        go_wp2_with (go_at_call 14; (refine (AcksHas HO.out.r1 ((k : Int) + 1) (wf64 _ (by omega) (by omega))).mono ?_); rintro e w1 ⟨rfl, h⟩; rw [HF.out]; have H1 := Aside0.mk h; clear h)
        go_roundw
        case rel => exact ⟨k + 1, .inr (by omega), by first | rfl | go_num, by rw [HMS.out], ⟨H1.out.r1⟩⟩
        case measure => simp [RowKit.intOf]; omega
      · have hat := HAT.out k m.toNat (by omega) hf
        rw [← HMM.out] at hat
        have hlt : (missL L k).length < M.length := (List.getElem?_eq_some_iff.1 hat).1
        have HF := Aside0.mk (decide_eq_false hf)
        have HMS := Lib.hid (show missL L (k + 1) = missL L k ++ [(k : Int) + 1] by rw [missL]; exact if_neg hf)
        clear hf
        obtain ⟨j, hj⟩ : ∃ j, j = (missL L k).length := ⟨_, rfl⟩
        have HJ := Lib.hid hj
        rw [← hj] at hat hlt hln
        rw [← hj]
        have HATK := Aside0.mk hat
        clear hj hat
        go_wp2_with (first
          | (go_at_call 14; (refine (AcksHas HO.out.r1 ((k : Int) + 1) (wf64 _ (by omega) (by omega))).mono ?_); rintro e w1 ⟨rfl, h⟩; rw [HF.out]; obtain ⟨ad, rfl, hcell⟩ := own_int_at h.r1 j _ HATK.out; have H1 := Aside0.mk h.r1; clear h))
        go_roundw
        case rel => exact ⟨k + 1, .inr (by omega), by first | rfl | go_num, by rw [HMS.out, List.length_append, ← HJ.out]; go_num, ⟨H1.out⟩⟩
        case measure => simp [RowKit.intOf]; omega
    · have hup : missL L k = M := by
        rw [HMM.out]
        rcases hk2 with rfl | hk2
        · rw [show m.toNat = 0 by omega]
        · congr 1
          omega
      rw [hup]
      have hsp : (M.length = 0 ∧ m ≤ low) ∨ (M.length ≠ 0 ∧ ¬ (m ≤ (low : Int)) ∧ ¬ m < 1) := by
        by_cases hz : M.length = 0
        · exact .inl ⟨hz, by have := hmz.1 hz; omega⟩
        · exact .inr ⟨hz, fun h => hz (hmz.2 (by omega)), fun h => hz (hmz.2 (by omega))⟩
      clear hmz hk2 hup
      rcases hsp with ⟨hz, hl⟩ | ⟨hz, hl, hl2⟩
      · have HZ := Lib.hid (show decide (m < 1 ∨ m ≤ (low : Int)) = true from decide_eq_true (.inr hl))
        have dz : ((M.length : Int) == 0) = true := by rw [hz]; rfl
        have dl : decide (m ≤ (low : Int)) = true := decide_eq_true hl
        clear hz hl
        by_cases hm1 : m < 1
        · have dm := decide_eq_true hm1
          go_wp2_with (first
            | (go_at_call 20; (refine (AcksWhole HO.out.tail m low HLOW.out).mono ?_); rintro e w5 ⟨rfl, rfl⟩; rw [HZ.out]))
          go_ret
          exact ⟨rfl, HO.out.bel⟩
        · have dm := decide_eq_false hm1
          go_wp2_with (first
            | (go_at_call 20; (refine (AcksWhole HO.out.tail m low HLOW.out).mono ?_); rintro e w5 ⟨rfl, rfl⟩; rw [HZ.out])
            | (go_at_call 13; ((with_reducible refine (AcksLowE HO.out.tail low HLOW.out).mono ?_)); rintro e w6 ⟨rfl, rfl⟩))
          go_ret
          exact ⟨rfl, HO.out.bel⟩
      · have HZ := Lib.hid (show decide (m < 1 ∨ m ≤ (low : Int)) = false from decide_eq_false (fun h => h.elim hl2 hl))
        have dz : ((M.length : Int) == 0) = false := beq_eq_false_iff_ne.mpr (by omega)
        have dl : decide (m ≤ (low : Int)) = false := decide_eq_false hl
        have dm := decide_eq_false hl2
        clear hz hl
        go_wp2_with (first
          | (go_at_call 20; (refine (AcksWhole HO.out.tail m low HLOW.out).mono ?_); rintro e w5 ⟨rfl, rfl⟩; rw [HZ.out])
          | (go_at_call 13; ((with_reducible refine (AcksLowE HO.out.tail low HLOW.out).mono ?_)); rintro e w6 ⟨rfl, rfl⟩))
        go_ret
        exact ⟨rfl, HO.out.bel⟩
theorem AcksMissing_law (A : Option Addr) (c : Nat) (l : List S30) (upto : Int) (w : World) (hr : Kd.C k30 w A l.length l) (hc : l.length ≤ c) (hq : l.length ≤ 9223372036854775807 ∧ ∀ x ∈ l, Q30 x) (hu : (Lit.int .i64 upto).wf = true) :
    Calls Try.prog 7 #[.slice A l.length c, .int .i64 upto] w fun e w' => e = .returned (.bool true) ∧ Below w.heap.size w w' := by
  obtain ⟨r, hg, hgf⟩ := great_f l
  cases r with
  | true => exact AcksMissing_great A c l upto w hr hc hg
  | false => exact AcksMissing_small A c l upto w hr hc (fun x hx => ok_of_Q x (hq.2 x hx) ((hgf rfl).2 x hx)) hg (hgf rfl).1
end Go.Proofs.Ytbdimkpbkhcpfaa.PAcksPlays
