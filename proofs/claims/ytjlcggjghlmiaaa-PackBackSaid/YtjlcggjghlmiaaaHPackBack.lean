/- The law PackBack, walked: what was written is read back; what is read, written again, is what was read. -/
import Derived.Test.YtjlcggjghlmiaaaPackBackP
import Derived.Test.YtjlcggjghlmiaaaPackBad
namespace Go.Proofs.Ytjlcggjghlmiaaa.PPackWrites
open Go.RowKit Go.Proofs.YtjlcggjghlmiaaaW.PrintWords Go.Proofs.YtjlcggjghlmiaaaW.PrintLast Go.Proofs.YtjlcggjghlmiaaaW.PrintMore
open Go.Proofs.YtjlcggjghlmiaaaO
attribute [local go_sem] max2_int min2_int max_two min_two max_three min_three max_four min_four
set_option linter.unusedVariables false
set_option linter.unusedSimpArgs false
set_option maxHeartbeats 4000000 in
set_option maxRecDepth 100000 in
theorem PackBack_great (A : Option Addr) (c : Nat) (l : List S38) (s : ByteArray) (w : World) (hr : Kd.C k38 w A l.length l) (hc : l.length ≤ c) (hg : meterlaw02_Great.f 502 l = some true) :
    Calls Try.prog 7 #[.slice A l.length c, .string s] w fun e w' => e = .returned (.bool true) ∧ Below w.heap.size w w' := by
  have HG := Aside0.mk hg
  have HR := Aside0.mk hr
  have HC := Aside0.mk hc
  clear hg hr hc
  go_enter Try.func7, Try.ntmps7
  go_wp2_with (first
    | (go_at_call 9; (with_reducible refine (awake_calls w).mono ?_); rintro e w1 ⟨rfl, hb⟩; have B1 := Aside0.mk hb; clear hb)
    | (go_at_call 15; (with_reducible refine (meterlaw02_Great.calls 502 A c l true w1 (Kd.C_below HR.out B1.out) HC.out HG.out).mono ?_); rintro e w2 ⟨rfl, hb⟩; have B2 := Aside0.mk hb; clear hb))
  go_ret
  exact ⟨rfl, below_step B1.out B2.out⟩
set_option maxHeartbeats 4000000 in
set_option maxRecDepth 100000 in
theorem PackBack_long (A : Option Addr) (c : Nat) (l : List S38) (s : ByteArray) (w : World) (hr : Kd.C k38 w A l.length l) (hc : l.length ≤ c) (hg : meterlaw02_Great.f 502 l = some false) (hs : 60000 < s.size) :
    Calls Try.prog 7 #[.slice A l.length c, .string s] w fun e w' => e = .returned (.bool true) ∧ Below w.heap.size w w' := by
  have HG := Aside0.mk hg
  have HR := Aside0.mk hr
  have HC := Aside0.mk hc
  have d1 : decide ((s.size : Int) > 60000) = true := decide_eq_true (by omega)
  clear hg hr hc hs
  go_enter Try.func7, Try.ntmps7
  go_wp2_with (first
    | (go_at_call 9; (with_reducible refine (awake_calls w).mono ?_); rintro e w1 ⟨rfl, hb⟩; have B1 := Aside0.mk hb; clear hb)
    | (go_at_call 15; (with_reducible refine (meterlaw02_Great.calls 502 A c l false w1 (Kd.C_below HR.out B1.out) HC.out HG.out).mono ?_); rintro e w2 ⟨rfl, hb⟩; have B2 := Aside0.mk hb; clear hb))
  go_ret
  exact ⟨rfl, below_step B1.out B2.out⟩
theorem byte_read (s : ByteArray) (a : Nat) (b : Int) (R : List Int) (ha : a < s.size) (h : (bytesOf s).drop a = b :: R) : rdByte s a 0 = (b, ((a + 1 : Nat) : Int), 0) := by
  unfold rdByte byteR
  rw [if_neg (by simp), Int.toNat_natCast, if_neg (by omega)]
  have hb : ((byteN s a : Nat) : Int) = b := by
    have hl : a < (bytesOf s).length := by rw [bytesOf_length]; omega
    rw [byteN_list, List.getD_eq_getElem?_getD, List.getElem?_eq_getElem hl]
    rw [List.drop_eq_getElem_cons hl] at h
    exact (List.cons.inj h).1
  rw [hb]
  unfold finR
  simp
set_option maxHeartbeats 16000000 in
set_option maxRecDepth 100000 in
theorem PackBack_small (A : Option Addr) (c : Nat) (l : List S38) (s : ByteArray) (w : World) (hr : Kd.C k38 w A l.length l) (hc : l.length ≤ c) (hx : ∀ x ∈ l, PartOk x) (hg : meterlaw02_Great.f 502 l = some false) (h5 : l.length ≤ 500) (ht : tot l ≤ 60000) (hs : s.size ≤ 60000) :
    Calls Try.prog 7 #[.slice A l.length c, .string s] w fun e w' => e = .returned (.bool true) ∧ Below w.heap.size w w' := by
  have HG := Aside0.mk hg
  have HR := Aside0.mk hr
  have HC := Aside0.mk hc
  have HX := Aside0.mk hx
  have HM := Aside0.mk (allB_max l hx h5 ht)
  have HT := Aside0.mk (fun k hk => tot_mem ht k hk)
  have HRG := Aside0.mk (fun k => allB_range (l.take k) (fun x h => hx x (List.mem_of_mem_take h)))
  have HS := Lib.hid hs
  have d1 : decide ((s.size : Int) > 60000) = false := decide_eq_false (by omega)
  clear hg hr hc hx ht hs
  go_enter Try.func7, Try.ntmps7
  go_wp2_with (first
    | (go_at_call 9; (with_reducible refine (awake_calls w).mono ?_); rintro e w1 ⟨rfl, hb⟩; have B1 := Aside0.mk hb; clear hb)
    | (go_at_call 15; (with_reducible refine (meterlaw02_Great.calls 502 A c l false w1 (Kd.C_below HR.out B1.out) HC.out HG.out).mono ?_); rintro e w2 ⟨rfl, hb⟩; have B2 := Aside0.mk hb; clear hb))
  have H0 := Aside0.mk (out_new (((Own.nil w).below (below_step B1.out B2.out)).alloc (.cells #[.slice none 0 0] 26 (0, 0))))
  go_loopw [6] (fun v6 wr => ∃ k : Nat, k ≤ l.length ∧ v6 = .int .i64 k ∧ Aside0 (Own w wr [Out w2.heap.size (allB (l.take k))])) (fun v6 _ => l.length - (intOf v6).toNat)
  case atStart => exact ⟨0, Nat.zero_le _, rfl, H0⟩
  case round =>
    obtain ⟨k, hk, rfl, HO⟩ := hrel
    by_cases hlt : k < l.length
    · have hxk := HX.out _ (List.getElem_mem hlt)
      have hsk := HT.out k hlt
      have hmk := HM.out k
      have hsn := Lib.hid (allB_snoc l k hlt)
      have hgk := List.getElem?_eq_getElem hlt
      generalize l[k] = x at hxk hsk hsn hgk
      obtain ⟨f0, f1, f2, f3, f4, f5⟩ := x
      rcases A with _ | ad
      · exact absurd (HR.out.2.2 (by omega)) (by rintro ⟨_, h, _⟩; cases h)
      have HGK := Aside0.mk hgk
      have HXK := Aside0.mk hxk
      have HL := Lib.hid (show (allB (l.take k)).length < 100000000000 by omega)
      have HF := Lib.hid (show f3.size < 1000000 by simp only at hsk; omega)
      clear hgk hxk hmk hsk
      obtain ⟨a0, a1, a2, a3, a4, a5⟩ := elem_at HR.out HO.out.bel k hlt f0 f1 f2 f3 f4 f5 HGK.out
      go_wp2_with (go_at_call 16; (with_reducible refine (write_calls HO.out f0 f1 f2 f3 f4 f5 HXK.out HF.out HL.out).mono ?_); rintro e w3 ⟨rfl, h⟩; have H3 := Aside0.mk h; clear h a0 a1 a2 a3 a4 a5)
      go_roundw
      case rel => exact ⟨k + 1, by omega, by go_num, by rw [hsn.out]; exact H3⟩
      case measure => simp [intOf]; omega
    have hk' : k = l.length := by omega
    subst hk'
    clear hlt hk
    rw [List.take_length] at HO
    obtain ⟨S, hS⟩ : ∃ S, S = strOfNums (allB l) := ⟨_, rfl⟩
    have hSb : bytesOf S = allB l := by rw [hS]; exact bytes_strOf _ (by have := HRG.out l.length; rwa [List.take_length] at this)
    have hSz : S.size = (allB l).length := by rw [← bytesOf_length, hSb]
    have hSl : S.size ≤ 1000000 := by rw [hSz]; have := HM.out l.length; rw [List.take_length] at this; omega
    have HS1 := Lib.hid hS
    have HSb := Lib.hid hSb
    have HSz := Lib.hid hSz
    clear hS hSb hSz
    go_wp2_with (first
      | (go_at_call 14; (with_reducible refine (OutString HO.out).mono ?_); rintro e w3 ⟨rfl, rfl⟩; rw [← HS1.out])
      | (go_at_call 18; (with_reducible refine (InOf HO.out S).mono ?_); rintro e w3 ⟨gx, rfl, h⟩; have H1 := Aside0.mk h; clear h))
    rename World => wo
    go_loopw [8] (fun v8 wr => ∃ k : Nat, k ≤ l.length ∧ v8 = .int .i64 k ∧ Aside0 (Own w wr [InA gx S ((allB (l.take k)).length : Nat) 0, Out w2.heap.size (allB l)])) (fun v8 _ => l.length - (intOf v8).toNat)
    case atStart => exact ⟨0, Nat.zero_le _, rfl, H1⟩
    case round =>
      obtain ⟨k, hk, rfl, HQ⟩ := hrel
      by_cases hlt : k < l.length
      · have hxk := HX.out _ (List.getElem_mem hlt)
        have hsk := HT.out k hlt
        have hsn := allB_snoc l k hlt
        have hdr := allB_drop l k hlt
        have hle := allB_le l (k + 1)
        have hgk := List.getElem?_eq_getElem hlt
        rw [← HSb.out] at hdr
        rw [← HSz.out] at hle
        generalize l[k] = x at hxk hsk hsn hgk hdr
        have hnx := congrArg List.length hsn
        rw [List.length_append] at hnx
        rw [hnx] at hle
        obtain ⟨f0, f1, f2, f3, f4, f5⟩ := x
        rcases A with _ | ad
        · exact absurd (HR.out.2.2 (by omega)) (by rintro ⟨_, h, _⟩; cases h)
        have HGK := Aside0.mk hgk
        obtain ⟨a, ha⟩ : ∃ a : Nat, a = (allB (l.take k)).length := ⟨_, rfl⟩
        rw [← ha] at HQ hdr hnx hle
        have HF := Lib.hid (show f3.size < 1000000 by simp only at hsk; omega)
        have HNX := Lib.hid hnx
        obtain ⟨R, hR⟩ : ∃ R, R = allB (l.drop (k + 1)) := ⟨_, rfl⟩
        rw [← hR] at hdr
        have HK := Aside0.mk hxk
        clear hgk hsk hsn hnx ha hR hxk
        obtain ⟨a0, a1, a2, a3, a4, a5⟩ := elem_at HR.out HQ.out.bel k hlt f0 f1 f2 f3 f4 f5 HGK.out
        by_cases q0 : f0 = 0
        · subst q0
          have hn0 := HK.out.n0
          have hn1 := HK.out.n1
          simp only at hn0 hn1
          obtain ⟨n, rfl⟩ := Int.eq_ofNat_of_zero_le hn0
          have hp : partB ⟨0, (n : Int), f2, f3, f4, f5⟩ = numB n := rfl
          rw [hp] at hdr HNX hle
          have R1 := Aside0.mk (rdNum_read S a n R (by omega) hdr)
          clear hn1 hn0
          clear hdr
          go_wp2
          go_region_with (go_at_call 26; (refine (InNum HQ.out.drew (by omega) (by omega) hSl _ _ _ R1.out).mono ?_); rintro e w4 ⟨rfl, h⟩; have H4 := Aside0.mk h; clear h; have b := elem_at HR.out H4.out.bel k hlt 0 (n : Int) f2 f3 f4 f5 HGK.out; obtain ⟨b0, b1, b2, b3, b4, b5⟩ := b)
          all_goals (go_wp2; go_roundw; (case rel => exact ⟨k + 1, by omega, by go_num, by rw [HNX.out]; exact H4⟩); (case measure => simp [intOf]; omega))
        by_cases q1 : f0 = 1
        · subst q1
          have hi0 := HK.out.i0
          have hi1 := HK.out.i1
          simp only at hi0 hi1
          have hp : partB ⟨1, f1, f2, f3, f4, f5⟩ = numB (zigN f2) := rfl
          rw [hp] at hdr HNX hle
          have R1 := Aside0.mk (rdNum_read S a (zigN f2) R (zigN_lt _ hi0 hi1) hdr)
          have HZ := Lib.hid (zag_zig f2)
          have HZL := Lib.hid (zigN_lt f2 hi0 hi1)
          clear hi0 hi1
          clear hdr
          go_wp2
          go_region_with (go_at_call 27; (refine (InInt HQ.out.drew (by omega) (by omega) hSl _ _ _ HZL.out R1.out).mono ?_); rintro e w4 ⟨rfl, h⟩; rw [HZ.out]; have H4 := Aside0.mk h; clear h; have b := elem_at HR.out H4.out.bel k hlt 1 f1 f2 f3 f4 f5 HGK.out; obtain ⟨b0, b1, b2, b3, b4, b5⟩ := b)
          all_goals (go_wp2; go_roundw; (case rel => exact ⟨k + 1, by omega, by go_num, by rw [HNX.out]; exact H4⟩); (case measure => simp [intOf]; omega))
        by_cases q2 : f0 = 2
        · subst q2
          have hp : partB ⟨2, f1, f2, f3, f4, f5⟩ = numB f3.size ++ bytesOf f3 := rfl
          rw [hp] at hdr HNX hle
          rw [List.append_assoc] at hdr
          have R1 := Aside0.mk (rdText_read S a f3 R f3.size HF.out (Int.le_refl _) hSl hdr)
          have HFF := HF.out
          rw [List.length_append, bytesOf_length, ← Nat.add_assoc] at HNX
          clear hdr
          go_wp2
          go_region_with (go_at_call 23; (refine (InText HQ.out.drew (by omega) (by omega) hSl _ (by omega) _ _ _ R1.out).mono ?_); rintro e w4 ⟨rfl, h⟩; have H4 := Aside0.mk h; clear h; have b := elem_at HR.out H4.out.bel k hlt 2 f1 f2 f3 f4 f5 HGK.out; obtain ⟨b0, b1, b2, b3, b4, b5⟩ := b)
          all_goals (go_wp2; go_roundw; (case rel => exact ⟨k + 1, by omega, by go_num, by rw [HNX.out]; exact H4⟩); (case measure => simp [intOf]; omega))
        by_cases q3 : f0 = 3
        · subst q3
          have hp : partB ⟨3, f1, f2, f3, f4, f5⟩ = [f4] := rfl
          rw [hp] at hdr HNX hle
          simp only [List.length_cons, List.length_nil, Nat.zero_add] at HNX hle
          have R1 := Aside0.mk (byte_read S a f4 R (by omega) hdr)
          clear hdr
          go_wp2
          go_region_with (go_at_call 19; (refine (InByte HQ.out.drew (by omega) (by omega) hSl _ _ _ R1.out).mono ?_); rintro e w4 ⟨rfl, h⟩; have H4 := Aside0.mk h; clear h; have b := elem_at HR.out H4.out.bel k hlt 3 f1 f2 f3 f4 f5 HGK.out; obtain ⟨b0, b1, b2, b3, b4, b5⟩ := b)
          all_goals (go_wp2; go_roundw; (case rel => exact ⟨k + 1, by omega, by go_num, by rw [HNX.out]; exact H4⟩); (case measure => simp [intOf]; omega))
        have hp : partB ⟨f0, f1, f2, f3, f4, f5⟩ = [] := by unfold partB; rw [if_neg q0, if_neg q1, if_neg q2, if_neg q3]
        rw [hp, List.length_nil, Nat.add_zero] at HNX
        have e0 : (f0 == 0) = false := beq_eq_false_iff_ne.mpr q0
        have e1 : (f0 == 1) = false := beq_eq_false_iff_ne.mpr q1
        have e2 : (f0 == 2) = false := beq_eq_false_iff_ne.mpr q2
        have e3 : (f0 == 3) = false := beq_eq_false_iff_ne.mpr q3
        clear hdr hp hle
        go_wp2
        go_roundw
        case rel => exact ⟨k + 1, by omega, by go_num, by rw [HNX.out]; exact HQ⟩
        case measure => simp [intOf]; omega
      have hk' : k = l.length := by omega
      subst hk'
      clear hlt hk
      rw [List.take_length] at HQ
      go_wp2_with (first
        | (go_at_call 24; (refine (InEnd HQ.out (by omega) (by rw [HSz.out]; exact Int.le_refl _) hSl 0 (by rw [if_pos rfl, if_neg (by rw [HSz.out]; omega)])).mono ?_); rintro e w5 ⟨rfl, h⟩; have H5 := Aside0.mk h; clear h)
        | (go_at_call 18; (with_reducible refine (InOf H5.out s).mono ?_); rintro e w6 ⟨gy, rfl, h⟩; have H6 := Aside0.mk (out_new (h.alloc (.cells #[.slice none 0 0] 26 (0, 0)))); clear h))
      have H7 : Aside0 (Own w _ [Out w6.heap.size [], InA gy s 0 0]) := Aside0.mk (H6.out.pick [0, 1])
      go_loopw [11] (fun v11 wr => ∃ (k a : Nat), k ≤ l.length ∧ a ≤ s.size ∧ v11 = .int .i64 k ∧ Aside0 (Own w wr [Out w6.heap.size ((bytesOf s).take a), InA gy s (a : Nat) 0])) (fun v11 _ => l.length - (intOf v11).toNat)
      case atStart => exact ⟨0, 0, Nat.zero_le _, Nat.zero_le _, rfl, H7⟩
      case round =>
        obtain ⟨k, a, hk, hal, rfl, HQ⟩ := hrel
        by_cases hlt : k < l.length
        · have hxk := HX.out _ (List.getElem_mem hlt)
          have hgk := List.getElem?_eq_getElem hlt
          generalize l[k] = x at hxk hgk
          obtain ⟨f0, f1, f2, f3, f4, f5⟩ := x
          rcases A with _ | ad
          · exact absurd (HR.out.2.2 (by omega)) (by rintro ⟨_, h, _⟩; cases h)
          have HGK := Aside0.mk hgk
          have HK := Aside0.mk hxk
          clear hgk hxk
          have hs := HS.out
          have HSS := Lib.hid (show s.size ≤ 1000000 by omega)
          have e9 : (s.size : Int) - ((s.size : Int) - (a : Int)) = (a : Int) := by omega
          have hex : strOfNums ((bytesOf s).take a) = s.extract 0 a := bytesOf_inj (by rw [bytes_strOf _ (fun x hx => bytesOf_range s x (List.mem_of_mem_take hx)), bytesOf_extract, List.drop_zero])
          have HEX := Lib.hid hex
          have hTL := Lib.hid (show ((bytesOf s).take a).length < 100000000000 by rw [List.length_take, bytesOf_length]; omega)
          have HE9 := Lib.hid e9
          have hm0 := HK.out.m0
          have hm1 := HK.out.m1
          simp only at hm0 hm1
          have HM1 := Lib.hid hm1
          clear hex e9 hs hm0 hm1
          by_cases q0 : f0 = 0
          · subst q0
            rcases num_back s a hal with ⟨bad, hbad, hrd⟩ | ⟨n, hn, hrd, hle, htk⟩
            · have hn1 := Aside0.mk (show rdNum s a bad = (0, (a : Int), bad) by unfold rdNum; rw [if_pos hbad])
              have hn2 := Aside0.mk (show rdText s a bad 9 = (.empty, (a : Int), bad) by unfold rdText; rw [if_pos hbad])
              have hn3 := Aside0.mk (show rdByte s a bad = (0, (a : Int), bad) by unfold rdByte; rw [if_pos hbad])
              have hn4 := Aside0.mk (show rdNum s a bad = (((0 : Nat) : Int), (a : Int), bad) from hn1.out)
              have z00 : zagI 0 = 0 := rfl
              have HZ00 := Lib.hid z00
              have HRD := Aside0.mk hrd
              have HBD := Lib.hid hbad
              have eb : decide (bad = 0) = false := decide_eq_false hbad
              have eb2 : (bad != 0) = true := bne_iff_ne.mpr hbad
              have eb3 : (bad = 0) = False := eq_false hbad
              clear hrd hbad z00
              go_wp2_with (first
                | (go_at_call 22; ((with_reducible refine (InLeft HQ.out.r1 (by omega) (by omega) HSS.out).mono ?_)); rintro e w7 ⟨rfl, h⟩; have H8 := Aside0.mk h; have H9 := Aside0.mk (h.alloc (.cells #[.int .i64 0, .int .u64 f1, .int .i64 f2, .string f3, .int .u8 f4, .int .i64 f5] 38)); clear h; have b := elem_at HR.out H8.out.bel k hlt 0 f1 f2 f3 f4 f5 HGK.out; obtain ⟨b0, b1, b2, b3, b4, b5⟩ := b)
                | (go_at_call 26; ((with_reducible refine (InNum H9.out.r1 (by omega) (by omega) HSS.out _ _ _ HRD.out).mono ?_)); rintro e w8 ⟨rfl, h⟩; have H10 := Aside0.mk h; have z1 := (blk_cell h.at1 1).trans rfl; have f1' := blk_frozen h.at1 1; have H105 := Aside0.mk (h.r1.set 1 (.int .u64 0)).r1; clear h b0 b1 b2 b3 b4 b5)
                | (go_at_call 21; ((with_reducible refine (InFault1 H105.out HBD.out).mono ?_)); rintro e w9 ⟨rfl, h⟩; have H11 := Aside0.mk h; clear h z1))
              have HE := HE9.out
              refine bad47 _ s a gy w6.heap.size bad HBD.out hal HS.out w _ _ H11.out _ _ _ _ _ _ _ _ _ _ _ _ _ _ _ _ _ _ _ _ _ _ _ _ _ _ _ _ _ _ _ _ _ _ _ _ _ _ _ _ _ _ _ _ _ _ _ _ _ _ _ _ _ _ _ _ _ _ _ _ _ _ _ _ _ _ _ _ _ _ _ _ _ _ _ _ _ _ _ _ _ _ _ _ _ _ _ _ _ _ _ _ _ _ _ _ _ _ _ _ _ _ _ _ _ _ _ _ _ _ _ _ _ _ _ _ _ _ _ _ _ _ _ _ _ _ _ _ _ _ _ _ _ _ _ _ _ _ _ _ _ _ _ _ _ _ _ _ _ _ _ _ _ _ _ _ _ _ _ _ _ _ _ _ _ _ _ _ _ _ _ _ _ _ _ _ _ _ _ _ _ _ _ _ _ _ _ _ _ _ ?_
              intro a47 w47 h47 hz47 hd47 hb47
              refine (‹∀ (a : Act) (w : World), Code.wp Try.prog Code.ret _ a w → _› a47 w47 ?_)
              go_wp2
              exact bodyPost_ret (results_tmp (t := 4) (by kernel_rfl) _ _ _) hd47 ⟨by rw [h47], hb47⟩
            · have HRD := Aside0.mk hrd
              have HTK := Lib.hid htk
              have HLE := Lib.hid hle
              have HOK := Aside0.mk (show PartOk ⟨0, (n : Int), f2, f3, f4, f5⟩ from ⟨by simp, by simp, by simp only; omega, by simp only; omega, HK.out.i0, HK.out.i1, HK.out.b0, HK.out.b1, HK.out.m0, HK.out.m1⟩)
              clear hn
              clear hrd htk hle
              have HSZ3 := Lib.hid (show f3.size < 1000000 from Nat.lt_of_le_of_lt (by have := HT.out k hlt; rw [show l[k] = _ from (List.getElem?_eq_some_iff.1 HGK.out).2] at this; exact this) (by omega))
              go_wp2_with (first
                | (go_at_call 22; ((with_reducible refine (InLeft HQ.out.r1 (by omega) (by omega) HSS.out).mono ?_)); rintro e w7 ⟨rfl, h⟩; have H8 := Aside0.mk h; have H9 := Aside0.mk (h.alloc (.cells #[.int .i64 0, .int .u64 f1, .int .i64 f2, .string f3, .int .u8 f4, .int .i64 f5] 38)); clear h; have b := elem_at HR.out H8.out.bel k hlt 0 f1 f2 f3 f4 f5 HGK.out; obtain ⟨b0, b1, b2, b3, b4, b5⟩ := b)
                | (go_at_call 26; ((with_reducible refine (InNum H9.out.r1 (by omega) (by omega) HSS.out _ _ _ HRD.out).mono ?_)); rintro e w8 ⟨rfl, h⟩; have H10 := Aside0.mk h; have z1 := (blk_cell h.at1 1).trans rfl; have f1' := blk_frozen h.at1 1; have H105 := Aside0.mk (h.r1.set 1 (.int .u64 (n : Int))).r1; clear h b0 b1 b2 b3 b4 b5)
                | (go_at_call 21; ((with_reducible refine (InFault0 H105.out).mono ?_)); rintro e w9 ⟨rfl, h⟩; have H11 := Aside0.mk h; clear h z1; have y0 := (blk_cell H11.out.at1 0).trans rfl; have y1 := (blk_cell H11.out.at1 1).trans rfl; have y2 := (blk_cell H11.out.at1 2).trans rfl; have y3 := (blk_cell H11.out.at1 3).trans rfl; have y4 := (blk_cell H11.out.at1 4).trans rfl; have y5 := (blk_cell H11.out.at1 5).trans rfl)
                | (go_at_call 16; ((with_reducible refine (write_calls H11.out.r2 0 (n : Int) f2 f3 f4 f5 HOK.out HSZ3.out hTL.out).mono ?_)); rintro e w10 ⟨rfl, h⟩; have H12 := Aside0.mk h; clear h))
              go_roundw
              case rel =>
                have H13 : Aside0 (Own w _ [Out w6.heap.size ((bytesOf s).take (a + (numB n).length)), InA gy s ((a + (numB n).length : Nat) : Int) 0]) := Aside0.mk (by have h := H12.out.pick [0, 1]; rw [HTK.out]; exact h)
                exact ⟨k + 1, a + (numB n).length, by omega, HLE.out, by go_num, H13⟩
              case measure => simp [intOf]; omega
          by_cases q1 : f0 = 1
          · subst q1
            rcases num_back s a hal with ⟨bad, hbad, hrd⟩ | ⟨n, hn, hrd, hle, htk⟩
            · have hn1 := Aside0.mk (show rdNum s a bad = (0, (a : Int), bad) by unfold rdNum; rw [if_pos hbad])
              have hn2 := Aside0.mk (show rdText s a bad 9 = (.empty, (a : Int), bad) by unfold rdText; rw [if_pos hbad])
              have hn3 := Aside0.mk (show rdByte s a bad = (0, (a : Int), bad) by unfold rdByte; rw [if_pos hbad])
              have hn4 := Aside0.mk (show rdNum s a bad = (((0 : Nat) : Int), (a : Int), bad) from hn1.out)
              have z00 : zagI 0 = 0 := rfl
              have HZ00 := Lib.hid z00
              have HRD := Aside0.mk (show rdNum s a 0 = (((0 : Nat) : Int), (a : Int), bad) from hrd)
              have HBD := Lib.hid hbad
              have eb : decide (bad = 0) = false := decide_eq_false hbad
              have eb2 : (bad != 0) = true := bne_iff_ne.mpr hbad
              have eb3 : (bad = 0) = False := eq_false hbad
              clear hrd hbad z00
              go_wp2_with (first
                | (go_at_call 22; ((with_reducible refine (InLeft HQ.out.r1 (by omega) (by omega) HSS.out).mono ?_)); rintro e w7 ⟨rfl, h⟩; have H8 := Aside0.mk h; have H9 := Aside0.mk (h.alloc (.cells #[.int .i64 1, .int .u64 f1, .int .i64 f2, .string f3, .int .u8 f4, .int .i64 f5] 38)); clear h; have b := elem_at HR.out H8.out.bel k hlt 1 f1 f2 f3 f4 f5 HGK.out; obtain ⟨b0, b1, b2, b3, b4, b5⟩ := b)
                | (go_at_call 27; ((with_reducible refine (InInt H9.out.r1 (by omega) (by omega) HSS.out 0 _ _ (by omega) HRD.out).mono ?_)); rintro e w8 ⟨rfl, h⟩; rw [HZ00.out]; have H10 := Aside0.mk h; have z1 := (blk_cell h.at1 2).trans rfl; have f1' := blk_frozen h.at1 2; have H105 := Aside0.mk (h.r1.set 2 (.int .i64 0)).r1; clear h b0 b1 b2 b3 b4 b5)
                | (go_at_call 21; ((with_reducible refine (InFault1 H105.out HBD.out).mono ?_)); rintro e w9 ⟨rfl, h⟩; have H11 := Aside0.mk h; clear h z1))
              have HE := HE9.out
              refine bad47 _ s a gy w6.heap.size bad HBD.out hal HS.out w _ _ H11.out _ _ _ _ _ _ _ _ _ _ _ _ _ _ _ _ _ _ _ _ _ _ _ _ _ _ _ _ _ _ _ _ _ _ _ _ _ _ _ _ _ _ _ _ _ _ _ _ _ _ _ _ _ _ _ _ _ _ _ _ _ _ _ _ _ _ _ _ _ _ _ _ _ _ _ _ _ _ _ _ _ _ _ _ _ _ _ _ _ _ _ _ _ _ _ _ _ _ _ _ _ _ _ _ _ _ _ _ _ _ _ _ _ _ _ _ _ _ _ _ _ _ _ _ _ _ _ _ _ _ _ _ _ _ _ _ _ _ _ _ _ _ _ _ _ _ _ _ _ _ _ _ _ _ _ _ _ _ _ _ _ _ _ _ _ _ _ _ _ _ _ _ _ _ _ _ _ _ _ _ _ _ _ _ _ _ _ _ _ _ ?_
              intro a47 w47 h47 hz47 hd47 hb47
              refine (‹∀ (a : Act) (w : World), Code.wp Try.prog Code.ret _ a w → _› a47 w47 ?_)
              go_wp2
              exact bodyPost_ret (results_tmp (t := 4) (by kernel_rfl) _ _ _) hd47 ⟨by rw [h47], hb47⟩
            · have HRD := Aside0.mk hrd
              have HTK := Lib.hid htk
              have HLE := Lib.hid hle
              have HOK := Aside0.mk (show PartOk ⟨1, f1, zagI n, f3, f4, f5⟩ from ⟨by simp, by simp, HK.out.n0, HK.out.n1, (zag_range n hn).1, (zag_range n hn).2, HK.out.b0, HK.out.b1, HK.out.m0, HK.out.m1⟩)
              have HN := Lib.hid hn
              clear hn
              clear hrd htk hle
              have HSZ3 := Lib.hid (show f3.size < 1000000 from Nat.lt_of_le_of_lt (by have := HT.out k hlt; rw [show l[k] = _ from (List.getElem?_eq_some_iff.1 HGK.out).2] at this; exact this) (by omega))
              go_wp2_with (first
                | (go_at_call 22; ((with_reducible refine (InLeft HQ.out.r1 (by omega) (by omega) HSS.out).mono ?_)); rintro e w7 ⟨rfl, h⟩; have H8 := Aside0.mk h; have H9 := Aside0.mk (h.alloc (.cells #[.int .i64 1, .int .u64 f1, .int .i64 f2, .string f3, .int .u8 f4, .int .i64 f5] 38)); clear h; have b := elem_at HR.out H8.out.bel k hlt 1 f1 f2 f3 f4 f5 HGK.out; obtain ⟨b0, b1, b2, b3, b4, b5⟩ := b)
                | (go_at_call 27; ((with_reducible refine (InInt H9.out.r1 (by omega) (by omega) HSS.out n _ _ HN.out HRD.out).mono ?_)); rintro e w8 ⟨rfl, h⟩; have H10 := Aside0.mk h; have z1 := (blk_cell h.at1 2).trans rfl; have f1' := blk_frozen h.at1 2; have H105 := Aside0.mk (h.r1.set 2 (.int .i64 (zagI n))).r1; clear h b0 b1 b2 b3 b4 b5)
                | (go_at_call 21; ((with_reducible refine (InFault0 H105.out).mono ?_)); rintro e w9 ⟨rfl, h⟩; have H11 := Aside0.mk h; clear h z1; have y0 := (blk_cell H11.out.at1 0).trans rfl; have y1 := (blk_cell H11.out.at1 1).trans rfl; have y2 := (blk_cell H11.out.at1 2).trans rfl; have y3 := (blk_cell H11.out.at1 3).trans rfl; have y4 := (blk_cell H11.out.at1 4).trans rfl; have y5 := (blk_cell H11.out.at1 5).trans rfl)
                | (go_at_call 16; ((with_reducible refine (write_calls H11.out.r2 1 f1 (zagI n) f3 f4 f5 HOK.out HSZ3.out hTL.out).mono ?_)); rintro e w10 ⟨rfl, h⟩; have H12 := Aside0.mk h; clear h))
              go_roundw
              case rel =>
                have H13 : Aside0 (Own w _ [Out w6.heap.size ((bytesOf s).take (a + (numB n).length)), InA gy s ((a + (numB n).length : Nat) : Int) 0]) := Aside0.mk (by have h := H12.out.pick [0, 1]; rw [HTK.out]; rw [show partB ⟨1, f1, zagI n, f3, f4, f5⟩ = numB n from congrArg numB (zig_zag n)] at h; exact h)
                exact ⟨k + 1, a + (numB n).length, by omega, HLE.out, by go_num, H13⟩
              case measure => simp [intOf]; omega
          by_cases q2 : f0 = 2
          · subst q2
            rcases text_back s a hal (by have := HS.out; omega) f5 HM1.out with ⟨bad, hbad, hrd⟩ | ⟨t, htt0, hrd, hle, htk⟩
            · have hn1 := Aside0.mk (show rdNum s a bad = (0, (a : Int), bad) by unfold rdNum; rw [if_pos hbad])
              have hn2 := Aside0.mk (show rdText s a bad 9 = (.empty, (a : Int), bad) by unfold rdText; rw [if_pos hbad])
              have hn3 := Aside0.mk (show rdByte s a bad = (0, (a : Int), bad) by unfold rdByte; rw [if_pos hbad])
              have hn4 := Aside0.mk (show rdNum s a bad = (((0 : Nat) : Int), (a : Int), bad) from hn1.out)
              have z00 : zagI 0 = 0 := rfl
              have HZ00 := Lib.hid z00
              have HRD := Aside0.mk hrd
              have HBD := Lib.hid hbad
              have eb : decide (bad = 0) = false := decide_eq_false hbad
              have eb2 : (bad != 0) = true := bne_iff_ne.mpr hbad
              have eb3 : (bad = 0) = False := eq_false hbad
              clear hrd hbad z00
              go_wp2_with (first
                | (go_at_call 22; ((with_reducible refine (InLeft HQ.out.r1 (by omega) (by omega) HSS.out).mono ?_)); rintro e w7 ⟨rfl, h⟩; have H8 := Aside0.mk h; have H9 := Aside0.mk (h.alloc (.cells #[.int .i64 2, .int .u64 f1, .int .i64 f2, .string f3, .int .u8 f4, .int .i64 f5] 38)); clear h; have b := elem_at HR.out H8.out.bel k hlt 2 f1 f2 f3 f4 f5 HGK.out; obtain ⟨b0, b1, b2, b3, b4, b5⟩ := b)
                | (go_at_call 23; ((with_reducible refine (InText H9.out.r1 (by omega) (by omega) HSS.out f5 HM1.out _ _ _ HRD.out).mono ?_)); rintro e w8 ⟨rfl, h⟩; have H10 := Aside0.mk h; have z1 := (blk_cell h.at1 3).trans rfl; have f1' := blk_frozen h.at1 3; have H105 := Aside0.mk (h.r1.set 3 (.string .empty)).r1; clear h b0 b1 b2 b3 b4 b5)
                | (go_at_call 21; ((with_reducible refine (InFault1 H105.out HBD.out).mono ?_)); rintro e w9 ⟨rfl, h⟩; have H11 := Aside0.mk h; clear h z1))
              have HE := HE9.out
              refine bad47 _ s a gy w6.heap.size bad HBD.out hal HS.out w _ _ H11.out _ _ _ _ _ _ _ _ _ _ _ _ _ _ _ _ _ _ _ _ _ _ _ _ _ _ _ _ _ _ _ _ _ _ _ _ _ _ _ _ _ _ _ _ _ _ _ _ _ _ _ _ _ _ _ _ _ _ _ _ _ _ _ _ _ _ _ _ _ _ _ _ _ _ _ _ _ _ _ _ _ _ _ _ _ _ _ _ _ _ _ _ _ _ _ _ _ _ _ _ _ _ _ _ _ _ _ _ _ _ _ _ _ _ _ _ _ _ _ _ _ _ _ _ _ _ _ _ _ _ _ _ _ _ _ _ _ _ _ _ _ _ _ _ _ _ _ _ _ _ _ _ _ _ _ _ _ _ _ _ _ _ _ _ _ _ _ _ _ _ _ _ _ _ _ _ _ _ _ _ _ _ _ _ _ _ _ _ _ _ ?_
              intro a47 w47 h47 hz47 hd47 hb47
              refine (‹∀ (a : Act) (w : World), Code.wp Try.prog Code.ret _ a w → _› a47 w47 ?_)
              go_wp2
              exact bodyPost_ret (results_tmp (t := 4) (by kernel_rfl) _ _ _) hd47 ⟨by rw [h47], hb47⟩
            · have HRD := Aside0.mk hrd
              have HTK := Lib.hid htk
              have HLE := Lib.hid hle
              have HOK := Aside0.mk (show PartOk ⟨2, f1, f2, t, f4, f5⟩ from ⟨by simp, by simp, HK.out.n0, HK.out.n1, HK.out.i0, HK.out.i1, HK.out.b0, HK.out.b1, HK.out.m0, HK.out.m1⟩)
              have htt := Lib.hid htt0
              clear htt0
              clear hrd htk hle
              have HSZ3 := Lib.hid (show t.size < 1000000 from htt.out)
              go_wp2_with (first
                | (go_at_call 22; ((with_reducible refine (InLeft HQ.out.r1 (by omega) (by omega) HSS.out).mono ?_)); rintro e w7 ⟨rfl, h⟩; have H8 := Aside0.mk h; have H9 := Aside0.mk (h.alloc (.cells #[.int .i64 2, .int .u64 f1, .int .i64 f2, .string f3, .int .u8 f4, .int .i64 f5] 38)); clear h; have b := elem_at HR.out H8.out.bel k hlt 2 f1 f2 f3 f4 f5 HGK.out; obtain ⟨b0, b1, b2, b3, b4, b5⟩ := b)
                | (go_at_call 23; ((with_reducible refine (InText H9.out.r1 (by omega) (by omega) HSS.out f5 HM1.out _ _ _ HRD.out).mono ?_)); rintro e w8 ⟨rfl, h⟩; have H10 := Aside0.mk h; have z1 := (blk_cell h.at1 3).trans rfl; have f1' := blk_frozen h.at1 3; have H105 := Aside0.mk (h.r1.set 3 (.string t)).r1; clear h b0 b1 b2 b3 b4 b5)
                | (go_at_call 21; ((with_reducible refine (InFault0 H105.out).mono ?_)); rintro e w9 ⟨rfl, h⟩; have H11 := Aside0.mk h; clear h z1; have y0 := (blk_cell H11.out.at1 0).trans rfl; have y1 := (blk_cell H11.out.at1 1).trans rfl; have y2 := (blk_cell H11.out.at1 2).trans rfl; have y3 := (blk_cell H11.out.at1 3).trans rfl; have y4 := (blk_cell H11.out.at1 4).trans rfl; have y5 := (blk_cell H11.out.at1 5).trans rfl)
                | (go_at_call 16; ((with_reducible refine (write_calls H11.out.r2 2 f1 f2 t f4 f5 HOK.out HSZ3.out hTL.out).mono ?_)); rintro e w10 ⟨rfl, h⟩; have H12 := Aside0.mk h; clear h))
              go_roundw
              case rel =>
                have H13 : Aside0 (Own w _ [Out w6.heap.size ((bytesOf s).take (a + (numB t.size ++ bytesOf t).length)), InA gy s ((a + (numB t.size ++ bytesOf t).length : Nat) : Int) 0]) := Aside0.mk (by have h := H12.out.pick [0, 1]; rw [HTK.out]; exact h)
                exact ⟨k + 1, a + (numB t.size ++ bytesOf t).length, by omega, HLE.out, by go_num, H13⟩
              case measure => simp [intOf]; omega
          by_cases q3 : f0 = 3
          · subst q3
            rcases byte_back s a hal with ⟨bad, hbad, hrd⟩ | ⟨b, hb0, hb1, hrd, hle, htk⟩
            · have hn1 := Aside0.mk (show rdNum s a bad = (0, (a : Int), bad) by unfold rdNum; rw [if_pos hbad])
              have hn2 := Aside0.mk (show rdText s a bad 9 = (.empty, (a : Int), bad) by unfold rdText; rw [if_pos hbad])
              have hn3 := Aside0.mk (show rdByte s a bad = (0, (a : Int), bad) by unfold rdByte; rw [if_pos hbad])
              have hn4 := Aside0.mk (show rdNum s a bad = (((0 : Nat) : Int), (a : Int), bad) from hn1.out)
              have z00 : zagI 0 = 0 := rfl
              have HZ00 := Lib.hid z00
              have HRD := Aside0.mk hrd
              have HBD := Lib.hid hbad
              have eb : decide (bad = 0) = false := decide_eq_false hbad
              have eb2 : (bad != 0) = true := bne_iff_ne.mpr hbad
              have eb3 : (bad = 0) = False := eq_false hbad
              clear hrd hbad z00
              go_wp2_with (first
                | (go_at_call 22; ((with_reducible refine (InLeft HQ.out.r1 (by omega) (by omega) HSS.out).mono ?_)); rintro e w7 ⟨rfl, h⟩; have H8 := Aside0.mk h; have H9 := Aside0.mk (h.alloc (.cells #[.int .i64 3, .int .u64 f1, .int .i64 f2, .string f3, .int .u8 f4, .int .i64 f5] 38)); clear h; have b := elem_at HR.out H8.out.bel k hlt 3 f1 f2 f3 f4 f5 HGK.out; obtain ⟨b0, b1, b2, b3, b4, b5⟩ := b)
                | (go_at_call 19; ((with_reducible refine (InByte H9.out.r1 (by omega) (by omega) HSS.out _ _ _ HRD.out).mono ?_)); rintro e w8 ⟨rfl, h⟩; have H10 := Aside0.mk h; have z1 := (blk_cell h.at1 4).trans rfl; have f1' := blk_frozen h.at1 4; have H105 := Aside0.mk (h.r1.set 4 (.int .u8 0)).r1; clear h b0 b1 b2 b3 b4 b5)
                | (go_at_call 21; ((with_reducible refine (InFault1 H105.out HBD.out).mono ?_)); rintro e w9 ⟨rfl, h⟩; have H11 := Aside0.mk h; clear h z1))
              have HE := HE9.out
              refine bad47 _ s a gy w6.heap.size bad HBD.out hal HS.out w _ _ H11.out _ _ _ _ _ _ _ _ _ _ _ _ _ _ _ _ _ _ _ _ _ _ _ _ _ _ _ _ _ _ _ _ _ _ _ _ _ _ _ _ _ _ _ _ _ _ _ _ _ _ _ _ _ _ _ _ _ _ _ _ _ _ _ _ _ _ _ _ _ _ _ _ _ _ _ _ _ _ _ _ _ _ _ _ _ _ _ _ _ _ _ _ _ _ _ _ _ _ _ _ _ _ _ _ _ _ _ _ _ _ _ _ _ _ _ _ _ _ _ _ _ _ _ _ _ _ _ _ _ _ _ _ _ _ _ _ _ _ _ _ _ _ _ _ _ _ _ _ _ _ _ _ _ _ _ _ _ _ _ _ _ _ _ _ _ _ _ _ _ _ _ _ _ _ _ _ _ _ _ _ _ _ _ _ _ _ _ _ _ _ ?_
              intro a47 w47 h47 hz47 hd47 hb47
              refine (‹∀ (a : Act) (w : World), Code.wp Try.prog Code.ret _ a w → _› a47 w47 ?_)
              go_wp2
              exact bodyPost_ret (results_tmp (t := 4) (by kernel_rfl) _ _ _) hd47 ⟨by rw [h47], hb47⟩
            · have HRD := Aside0.mk hrd
              have HTK := Lib.hid htk
              have HLE := Lib.hid hle
              have HOK := Aside0.mk (show PartOk ⟨3, f1, f2, f3, b, f5⟩ from ⟨by simp, by simp, HK.out.n0, HK.out.n1, HK.out.i0, HK.out.i1, hb0, hb1, HK.out.m0, HK.out.m1⟩)
              clear hrd htk hle
              have HSZ3 := Lib.hid (show f3.size < 1000000 from Nat.lt_of_le_of_lt (by have := HT.out k hlt; rw [show l[k] = _ from (List.getElem?_eq_some_iff.1 HGK.out).2] at this; exact this) (by omega))
              go_wp2_with (first
                | (go_at_call 22; ((with_reducible refine (InLeft HQ.out.r1 (by omega) (by omega) HSS.out).mono ?_)); rintro e w7 ⟨rfl, h⟩; have H8 := Aside0.mk h; have H9 := Aside0.mk (h.alloc (.cells #[.int .i64 3, .int .u64 f1, .int .i64 f2, .string f3, .int .u8 f4, .int .i64 f5] 38)); clear h; have b := elem_at HR.out H8.out.bel k hlt 3 f1 f2 f3 f4 f5 HGK.out; obtain ⟨b0, b1, b2, b3, b4, b5⟩ := b)
                | (go_at_call 19; ((with_reducible refine (InByte H9.out.r1 (by omega) (by omega) HSS.out _ _ _ HRD.out).mono ?_)); rintro e w8 ⟨rfl, h⟩; have H10 := Aside0.mk h; have z1 := (blk_cell h.at1 4).trans rfl; have f1' := blk_frozen h.at1 4; have H105 := Aside0.mk (h.r1.set 4 (.int .u8 b)).r1; clear h b0 b1 b2 b3 b4 b5)
                | (go_at_call 21; ((with_reducible refine (InFault0 H105.out).mono ?_)); rintro e w9 ⟨rfl, h⟩; have H11 := Aside0.mk h; clear h z1; have y0 := (blk_cell H11.out.at1 0).trans rfl; have y1 := (blk_cell H11.out.at1 1).trans rfl; have y2 := (blk_cell H11.out.at1 2).trans rfl; have y3 := (blk_cell H11.out.at1 3).trans rfl; have y4 := (blk_cell H11.out.at1 4).trans rfl; have y5 := (blk_cell H11.out.at1 5).trans rfl)
                | (go_at_call 16; ((with_reducible refine (write_calls H11.out.r2 3 f1 f2 f3 b f5 HOK.out HSZ3.out hTL.out).mono ?_)); rintro e w10 ⟨rfl, h⟩; have H12 := Aside0.mk h; clear h))
              go_roundw
              case rel =>
                have H13 : Aside0 (Own w _ [Out w6.heap.size ((bytesOf s).take (a + ([b]).length)), InA gy s ((a + ([b]).length : Nat) : Int) 0]) := Aside0.mk (by have h := H12.out.pick [0, 1]; rw [HTK.out]; exact h)
                exact ⟨k + 1, a + ([b]).length, by omega, HLE.out, by go_num, H13⟩
              case measure => simp [intOf]; omega
          have e0 : (f0 == 0) = false := beq_eq_false_iff_ne.mpr q0
          have e1 : (f0 == 1) = false := beq_eq_false_iff_ne.mpr q1
          have e2 : (f0 == 2) = false := beq_eq_false_iff_ne.mpr q2
          have e3 : (f0 == 3) = false := beq_eq_false_iff_ne.mpr q3
          have hp : partB ⟨f0, f1, f2, f3, f4, f5⟩ = [] := by unfold partB; rw [if_neg q0, if_neg q1, if_neg q2, if_neg q3]
          have HP := Lib.hid hp
          have HF3 := Lib.hid (show f3.size < 1000000 from Nat.lt_of_le_of_lt (by have := HT.out k hlt; rw [show l[k] = _ from (List.getElem?_eq_some_iff.1 HGK.out).2] at this; exact this) (by omega))
          clear hp q0 q1 q2 q3
          go_wp2_with (first
            | (go_at_call 22; ((with_reducible refine (InLeft HQ.out.r1 (by omega) (by omega) HSS.out).mono ?_)); rintro e w7 ⟨rfl, h⟩; have H8 := Aside0.mk h; have H9 := Aside0.mk (h.alloc (.cells #[.int .i64 f0, .int .u64 f1, .int .i64 f2, .string f3, .int .u8 f4, .int .i64 f5] 38)); clear h; have b := elem_at HR.out H8.out.bel k hlt f0 f1 f2 f3 f4 f5 HGK.out; obtain ⟨b0, b1, b2, b3, b4, b5⟩ := b)
            | (go_at_call 21; ((with_reducible refine (InFault0 H9.out.r1).mono ?_)); rintro e w9 ⟨rfl, h⟩; have H11 := Aside0.mk h; clear h; have y0 := (blk_cell H11.out.at1 0).trans rfl; have y1 := (blk_cell H11.out.at1 1).trans rfl; have y2 := (blk_cell H11.out.at1 2).trans rfl; have y3 := (blk_cell H11.out.at1 3).trans rfl; have y4 := (blk_cell H11.out.at1 4).trans rfl; have y5 := (blk_cell H11.out.at1 5).trans rfl)
            | (go_at_call 16; ((with_reducible refine (write_calls H11.out.r2 f0 f1 f2 f3 f4 f5 HK.out HF3.out hTL.out).mono ?_)); rintro e w10 ⟨rfl, h⟩; rw [HP.out, List.append_nil] at h; have H12 := Aside0.mk h; clear h))
          go_roundw
          case rel =>
            have H13 : Aside0 (Own w _ [Out w6.heap.size ((bytesOf s).take a), InA gy s (a : Nat) 0]) := Aside0.mk (H12.out.pick [0, 1])
            exact ⟨k + 1, a, by omega, hal, by go_num, H13⟩
          case measure => simp [intOf]; omega
        have hk' : k = l.length := by omega
        subst hk'
        have hs := HS.out
        have e9 : (s.size : Int) - ((s.size : Int) - (a : Int)) = (a : Int) := by omega
        have hex : strOfNums ((bytesOf s).take a) = s.extract 0 a := bytesOf_inj (by rw [bytes_strOf _ (fun x hx => bytesOf_range s x (List.mem_of_mem_take hx)), bytesOf_extract, List.drop_zero])
        have HEX := Lib.hid hex
        clear hex
        go_wp2_with (first
          | (go_at_call 14; ((with_reducible refine (OutString HQ.out).mono ?_)); rintro e w7 ⟨rfl, rfl⟩; rw [HEX.out])
          | (go_at_call 22; ((with_reducible refine (InLeft HQ.out.r1 (by omega) (by omega) (by omega)).mono ?_)); rintro e w8 ⟨rfl, h⟩; have H8 := Aside0.mk h; clear h))
        go_ret
        exact ⟨rfl, H8.out.bel⟩
theorem PackBack_law (A : Option Addr) (c : Nat) (l : List S38) (s : ByteArray) (w : World) (hr : Kd.C k38 w A l.length l) (hc : l.length ≤ c) (hq : l.length ≤ 9223372036854775807 ∧ ∀ x ∈ l, Q38 x) (_ : s.size ≤ 140737488351232) :
    Calls Try.prog 7 #[.slice A l.length c, .string s] w fun e w' => e = .returned (.bool true) ∧ Below w.heap.size w w' := by
  have hx : ∀ x ∈ l, PartOk x := fun x hx => ok_of_Q x (hq.2 x hx)
  obtain ⟨r, hg, hgf⟩ := great_f l
  cases r with
  | true => exact PackBack_great A c l s w hr hc hg
  | false =>
    by_cases hs : 60000 < s.size
    · exact PackBack_long A c l s w hr hc hg hs
    · exact PackBack_small A c l s w hr hc hx hg (hgf rfl).1 (hgf rfl).2 (by omega)
end Go.Proofs.Ytjlcggjghlmiaaa.PPackWrites
