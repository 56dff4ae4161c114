/- The law ChunksWrong, walked. -/
import Derived.Test.YtdjcndcleaffkaaChkW
import Derived.Test.YtdjcndcleaffkaaQ
namespace Go.Proofs.Ytdjcndcleaffkaa.PChunksPlays
open Go.RowKit Go.Proofs.YtdjcndcleaffkaaW.PrintWords Go.Proofs.YtdjcndcleaffkaaW.PrintLast Go.Proofs.YtdjcndcleaffkaaW.PrintMore
open Go.Proofs.YtdjcndcleaffkaaO
attribute [local go_sem] max2_int min2_int max_two min_two max_three min_three max_four min_four
set_option linter.unusedVariables false
set_option linter.unusedSimpArgs false
/-- An element, in whatever world that has come of the first one. -/
theorem elem_at {w v : World} {ad : Addr} {n : Nat} {l : List S40} (hr : Kd.C k40 w (some ad) n l) (hb : Below w.heap.size w v) (k : Nat) (hk : k < n) (f0 f1 : Int) (f2 : ByteArray) (f3 : Bool) (hx : l[k]? = some ⟨f0, f1, f2, f3⟩) :
    v.cell? (ad.add (k * 4)) = some (.int .i64 f0) ∧ v.cell? ⟨(ad.add (k * 4)).block, (ad.add (k * 4)).off + 1, none⟩ = some (.int .i64 f1) ∧ v.cell? ⟨(ad.add (k * 4)).block, (ad.add (k * 4)).off + 2, none⟩ = some (.string f2) ∧ v.cell? ⟨(ad.add (k * 4)).block, (ad.add (k * 4)).off + 3, none⟩ = some (.bool f3) := by
  obtain ⟨ad', e, h0, h1, h2, h3⟩ := at_T40 hr (k : Int) (by omega) (by omega)
  cases e
  have hrd : rd_T40 l (k : Int) = ⟨f0, f1, f2, f3⟩ := by unfold rd_T40; rw [Int.toNat_natCast, List.getD_eq_getElem?_getD, hx]; rfl
  rw [hrd, Int.toNat_natCast] at h0 h1 h2 h3
  have hlt : (ad.add (k * 4)).block < w.heap.size := World.block_lt_of_cell? w _ h0
  exact ⟨(hb.cell hlt).trans h0, (hb.cell (p := ⟨_, _, none⟩) hlt).trans h1, (hb.cell (p := ⟨_, _, none⟩) hlt).trans h2, (hb.cell (p := ⟨_, _, none⟩) hlt).trans h3⟩
set_option maxHeartbeats 8000000 in
set_option maxRecDepth 100000 in
theorem ChunksWrong_great (A : Option Addr) (c : Nat) (l : List S40) (w : World) (hr : Kd.C k40 w A l.length l) (hc : l.length ≤ c) (hg : meterlaw16_Great.f (min l.length 201 + 1) l = some true) :
    Calls Try.prog 4 #[.slice A l.length c] w fun e w' => e = .returned (.bool true) ∧ Below w.heap.size w w' := by
  have HR := Aside0.mk hr
  have HC := Aside0.mk hc
  have HG := Aside0.mk hg
  clear hr hc hg
  go_enter Try.func4, Try.ntmps4
  go_wp2_with (first
    | (go_at_call 8; ((with_reducible refine (awake_calls w).mono ?_)); rintro e w1 ⟨rfl, hb⟩; have H1 := Aside0.mk ((Own.nil w).below hb); clear hb)
    | (go_at_call 10; ((with_reducible refine (meterlaw16_Great.calls _ A c l true w1 (Kd.C_below HR.out H1.out.bel) HC.out HG.out).mono ?_)); rintro e w2 ⟨rfl, hb⟩; have H2 := Aside0.mk (H1.out.below hb); clear hb))
  go_ret
  exact ⟨rfl, H2.out.bel⟩
set_option maxHeartbeats 8000000 in
set_option maxRecDepth 100000 in
theorem ChunksWrong_small (A : Option Addr) (c : Nat) (l : List S40) (w : World) (hr : Kd.C k40 w A l.length l) (hc : l.length ≤ c) (hg : meterlaw16_Great.f (min l.length 201 + 1) l = some false) (hmax : l.length ≤ 9223372036854775807) :
    Calls Try.prog 4 #[.slice A l.length c] w fun e w' => e = .returned (.bool true) ∧ Below w.heap.size w w' := by
  have HR := Aside0.mk hr
  have HC := Aside0.mk hc
  have HG := Aside0.mk hg
  clear hr hc hg
  go_enter Try.func4, Try.ntmps4
  go_wp2_with (first
    | (go_at_call 8; ((with_reducible refine (awake_calls w).mono ?_)); rintro e w1 ⟨rfl, hb⟩; have H1 := Aside0.mk ((Own.nil w).below hb); clear hb)
    | (go_at_call 10; ((with_reducible refine (meterlaw16_Great.calls _ A c l false w1 (Kd.C_below HR.out H1.out.bel) HC.out HG.out).mono ?_)); rintro e w2 ⟨rfl, hb⟩; have H2 := Aside0.mk (H1.out.below hb); clear hb)
    | (go_at_call 11; ((with_reducible refine (RowsNewA H2.out).mono ?_)); rintro e w3 ⟨g, rfl, h⟩; have H3 := Aside0.mk h; clear h))
  go_loopw [4] (fun v4 wr => ∃ (k : Nat) (st : Option (List ByteArray × List Int)), k ≤ l.length ∧ v4 = .int .i64 k ∧ Aside0 (Own w wr (RowsA g st :: []))) (fun v4 _ => l.length - (RowKit.intOf v4).toNat)
  case atStart => exact ⟨0, none, Nat.zero_le _, rfl, H3⟩
  case round =>
    obtain ⟨k, st, hk, rfl, HO⟩ := hrel
    by_cases hlt : k < l.length
    · have hgk := List.getElem?_eq_getElem hlt
      generalize l[k] = x at hgk
      obtain ⟨f0, f1, f2, f3⟩ := x
      rcases A with _ | ad
      · exact absurd (HR.out.2.2 (by omega)) (by rintro ⟨_, h, _⟩; cases h)
      have HGK := Aside0.mk hgk
      obtain ⟨low, M, fa⟩ := acks_ex st
      obtain ⟨sw, ok, fw⟩ := whole_ex st
      have hR := rowsA_right HO.out
      have hml := acksIs_len fa hR
      have FA := Aside0.mk fa
      have FW := Aside0.mk fw
      have HML := Aside0.mk (show M.length ≤ 100000000 by omega)
      cases hpb : (putR st f0 f1 f2).1 with
      | false =>
        have hpn := put_no st f0 f1 f2 hpb
        obtain ⟨er, hpe⟩ : ∃ er, putR st f0 f1 f2 = (false, er, st) := ⟨(putR st f0 f1 f2).2.1, Prod.ext hpb (Prod.ext rfl hpn)⟩
        have HP := Lib.hid hpe
        clear hgk fa fw hR hpb hpn hpe
        cases ok
        all_goals
        (
        go_wp2_with (first
          | (go_at_call 12; ((with_reducible refine (RowsAcksA HO.out low M FA.out).mono ?_)); rintro e w5 ⟨B1, d1, rfl, _, h⟩; have H5 := Aside0.mk h.r1; clear h)
          | (go_at_call 13; ((with_reducible refine (RowsWholeA H5.out sw _ FW.out).mono ?_)); rintro e w6 ⟨rfl, h⟩; have H6 := Aside0.mk h; clear h; have HD := Aside0.mk H6.out.drew; obtain ⟨a0, a1, a2, a3⟩ := elem_at HR.out HD.out.bel k hlt f0 f1 f2 f3 HGK.out))
        go_region_with (go_at_call 14; ((with_reducible refine (RowsPut HD.out f0 f1 f2 _ _ _ HP.out).mono ?_)); rintro e w7 ⟨rfl, h⟩; have H7 := Aside0.mk h; clear h)
        all_goals
        (
        clear a0 a1 a2 a3
        go_wp2_with (first
          | (go_at_call 12; ((with_reducible refine (RowsAcksA H7.out low M FA.out).mono ?_)); rintro e w8 ⟨B2, d2, rfl, _, h⟩; have H8 := Aside0.mk h.r1; clear h)
          | (go_at_call 13; ((with_reducible refine (RowsWholeA H8.out sw _ FW.out).mono ?_)); rintro e w9 ⟨rfl, h⟩; have H9 := Aside0.mk h; clear h)
          | (go_at_call 15; ((with_reducible refine (same_N B1 d1 B2 d2 M.length M rfl HML.out (row_C H9.out.r2) (row_C H9.out.r1)).mono ?_)); rintro e w10 ⟨rfl, hb⟩; have H10 := Aside0.mk ((H9.out.drawn hb).pick [0]); clear hb))
        go_roundw
        case rel => exact ⟨k + 1, st, by omega, by first | rfl | go_num, H10⟩
        case measure => first | (simp [RowKit.intOf]; done) | (simp [RowKit.intOf]; omega)))
      | true =>
        obtain ⟨low', M', fa'⟩ := acks_ex (putR st f0 f1 f2).2.2
        obtain ⟨sw', ok', fw'⟩ := whole_ex (putR st f0 f1 f2).2.2
        obtain ⟨p1, rfl, p3⟩ := putd st f0 f1 f2 hpb (fun xs L e => (hR xs L e).1) low M fa sw ok fw low' M' fa'
        obtain ⟨st', hst⟩ : ∃ st', (putR st f0 f1 f2).2.2 = st' := ⟨_, rfl⟩
        rw [hst] at fa' fw'
        have HP := Lib.hid (show putR st f0 f1 f2 = (true, 0, st') from Prod.ext hpb (Prod.ext p1 hst))
        have FA' := Aside0.mk fa'
        have FW' := Aside0.mk fw'
        have e9 : (low' : Int) + (M'.length : Int) = (low : Int) + (M.length : Int) + 1 := by omega
        have hlm : low' + M'.length ≤ 513 := by omega
        have E9 := Lib.hid e9
        clear hgk fa fw hR hpb p1 hst fa' fw' e9
        go_wp2_with (first
          | (go_at_call 12; ((with_reducible refine (RowsAcksA HO.out low M FA.out).mono ?_)); rintro e w5 ⟨B1, d1, rfl, _, h⟩; have H5 := Aside0.mk h.r1; clear h)
          | (go_at_call 13; ((with_reducible refine (RowsWholeA H5.out sw _ FW.out).mono ?_)); rintro e w6 ⟨rfl, h⟩; have H6 := Aside0.mk h; clear h; have HD := Aside0.mk H6.out.drew; obtain ⟨a0, a1, a2, a3⟩ := elem_at HR.out HD.out.bel k hlt f0 f1 f2 f3 HGK.out))
        go_region_with (go_at_call 14; ((with_reducible refine (RowsPut HD.out f0 f1 f2 _ _ _ HP.out).mono ?_)); rintro e w7 ⟨rfl, h⟩; have H7 := Aside0.mk h; clear h)
        all_goals
        (
        clear a0 a1 a2 a3
        have e9 := E9.out
        go_wp2_with (first
          | (go_at_call 12; ((with_reducible refine (RowsAcksA H7.out low' M' FA'.out).mono ?_)); rintro e w8 ⟨B2, d2, rfl, _, h⟩; have H8 := Aside0.mk (h.pick [1]); clear h)
          | (go_at_call 13; ((with_reducible refine (RowsWholeA H8.out sw' ok' FW'.out).mono ?_)); rintro e w9 ⟨rfl, h⟩; have H9 := Aside0.mk h; clear h))
        go_roundw
        case rel => exact ⟨k + 1, st', by omega, by first | rfl | go_num, H9⟩
        case measure => first | (simp [RowKit.intOf]; done) | (simp [RowKit.intOf]; omega))
    · have hk' : k = l.length := by omega
      subst hk'
      go_wp2
      go_ret
      exact ⟨rfl, HO.out.bel⟩
theorem ChunksWrong_law (A : Option Addr) (c : Nat) (l : List S40) (w : World) (hr : Kd.C k40 w A l.length l) (hc : l.length ≤ c) (hq : l.length ≤ 9223372036854775807 ∧ ∀ x ∈ l, Q40 x) :
    Calls Try.prog 4 #[.slice A l.length c] w fun e w' => e = .returned (.bool true) ∧ Below w.heap.size w w' := by
  obtain ⟨r, hg⟩ := great_f l
  cases r with
  | true => exact ChunksWrong_great A c l w hr hc hg
  | false => exact ChunksWrong_small A c l w hr hc hg hq.1
end Go.Proofs.Ytdjcndcleaffkaa.PChunksPlays
