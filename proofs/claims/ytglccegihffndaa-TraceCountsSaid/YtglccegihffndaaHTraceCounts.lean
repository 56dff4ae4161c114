/- The law TraceCounts, walked. -/
import Derived.Test.YtglccegihffndaaTrc10
import Derived.Deep.DeepCutAuto
import Derived.Deep.Cut
import Derived.Deep.CutRange
import Derived.Deep.CutBlock
namespace Go.Proofs.Ytglccegihffndaa.PTracePlays
open Go.RowKit Go.Proofs.YtglccegihffndaaW.PrintWords Go.Proofs.YtglccegihffndaaW.PrintLast Go.Proofs.YtglccegihffndaaW.PrintMore
open Go.Proofs.YtglccegihffndaaO
attribute [local go_sem] max2_int min2_int max_two min_two max_three min_three max_four min_four
set_option linter.unusedVariables false
set_option linter.unusedSimpArgs false
theorem snoc_fold' {α β : Type} (f : β → α → β) (b : β) (l : List α) (k : Nat) (x : α) (hx : l[k]? = some x) : (l.take (k + 1)).foldl f b = f ((l.take k).foldl f b) x := by
  rw [List.take_add_one, hx, Option.toList_some, List.foldl_append]
  rfl
def ct19_T : Bool × List (List Nat × List Nat) := (true, [([], []), ([], []), ([1], [1]), ([], []), ([], []), ([4], [4]), ([3, 5], [3, 5]), ([6], [6]), ([], []), ([8], [8]), ([9], [9]), ([7, 10], [7, 10]), ([0, 2, 0, 1, 2, 3, 4, 5, 6, 7, 8, 9, 10, 11], [0, 2]), ([12, 11, 0, 1, 2, 3, 4, 5, 6, 7, 8, 9, 10, 11], [11, 12])])
def ct19_B : List Nat := [0, 0, 2, 0, 0, 16, 56, 120, 0, 256, 768, 2040, 4095, 8191]
theorem ct19_tab : rtab .any (opsOf Try.f7 19) = ct19_T := by kernel_rfl
theorem ct19_bits : waitsOk ct19_T.2 ct19_B = true := by kernel_rfl
def ct25_T : Bool × List (List Nat × List Nat) := (true, [([], []), ([], []), ([0, 1], [0, 1]), ([2], [2]), ([], []), ([], []), ([4, 5], [4, 5]), ([6], [6]), ([3, 7], [3, 7]), ([8, 2], [8]), ([9], [9]), ([9], [9]), ([10, 11, 9, 9], [9, 10, 11]), ([12, 9], [9, 12]), ([9], [9]), ([9], [9]), ([14, 15, 9], [9, 14, 15]), ([16, 9], [9, 16]), ([13, 17, 9], [9, 13, 17]), ([9, 18], [9, 18])])
def ct25_B : List Nat := [0, 0, 3, 7, 0, 0, 48, 112, 255, 511, 1023, 1023, 4095, 8191, 1023, 1023, 50175, 115711, 262143, 524287]
theorem ct25_tab : rtab .any (opsOf Try.f7 25) = ct25_T := by kernel_rfl
theorem ct25_bits : waitsOk ct25_T.2 ct25_B = true := by kernel_rfl
/-- What an act makes of the numbers. -/
theorem cnt_do (ss : List (List TO × List TA)) (n : Nat) (hn : ss.length = n) (x : S33) (b0 b1 : Bool) (h0 : decide (inB n x.f1 = true ∧ x.f0 = 0) = b0) (h1 : decide (inB n x.f1 = true ∧ x.f0 = 1) = b1) :
    (b0 = false → cnt1 (doA ss x) = cnt1 ss) ∧ (b1 = false → cnt2 (doA ss x) = cnt2 ss) ∧
    (b0 = true → ∃ i : Nat, x.f1 = i ∧ i < n ∧ ∃ s, ss[i]? = some s ∧ cnt1 (doA ss x) = (cnt1 ss).set i ((s.1.length : Int) + (x.f4.length : Int))) ∧
    (b1 = true → ∃ i : Nat, x.f1 = i ∧ i < n ∧ ∃ s, ss[i]? = some s ∧ cnt2 (doA ss x) = (cnt2 ss).set i ((s.2.length : Int) + 1)) := by
  subst hn
  by_cases hb : inB ss.length x.f1 = true
  · obtain ⟨i, hi, hl⟩ := in_nat hb
    have hs := List.getElem?_eq_getElem hl
    generalize ss[i] = s at hs
    have hat : sAt ss x.f1 = s := by rw [hi]; exact sAt_in hs
    have hnat : x.f1.toNat = i := by rw [hi]; exact Int.toNat_natCast i
    by_cases c0 : x.f0 = 0
    · have e0 : b0 = true := h0.symm.trans (decide_eq_true ⟨hb, c0⟩)
      have e1 : b1 = false := h1.symm.trans (decide_eq_false fun z => by omega)
      subst e0
      subst e1
      have hd : doA ss x = ss.set i (s.1 ++ x.f4.map (fun y => ⟨y, x.f2, x.f3⟩), s.2) := by unfold doA tellR; rw [if_pos c0, if_pos hb, hat, hnat]
      refine ⟨fun z => (nomatch z), fun _ => ?_, fun _ => ⟨i, hi, hl, s, hs, ?_⟩, fun z => (nomatch z)⟩
      · rw [hd, cnt2_set]
        exact set_same (show (cnt2 ss)[i]? = some (s.2.length : Int) from cnt2_at hs)
      · rw [hd, cnt1_set]
        congr 1
        simp
    · have e0 : b0 = false := h0.symm.trans (decide_eq_false fun z => c0 z.2)
      subst e0
      by_cases c1 : x.f0 = 1
      · have e1 : b1 = true := h1.symm.trans (decide_eq_true ⟨hb, c1⟩)
        subst e1
        have hd : doA ss x = ss.set i (s.1, s.2 ++ [⟨x.f5, x.f6⟩]) := by unfold doA applyR; rw [if_neg c0, if_pos c1, if_pos hb, hat, hnat]
        refine ⟨fun _ => ?_, fun z => (nomatch z), fun z => (nomatch z), fun _ => ⟨i, hi, hl, s, hs, ?_⟩⟩
        · rw [hd, cnt1_set]
          exact set_same (show (cnt1 ss)[i]? = some (s.1.length : Int) from cnt1_at hs)
        · rw [hd, cnt2_set]
          congr 1
          simp
      · have e1 : b1 = false := h1.symm.trans (decide_eq_false fun z => c1 z.2)
        subst e1
        have hd : doA ss x = ss := by unfold doA; rw [if_neg c0, if_neg c1]
        exact ⟨fun _ => by rw [hd], fun _ => by rw [hd], fun z => (nomatch z), fun z => (nomatch z)⟩
  · have e0 : b0 = false := h0.symm.trans (decide_eq_false fun z => hb z.1)
    have e1 : b1 = false := h1.symm.trans (decide_eq_false fun z => hb z.1)
    subst e0
    subst e1
    have hd : doA ss x = ss := by
      unfold doA tellR applyR
      rw [if_neg hb, if_neg hb, ite_self, ite_self]
    exact ⟨fun _ => by rw [hd], fun _ => by rw [hd], fun z => (nomatch z), fun z => (nomatch z)⟩
set_option maxHeartbeats 8000000 in
set_option maxRecDepth 100000 in
theorem TraceCounts_great (m : Nat) (hm : m < 256) (A : Option Addr) (c : Nat) (l : List S33) (w : World) (hr : Kd.C k33 w A l.length l) (hc : l.length ≤ c) (hg : meterlaw24_Great.f (2 * min l.length 201 + 2) l = some true) :
    Calls Try.prog 7 #[.int .u8 m, .slice A l.length c] w fun e w' => e = .returned (.bool true) ∧ Below w.heap.size w w' := by
  have HR := Aside0.mk hr
  have HC := Aside0.mk hc
  have HG := Aside0.mk hg
  clear hr hc hg
  go_enter Try.func7, Try.ntmps7
  go_wp2_with (first
    | (go_at_call 8; ((with_reducible refine (awake_calls w).mono ?_)); rintro e w1 ⟨rfl, hb⟩; have H1 := Aside0.mk ((Own.nil w).below hb); clear hb)
    | (go_at_call 9; ((with_reducible refine (meterlaw24_Great.calls _ A c l true w1 (Kd.C_below HR.out H1.out.bel) HC.out HG.out).mono ?_)); rintro e w2 ⟨rfl, hb⟩; have H2 := Aside0.mk (H1.out.drawn hb); clear hb))
  go_ret
  exact ⟨rfl, H2.out.bel⟩
set_option maxHeartbeats 8000000 in
set_option maxRecDepth 100000 in
theorem TraceCounts_small (m : Nat) (hm : m < 256) (A : Option Addr) (c : Nat) (l : List S33) (w : World) (hr : Kd.C k33 w A l.length l) (hc : l.length ≤ c) (hg : meterlaw24_Great.f (2 * min l.length 201 + 2) l = some false) (h5 : l.length ≤ 200 ∧ ∀ x ∈ l, x.f4.length ≤ 30) (n : Nat) (hn : n = m % 8 + 1) :
    Calls Try.prog 7 #[.int .u8 m, .slice A l.length c] w fun e w' => e = .returned (.bool true) ∧ Below w.heap.size w w' := by
  have HR := Aside0.mk hr
  have HC := Aside0.mk hc
  have HG := Aside0.mk hg
  clear hr hc hg
  go_enter Try.func7, Try.ntmps7
  have hM : l.length ≤ 9223372036854775807 := by omega
  have en : (1 + (m : Int) % 8) = (n : Int) := by omega
  have HN1 := Aside0.mk (show 1 ≤ n ∧ n ≤ 8 by omega)
  have hmk := print_make_of (P := Try.prog) 61 3 (.int .i64 0) 8 Try.underlying61 (by kernel_rfl) rfl (by decide) n (by omega)
  clear hn
  have HB := Aside0.mk (sAt_len n)
  have H5 := Aside0.mk h5
  have LN := Aside0.mk (show (List.replicate n ([], []) : List (List TO × List TA)).length = n from List.length_replicate)
  go_wp2_with (first
    | (go_at_call 8; ((with_reducible refine (awake_calls w).mono ?_)); rintro e w1 ⟨rfl, hb⟩; have H1 := Aside0.mk ((Own.nil w).below hb); clear hb)
    | (go_at_call 9; ((with_reducible refine (meterlaw24_Great.calls _ A c l false w1 (Kd.C_below HR.out H1.out.bel) HC.out HG.out).mono ?_)); rintro e w2 ⟨rfl, hb⟩; have H2 := Aside0.mk (H1.out.drawn hb); clear hb)
    | (go_at_call 10; ((with_reducible refine (TrNewI H2.out _ n rfl HN1.out.1 HN1.out.2).mono ?_)); rintro e w3 ⟨ga, rfl, h⟩; have H3 := Aside0.mk h; clear h)
    | (go_at_call 16; ((with_reducible refine (TrShardsE H3.out n LN.out).mono ?_)); rintro e w4 ⟨rfl, rfl⟩))
  have H4 := rowmade (rowmade H3.out 3 n (by have := HN1.out; omega)) 3 n (by have := HN1.out; omega)
  rw [alloc_size] at H4
  have c0 : List.replicate n (0 : Int) = cnt1 (List.replicate n ([], []) : List (List TO × List TA)) := by unfold cnt1; rw [List.map_replicate]; rfl
  have c1 : List.replicate n (0 : Int) = cnt2 (List.replicate n ([], []) : List (List TO × List TA)) := by unfold cnt2; rw [List.map_replicate]; rfl
  have H4 := Aside0.mk (show Own w _ [Tr ga ((List.replicate n ([], []) : List (List TO × List TA))), Row (Kd.int .i64) 3 (.slice (some ⟨w3.heap.size, 0, none⟩) n n) (cnt1 ((List.replicate n ([], []) : List (List TO × List TA)))), Row (Kd.int .i64) 3 (.slice (some ⟨w3.heap.size + 1, 0, none⟩) n n) (cnt2 ((List.replicate n ([], []) : List (List TO × List TA))))] by rw [← c0, ← c1]; exact H4.pick [2, 1, 0])
  clear hmk c0 c1
  obtain ⟨bo, hbo⟩ : ∃ b, w3.heap.size = b := ⟨_, rfl⟩
  rw [hbo] at H4
  simp only [hbo]
  obtain ⟨bi, hbi⟩ : ∃ b, bo + 1 = b := ⟨_, rfl⟩
  rw [hbi] at H4
  simp only [hbi]
  have hfo := add_at bo
  have hfi := add_at bi
  clear hbo hbi
  go_loopw [10] (fun v10 wr => ∃ k : Nat, k ≤ l.length ∧ v10 = .int .i64 k ∧ Aside0 (Own w wr [Tr ga ((l.take k).foldl doA (List.replicate n ([], []) : List (List TO × List TA))), Row (Kd.int .i64) 3 (.slice (some ⟨bo, 0, none⟩) n n) (cnt1 ((l.take k).foldl doA (List.replicate n ([], []) : List (List TO × List TA)))), Row (Kd.int .i64) 3 (.slice (some ⟨bi, 0, none⟩) n n) (cnt2 ((l.take k).foldl doA (List.replicate n ([], []) : List (List TO × List TA))))])) (fun v10 _ => l.length - (RowKit.intOf v10).toNat)
  case atStart => exact ⟨0, Nat.zero_le _, rfl, H4⟩
  case round =>
    obtain ⟨k, hk, rfl, HO⟩ := hrel
    by_cases hlt : k < l.length
    · have hgk := List.getElem?_eq_getElem hlt
      generalize l[k] = x at hgk
      have HX30 := Aside0.mk (H5.out.2 x (List.mem_of_getElem? hgk))
      have S1 := Lib.hid (snoc_fold' doA (List.replicate n ([], []) : List (List TO × List TA)) l k x hgk)
      have HLS := Aside0.mk (show ((l.take k).foldl doA (List.replicate n ([], []) : List (List TO × List TA))).length = n by rw [fold_len]; exact LN.out)
      have B0 := Aside0.mk (fun q => HB.out (l.take k) (fun y hy => H5.out.2 y (List.mem_of_mem_take hy)) (by rw [List.length_take]; omega) q)
      have HX := Aside0.mk HO.out
      generalize (l.take k).foldl doA (List.replicate n ([], []) : List (List TO × List TA)) = sa at S1 B0 HX HLS
      obtain ⟨y0, y1, y2, y3, yl, ⟨y5, y6, y7, y8, y9, y10, y11, y12⟩, y13⟩ := x
      obtain ⟨ad, YA, Yc, rfl, c0, c1, c2, c3, c4, c5, c6, c7, c8, c9, c10, c11, c12, c13, hC⟩ := act_at HR.out HX.out.bel k _ hgk
      have HY := Aside0.mk hC
      dsimp only at c0 c1 c2 c3 c4 c5 c6 c7 c8 c9 c10 c11 c12 c13 HX30 HY
      have B1 := Aside0.mk (show (sAt sa y1).1.length + yl.length ≤ 1000000000 ∧ (sAt sa y1).2.length ≤ 1000000000 by have := B0.out y1; have := HX30.out; omega)
      clear HO hgk hC
      obtain ⟨bv, hbv⟩ : ∃ b, inB n y1 = b := ⟨_, rfl⟩
      have HIN := Aside0.mk hbv
      obtain ⟨fr, hfr⟩ : ∃ r, putE sa.length (⟨y0, y1, y2, y3, yl, ⟨y5, y6, y7, y8, y9, y10, y11, y12⟩, y13⟩ : S33) = r := ⟨_, rfl⟩
      obtain ⟨ss', hss⟩ : ∃ r, doA sa (⟨y0, y1, y2, y3, yl, ⟨y5, y6, y7, y8, y9, y10, y11, y12⟩, y13⟩ : S33) = r := ⟨_, rfl⟩
      have PR := Aside0.mk hfr
      have PS := Aside0.mk hss
      obtain ⟨c0, hc0⟩ : ∃ b, decide (inB n y1 = true ∧ y0 = 0) = b := ⟨_, rfl⟩
      obtain ⟨c1, hc1⟩ : ∃ b, decide (inB n y1 = true ∧ y0 = 1) = b := ⟨_, rfl⟩
      have Hc0 := Aside0.mk hc0
      have Hc1 := Aside0.mk hc1
      have K := cnt_do sa n HLS.out (⟨y0, y1, y2, y3, yl, ⟨y5, y6, y7, y8, y9, y10, y11, y12⟩, y13⟩ : S33) c0 c1 hc0 hc1
      rw [hss] at K
      rw [hss] at S1
      have K1 := Aside0.mk K.1
      have K2 := Aside0.mk K.2.1
      have K3 := Aside0.mk K.2.2.1
      have K4 := Aside0.mk K.2.2.2
      have bl : yl.length ≤ 30 := HX30.out
      clear hbv hfr hss hc0 hc1 K
      go_upto_region 15 with (first
        | ((with_reducible refine gate_dst (N := 11) rfl ?_); refine box_event ?hg (N := 11) ?hd (cs := #[.int .i64 0, .int .i64 0, .int .i64 0, .int .i64 0, .slice none 0 0, .int .i64 0, .int .i64 0, .int .i64 0, .int .u8 0, .string ⟨#[]⟩, .int .i64 0, .int .i64 0, .int .i64 0, .int .i64 0]) (t := 33) ?hr ?_; (case hd => rfl); (case hg => rfl); (case hr => first | (go_simp; done) | (go_simp; rfl)); intro gb hg wb hbox hbb; have HX2 := Aside0.mk (HX.out.box hg hbox hbb); have hfr := blk_frozen hbox; have z0 := (blk_cell HX2.out.at0 0).trans rfl; have z1 := (blk_cell HX2.out.at0 1).trans rfl; have z2 := (blk_cell HX2.out.at0 2).trans rfl; have z3 := (blk_cell HX2.out.at0 3).trans rfl; have z4 := (blk_cell HX2.out.at0 4).trans rfl; have z5 := (blk_cell HX2.out.at0 5).trans rfl; have z6 := (blk_cell HX2.out.at0 6).trans rfl; have z7 := (blk_cell HX2.out.at0 7).trans rfl; have z8 := (blk_cell HX2.out.at0 8).trans rfl; have z9 := (blk_cell HX2.out.at0 9).trans rfl; have z10 := (blk_cell HX2.out.at0 10).trans rfl; have z11 := (blk_cell HX2.out.at0 11).trans rfl; have z12 := (blk_cell HX2.out.at0 12).trans rfl; have z13 := (blk_cell HX2.out.at0 13).trans rfl; clear hg hbox hbb)
        | ((with_reducible refine gate_store (t := 33) (p := 11) rfl ?_); refine store_event (t := 33) (p := 11) (v := ?vo) (w1 := ((((((((((((((wb.setCell ⟨gb, 0, none⟩ (.int .i64 y0)).setCell ⟨gb, 1, none⟩ (.int .i64 y1)).setCell ⟨gb, 2, none⟩ (.int .i64 y2)).setCell ⟨gb, 3, none⟩ (.int .i64 y3)).setCell ⟨gb, 4, none⟩ (.slice YA yl.length Yc)).setCell ⟨gb, 5, none⟩ (.int .i64 y5)).setCell ⟨gb, 6, none⟩ (.int .i64 y6)).setCell ⟨gb, 7, none⟩ (.int .i64 y7)).setCell ⟨gb, 8, none⟩ (.int .u8 y8)).setCell ⟨gb, 9, none⟩ (.string y9)).setCell ⟨gb, 10, none⟩ (.int .i64 y10)).setCell ⟨gb, 11, none⟩ (.int .i64 y11)).setCell ⟨gb, 12, none⟩ (.int .i64 y12)).setCell ⟨gb, 13, none⟩ (.int .i64 y13))) ?hg ?ho ?hn ?hr ?_; (case ho => rfl); (case hg => rfl); (case hn => rfl); (case hr => first | (go_simp; done) | (go_simp; rfl)); intro wq hw; have HX3 := Aside0.mk (show Own w wq (Blk gb (.cells #[.int .i64 y0, .int .i64 y1, .int .i64 y2, .int .i64 y3, .slice YA yl.length Yc, .int .i64 y5, .int .i64 y6, .int .i64 y7, .int .u8 y8, .string y9, .int .i64 y10, .int .i64 y11, .int .i64 y12, .int .i64 y13] 33 (0, 0)) :: _) by rw [hw]; exact act_store (.int .i64 y0) (.int .i64 y1) (.int .i64 y2) (.int .i64 y3) (.slice YA yl.length Yc) (.int .i64 y5) (.int .i64 y6) (.int .i64 y7) (.int .u8 y8) (.string y9) (.int .i64 y10) (.int .i64 y11) (.int .i64 y12) (.int .i64 y13) HX2.out); clear hw hfr z0 z1 z2 z3 z4 z5 z6 z7 z8 z9 z10 z11 z12 z13; have z0 := (blk_cell HX3.out.at0 0).trans rfl; have z1 := (blk_cell HX3.out.at0 1).trans rfl; have z2 := (blk_cell HX3.out.at0 2).trans rfl; have z3 := (blk_cell HX3.out.at0 3).trans rfl; have z4 := (blk_cell HX3.out.at0 4).trans rfl; have z5 := (blk_cell HX3.out.at0 5).trans rfl; have z6 := (blk_cell HX3.out.at0 6).trans rfl; have z7 := (blk_cell HX3.out.at0 7).trans rfl; have z8 := (blk_cell HX3.out.at0 8).trans rfl; have z9 := (blk_cell HX3.out.at0 9).trans rfl; have z10 := (blk_cell HX3.out.at0 10).trans rfl; have z11 := (blk_cell HX3.out.at0 11).trans rfl; have z12 := (blk_cell HX3.out.at0 12).trans rfl; have z13 := (blk_cell HX3.out.at0 13).trans rfl))
      simp only [Act.put, List.setIfInBounds_toArray, List.set_cons_zero, List.set_cons_succ]
      go_cut [12] (fun v12 wx => v12 = .bool bv ∧ wq = wx)
      case first =>
        by_cases hng : y1 < 0
        · have dge : decide (y1 ≥ 0) = false := decide_eq_false (by omega)
          have dge2 : decide (0 ≤ y1) = false := decide_eq_false (by omega)
          have HB0 := Aside0.mk (show bv = false by rw [← HIN.out]; exact decide_eq_false (by omega))
          clear hng
          go_wp2
          go_meet
          exact ⟨by rw [HB0.out], rfl⟩
        · have dge : decide (y1 ≥ 0) = true := decide_eq_true (by omega)
          have dge2 : decide (0 ≤ y1) = true := decide_eq_true (by omega)
          by_cases hlt3 : y1 < (n : Int)
          · have dlt : decide (y1 < (n : Int)) = true := decide_eq_true hlt3
            have HB0 := Aside0.mk (show bv = true by rw [← HIN.out]; exact decide_eq_true (by omega))
            clear hng hlt3
            go_wp2
            go_meet
            exact ⟨by rw [HB0.out], rfl⟩
          · have dlt : decide (y1 < (n : Int)) = false := decide_eq_false hlt3
            have HB0 := Aside0.mk (show bv = false by rw [← HIN.out]; exact decide_eq_false (by omega))
            clear hng hlt3
            go_wp2
            go_meet
            exact ⟨by rw [HB0.out], rfl⟩
      case rest =>
        obtain ⟨rfl, rfl⟩ := hcut
        go_upto_region 16 with fail
        go_cut [73] (fun v73 wx => v73 = .bool false ∧ Aside0 (Own w wx [Blk gb (.cells #[.int .i64 y0, .int .i64 y1, .int .i64 y2, .int .i64 y3, .slice YA yl.length Yc, .int .i64 y5, .int .i64 y6, .int .i64 y7, .int .u8 y8, .string y9, .int .i64 y10, .int .i64 y11, .int .i64 y12, .int .i64 y13] 33 (0, 0)), Tr ga (ss'), Row (Kd.int .i64) 3 (.slice (some ⟨bo, 0, none⟩) n n) (cnt1 sa), Row (Kd.int .i64) 3 (.slice (some ⟨bi, 0, none⟩) n n) (cnt2 sa)]))
        case first =>
          cases bv with
          | true =>
            by_cases h0 : y0 = 0
            · have H90 := Aside0.mk h0
              clear h0
              have q0 : (y0 == 0) = true := beq_iff_eq.mpr H90.out
              have n0 : (y0 != 0) = false := by simp [bne, q0]
              have qf : (fr == 0) = true := beq_iff_eq.mpr (by rw [← PR.out]; unfold putE errR; rw [if_pos (.inl H90.out), HLS.out, if_pos HIN.out])
              go_wp2_with (first
                | (go_at_call 15; ((with_reducible refine (put_callsE HX3.out.r1 (⟨y0, y1, y2, y3, yl, ⟨y5, y6, y7, y8, y9, y10, y11, y12⟩, y13⟩ : S33) YA Yc B1.out (fun v h => Kd.C_below HY.out h.tail.bel) fr PR.out ss' PS.out).mono ?_)); rintro e w6 ⟨rfl, h⟩; have H6 := Aside0.mk h.r1; have z0_ := (blk_cell h.at1 0).trans rfl; clear h))
              go_meet
              exact ⟨rfl, H6⟩
            · have H90 := Aside0.mk h0
              clear h0
              by_cases h1 : y0 = 1
              · have H91 := Aside0.mk h1
                clear h1
                have q0 : (y0 == 0) = false := beq_eq_false_iff_ne.mpr H90.out
                have n0 : (y0 != 0) = true := by simp [bne, q0]
                have q1 : (y0 == 1) = true := beq_iff_eq.mpr H91.out
                have n1 : (y0 != 1) = false := by simp [bne, q1]
                have qf : (fr == 0) = true := beq_iff_eq.mpr (by rw [← PR.out]; unfold putE errR; rw [if_pos (.inr H91.out), HLS.out, if_pos HIN.out])
                go_wp2_with (first
                  | (go_at_call 15; ((with_reducible refine (put_callsE HX3.out.r1 (⟨y0, y1, y2, y3, yl, ⟨y5, y6, y7, y8, y9, y10, y11, y12⟩, y13⟩ : S33) YA Yc B1.out (fun v h => Kd.C_below HY.out h.tail.bel) fr PR.out ss' PS.out).mono ?_)); rintro e w6 ⟨rfl, h⟩; have H6 := Aside0.mk h.r1; have z0_ := (blk_cell h.at1 0).trans rfl; clear h))
                go_meet
                exact ⟨rfl, H6⟩
              · have H91 := Aside0.mk h1
                clear h1
                have q0 : (y0 == 0) = false := beq_eq_false_iff_ne.mpr H90.out
                have n0 : (y0 != 0) = true := by simp [bne, q0]
                have q1 : (y0 == 1) = false := beq_eq_false_iff_ne.mpr H91.out
                have n1 : (y0 != 1) = true := by simp [bne, q1]
                have qf : (fr == 0) = true := beq_iff_eq.mpr (by rw [← PR.out]; unfold putE errR; rw [if_neg (fun h => h.elim H90.out H91.out)])
                go_wp2_with (first
                  | (go_at_call 15; ((with_reducible refine (put_callsE HX3.out.r1 (⟨y0, y1, y2, y3, yl, ⟨y5, y6, y7, y8, y9, y10, y11, y12⟩, y13⟩ : S33) YA Yc B1.out (fun v h => Kd.C_below HY.out h.tail.bel) fr PR.out ss' PS.out).mono ?_)); rintro e w6 ⟨rfl, h⟩; have H6 := Aside0.mk h.r1; have z0_ := (blk_cell h.at1 0).trans rfl; clear h))
                go_meet
                exact ⟨rfl, H6⟩
          | false =>
            by_cases h0 : y0 = 0
            · have H90 := Aside0.mk h0
              clear h0
              have q0 : (y0 == 0) = true := beq_iff_eq.mpr H90.out
              have n0 : (y0 != 0) = false := by simp [bne, q0]
              have qf : (fr == 0) = false := beq_eq_false_iff_ne.mpr (by rw [← PR.out]; unfold putE errR; rw [if_pos (.inl H90.out), HLS.out, if_neg (by rw [HIN.out]; decide)]; decide)
              go_wp2_with (first
                | (go_at_call 15; ((with_reducible refine (put_callsE HX3.out.r1 (⟨y0, y1, y2, y3, yl, ⟨y5, y6, y7, y8, y9, y10, y11, y12⟩, y13⟩ : S33) YA Yc B1.out (fun v h => Kd.C_below HY.out h.tail.bel) fr PR.out ss' PS.out).mono ?_)); rintro e w6 ⟨rfl, h⟩; have H6 := Aside0.mk h.r1; have z0_ := (blk_cell h.at1 0).trans rfl; clear h))
              go_meet
              exact ⟨rfl, H6⟩
            · have H90 := Aside0.mk h0
              clear h0
              by_cases h1 : y0 = 1
              · have H91 := Aside0.mk h1
                clear h1
                have q0 : (y0 == 0) = false := beq_eq_false_iff_ne.mpr H90.out
                have n0 : (y0 != 0) = true := by simp [bne, q0]
                have q1 : (y0 == 1) = true := beq_iff_eq.mpr H91.out
                have n1 : (y0 != 1) = false := by simp [bne, q1]
                have qf : (fr == 0) = false := beq_eq_false_iff_ne.mpr (by rw [← PR.out]; unfold putE errR; rw [if_pos (.inr H91.out), HLS.out, if_neg (by rw [HIN.out]; decide)]; decide)
                go_wp2_with (first
                  | (go_at_call 15; ((with_reducible refine (put_callsE HX3.out.r1 (⟨y0, y1, y2, y3, yl, ⟨y5, y6, y7, y8, y9, y10, y11, y12⟩, y13⟩ : S33) YA Yc B1.out (fun v h => Kd.C_below HY.out h.tail.bel) fr PR.out ss' PS.out).mono ?_)); rintro e w6 ⟨rfl, h⟩; have H6 := Aside0.mk h.r1; have z0_ := (blk_cell h.at1 0).trans rfl; clear h))
                go_meet
                exact ⟨rfl, H6⟩
              · have H91 := Aside0.mk h1
                clear h1
                have q0 : (y0 == 0) = false := beq_eq_false_iff_ne.mpr H90.out
                have n0 : (y0 != 0) = true := by simp [bne, q0]
                have q1 : (y0 == 1) = false := beq_eq_false_iff_ne.mpr H91.out
                have n1 : (y0 != 1) = true := by simp [bne, q1]
                have qf : (fr == 0) = true := beq_iff_eq.mpr (by rw [← PR.out]; unfold putE; rw [if_neg (fun h => h.elim H90.out H91.out)])
                go_wp2_with (first
                  | (go_at_call 15; ((with_reducible refine (put_callsE HX3.out.r1 (⟨y0, y1, y2, y3, yl, ⟨y5, y6, y7, y8, y9, y10, y11, y12⟩, y13⟩ : S33) YA Yc B1.out (fun v h => Kd.C_below HY.out h.tail.bel) fr PR.out ss' PS.out).mono ?_)); rintro e w6 ⟨rfl, h⟩; have H6 := Aside0.mk h.r1; have z0_ := (blk_cell h.at1 0).trans rfl; clear h))
                go_meet
                exact ⟨rfl, H6⟩
        case rest =>
          obtain ⟨rfl, H6⟩ := hcut
          obtain ⟨w6, hw6⟩ : ∃ z, z = wc := ⟨_, rfl⟩
          rw [← hw6] at H6 ⊢
          clear hw6
          clear z0 z1 z2 z3 z4 z5 z6 z7 z8 z9 z10 z11 z12 z13
          have z0 := (blk_cell H6.out.at0 0).trans rfl
          go_upto_region 18 with fail
          go_cut [79] (fun v79 wx => v79 = .bool c0 ∧ w6 = wx)
          case first =>
            cases bv with
            | true =>
              by_cases h0 : y0 = 0
              · have H0_ := Aside0.mk h0
                have q0 : (y0 == 0) = true := beq_iff_eq.mpr h0
                clear h0
                go_wp2
                go_meet
                exact ⟨by rw [← Hc0.out, decide_eq_true ⟨HIN.out, H0_.out⟩], rfl⟩
              · have H0_ := Aside0.mk h0
                have q0 : (y0 == 0) = false := beq_eq_false_iff_ne.mpr h0
                clear h0
                go_wp2
                go_meet
                exact ⟨by rw [← Hc0.out, decide_eq_false (fun h => H0_.out h.2)], rfl⟩
            | false =>
              go_wp2
              go_meet
              exact ⟨by rw [← Hc0.out, decide_eq_false (fun h => by rw [HIN.out] at h; exact absurd h.1 (by decide))], rfl⟩
          case rest =>
            obtain ⟨rfl, rfl⟩ := hcut
            go_upto_if 79 with fail
            go_cut [] (fun wx => Aside0 (Own w wx [Blk gb (.cells #[.int .i64 y0, .int .i64 y1, .int .i64 y2, .int .i64 y3, .slice YA yl.length Yc, .int .i64 y5, .int .i64 y6, .int .i64 y7, .int .u8 y8, .string y9, .int .i64 y10, .int .i64 y11, .int .i64 y12, .int .i64 y13] 33 (0, 0)), Tr ga ss', Row (Kd.int .i64) 3 (.slice (some ⟨bo, 0, none⟩) n n) (cnt1 ss'), Row (Kd.int .i64) 3 (.slice (some ⟨bi, 0, none⟩) n n) (cnt2 sa)]))
            case first =>
              cases c0 with
              | false =>
                go_wp2
                go_meet
                exact ⟨by rw [K1.out (by first | rfl | trivial)]; exact H6.out⟩
              | true =>
                obtain ⟨i, hy1, hin, s, hs, e1⟩ := K3.out (by first | rfl | trivial)
                dsimp only at hy1
                subst hy1
                have q1 := Aside0.mk (cnt1_at hs)
                have E1 := Aside0.mk e1
                have bs1 : s.1.length ≤ 3000000 := by have := B0.out (i : Int); rw [sAt_in hs] at this; omega
                have dln : decide (i < n) = true := decide_eq_true hin
                have HD := Aside0.mk H6.out.drew
                clear hs e1
                go_wp2
                refine start_ (n := 14) (S := fun w' => Own w w' [Blk gb (.cells #[.int .i64 y0, .int .i64 (i : Int), .int .i64 y2, .int .i64 y3, .slice YA yl.length Yc, .int .i64 y5, .int .i64 y6, .int .i64 y7, .int .u8 y8, .string y9, .int .i64 y10, .int .i64 y11, .int .i64 y12, .int .i64 y13] 33 (0, 0)), Tr ga ss', Row (Kd.int .i64) 3 (.slice (some ⟨bo, 0, none⟩) n n) (cnt1 sa), Row (Kd.int .i64) 3 (.slice (some ⟨bi, 0, none⟩) n n) (cnt2 sa)]) (ds := [13]) #[false, false, false, false, false, false, false, false, false, false, false, false, false, false] (by kernel_rfl) rfl rfl HD.out (fun hHeld => ?_); refine with_tabW ct19_tab ct19_bits (fun HT_ HW_ => ?_)
                have HW := Aside0.mk hHeld
                clear HD
                generalize w6.drew = wd at HW hHeld ⊢
                refine pure_ (i := 0) (N := some 80) (v := ?_) (a' := ?_) #[true, false, false, false, false, false, false, false, false, false, false, false, false, false] rfl rfl (any_of HT_.out (by kernel_rfl)) (fun _ _ _ h => h) (Or.inl ⟨by rfl, ?_⟩) ?_ ?_
                rotate_left
                · intro w'
                  go_simp
                  with_reducible rfl
                rotate_left
                · simp only [Act.put, List.setIfInBounds_toArray, List.set_cons_zero, List.set_cons_succ, i64_w, i32_w]
                  rfl
                refine pure_ (i := 1) (N := some 81) (v := ?_) (a' := ?_) #[true, true, false, false, false, false, false, false, false, false, false, false, false, false] rfl rfl (any_of HT_.out (by kernel_rfl)) (fun _ _ _ h => h) (Or.inl ⟨by rfl, ?_⟩) ?_ ?_
                rotate_left
                · intro w'
                  go_simp
                  with_reducible rfl
                rotate_left
                · simp only [Act.put, List.setIfInBounds_toArray, List.set_cons_zero, List.set_cons_succ, i64_w, i32_w]
                  rfl
                refine take_ (i := 2) (N := some 82) (v := ?_) (a' := ?_) #[true, true, true, false, false, false, false, false, false, false, false, false, false, false] rfl rfl (take_ofW HT_.out HW_.out (by kernel_rfl)) (fun _ _ _ h => h) (Or.inl ⟨by rfl, ?_⟩) hHeld ?_ ?_
                rotate_left
                · rintro w' s0
                  have p1 := (blk_cell s0.at0 1).trans rfl
                  go_simp
                  with_reducible rfl
                rotate_left
                · simp only [Act.put, List.setIfInBounds_toArray, List.set_cons_zero, List.set_cons_succ, i64_w, i32_w]
                  rfl
                refine pure_ (i := 3) (N := some 83) (v := ?_) (a' := ?_) #[true, true, true, true, false, false, false, false, false, false, false, false, false, false] rfl rfl (any_of HT_.out (by kernel_rfl)) (fun _ _ _ h => h) (Or.inl ⟨by rfl, ?_⟩) ?_ ?_
                rotate_left
                · intro w'
                  go_simp
                  with_reducible rfl
                rotate_left
                · simp only [Act.put, List.setIfInBounds_toArray, List.set_cons_zero, List.set_cons_succ, i64_w, i32_w]
                  rfl
                refine pure_ (i := 4) (N := some 84) (v := ?_) (a' := ?_) #[true, true, true, true, true, false, false, false, false, false, false, false, false, false] rfl rfl (any_of HT_.out (by kernel_rfl)) (fun _ _ _ h => h) (Or.inl ⟨by rfl, ?_⟩) ?_ ?_
                rotate_left
                · intro w'
                  go_simp
                  with_reducible rfl
                rotate_left
                · simp only [Act.put, List.setIfInBounds_toArray, List.set_cons_zero, List.set_cons_succ, i64_w, i32_w]
                  rfl
                refine take_ (i := 5) (N := some 85) (v := ?_) (a' := ?_) #[true, true, true, true, true, true, false, false, false, false, false, false, false, false] rfl rfl (take_ofW HT_.out HW_.out (by kernel_rfl)) (fun _ _ _ h => h) (Or.inl ⟨by rfl, ?_⟩) hHeld ?_ ?_
                rotate_left
                · rintro w' s0
                  have p1 := (blk_cell s0.at0 1).trans rfl
                  go_simp
                  with_reducible rfl
                rotate_left
                · simp only [Act.put, List.setIfInBounds_toArray, List.set_cons_zero, List.set_cons_succ, i64_w, i32_w]
                  rfl
                refine pure_ (i := 6) (N := some 86) (v := ?_) (a' := ?_) #[true, true, true, true, true, true, true, false, false, false, false, false, false, false] rfl rfl (any_of HT_.out (by kernel_rfl)) (fun _ _ _ h => h) (Or.inl ⟨by rfl, ?_⟩) ?_ ?_
                rotate_left
                · intro w'
                  go_simp
                  with_reducible rfl
                rotate_left
                · simp only [Act.put, List.setIfInBounds_toArray, List.set_cons_zero, List.set_cons_succ, i64_w, i32_w]
                  rfl
                refine take_ (i := 7) (N := some 87) (v := ?_) (a' := ?_) #[true, true, true, true, true, true, true, true, false, false, false, false, false, false] rfl rfl (take_ofW HT_.out HW_.out (by kernel_rfl)) (fun _ _ _ h => h) (Or.inl ⟨by rfl, ?_⟩) hHeld ?_ ?_
                rotate_left
                · rintro w' s0
                  have pc := (int_cell s0.r2 i _ q1.out).1
                  go_simp
                  with_reducible rfl
                rotate_left
                · simp only [Act.put, List.setIfInBounds_toArray, List.set_cons_zero, List.set_cons_succ, i64_w, i32_w]
                  rfl
                refine pure_ (i := 8) (N := some 88) (v := ?_) (a' := ?_) #[true, true, true, true, true, true, true, true, true, false, false, false, false, false] rfl rfl (any_of HT_.out (by kernel_rfl)) (fun _ _ _ h => h) (Or.inl ⟨by rfl, ?_⟩) ?_ ?_
                rotate_left
                · intro w'
                  go_simp
                  with_reducible rfl
                rotate_left
                · simp only [Act.put, List.setIfInBounds_toArray, List.set_cons_zero, List.set_cons_succ, i64_w, i32_w]
                  rfl
                refine take_ (i := 9) (N := some 89) (v := ?_) (a' := ?_) #[true, true, true, true, true, true, true, true, true, true, false, false, false, false] rfl rfl (take_ofW HT_.out HW_.out (by kernel_rfl)) (fun _ _ _ h => h) (Or.inl ⟨by rfl, ?_⟩) hHeld ?_ ?_
                rotate_left
                · rintro w' s0
                  have p4 := (blk_cell s0.at0 4).trans rfl
                  go_simp
                  with_reducible rfl
                rotate_left
                · simp only [Act.put, List.setIfInBounds_toArray, List.set_cons_zero, List.set_cons_succ, i64_w, i32_w]
                  rfl
                refine pure_ (i := 10) (N := some 90) (v := ?_) (a' := ?_) #[true, true, true, true, true, true, true, true, true, true, true, false, false, false] rfl rfl (any_of HT_.out (by kernel_rfl)) (fun _ _ _ h => h) (Or.inl ⟨by rfl, ?_⟩) ?_ ?_
                rotate_left
                · intro w'
                  go_simp
                  with_reducible rfl
                rotate_left
                · simp only [Act.put, List.setIfInBounds_toArray, List.set_cons_zero, List.set_cons_succ, i64_w, i32_w]
                  rfl
                refine pure_ (i := 11) (N := some 91) (v := ?_) (a' := ?_) #[true, true, true, true, true, true, true, true, true, true, true, true, false, false] rfl rfl (any_of HT_.out (by kernel_rfl)) (fun _ _ _ h => h) (Or.inl ⟨by rfl, ?_⟩) ?_ ?_
                rotate_left
                · intro w'
                  go_simp
                  with_reducible rfl
                rotate_left
                · simp only [Act.put, List.setIfInBounds_toArray, List.set_cons_zero, List.set_cons_succ, i64_w, i32_w]
                  rfl
                refine pure_ (i := 12) (N := some 92) (v := ?_) (a' := ?_) #[true, true, true, true, true, true, true, true, true, true, true, true, true, false] rfl rfl (any_of HT_.out (by kernel_rfl)) (fun _ _ _ h => h) (Or.inl ⟨by rfl, ?_⟩) ?_ ?_
                rotate_left
                · intro w'
                  go_simp
                  with_reducible rfl
                rotate_left
                · simp only [Act.put, List.setIfInBounds_toArray, List.set_cons_zero, List.set_cons_succ, i64_w, i32_w]
                  rfl
                have hfz := (int_cell HW.out.r2 i _ q1.out).2
                have hce := (int_cell HW.out.r2 i _ q1.out).1
                refine last_ (i := 13) (N := none) #[true, true, true, true, true, true, true, true, true, true, true, true, true, true] rfl rfl (one_of HT_.out (by kernel_rfl)) (by decide) (fun K hK => ?_)
                refine skip_ (w1 := ?_) (by rfl) rfl ?_ ?_
                rotate_left
                · go_simp
                  rfl
                refine hK.out _ _ ?_
                clear hK K
                refine done_ (done_of HT_.out (by kernel_rfl)) ?_
                have HV := rowput HW.out.r2 i (wrap64 ((s.1.length : Int) + (yl.length : Int)))
                obtain ⟨wz, hwz⟩ : ∃ wz, wd.setCell ⟨bo, i, none⟩ (.int .i64 (wrap64 ((s.1.length : Int) + (yl.length : Int)))) = wz := ⟨_, rfl⟩
                rw [hwz] at HV ⊢
                rw [show wrap64 ((s.1.length : Int) + (yl.length : Int)) = (s.1.length : Int) + (yl.length : Int) by unfold wrap64; omega] at HV
                clear hwz
                go_wp2
                go_meet
                exact ⟨by rw [E1.out]; exact HV.pick [1, 2, 0, 3]⟩
            case rest =>
              have H7 := hcut
              clear hcut
              obtain ⟨w7, hw7⟩ : ∃ z, z = wc := ⟨_, rfl⟩
              rw [← hw7] at H7 ⊢
              clear hw7
              have z0 := (blk_cell H7.out.at0 0).trans rfl
              go_upto_region 20 with fail
              go_cut [98] (fun v98 wx => v98 = .bool c1 ∧ w7 = wx)
              case first =>
                cases bv with
                | true =>
                  by_cases h0 : y0 = 1
                  · have H0_ := Aside0.mk h0
                    have q0 : (y0 == 1) = true := beq_iff_eq.mpr h0
                    clear h0
                    go_wp2
                    go_meet
                    exact ⟨by rw [← Hc1.out, decide_eq_true ⟨HIN.out, H0_.out⟩], rfl⟩
                  · have H0_ := Aside0.mk h0
                    have q0 : (y0 == 1) = false := beq_eq_false_iff_ne.mpr h0
                    clear h0
                    go_wp2
                    go_meet
                    exact ⟨by rw [← Hc1.out, decide_eq_false (fun h => H0_.out h.2)], rfl⟩
                | false =>
                  go_wp2
                  go_meet
                  exact ⟨by rw [← Hc1.out, decide_eq_false (fun h => by rw [HIN.out] at h; exact absurd h.1 (by decide))], rfl⟩
              case rest =>
                obtain ⟨rfl, rfl⟩ := hcut
                go_upto_if 98 with fail
                cases c1 with
                | false =>
                  go_wp2
                  go_roundw
                  case rel => exact ⟨k + 1, by omega, by first | rfl | go_num, ⟨by rw [S1.out, K2.out (by first | rfl | trivial)]; exact H7.out.pick [1, 2, 3]⟩⟩
                  case measure => first | (simp [RowKit.intOf]; done) | (simp [RowKit.intOf]; omega)
                | true =>
                  obtain ⟨i, hy1, hin, s, hs, e1⟩ := K4.out (by first | rfl | trivial)
                  dsimp only at hy1
                  subst hy1
                  have q1 := cnt2_at hs
                  have E1 := Aside0.mk e1
                  have bs1 : s.2.length ≤ 3000000 := by have := B0.out (i : Int); rw [sAt_in hs] at this; omega
                  have dln : decide (i < n) = true := decide_eq_true hin
                  have z1 := (blk_cell H7.out.at0 1).trans rfl
                  have qc := (int_cell H7.out.r3 i _ q1).1
                  have qf := (int_cell H7.out.r3 i _ q1).2
                  clear hs e1 q1
                  go_wp2
                  go_roundw
                  case rel => exact ⟨k + 1, by omega, by first | rfl | go_num, ⟨by rw [S1.out, E1.out]; exact (rowput H7.out.r3 i ((s.2.length : Int) + 1)).pick [2, 3, 0]⟩⟩
                  case measure => first | (simp [RowKit.intOf]; done) | (simp [RowKit.intOf]; omega)
    · have hk' : k = l.length := by omega
      subst hk'
      rw [List.take_length] at HO
      have H8 := HO
      have HLS := Aside0.mk (show (l.foldl doA (List.replicate n ([], []) : List (List TO × List TA))).length = n by rw [fold_len]; exact LN.out)
      have HZ := Aside0.mk (fun q => HB.out l H5.out.2 (by have := H5.out.1; omega) q)
      clear HO hk hlt
      generalize l.foldl doA (List.replicate n ([], []) : List (List TO × List TA)) = sa at H8 HLS HZ
      go_wp2
      go_loopw [13] (fun v13 wr => ∃ k : Nat, k ≤ n ∧ v13 = .int .i64 k ∧ Aside0 (Own w wr [Tr ga (sa), Row (Kd.int .i64) 3 (.slice (some ⟨bo, 0, none⟩) n n) (cnt1 (sa)), Row (Kd.int .i64) 3 (.slice (some ⟨bi, 0, none⟩) n n) (cnt2 (sa))])) (fun v13 _ => n - (RowKit.intOf v13).toNat)
      case atStart => exact ⟨0, Nat.zero_le _, rfl, H8⟩
      case round =>
        obtain ⟨k, hk, rfl, HO⟩ := hrel
        by_cases hlt : k < n
        · have hs : sa[k]? = some (sa[k]'(by rw [HLS.out]; exact hlt)) := List.getElem?_eq_getElem _
          generalize sa[k]'(by rw [HLS.out]; exact hlt) = s at hs
          have q1 := Aside0.mk (cnt1_at hs)
          have q2 := Aside0.mk (cnt2_at hs)
          have E1 := Aside0.mk (show (sAt sa (k : Int)).1 = s.1 by rw [sAt_in hs])
          have E2 := Aside0.mk (show (sAt sa (k : Int)).2 = s.2 by rw [sAt_in hs])
          have bs : s.1.length ≤ 3000000 ∧ s.2.length ≤ 3000000 := by have := HZ.out (k : Int); rw [sAt_in hs] at this; omega
          have L1 := Aside0.mk (show s.1.length ≤ 1000000000 by omega)
          have L2 := Aside0.mk (show s.2.length ≤ 1000000000 by omega)
          have hkn : decide (k < n) = true := decide_eq_true hlt
          have hn8 : n ≤ 8 := HN1.out.2
          clear hs bs
          have HD := Aside0.mk HO.out.drew
          go_wp2
          refine start_ (n := 20) (S := fun w' => Own w w' [Tr ga (sa), Row (Kd.int .i64) 3 (.slice (some ⟨bo, 0, none⟩) n n) (cnt1 (sa)), Row (Kd.int .i64) 3 (.slice (some ⟨bi, 0, none⟩) n n) (cnt2 (sa))]) (ds := []) #[false, false, false, false, false, false, false, false, false, false, false, false, false, false, false, false, false, false, false, false] (by kernel_rfl) rfl rfl HD.out (fun hHeld => ?_); refine with_tabW ct25_tab ct25_bits (fun HT_ HW_ => ?_)
          have HW := Aside0.mk hHeld
          clear HD
          generalize wr.drew = wd at HW hHeld ⊢
          refine pure_ (i := 0) (N := some 111) (v := ?_) (a' := ?_) #[true, false, false, false, false, false, false, false, false, false, false, false, false, false, false, false, false, false, false, false] rfl rfl (any_of HT_.out (by kernel_rfl)) (fun _ _ _ h => h) (Or.inl ⟨by rfl, ?_⟩) ?_ ?_
          rotate_left
          · intro w'
            go_simp
            with_reducible rfl
          rotate_left
          · simp only [Act.put, List.setIfInBounds_toArray, List.set_cons_zero, List.set_cons_succ, i64_w, i32_w]
            rfl
          refine pure_ (i := 1) (N := some 112) (v := ?_) (a' := ?_) #[true, true, false, false, false, false, false, false, false, false, false, false, false, false, false, false, false, false, false, false] rfl rfl (any_of HT_.out (by kernel_rfl)) (fun _ _ _ h => h) (Or.inl ⟨by rfl, ?_⟩) ?_ ?_
          rotate_left
          · intro w'
            go_simp
            with_reducible rfl
          rotate_left
          · simp only [Act.put, List.setIfInBounds_toArray, List.set_cons_zero, List.set_cons_succ, i64_w, i32_w]
            rfl
          refine pure_ (i := 4) (N := some 115) (v := ?_) (a' := ?_) #[true, true, false, false, true, false, false, false, false, false, false, false, false, false, false, false, false, false, false, false] rfl rfl (any_of HT_.out (by kernel_rfl)) (fun _ _ _ h => h) (Or.inl ⟨by rfl, ?_⟩) ?_ ?_
          rotate_left
          · intro w'
            go_simp
            with_reducible rfl
          rotate_left
          · simp only [Act.put, List.setIfInBounds_toArray, List.set_cons_zero, List.set_cons_succ, i64_w, i32_w]
            rfl
          refine pure_ (i := 5) (N := some 116) (v := ?_) (a' := ?_) #[true, true, false, false, true, true, false, false, false, false, false, false, false, false, false, false, false, false, false, false] rfl rfl (any_of HT_.out (by kernel_rfl)) (fun _ _ _ h => h) (Or.inl ⟨by rfl, ?_⟩) ?_ ?_
          rotate_left
          · intro w'
            go_simp
            with_reducible rfl
          rotate_left
          · simp only [Act.put, List.setIfInBounds_toArray, List.set_cons_zero, List.set_cons_succ, i64_w, i32_w]
            rfl
          refine pure_ (i := 6) (N := some 117) (v := ?_) (a' := ?_) #[true, true, false, false, true, true, true, false, false, false, false, false, false, false, false, false, false, false, false, false] rfl rfl (any_of HT_.out (by kernel_rfl)) (fun _ _ _ h => h) (Or.inl ⟨by rfl, ?_⟩) ?_ ?_
          rotate_left
          · intro w'
            go_simp
            with_reducible rfl
          rotate_left
          · simp only [Act.put, List.setIfInBounds_toArray, List.set_cons_zero, List.set_cons_succ, i64_w, i32_w]
            rfl
          refine take_ (i := 7) (N := some 118) (v := ?_) (a' := ?_) #[true, true, false, false, true, true, true, true, false, false, false, false, false, false, false, false, false, false, false, false] rfl rfl (take_ofW HT_.out HW_.out (by kernel_rfl)) (fun _ _ _ h => h) (Or.inl ⟨by rfl, ?_⟩) hHeld ?_ ?_
          rotate_left
          · rintro w' s0
            have pc := (int_cell s0.r1 k _ q1.out).1
            go_simp
            with_reducible rfl
          rotate_left
          · simp only [Act.put, List.setIfInBounds_toArray, List.set_cons_zero, List.set_cons_succ, i64_w, i32_w]
            rfl
          refine one_ (i := 2) (N := some 113) #[true, true, true, false, true, true, true, true, false, false, false, false, false, false, false, false, false, false, false, false] rfl rfl (one_of HT_.out (by kernel_rfl)) (by decide) (fun K hK => ?_)
          refine goes_ Try.func11 (by kernel_rfl) rfl #[.pointer (some ⟨ga, 0, none⟩), .int .i64 k] (by rfl) rfl rfl (by (try simp only [List.map_toArray, List.map_cons, List.map_nil]); first | done | rfl) ?_
          with_reducible refine (TrOutsE HW.out k s.1 s.1.length E1.out rfl L1.out).mono ?_
          rintro e w5 ⟨A1, d1, rfl, h⟩
          have HW5 := Aside0.mk h.tail
          clear h
          refine ⟨_, rfl, ?_⟩
          refine hK.out _ _ HW5.out (fun hHeld => ?_)
          clear hK K
          refine norm_ (a' := ?_) ?_ ?_
          rotate_left
          · simp only [Act.put, List.setIfInBounds_toArray, List.set_cons_zero, List.set_cons_succ, i64_w, i32_w]
            rfl
          refine pure_ (i := 3) (N := some 114) (v := ?_) (a' := ?_) #[true, true, true, true, true, true, true, true, false, false, false, false, false, false, false, false, false, false, false, false] rfl rfl (any_of HT_.out (by kernel_rfl)) (fun _ _ _ h => h) (Or.inl ⟨by rfl, ?_⟩) ?_ ?_
          rotate_left
          · intro w'
            go_simp
            with_reducible rfl
          rotate_left
          · simp only [Act.put, List.setIfInBounds_toArray, List.set_cons_zero, List.set_cons_succ, i64_w, i32_w]
            rfl
          refine pure_ (i := 8) (N := some 119) (v := ?_) (a' := ?_) #[true, true, true, true, true, true, true, true, true, false, false, false, false, false, false, false, false, false, false, false] rfl rfl (any_of HT_.out (by kernel_rfl)) (fun _ _ _ h => h) (Or.inl ⟨by rfl, ?_⟩) ?_ ?_
          rotate_left
          · intro w'
            go_simp
            with_reducible rfl
          rotate_left
          · simp only [Act.put, List.setIfInBounds_toArray, List.set_cons_zero, List.set_cons_succ, i64_w, i32_w]
            rfl
          refine pure_ (i := 9) (N := some 120) (v := ?_) (a' := ?_) #[true, true, true, true, true, true, true, true, true, true, false, false, false, false, false, false, false, false, false, false] rfl rfl (any_of HT_.out (by kernel_rfl)) (fun _ _ _ h => h) (Or.inl ⟨by rfl, ?_⟩) ?_ ?_
          rotate_left
          · intro w'
            go_simp
            with_reducible rfl
          rotate_left
          · simp only [Act.put, List.setIfInBounds_toArray, List.set_cons_zero, List.set_cons_succ, i64_w, i32_w]
            rfl
          refine pure_ (i := 10) (N := some 121) (v := ?_) (a' := ?_) #[true, true, true, true, true, true, true, true, true, true, true, false, false, false, false, false, false, false, false, false] rfl rfl (any_of HT_.out (by kernel_rfl)) (fun _ _ _ h => h) (Or.inl ⟨by rfl, ?_⟩) ?_ ?_
          rotate_left
          · intro w'
            go_simp
            with_reducible rfl
          rotate_left
          · simp only [Act.put, List.setIfInBounds_toArray, List.set_cons_zero, List.set_cons_succ, i64_w, i32_w]
            rfl
          refine pure_ (i := 11) (N := some 122) (v := ?_) (a' := ?_) #[true, true, true, true, true, true, true, true, true, true, true, true, false, false, false, false, false, false, false, false] rfl rfl (any_of HT_.out (by kernel_rfl)) (fun _ _ _ h => h) (Or.inl ⟨by rfl, ?_⟩) ?_ ?_
          rotate_left
          · intro w'
            go_simp
            with_reducible rfl
          rotate_left
          · simp only [Act.put, List.setIfInBounds_toArray, List.set_cons_zero, List.set_cons_succ, i64_w, i32_w]
            rfl
          refine pure_ (i := 14) (N := some 125) (v := ?_) (a' := ?_) #[true, true, true, true, true, true, true, true, true, true, true, true, false, false, true, false, false, false, false, false] rfl rfl (any_of HT_.out (by kernel_rfl)) (fun _ _ _ h => h) (Or.inl ⟨by rfl, ?_⟩) ?_ ?_
          rotate_left
          · intro w'
            go_simp
            with_reducible rfl
          rotate_left
          · simp only [Act.put, List.setIfInBounds_toArray, List.set_cons_zero, List.set_cons_succ, i64_w, i32_w]
            rfl
          refine pure_ (i := 15) (N := some 126) (v := ?_) (a' := ?_) #[true, true, true, true, true, true, true, true, true, true, true, true, false, false, true, true, false, false, false, false] rfl rfl (any_of HT_.out (by kernel_rfl)) (fun _ _ _ h => h) (Or.inl ⟨by rfl, ?_⟩) ?_ ?_
          rotate_left
          · intro w'
            go_simp
            with_reducible rfl
          rotate_left
          · simp only [Act.put, List.setIfInBounds_toArray, List.set_cons_zero, List.set_cons_succ, i64_w, i32_w]
            rfl
          refine pure_ (i := 16) (N := some 127) (v := ?_) (a' := ?_) #[true, true, true, true, true, true, true, true, true, true, true, true, false, false, true, true, true, false, false, false] rfl rfl (any_of HT_.out (by kernel_rfl)) (fun _ _ _ h => h) (Or.inl ⟨by rfl, ?_⟩) ?_ ?_
          rotate_left
          · intro w'
            go_simp
            with_reducible rfl
          rotate_left
          · simp only [Act.put, List.setIfInBounds_toArray, List.set_cons_zero, List.set_cons_succ, i64_w, i32_w]
            rfl
          refine take_ (i := 17) (N := some 128) (v := ?_) (a' := ?_) #[true, true, true, true, true, true, true, true, true, true, true, true, false, false, true, true, true, true, false, false] rfl rfl (take_ofW HT_.out HW_.out (by kernel_rfl)) (fun _ _ _ h => h) (Or.inl ⟨by rfl, ?_⟩) hHeld ?_ ?_
          rotate_left
          · rintro w' s0
            have pc := (int_cell s0.r2 k _ q2.out).1
            go_simp
            with_reducible rfl
          rotate_left
          · simp only [Act.put, List.setIfInBounds_toArray, List.set_cons_zero, List.set_cons_succ, i64_w, i32_w]
            rfl
          refine one_ (i := 12) (N := some 123) #[true, true, true, true, true, true, true, true, true, true, true, true, true, false, true, true, true, true, false, false] rfl rfl (one_of HT_.out (by kernel_rfl)) (by decide) (fun K hK => ?_)
          refine goes_ Try.func12 (by kernel_rfl) rfl #[.pointer (some ⟨ga, 0, none⟩), .int .i64 k] (by rfl) rfl rfl (by (try simp only [List.map_toArray, List.map_cons, List.map_nil]); first | done | rfl) ?_
          with_reducible refine (TrItemsE HW5.out k s.2 s.2.length E2.out rfl L2.out).mono ?_
          rintro e w6 ⟨A2, d2, rfl, h⟩
          have HW6 := Aside0.mk h.tail
          clear h
          refine ⟨_, rfl, ?_⟩
          refine hK.out _ _ HW6.out (fun hHeld => ?_)
          clear hK K
          refine norm_ (a' := ?_) ?_ ?_
          rotate_left
          · simp only [Act.put, List.setIfInBounds_toArray, List.set_cons_zero, List.set_cons_succ, i64_w, i32_w]
            rfl
          refine pure_ (i := 13) (N := some 124) (v := ?_) (a' := ?_) #[true, true, true, true, true, true, true, true, true, true, true, true, true, true, true, true, true, true, false, false] rfl rfl (any_of HT_.out (by kernel_rfl)) (fun _ _ _ h => h) (Or.inl ⟨by rfl, ?_⟩) ?_ ?_
          rotate_left
          · intro w'
            go_simp
            with_reducible rfl
          rotate_left
          · simp only [Act.put, List.setIfInBounds_toArray, List.set_cons_zero, List.set_cons_succ, i64_w, i32_w]
            rfl
          refine pure_ (i := 18) (N := some 129) (v := ?_) (a' := ?_) #[true, true, true, true, true, true, true, true, true, true, true, true, true, true, true, true, true, true, true, false] rfl rfl (any_of HT_.out (by kernel_rfl)) (fun _ _ _ h => h) (Or.inl ⟨by rfl, ?_⟩) ?_ ?_
          rotate_left
          · intro w'
            go_simp
            with_reducible rfl
          rotate_left
          · simp only [Act.put, List.setIfInBounds_toArray, List.set_cons_zero, List.set_cons_succ, i64_w, i32_w]
            rfl
          refine pure_ (i := 19) (N := some 130) (v := ?_) (a' := ?_) #[true, true, true, true, true, true, true, true, true, true, true, true, true, true, true, true, true, true, true, true] rfl rfl (any_of HT_.out (by kernel_rfl)) (fun _ _ _ h => h) (Or.inl ⟨by rfl, ?_⟩) ?_ ?_
          rotate_left
          · intro w'
            go_simp
            with_reducible rfl
          rotate_left
          · simp only [Act.put, List.setIfInBounds_toArray, List.set_cons_zero, List.set_cons_succ, i64_w, i32_w]
            rfl
          refine done_ (done_of HT_.out (by kernel_rfl)) ?_
          go_wp2
          go_roundw
          case rel => exact ⟨k + 1, by omega, by first | rfl | go_num, HW6⟩
          case measure => first | (simp [RowKit.intOf]; done) | (simp [RowKit.intOf]; omega)
        · have hkn : decide (k < n) = false := decide_eq_false hlt
          go_wp2
          go_ret
          exact ⟨rfl, HO.out.bel⟩
theorem TraceCounts_law (m : Int) (A : Option Addr) (c : Nat) (l : List S33) (w : World) (hm : (Lit.int .u8 m).wf = true) (hr : Kd.C k33 w A l.length l) (hc : l.length ≤ c) (hq : l.length ≤ 9223372036854775807 ∧ ∀ x ∈ l, Q33 x) :
    Calls Try.prog 7 #[.int .u8 m, .slice A l.length c] w fun e w' => e = .returned (.bool true) ∧ Below w.heap.size w w' := by
  have hm2 : 0 ≤ m ∧ m ≤ 255 := by simpa [Lit.wf, IntKind.min, IntKind.max, IntKind.signed, IntKind.bits] using hm
  obtain ⟨k, rfl⟩ := Int.eq_ofNat_of_zero_le hm2.1
  obtain ⟨r, hg, h5⟩ := great_f l
  cases r with
  | true => exact TraceCounts_great k (by omega) A c l w hr hc hg
  | false => exact TraceCounts_small k (by omega) A c l w hr hc hg (h5 rfl) _ rfl
end Go.Proofs.Ytglccegihffndaa.PTracePlays
