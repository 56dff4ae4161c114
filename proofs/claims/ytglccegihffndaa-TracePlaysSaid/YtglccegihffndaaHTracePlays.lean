/- The law TracePlays, walked. -/
import Derived.Test.YtglccegihffndaaTrc13
import Derived.Deep.DeepCutAuto
import Derived.Deep.Cut
import Derived.Deep.CutRange
import Derived.Deep.CutBlock
import Derived.Deep.MidRow
namespace Go.Proofs.Ytglccegihffndaa.PTracePlays
open Go.RowKit Go.Proofs.YtglccegihffndaaW.PrintWords Go.Proofs.YtglccegihffndaaW.PrintLast Go.Proofs.YtglccegihffndaaW.PrintMore
open Go.Proofs.YtglccegihffndaaO
attribute [local go_sem] max2_int min2_int max_two min_two max_three min_three max_four min_four
set_option linter.unusedVariables false
set_option linter.unusedSimpArgs false
theorem stood_at {ss : List (List TO × List TA)} {rows : List RR} (h : Stood ss rows) (q : Int) : (sAt ss q).1 = (filt rows q true).map toldOf ∧ (sAt ss q).2 = (filt rows q false).map appOf := h q
theorem snoc_fold' {α β : Type} (f : β → α → β) (b : β) (l : List α) (k : Nat) (x : α) (hx : l[k]? = some x) : (l.take (k + 1)).foldl f b = f ((l.take k).foldl f b) x := by
  rw [List.take_add_one, hx, Option.toList_some, List.foldl_append]
  rfl
def tp27_T : Bool × List (List Nat × List Nat) := (true, [([], []), ([], []), ([1], [1]), ([], []), ([], []), ([3, 4], [3, 4]), ([5], [5]), ([], []), ([7], [7]), ([], []), ([9], [9]), ([2, 6, 8, 10], [2, 6, 8, 10]), ([11], [11]), ([0, 12], [0, 12]), ([13, 13, 0, 1, 2, 3, 4, 5, 6, 7, 8, 9, 10, 11, 12, 13], [0, 13])])
def tp27_B : List Nat := [0, 0, 2, 0, 0, 24, 56, 0, 128, 0, 512, 2046, 4094, 8191, 16383]
theorem tp27_tab : rtab .any (opsOf Try.f6 27) = tp27_T := by kernel_rfl
theorem tp27_bits : waitsOk tp27_T.2 tp27_B = true := by kernel_rfl
set_option maxHeartbeats 8000000 in
set_option maxRecDepth 100000 in
theorem TracePlays_great (m : Int) (A : Option Addr) (c : Nat) (l : List S33) (w : World) (hr : Kd.C k33 w A l.length l) (hc : l.length ≤ c) (hg : meterlaw24_Great.f (2 * min l.length 201 + 2) l = some true) :
    Calls Try.prog 6 #[.int .i64 m, .slice A l.length c] w fun e w' => e = .returned (.bool true) ∧ Below w.heap.size w w' := by
  have HR := Aside0.mk hr
  have HC := Aside0.mk hc
  have HG := Aside0.mk hg
  clear hr hc hg
  go_enter Try.func6, Try.ntmps6
  go_wp2_with (first
    | (go_at_call 8; ((with_reducible refine (awake_calls w).mono ?_)); rintro e w1 ⟨rfl, hb⟩; have H1 := Aside0.mk ((Own.nil w).below hb); clear hb)
    | (go_at_call 9; ((with_reducible refine (meterlaw24_Great.calls _ A c l true w1 (Kd.C_below HR.out H1.out.bel) HC.out HG.out).mono ?_)); rintro e w2 ⟨rfl, hb⟩; have H2 := Aside0.mk (H1.out.drawn hb); clear hb))
  go_ret
  exact ⟨rfl, H2.out.bel⟩
set_option maxHeartbeats 8000000 in
set_option maxRecDepth 100000 in
theorem TracePlays_bad (m : Int) (A : Option Addr) (c : Nat) (l : List S33) (w : World) (hr : Kd.C k33 w A l.length l) (hc : l.length ≤ c) (hg : meterlaw24_Great.f (2 * min l.length 201 + 2) l = some false) (hm : ¬ (1 ≤ m ∧ m ≤ 8)) :
    Calls Try.prog 6 #[.int .i64 m, .slice A l.length c] w fun e w' => e = .returned (.bool true) ∧ Below w.heap.size w w' := by
  have HR := Aside0.mk hr
  have HC := Aside0.mk hc
  have HG := Aside0.mk hg
  clear hr hc hg
  have HM := Aside0.mk hm
  go_enter Try.func6, Try.ntmps6
  by_cases h1 : m < 1
  · have d1 : decide (m < 1) = true := decide_eq_true h1
    clear h1 hm
    go_wp2_with (first
      | (go_at_call 8; ((with_reducible refine (awake_calls w).mono ?_)); rintro e w1 ⟨rfl, hb⟩; have H1 := Aside0.mk ((Own.nil w).below hb); clear hb)
      | (go_at_call 9; ((with_reducible refine (meterlaw24_Great.calls _ A c l false w1 (Kd.C_below HR.out H1.out.bel) HC.out HG.out).mono ?_)); rintro e w2 ⟨rfl, hb⟩; have H2 := Aside0.mk (H1.out.drawn hb); clear hb)
      | (go_at_call 10; ((with_reducible refine (TrNew_bad m _ HM.out).mono ?_)); rintro e w3 ⟨rfl, rfl⟩)
      | (go_at_call 13; ((with_reducible refine (TrTell_nil 0 0 0 (.slice none 0 0) _).mono ?_)); rintro e w4 ⟨rfl, rfl⟩)
      | (go_at_call 14; ((with_reducible refine (TrApply_nil 0 zI 1 _).mono ?_)); rintro e w5 ⟨rfl, hb⟩; have H5 := Aside0.mk (H2.out.below hb); clear hb)
      | (go_at_call 11; ((with_reducible refine (TrOuts_nil 0 _).mono ?_)); rintro e w6 ⟨rfl, rfl⟩)
      | (go_at_call 12; ((with_reducible refine (TrItems_nil 0 _).mono ?_)); rintro e w7 ⟨rfl, rfl⟩)
      | (go_at_call 16; ((with_reducible refine (TrShards_nil _).mono ?_)); rintro e w8 ⟨rfl, rfl⟩)
      | (go_at_call 13; ((with_reducible refine (TrTell_no (g := w5.heap.size) (fun part w' e => by subst e; exact find_none _ part _ ((blk_cell (H5.out.alloc (.cells #[.slice none 0 0] 55)).at0 0).trans rfl)) 0 0 0 (.slice none 0 0)).mono ?_)); rintro e w9 ⟨rfl, rfl⟩; have H6 := Aside0.mk (H5.out.alloc (.cells #[.slice none 0 0] 55))))
    go_ret
    exact ⟨rfl, H6.out.bel⟩
  · have d1 : decide (m < 1) = false := decide_eq_false h1
    have d2 : decide (m > 8) = true := decide_eq_true (by omega)
    have d3 : decide (8 < m) = true := decide_eq_true (by omega)
    clear h1 hm
    go_wp2_with (first
      | (go_at_call 8; ((with_reducible refine (awake_calls w).mono ?_)); rintro e w1 ⟨rfl, hb⟩; have H1 := Aside0.mk ((Own.nil w).below hb); clear hb)
      | (go_at_call 9; ((with_reducible refine (meterlaw24_Great.calls _ A c l false w1 (Kd.C_below HR.out H1.out.bel) HC.out HG.out).mono ?_)); rintro e w2 ⟨rfl, hb⟩; have H2 := Aside0.mk (H1.out.drawn hb); clear hb)
      | (go_at_call 10; ((with_reducible refine (TrNew_bad m _ HM.out).mono ?_)); rintro e w3 ⟨rfl, rfl⟩)
      | (go_at_call 13; ((with_reducible refine (TrTell_nil 0 0 0 (.slice none 0 0) _).mono ?_)); rintro e w4 ⟨rfl, rfl⟩)
      | (go_at_call 14; ((with_reducible refine (TrApply_nil 0 zI 1 _).mono ?_)); rintro e w5 ⟨rfl, hb⟩; have H5 := Aside0.mk (H2.out.below hb); clear hb)
      | (go_at_call 11; ((with_reducible refine (TrOuts_nil 0 _).mono ?_)); rintro e w6 ⟨rfl, rfl⟩)
      | (go_at_call 12; ((with_reducible refine (TrItems_nil 0 _).mono ?_)); rintro e w7 ⟨rfl, rfl⟩)
      | (go_at_call 16; ((with_reducible refine (TrShards_nil _).mono ?_)); rintro e w8 ⟨rfl, rfl⟩)
      | (go_at_call 13; ((with_reducible refine (TrTell_no (g := w5.heap.size) (fun part w' e => by subst e; exact find_none _ part _ ((blk_cell (H5.out.alloc (.cells #[.slice none 0 0] 55)).at0 0).trans rfl)) 0 0 0 (.slice none 0 0)).mono ?_)); rintro e w9 ⟨rfl, rfl⟩; have H6 := Aside0.mk (H5.out.alloc (.cells #[.slice none 0 0] 55))))
    go_ret
    exact ⟨rfl, H6.out.bel⟩
set_option maxHeartbeats 8000000 in
set_option maxRecDepth 100000 in
theorem TracePlays_small (n : Nat) (A : Option Addr) (c : Nat) (l : List S33) (w : World) (hr : Kd.C k33 w A l.length l) (hc : l.length ≤ c) (hg : meterlaw24_Great.f (2 * min l.length 201 + 2) l = some false) (h5 : l.length ≤ 200 ∧ ∀ x ∈ l, x.f4.length ≤ 30) (hn : 1 ≤ n ∧ n ≤ 8) :
    Calls Try.prog 6 #[.int .i64 (n : Int), .slice A l.length c] w fun e w' => e = .returned (.bool true) ∧ Below w.heap.size w w' := by
  have HR := Aside0.mk hr
  have HC := Aside0.mk hc
  have HG := Aside0.mk hg
  clear hr hc hg
  go_enter Try.func6, Try.ntmps6
  have hM : l.length ≤ 9223372036854775807 := by omega
  have HN1 := Aside0.mk hn
  have HB := Aside0.mk (sAt_len n)
  have H5 := Aside0.mk h5
  have LN := Aside0.mk (show (List.replicate n ([], []) : List (List TO × List TA)).length = n from List.length_replicate)
  have d1 : decide ((n : Int) < 1) = false := decide_eq_false (by omega)
  have d2 : decide ((n : Int) > 8) = false := decide_eq_false (by omega)
  have d3 : decide (8 < (n : Int)) = false := decide_eq_false (by omega)
  have d4 : decide (n < 1) = false := decide_eq_false (by omega)
  have d5 : decide (8 < n) = false := decide_eq_false (by omega)
  have hn8 : n ≤ 8 := hn.2
  have hn1 : 1 ≤ n := hn.1
  clear hn
  go_wp2_with (first
    | (go_at_call 8; ((with_reducible refine (awake_calls w).mono ?_)); rintro e w1 ⟨rfl, hb⟩; have H1 := Aside0.mk ((Own.nil w).below hb); clear hb)
    | (go_at_call 9; ((with_reducible refine (meterlaw24_Great.calls _ A c l false w1 (Kd.C_below HR.out H1.out.bel) HC.out HG.out).mono ?_)); rintro e w2 ⟨rfl, hb⟩; have H2 := Aside0.mk (H1.out.drawn hb); clear hb)
    | (go_at_call 10; ((with_reducible refine (TrNewI H2.out _ n rfl HN1.out.1 HN1.out.2).mono ?_)); rintro e w3 ⟨ga, rfl, h⟩; have H3 := Aside0.mk h; clear h)
    | (go_at_call 16; ((with_reducible refine (TrShardsE H3.out n LN.out).mono ?_)); rintro e w4 ⟨rfl, rfl⟩))
  clear d1 d2 d3 d4 d5
  go_loopw [7, 8] (fun v7 v8 wr => ∃ k : Nat, k ≤ l.length ∧ v8 = .int .i64 k ∧ Aside0 (Own w wr [Tr ga ((l.take k).foldl doA (List.replicate n ([], []) : List (List TO × List TA))), Row k58 58 v7 ((l.take k).foldl (addR n) [])])) (fun _ v8 _ => l.length - (RowKit.intOf v8).toNat)
  case atStart => exact ⟨0, Nat.zero_le _, rfl, ⟨(H3.out.row_nil k58 58).r1⟩⟩
  case round =>
    obtain ⟨k, hk, rfl, HO⟩ := hrel
    by_cases hlt : k < l.length
    · have hgk := List.getElem?_eq_getElem hlt
      generalize l[k] = x at hgk
      have HX30 := Aside0.mk (H5.out.2 x (List.mem_of_getElem? hgk))
      have S1 := Lib.hid (snoc_fold' doA (List.replicate n ([], []) : List (List TO × List TA)) l k x hgk)
      have S2 := Lib.hid (snoc_fold' (addR n) [] l k x hgk)
      have HLS := Aside0.mk (show ((l.take k).foldl doA (List.replicate n ([], []) : List (List TO × List TA))).length = n by rw [fold_len]; exact LN.out)
      have B0 := Aside0.mk (fun q => HB.out (l.take k) (fun y hy => H5.out.2 y (List.mem_of_mem_take hy)) (by rw [List.length_take]; omega) q)
      have hBN : ((l.take k).foldl (addR n) []).length ≤ 6000 := by have := foldR_len n (l.take k) [] fun y hy => H5.out.2 y (List.mem_of_mem_take hy); have h2 := H5.out.1; rw [List.length_take] at this; simp only [List.length_nil] at this; omega
      have BN := Aside0.mk hBN
      have ST0 := Aside0.mk (stood_fold n (l.take k) (List.replicate n ([], []) : List (List TO × List TA)) [] LN.out (stood_new n))
      have HX := Aside0.mk HO.out
      clear hBN
      generalize (l.take k).foldl doA (List.replicate n ([], []) : List (List TO × List TA)) = sa at S1 B0 HX HLS ST0
      generalize (l.take k).foldl (addR n) [] = sr at S2 BN HX ST0
      obtain ⟨y0, y1, y2, y3, yl, ⟨y5, y6, y7, y8, y9, y10, y11, y12⟩, y13⟩ := x
      obtain ⟨ad, YA, Yc, rfl, c0, c1, c2, c3, c4, c5, c6, c7, c8, c9, c10, c11, c12, c13, hC⟩ := act_at HR.out HX.out.bel k _ hgk
      have HY := Aside0.mk hC
      dsimp only at c0 c1 c2 c3 c4 c5 c6 c7 c8 c9 c10 c11 c12 c13 HX30 HY
      have B1 := Aside0.mk (show (sAt sa y1).1.length + yl.length ≤ 1000000000 ∧ (sAt sa y1).2.length ≤ 1000000000 by have := B0.out y1; have := HX30.out; omega)
      have bl : yl.length ≤ 30 := HX30.out
      clear HO hgk hC
      obtain ⟨A1, a1, e7, _, _⟩ := HX.out.r1.row_reads
      subst e7
      obtain ⟨bv, hbv⟩ : ∃ b, inB n y1 = b := ⟨_, rfl⟩
      have HIN := Aside0.mk hbv
      obtain ⟨er, her⟩ : ∃ r, errR sa.length y1 = r := ⟨_, rfl⟩
      obtain ⟨ss', hss⟩ : ∃ r, doA sa (⟨y0, y1, y2, y3, yl, ⟨y5, y6, y7, y8, y9, y10, y11, y12⟩, y13⟩ : S33) = r := ⟨_, rfl⟩
      obtain ⟨rows', hrw⟩ : ∃ r, addR n sr (⟨y0, y1, y2, y3, yl, ⟨y5, y6, y7, y8, y9, y10, y11, y12⟩, y13⟩ : S33) = r := ⟨_, rfl⟩
      obtain ⟨m2, hm2⟩ : ∃ r, rows'.length = r := ⟨_, rfl⟩
      have ER := Aside0.mk her
      have ERV := Aside0.mk (show er = if bv = true then 0 else 21 by rw [← her, HLS.out]; unfold errR; rw [hbv])
      have PS := Aside0.mk hss
      have PQ := Aside0.mk hrw
      have M2 := Aside0.mk hm2
      rw [hss] at S1
      rw [hrw] at S2
      have ST := Aside0.mk (show Stood ss' rows' by rw [← hss, ← hrw, ← HLS.out]; exact stood_do sa sr ST0.out _)
      have RLEN := M2
      have RBND := Aside0.mk (show m2 ≤ 1000000000 by rw [← hm2, ← hrw]; have := addR_len n sr (⟨y0, y1, y2, y3, yl, ⟨y5, y6, y7, y8, y9, y10, y11, y12⟩, y13⟩ : S33) bl; have := BN.out; omega)
      clear hbv her hss hrw hm2
      go_upto_region 15 with (first
        | ((with_reducible refine gate_dst (N := 9) rfl ?_); refine box_event ?hg (N := 9) ?hd (cs := #[.int .i64 0, .int .i64 0, .int .i64 0, .int .i64 0, .slice none 0 0, .int .i64 0, .int .i64 0, .int .i64 0, .int .u8 0, .string ⟨#[]⟩, .int .i64 0, .int .i64 0, .int .i64 0, .int .i64 0]) (t := 33) ?hr ?_; (case hd => rfl); (case hg => rfl); (case hr => first | (go_simp; done) | (go_simp; rfl)); intro gb hg wb hbox hbb; have HX2 := Aside0.mk (HX.out.box hg hbox hbb); have hfr := blk_frozen hbox; have z0 := (blk_cell HX2.out.at0 0).trans rfl; have z1 := (blk_cell HX2.out.at0 1).trans rfl; have z2 := (blk_cell HX2.out.at0 2).trans rfl; have z3 := (blk_cell HX2.out.at0 3).trans rfl; have z4 := (blk_cell HX2.out.at0 4).trans rfl; have z5 := (blk_cell HX2.out.at0 5).trans rfl; have z6 := (blk_cell HX2.out.at0 6).trans rfl; have z7 := (blk_cell HX2.out.at0 7).trans rfl; have z8 := (blk_cell HX2.out.at0 8).trans rfl; have z9 := (blk_cell HX2.out.at0 9).trans rfl; have z10 := (blk_cell HX2.out.at0 10).trans rfl; have z11 := (blk_cell HX2.out.at0 11).trans rfl; have z12 := (blk_cell HX2.out.at0 12).trans rfl; have z13 := (blk_cell HX2.out.at0 13).trans rfl; clear hg hbox hbb)
        | ((with_reducible refine gate_store (t := 33) (p := 9) rfl ?_); refine store_event (t := 33) (p := 9) (v := ?vo) (w1 := ((((((((((((((wb.setCell ⟨gb, 0, none⟩ (.int .i64 y0)).setCell ⟨gb, 1, none⟩ (.int .i64 y1)).setCell ⟨gb, 2, none⟩ (.int .i64 y2)).setCell ⟨gb, 3, none⟩ (.int .i64 y3)).setCell ⟨gb, 4, none⟩ (.slice YA yl.length Yc)).setCell ⟨gb, 5, none⟩ (.int .i64 y5)).setCell ⟨gb, 6, none⟩ (.int .i64 y6)).setCell ⟨gb, 7, none⟩ (.int .i64 y7)).setCell ⟨gb, 8, none⟩ (.int .u8 y8)).setCell ⟨gb, 9, none⟩ (.string y9)).setCell ⟨gb, 10, none⟩ (.int .i64 y10)).setCell ⟨gb, 11, none⟩ (.int .i64 y11)).setCell ⟨gb, 12, none⟩ (.int .i64 y12)).setCell ⟨gb, 13, none⟩ (.int .i64 y13))) ?hg ?ho ?hn ?hr ?_; (case ho => rfl); (case hg => rfl); (case hn => rfl); (case hr => first | (go_simp; done) | (go_simp; rfl)); intro wq hw; have HX3 := Aside0.mk (show Own w wq (Blk gb (.cells #[.int .i64 y0, .int .i64 y1, .int .i64 y2, .int .i64 y3, .slice YA yl.length Yc, .int .i64 y5, .int .i64 y6, .int .i64 y7, .int .u8 y8, .string y9, .int .i64 y10, .int .i64 y11, .int .i64 y12, .int .i64 y13] 33 (0, 0)) :: _) by rw [hw]; exact act_store (.int .i64 y0) (.int .i64 y1) (.int .i64 y2) (.int .i64 y3) (.slice YA yl.length Yc) (.int .i64 y5) (.int .i64 y6) (.int .i64 y7) (.int .u8 y8) (.string y9) (.int .i64 y10) (.int .i64 y11) (.int .i64 y12) (.int .i64 y13) HX2.out); clear hw hfr z0 z1 z2 z3 z4 z5 z6 z7 z8 z9 z10 z11 z12 z13; have z0 := (blk_cell HX3.out.at0 0).trans rfl; have z1 := (blk_cell HX3.out.at0 1).trans rfl; have z2 := (blk_cell HX3.out.at0 2).trans rfl; have z3 := (blk_cell HX3.out.at0 3).trans rfl; have z4 := (blk_cell HX3.out.at0 4).trans rfl; have z5 := (blk_cell HX3.out.at0 5).trans rfl; have z6 := (blk_cell HX3.out.at0 6).trans rfl; have z7 := (blk_cell HX3.out.at0 7).trans rfl; have z8 := (blk_cell HX3.out.at0 8).trans rfl; have z9 := (blk_cell HX3.out.at0 9).trans rfl; have z10 := (blk_cell HX3.out.at0 10).trans rfl; have z11 := (blk_cell HX3.out.at0 11).trans rfl; have z12 := (blk_cell HX3.out.at0 12).trans rfl; have z13 := (blk_cell HX3.out.at0 13).trans rfl))
      simp only [Act.put, List.setIfInBounds_toArray, List.set_cons_zero, List.set_cons_succ]
      go_cut [10] (fun v10 wx => v10 = .bool bv ∧ wq = wx)
      case first =>
        by_cases hng : y1 < 0
        · have dge : decide (y1 ≥ 0) = false := decide_eq_false (by omega)
          have dge2 : decide (0 ≤ y1) = false := decide_eq_false (by omega)
          have HB0 := Aside0.mk (show bv = false by rw [← HIN.out]; exact decide_eq_false (by omega))
          clear hng
          go_wp2
          go_meet
          exact ⟨by rw [HB0.out], rfl⟩
        · have dge : decide (y1 ≥ 0) = true := decide_eq_true (by omega)
          have dge2 : decide (0 ≤ y1) = true := decide_eq_true (by omega)
          by_cases hlt3 : y1 < (n : Int)
          · have dlt : decide (y1 < (n : Int)) = true := decide_eq_true hlt3
            have HB0 := Aside0.mk (show bv = true by rw [← HIN.out]; exact decide_eq_true (by omega))
            clear hng hlt3
            go_wp2
            go_meet
            exact ⟨by rw [HB0.out], rfl⟩
          · have dlt : decide (y1 < (n : Int)) = false := decide_eq_false hlt3
            have HB0 := Aside0.mk (show bv = false by rw [← HIN.out]; exact decide_eq_false (by omega))
            clear hng hlt3
            go_wp2
            go_meet
            exact ⟨by rw [HB0.out], rfl⟩
      case rest =>
        obtain ⟨rfl, rfl⟩ := hcut
        go_upto_if 99 with fail
        go_cut [11] (fun v11 wx => v11 = .int .i64 er ∧ wq = wx)
        case first =>
          cases bv with
          | true =>
            go_wp2
            go_meet
            exact ⟨by rw [ERV.out]; rfl, rfl⟩
          | false =>
            go_wp2
            go_meet
            exact ⟨by rw [ERV.out]; rfl, rfl⟩
        case rest =>
          obtain ⟨rfl, rfl⟩ := hcut
          have hee : (er != er) = false := by simp
          go_upto_block 2 with fail
          go_cut [7] (fun v7 wx => ∃ A2 c2, v7 = .slice A2 m2 c2 ∧ Aside0 (Own w wx [Tr ga ss', Row k58 58 (.slice A2 m2 c2) rows', Blk gb (.cells #[.int .i64 y0, .int .i64 y1, .int .i64 y2, .int .i64 y3, .slice YA yl.length Yc, .int .i64 y5, .int .i64 y6, .int .i64 y7, .int .u8 y8, .string y9, .int .i64 y10, .int .i64 y11, .int .i64 y12, .int .i64 y13] 33 (0, 0))]))
          case first =>
            by_cases h0 : y0 = 0
            · subst h0
              have PT := Aside0.mk (show tellR sa y1 y2 y3 yl = ss' by rw [← PS.out]; unfold doA; rw [if_pos rfl])
              have hX0 : addR n sr (⟨0, y1, y2, y3, yl, ⟨y5, y6, y7, y8, y9, y10, y11, y12⟩, y13⟩ : S33) = if inB n y1 = true then sr ++ yl.map (mkW (⟨0, y1, y2, y3, yl, ⟨y5, y6, y7, y8, y9, y10, y11, y12⟩, y13⟩ : S33)) else sr := by unfold addR; split <;> rfl
              have HX0 := Aside0.mk (show rows' = if bv = true then sr ++ yl.map (mkW (⟨0, y1, y2, y3, yl, ⟨y5, y6, y7, y8, y9, y10, y11, y12⟩, y13⟩ : S33)) else sr by rw [← PQ.out, hX0, HIN.out])
              clear hX0
              go_upto_block 3 with (first
                | ((with_reducible refine gate_dst (N := 104) rfl ?_); refine Kd.R_lit k44 (w0 := wq) wq.heap.size 44 ?hg (N := 104) ?hd (xs := ([] : List S44)) (inner := []) (ok := fun _ => True) (okp := fun _ => True) ?hr ?hp (fun _ hk => hk) trivial (Below.refl wq.heap.size wq) (Nat.le_refl _) (by simp) ?_; (case hd => rfl); (case hg => rfl); (case hr => first | (go_simp; done) | (go_simp; rfl)); (case hp => exact (Reps.none _ _)); intro v1 w5 ho hb hg_ hnew_; clear hg_ hnew_; have HO5 := Aside0.mk ho; have HB5 := Aside0.mk hb; have H5b := Aside0.mk (HX3.out.below hb); clear ho hb z0 z1 z2 z3 z4 z5 z6 z7 z8 z9 z10 z11 z12 z13; have z0 := (blk_cell H5b.out.at0 0).trans rfl; have z1 := (blk_cell H5b.out.at0 1).trans rfl; have z2 := (blk_cell H5b.out.at0 2).trans rfl; have z3 := (blk_cell H5b.out.at0 3).trans rfl; have z4 := (blk_cell H5b.out.at0 4).trans rfl; have z5 := (blk_cell H5b.out.at0 5).trans rfl; have z6 := (blk_cell H5b.out.at0 6).trans rfl; have z7 := (blk_cell H5b.out.at0 7).trans rfl; have z8 := (blk_cell H5b.out.at0 8).trans rfl; have z9 := (blk_cell H5b.out.at0 9).trans rfl; have z10 := (blk_cell H5b.out.at0 10).trans rfl; have z11 := (blk_cell H5b.out.at0 11).trans rfl; have z12 := (blk_cell H5b.out.at0 12).trans rfl; have z13 := (blk_cell H5b.out.at0 13).trans rfl)
                | ((with_reducible refine gate_dst (N := 107) rfl ?_); refine Kd.R_append_rows k44 (w0 := wq) wq.heap.size rfl (.tmp 104) (.tmp 106) 29 44 _ 88 rfl Try.underlying29 infoO rfl (by decide) (by omega) v1 [] yl _ _ _ (fun _ => True) (fun _ => False) rfl rfl HO5.out (Kd.C_below HY.out H5b.out.bel) (fun _ _ h => h) (fun _ h => h.elim) (fun _ _ => trivial) HB5.out HB5.out.size (by have := bl; simp only [List.length_nil]; omega) ?_; intro v2 w6 ho2 hb2 _ _; rw [List.nil_append] at ho2; obtain ⟨A5, c5, e5⟩ := Kd.R_slice ho2; subst e5; have H6 := Aside0.mk (HX3.out.row_new hb2 ho2); clear ho2 hb2 z0 z1 z2 z3 z4 z5 z6 z7 z8 z9 z10 z11 z12 z13; have z0 := (blk_cell H6.out.at1 0).trans rfl; have z1 := (blk_cell H6.out.at1 1).trans rfl; have z2 := (blk_cell H6.out.at1 2).trans rfl; have z3 := (blk_cell H6.out.at1 3).trans rfl; have z4 := (blk_cell H6.out.at1 4).trans rfl; have z5 := (blk_cell H6.out.at1 5).trans rfl; have z6 := (blk_cell H6.out.at1 6).trans rfl; have z7 := (blk_cell H6.out.at1 7).trans rfl; have z8 := (blk_cell H6.out.at1 8).trans rfl; have z9 := (blk_cell H6.out.at1 9).trans rfl; have z10 := (blk_cell H6.out.at1 10).trans rfl; have z11 := (blk_cell H6.out.at1 11).trans rfl; have z12 := (blk_cell H6.out.at1 12).trans rfl; have z13 := (blk_cell H6.out.at1 13).trans rfl)
                | (go_at_call 13; ((with_reducible refine (TrTellE (H6.out.pick [2, 0, 1, 3]) y1 y2 y3 A5 yl.length c5 yl rfl B1.out.1 (fun v h => row_C h) er ss' ER.out PT.out).mono ?_)); rintro e w7 ⟨rfl, h⟩; have H7 := Aside0.mk (h.pick [3, 1, 2, 0]); clear h))
              go_cut [7] (fun v7 wx => ∃ A2 c2, v7 = .slice A2 m2 c2 ∧ Aside0 (Own w wx (Row k58 58 (.slice A2 m2 c2) rows' :: [Row k44 44 (.slice A5 yl.length c5) yl, Blk gb (.cells #[.int .i64 0, .int .i64 y1, .int .i64 y2, .int .i64 y3, .slice YA yl.length Yc, .int .i64 y5, .int .i64 y6, .int .i64 y7, .int .u8 y8, .string y9, .int .i64 y10, .int .i64 y11, .int .i64 y12, .int .i64 y13] 33 (0, 0)), Tr ga ss'])))
              case first =>
                go_wp2
                go_loopw [7, 13] (fun v7 v13 wr => ∃ i : Nat, i ≤ yl.length ∧ (bv = false → i = 0) ∧ v13 = .int .i64 i ∧ Aside0 (Own w wr (Row k58 58 v7 (sr ++ (yl.take i).map (mkW (⟨0, y1, y2, y3, yl, ⟨y5, y6, y7, y8, y9, y10, y11, y12⟩, y13⟩ : S33))) :: [Row k44 44 (.slice A5 yl.length c5) yl, Blk gb (.cells #[.int .i64 0, .int .i64 y1, .int .i64 y2, .int .i64 y3, .slice YA yl.length Yc, .int .i64 y5, .int .i64 y6, .int .i64 y7, .int .u8 y8, .string y9, .int .i64 y10, .int .i64 y11, .int .i64 y12, .int .i64 y13] 33 (0, 0)), Tr ga ss']))) (fun _ v13 _ => yl.length - (RowKit.intOf v13).toNat)
                case atStart => exact ⟨0, Nat.zero_le _, fun _ => rfl, rfl, ⟨by rw [List.take_zero, List.map_nil, List.append_nil]; exact H7.out⟩⟩
                case round =>
                  obtain ⟨i, hi, hb0, rfl, HJ⟩ := hrel
                  obtain ⟨A7, c7, e7, _, _⟩ := HJ.out.row_reads
                  subst e7
                  by_cases hcd : i < yl.length ∧ bv = true
                  · obtain ⟨hlt2, hbt⟩ := hcd
                    subst hbt
                    have hln : (sr ++ (yl.take i).map (mkW (⟨0, y1, y2, y3, yl, ⟨y5, y6, y7, y8, y9, y10, y11, y12⟩, y13⟩ : S33))).length = sr.length + i := by rw [List.length_append, List.length_map, List.length_take]; omega
                    rw [hln] at HJ ⊢
                    clear hln
                    have hgi := List.getElem?_eq_getElem hlt2
                    generalize yl[i] = y at hgi
                    obtain ⟨x0, x1, ⟨x2, x3, x4, x5, ⟨x6, x7, x8, x9⟩⟩⟩ := y
                    have HGI := Aside0.mk hgi
                    obtain ⟨b5, e5⟩ := row_formA (HJ.out.pick [1]) (by omega)
                    subst e5
                    have hfb := add_at b5
                    have dlt2 : decide (i < yl.length) = true := decide_eq_true hlt2
                    have HD := Aside0.mk HJ.out.drew
                    clear hgi hb0 z0 z1 z2 z3 z4 z5 z6 z7 z8 z9 z10 z11 z12 z13
                    go_wp2
                    refine start_ (n := 15) (S := fun w' => ∃ v r, Own w w' [Row k58 58 v r, Row k44 44 (.slice (some ⟨b5, 0, none⟩) yl.length c5) yl, Blk gb (.cells #[.int .i64 0, .int .i64 y1, .int .i64 y2, .int .i64 y3, .slice YA yl.length Yc, .int .i64 y5, .int .i64 y6, .int .i64 y7, .int .u8 y8, .string y9, .int .i64 y10, .int .i64 y11, .int .i64 y12, .int .i64 y13] 33 (0, 0)), Tr ga ss']) (ds := []) #[false, false, false, false, false, false, false, false, false, false, false, false, false, false, false] (by kernel_rfl) rfl rfl ⟨_, _, HD.out⟩ (fun hHeld => ?_); refine with_tabW tp27_tab tp27_bits (fun HT_ HW_ => ?_)
                    generalize wr.drew = wd at HD hHeld ⊢
                    refine pure_ (i := 0) (N := some 128) (v := ?_) (a' := ?_) #[true, false, false, false, false, false, false, false, false, false, false, false, false, false, false] rfl rfl (any_of HT_.out (by kernel_rfl)) (fun _ _ _ h => h) (Or.inl ⟨by rfl, ?_⟩) ?_ ?_
                    rotate_left
                    · intro w'
                      go_simp
                      with_reducible rfl
                    rotate_left
                    · simp only [Act.put, List.setIfInBounds_toArray, List.set_cons_zero, List.set_cons_succ, i64_w, i32_w]
                      rfl
                    refine pure_ (i := 1) (N := some 129) (v := ?_) (a' := ?_) #[true, true, false, false, false, false, false, false, false, false, false, false, false, false, false] rfl rfl (any_of HT_.out (by kernel_rfl)) (fun _ _ _ h => h) (Or.inl ⟨by rfl, ?_⟩) ?_ ?_
                    rotate_left
                    · intro w'
                      go_simp
                      with_reducible rfl
                    rotate_left
                    · simp only [Act.put, List.setIfInBounds_toArray, List.set_cons_zero, List.set_cons_succ, i64_w, i32_w]
                      rfl
                    refine take_ (i := 2) (N := some 130) (v := ?_) (a' := ?_) #[true, true, true, false, false, false, false, false, false, false, false, false, false, false, false] rfl rfl (take_ofW HT_.out HW_.out (by kernel_rfl)) (fun _ _ _ h => h) (Or.inl ⟨by rfl, ?_⟩) hHeld ?_ ?_
                    rotate_left
                    · rintro w' s0
                      obtain ⟨v_, r_, s0⟩ := s0; have p1 := (blk_cell (s0.pick [2]).at0 1).trans rfl
                      go_simp
                      with_reducible rfl
                    rotate_left
                    · simp only [Act.put, List.setIfInBounds_toArray, List.set_cons_zero, List.set_cons_succ, i64_w, i32_w]
                      rfl
                    refine pure_ (i := 3) (N := some 131) (v := ?_) (a' := ?_) #[true, true, true, true, false, false, false, false, false, false, false, false, false, false, false] rfl rfl (any_of HT_.out (by kernel_rfl)) (fun _ _ _ h => h) (Or.inl ⟨by rfl, ?_⟩) ?_ ?_
                    rotate_left
                    · intro w'
                      go_simp
                      with_reducible rfl
                    rotate_left
                    · simp only [Act.put, List.setIfInBounds_toArray, List.set_cons_zero, List.set_cons_succ, i64_w, i32_w]
                      rfl
                    refine pure_ (i := 4) (N := some 132) (v := ?_) (a' := ?_) #[true, true, true, true, true, false, false, false, false, false, false, false, false, false, false] rfl rfl (any_of HT_.out (by kernel_rfl)) (fun _ _ _ h => h) (Or.inl ⟨by rfl, ?_⟩) ?_ ?_
                    rotate_left
                    · intro w'
                      go_simp
                      with_reducible rfl
                    rotate_left
                    · simp only [Act.put, List.setIfInBounds_toArray, List.set_cons_zero, List.set_cons_succ, i64_w, i32_w]
                      rfl
                    refine pure_ (i := 5) (N := some 133) (v := ?_) (a' := ?_) #[true, true, true, true, true, true, false, false, false, false, false, false, false, false, false] rfl rfl (any_of HT_.out (by kernel_rfl)) (fun _ _ _ h => h) (Or.inl ⟨by rfl, ?_⟩) ?_ ?_
                    rotate_left
                    · intro w'
                      go_simp
                      with_reducible rfl
                    rotate_left
                    · simp only [Act.put, List.setIfInBounds_toArray, List.set_cons_zero, List.set_cons_succ, i64_w, i32_w]
                      rfl
                    refine take_ (i := 6) (N := some 134) (v := ?_) (a' := ?_) #[true, true, true, true, true, true, true, false, false, false, false, false, false, false, false] rfl rfl (take_ofW HT_.out HW_.out (by kernel_rfl)) (fun _ _ _ h => h) (Or.inl ⟨by rfl, ?_⟩) hHeld ?_ ?_
                    rotate_left
                    · rintro w' s0
                      obtain ⟨v_, r_, s0⟩ := s0; have p0 := out_cell (s0.pick [1]) i _ HGI.out 0 _ rfl; have p1 := out_cell (s0.pick [1]) i _ HGI.out 1 _ rfl; have p2 := out_cell (s0.pick [1]) i _ HGI.out 2 _ rfl; have p3 := out_cell (s0.pick [1]) i _ HGI.out 3 _ rfl; have p4 := out_cell (s0.pick [1]) i _ HGI.out 4 _ rfl; have p5 := out_cell (s0.pick [1]) i _ HGI.out 5 _ rfl; have p6 := out_cell (s0.pick [1]) i _ HGI.out 6 _ rfl; have p7 := out_cell (s0.pick [1]) i _ HGI.out 7 _ rfl; have p8 := out_cell (s0.pick [1]) i _ HGI.out 8 _ rfl; have p9 := out_cell (s0.pick [1]) i _ HGI.out 9 _ rfl; dsimp only at p0 p1 p2 p3 p4 p5 p6 p7 p8 p9; rw [Nat.add_zero] at p0
                      go_simp
                      with_reducible rfl
                    rotate_left
                    · simp only [Act.put, List.setIfInBounds_toArray, List.set_cons_zero, List.set_cons_succ, i64_w, i32_w]
                      rfl
                    refine pure_ (i := 7) (N := some 135) (v := ?_) (a' := ?_) #[true, true, true, true, true, true, true, true, false, false, false, false, false, false, false] rfl rfl (any_of HT_.out (by kernel_rfl)) (fun _ _ _ h => h) (Or.inl ⟨by rfl, ?_⟩) ?_ ?_
                    rotate_left
                    · intro w'
                      go_simp
                      with_reducible rfl
                    rotate_left
                    · simp only [Act.put, List.setIfInBounds_toArray, List.set_cons_zero, List.set_cons_succ, i64_w, i32_w]
                      rfl
                    refine take_ (i := 8) (N := some 136) (v := ?_) (a' := ?_) #[true, true, true, true, true, true, true, true, true, false, false, false, false, false, false] rfl rfl (take_ofW HT_.out HW_.out (by kernel_rfl)) (fun _ _ _ h => h) (Or.inl ⟨by rfl, ?_⟩) hHeld ?_ ?_
                    rotate_left
                    · rintro w' s0
                      obtain ⟨v_, r_, s0⟩ := s0; have p2 := (blk_cell (s0.pick [2]).at0 2).trans rfl
                      go_simp
                      with_reducible rfl
                    rotate_left
                    · simp only [Act.put, List.setIfInBounds_toArray, List.set_cons_zero, List.set_cons_succ, i64_w, i32_w]
                      rfl
                    refine pure_ (i := 9) (N := some 137) (v := ?_) (a' := ?_) #[true, true, true, true, true, true, true, true, true, true, false, false, false, false, false] rfl rfl (any_of HT_.out (by kernel_rfl)) (fun _ _ _ h => h) (Or.inl ⟨by rfl, ?_⟩) ?_ ?_
                    rotate_left
                    · intro w'
                      go_simp
                      with_reducible rfl
                    rotate_left
                    · simp only [Act.put, List.setIfInBounds_toArray, List.set_cons_zero, List.set_cons_succ, i64_w, i32_w]
                      rfl
                    refine take_ (i := 10) (N := some 138) (v := ?_) (a' := ?_) #[true, true, true, true, true, true, true, true, true, true, true, false, false, false, false] rfl rfl (take_ofW HT_.out HW_.out (by kernel_rfl)) (fun _ _ _ h => h) (Or.inl ⟨by rfl, ?_⟩) hHeld ?_ ?_
                    rotate_left
                    · rintro w' s0
                      obtain ⟨v_, r_, s0⟩ := s0; have p3 := (blk_cell (s0.pick [2]).at0 3).trans rfl
                      go_simp
                      with_reducible rfl
                    rotate_left
                    · simp only [Act.put, List.setIfInBounds_toArray, List.set_cons_zero, List.set_cons_succ, i64_w, i32_w]
                      rfl
                    refine pure_ (i := 11) (N := some 139) (v := .agg (refV (mkW (⟨0, y1, y2, y3, yl, ⟨y5, y6, y7, y8, y9, y10, y11, y12⟩, y13⟩ : S33) ⟨x0, x1, ⟨x2, x3, x4, x5, ⟨x6, x7, x8, x9⟩⟩⟩)).toArray) (a' := ?_) #[true, true, true, true, true, true, true, true, true, true, true, true, false, false, false] rfl rfl (any_of HT_.out (by kernel_rfl)) (fun _ _ _ h => h) (Or.inl ⟨by rfl, ?_⟩) ?_ ?_
                    · intro w'
                      exact build_W 130 134 136 138 (⟨0, y1, y2, y3, yl, ⟨y5, y6, y7, y8, y9, y10, y11, y12⟩, y13⟩ : S33) ⟨x0, x1, ⟨x2, x3, x4, x5, ⟨x6, x7, x8, x9⟩⟩⟩ rfl rfl rfl rfl rfl rfl
                    rotate_left
                    · simp only [Act.put, List.setIfInBounds_toArray, List.set_cons_zero, List.set_cons_succ, i64_w, i32_w]
                      rfl
                    refine one_ (i := 12) (N := some 140) #[true, true, true, true, true, true, true, true, true, true, true, true, true, false, false] rfl rfl (one_of HT_.out (by kernel_rfl)) (by decide) (fun K hK => ?_)
                    refine value_ (w1 := ?_) (v := ?_) (by rfl) rfl ?_ ?_
                    rotate_left 2
                    · refine ref_lit 139 (mkW (⟨0, y1, y2, y3, yl, ⟨y5, y6, y7, y8, y9, y10, y11, y12⟩, y13⟩ : S33) ⟨x0, x1, ⟨x2, x3, x4, x5, ⟨x6, x7, x8, x9⟩⟩⟩) ?_ ?_
                      · rfl
                      · rfl
                    refine hK.out _ _ ⟨_, _, HD.out.junk _⟩ (fun hHeld => ?_)
                    clear hK K
                    refine norm_ (a' := ?_) ?_ ?_
                    rotate_left
                    · simp only [Act.put, List.setIfInBounds_toArray, List.set_cons_zero, List.set_cons_succ, i64_w, i32_w]
                      rfl
                    refine one_ (i := 13) (N := some 141) #[true, true, true, true, true, true, true, true, true, true, true, true, true, true, false] rfl rfl (one_of HT_.out (by kernel_rfl)) (by decide) (fun K hK => ?_)
                    rw [if_pos (by rfl)]
                    refine oper_of_list rfl ?_
                    refine Own.append k58 rfl (.tmp 128) (.tmp 140) 56 58 _ 200 rfl Try.underlying56 infoR rfl (by decide) (by omega) (.slice A7 (sr.length + i) c7) (sr ++ (yl.take i).map (mkW (⟨0, y1, y2, y3, yl, ⟨y5, y6, y7, y8, y9, y10, y11, y12⟩, y13⟩ : S33))) (mkW (⟨0, y1, y2, y3, yl, ⟨y5, y6, y7, y8, y9, y10, y11, y12⟩, y13⟩ : S33) ⟨x0, x1, ⟨x2, x3, x4, x5, ⟨x6, x7, x8, x9⟩⟩⟩) (refV _) rfl rfl (fun _ => ref_mk _ _ _ _) HD.out (by have := BN.out; simp only [List.length_append, List.length_map, List.length_take]; omega) ?_
                    intro A6 c6 w2 h2
                    have H2 := Aside0.mk h2
                    clear h2
                    show K _ _
                    refine hK.out _ _ ⟨_, _, H2.out⟩ (fun hHeld => ?_)
                    clear hK K
                    refine norm_ (a' := ?_) ?_ ?_
                    rotate_left
                    · simp only [Act.put, List.setIfInBounds_toArray, List.set_cons_zero, List.set_cons_succ, i64_w, i32_w]
                      rfl
                    refine pure_ (i := 14) (N := some 7) (v := ?_) (a' := ?_) #[true, true, true, true, true, true, true, true, true, true, true, true, true, true, true] rfl rfl (any_of HT_.out (by kernel_rfl)) (fun _ _ _ h => h) (Or.inl ⟨by rfl, ?_⟩) ?_ ?_
                    rotate_left
                    · intro w'
                      go_simp
                      with_reducible rfl
                    rotate_left
                    · simp only [Act.put, List.setIfInBounds_toArray, List.set_cons_zero, List.set_cons_succ, i64_w, i32_w]
                      rfl
                    refine done_ (done_of HT_.out (by kernel_rfl)) ?_
                    go_wp2
                    go_roundw
                    case rel => exact ⟨i + 1, by omega, fun z => (nomatch z), by first | rfl | go_num, ⟨by rw [List.take_add_one, HGI.out, List.map_append, ← List.append_assoc]; have q := H2.out; rw [List.length_append, List.length_map, List.length_take, Nat.min_eq_left (Nat.le_of_lt hlt2)] at q; exact q⟩⟩
                    case measure => first | (simp [RowKit.intOf]; done) | (simp [RowKit.intOf]; omega)
                  · have hend : sr ++ (yl.take i).map (mkW (⟨0, y1, y2, y3, yl, ⟨y5, y6, y7, y8, y9, y10, y11, y12⟩, y13⟩ : S33)) = rows' := by
                      rw [HX0.out]
                      cases bv with
                      | true => rw [if_pos rfl, List.take_of_length_le (by have : ¬ i < yl.length := fun z => hcd ⟨z, rfl⟩; omega)]
                      | false => rw [if_neg (by decide), hb0 rfl, List.take_zero, List.map_nil, List.append_nil]
                    have HJ2 := HJ
                    rw [hend] at HJ2
                    have hlen : (sr ++ (yl.take i).map (mkW (⟨0, y1, y2, y3, yl, ⟨y5, y6, y7, y8, y9, y10, y11, y12⟩, y13⟩ : S33))).length = m2 := by rw [hend]; exact M2.out
                    have HLN2 := Lib.hid hlen
                    clear hend hlen HJ
                    rw [M2.out] at HJ2
                    rw [HLN2.out]
                    by_cases hlt2 : i < yl.length
                    · have hbf : bv = false := by cases bv with | true => exact absurd ⟨hlt2, rfl⟩ hcd | false => rfl
                      have dlt2 : decide (i < yl.length) = true := decide_eq_true hlt2
                      subst hbf
                      clear hcd
                      go_wp2
                      go_meet
                      exact ⟨_, _, rfl, HJ2⟩
                    · have dlt2 : decide (i < yl.length) = false := decide_eq_false hlt2
                      clear hcd
                      go_wp2
                      go_meet
                      exact ⟨_, _, rfl, HJ2⟩
              case rest =>
                obtain ⟨A2, c2, rfl, H8⟩ := hcut
                obtain ⟨L1, hL1⟩ : ∃ L : List Asn, L = [Tr ga ss', Row k58 58 (.slice A2 m2 c2) rows', Blk gb (.cells #[.int .i64 0, .int .i64 y1, .int .i64 y2, .int .i64 y3, .slice YA yl.length Yc, .int .i64 y5, .int .i64 y6, .int .i64 y7, .int .u8 y8, .string y9, .int .i64 y10, .int .i64 y11, .int .i64 y12, .int .i64 y13] 33 (0, 0))] := ⟨_, rfl⟩
                have HL1 := Aside0.mk hL1
                have H9 := Aside0.mk (show Own w wc (Row k44 44 (.slice A5 yl.length c5) yl :: L1) by rw [hL1]; exact H8.out.pick [1, 3, 0, 2])
                clear hL1 H8 z0 z1 z2 z3 z4 z5 z6 z7 z8 z9 z10 z11 z12 z13
                obtain ⟨wp, hwp⟩ : ∃ z, z = wc := ⟨_, rfl⟩
                rw [← hwp] at H9 ⊢
                clear hwp
                go_wp2
                go_loopw [14] (fun v14 wr => ∃ (i : Nat) (X : Asn), i ≤ yl.length ∧ v14 = .int .i64 i ∧ Aside0 (Own w wr (X :: L1)) ∧ Aside0 (i < yl.length → ∃ b cs, A5 = some ⟨b, 0, none⟩ ∧ X = Blk b (.cells cs 44 (0, 0)) ∧ ∀ j, j < yl.length → j * 10 < cs.size)) (fun v14 _ => yl.length - (RowKit.intOf v14).toNat)
                case atStart =>
                  by_cases h0 : 0 < yl.length
                  · obtain ⟨b1, e1⟩ := row_formA H9.out h0
                    subst e1
                    obtain ⟨cs, h1, h2⟩ := out_blk H9.out
                    exact ⟨0, _, Nat.zero_le _, rfl, ⟨h1⟩, ⟨fun _ => ⟨_, cs, rfl, rfl, fun j hj => by have := h2 j _ (List.getElem?_eq_getElem hj) 0 _ rfl; exact (Array.getElem?_eq_some_iff.1 this).1⟩⟩⟩
                  · exact ⟨0, _, Nat.zero_le _, rfl, H9, ⟨fun q => absurd q h0⟩⟩
                case round =>
                  obtain ⟨i, X, hi, rfl, HJ, HXX⟩ := hrel
                  by_cases hlt2 : i < yl.length
                  · obtain ⟨b1, cs, e1, e2, hcs⟩ := HXX.out hlt2
                    subst e1
                    subst e2
                    have HCS := Aside0.mk hcs
                    have hfa := add_at b1
                    have dlt2 : decide (i < yl.length) = true := decide_eq_true hlt2
                    have hfz := blk_frozen HJ.out.at0 (i * 10)
                    obtain ⟨uu, huu⟩ : ∃ u, cs[i * 10]? = some u := ⟨_, Array.getElem?_eq_getElem (hcs i hlt2)⟩
                    have hce := (blk_cell HJ.out.at0 (i * 10)).trans huu
                    clear hcs huu
                    go_wp2
                    go_roundw
                    case rel => exact ⟨i + 1, _, by omega, by first | rfl | go_num, ⟨HJ.out.set (i * 10) _⟩, ⟨fun _ => ⟨b1, _, rfl, rfl, fun j hj => by rw [Array.size_setIfInBounds]; exact HCS.out j hj⟩⟩⟩
                    case measure => first | (simp [RowKit.intOf]; done) | (simp [RowKit.intOf]; omega)
                  · have dlt2 : decide (i < yl.length) = false := decide_eq_false hlt2
                    have HJ2 := Aside0.mk (show Own w wr [Tr ga ss', Row k58 58 (.slice A2 m2 c2) rows', Blk gb (.cells #[.int .i64 0, .int .i64 y1, .int .i64 y2, .int .i64 y3, .slice YA yl.length Yc, .int .i64 y5, .int .i64 y6, .int .i64 y7, .int .u8 y8, .string y9, .int .i64 y10, .int .i64 y11, .int .i64 y12, .int .i64 y13] 33 (0, 0))] by rw [← HL1.out]; exact HJ.out.tail)
                    clear HXX HJ
                    go_wp2
                    go_meet
                    exact ⟨_, _, rfl, HJ2⟩
            · have H90 := Aside0.mk h0
              by_cases h1 : y0 = 1
              · subst h1
                have PT := Aside0.mk (show applyR sa y1 ⟨y5, y6, y7, y8, y9, y10, y11, y12⟩ y13 = ss' by rw [← PS.out]; unfold doA; rw [if_neg (show ¬ ((1 : Int) = 0) by decide), if_pos rfl])
                clear h0
                cases bv with
                | true =>
                  have HX0 := Aside0.mk (show rows' = sr ++ [mkA (⟨1, y1, y2, y3, yl, ⟨y5, y6, y7, y8, y9, y10, y11, y12⟩, y13⟩ : S33)] by rw [← PQ.out]; unfold addR; rw [if_pos HIN.out, if_neg (show ¬ ((1 : Int) = 0) by decide), if_pos rfl])
                  go_wp2_with (first
                    | (go_at_call 14; ((with_reducible refine (TrApplyE (HX3.out.pick [1, 0, 2]) y1 ⟨y5, y6, y7, y8, y9, y10, y11, y12⟩ y13 B1.out.2 er ss' ER.out PT.out).mono ?_)); rintro e w7 ⟨rfl, h⟩; have H7 := Aside0.mk (h.pick [2, 0, 1]); clear h z0 z1 z2 z3 z4 z5 z6 z7 z8 z9 z10 z11 z12 z13; have z0 := (blk_cell H7.out.r2.at0 0).trans rfl; have z1 := (blk_cell H7.out.r2.at0 1).trans rfl; have z2 := (blk_cell H7.out.r2.at0 2).trans rfl; have z3 := (blk_cell H7.out.r2.at0 3).trans rfl; have z4 := (blk_cell H7.out.r2.at0 4).trans rfl; have z5 := (blk_cell H7.out.r2.at0 5).trans rfl; have z6 := (blk_cell H7.out.r2.at0 6).trans rfl; have z7 := (blk_cell H7.out.r2.at0 7).trans rfl; have z8 := (blk_cell H7.out.r2.at0 8).trans rfl; have z9 := (blk_cell H7.out.r2.at0 9).trans rfl; have z10 := (blk_cell H7.out.r2.at0 10).trans rfl; have z11 := (blk_cell H7.out.r2.at0 11).trans rfl; have z12 := (blk_cell H7.out.r2.at0 12).trans rfl; have z13 := (blk_cell H7.out.r2.at0 13).trans rfl)
                    | ((with_reducible refine gate_dst (N := 172) rfl ?_); refine Kd.event_run rfl (build_A 167 169 171 (⟨1, y1, y2, y3, yl, ⟨y5, y6, y7, y8, y9, y10, y11, y12⟩, y13⟩ : S33) rfl rfl rfl rfl) ?_)
                    | ((with_reducible refine gate_dst (N := 173) rfl ?_); refine Kd.event_run rfl (ref_lit 172 (mkA (⟨1, y1, y2, y3, yl, ⟨y5, y6, y7, y8, y9, y10, y11, y12⟩, y13⟩ : S33)) rfl rfl) ?_)
                    | ((with_reducible refine gate_builtin (b := .append) (xs := #[.tmp 165, .tmp 173]) rfl ?_); at_builtin; refine Own.append k58 rfl (.tmp 165) (.tmp 173) 56 58 _ 200 rfl Try.underlying56 infoR rfl (by decide) (by omega) _ sr (mkA (⟨1, y1, y2, y3, yl, ⟨y5, y6, y7, y8, y9, y10, y11, y12⟩, y13⟩ : S33)) (refV _) rfl rfl (fun _ => ref_mk _ _ _ _) H7.out (by have := BN.out; omega) ?_; intro A6 c6 w8 h2; have H8 := Aside0.mk h2; clear h2))
                  go_meet
                  exact ⟨_, _, by rw [← M2.out, HX0.out, List.length_append]; rfl, ⟨by rw [← M2.out, HX0.out, List.length_append]; exact H8.out.pick [1, 0, 2]⟩⟩
                | false =>
                  have HX0 := Aside0.mk (show rows' = sr by rw [← PQ.out]; unfold addR; rw [if_neg (by rw [HIN.out]; decide)])
                  go_wp2_with (first
                    | (go_at_call 14; ((with_reducible refine (TrApplyE (HX3.out.pick [1, 0, 2]) y1 ⟨y5, y6, y7, y8, y9, y10, y11, y12⟩ y13 B1.out.2 er ss' ER.out PT.out).mono ?_)); rintro e w7 ⟨rfl, h⟩; have H7 := Aside0.mk (h.pick [2, 0, 1]); clear h z0 z1 z2 z3 z4 z5 z6 z7 z8 z9 z10 z11 z12 z13; have z0 := (blk_cell H7.out.r2.at0 0).trans rfl; have z1 := (blk_cell H7.out.r2.at0 1).trans rfl; have z2 := (blk_cell H7.out.r2.at0 2).trans rfl; have z3 := (blk_cell H7.out.r2.at0 3).trans rfl; have z4 := (blk_cell H7.out.r2.at0 4).trans rfl; have z5 := (blk_cell H7.out.r2.at0 5).trans rfl; have z6 := (blk_cell H7.out.r2.at0 6).trans rfl; have z7 := (blk_cell H7.out.r2.at0 7).trans rfl; have z8 := (blk_cell H7.out.r2.at0 8).trans rfl; have z9 := (blk_cell H7.out.r2.at0 9).trans rfl; have z10 := (blk_cell H7.out.r2.at0 10).trans rfl; have z11 := (blk_cell H7.out.r2.at0 11).trans rfl; have z12 := (blk_cell H7.out.r2.at0 12).trans rfl; have z13 := (blk_cell H7.out.r2.at0 13).trans rfl))
                  go_meet
                  exact ⟨_, _, by rw [← M2.out, HX0.out, row_len H7.out], ⟨by rw [← M2.out, HX0.out, row_len H7.out]; exact H7.out.pick [1, 0, 2]⟩⟩
              · have H91 := Aside0.mk h1
                clear h0 h1
                have q0 : (y0 == 0) = false := beq_eq_false_iff_ne.mpr H90.out
                have n0 : (y0 != 0) = true := by simp [bne, q0]
                have q1 : (y0 == 1) = false := beq_eq_false_iff_ne.mpr H91.out
                have n1 : (y0 != 1) = true := by simp [bne, q1]
                have HX0 := Aside0.mk (show rows' = sr by rw [← PQ.out]; unfold addR; rw [if_neg H90.out, if_neg H91.out, ite_self])
                have HX1 := Aside0.mk (show ss' = sa by rw [← PS.out]; unfold doA; rw [if_neg H90.out, if_neg H91.out])
                go_wp2
                go_meet
                exact ⟨_, _, by rw [← M2.out, HX0.out, row_len (HX3.out.pick [2])], ⟨by rw [← M2.out, HX1.out, HX0.out, row_len (HX3.out.pick [2])]; exact HX3.out.pick [1, 2, 0]⟩⟩
          case rest =>
            obtain ⟨A2, c2, rfl, H8⟩ := hcut
            clear z0 z1 z2 z3 z4 z5 z6 z7 z8 z9 z10 z11 z12 z13
            have z1 := (blk_cell H8.out.r2.at0 1).trans rfl
            go_wp2_with (first
              | (go_at_call 17; ((with_reducible refine (StandsC H8.out RLEN.out RBND.out y1 _ _ _ _ _ _ rfl rfl rfl rfl (stood_at ST.out y1).1 (stood_at ST.out y1).2 rfl rfl).mono ?_)); rintro e w9 ⟨rfl, h⟩; have H9 := Aside0.mk h; clear h))
            go_roundw
            case rel => exact ⟨k + 1, by omega, by first | rfl | go_num, ⟨by rw [S1.out, S2.out]; exact H9.out.pick [0, 1]⟩⟩
            case measure => first | (simp [RowKit.intOf]; done) | (simp [RowKit.intOf]; omega)
    · have hk' : k = l.length := by omega
      subst hk'
      rw [List.take_length] at HO
      obtain ⟨A1, a1, e7, _, _⟩ := HO.out.r1.row_reads
      subst e7
      have ST := Aside0.mk (stood_fold n l (List.replicate n ([], []) : List (List TO × List TA)) [] LN.out (stood_new n))
      have hBN : (l.foldl (addR n) []).length ≤ 6000 := by have := foldR_len n l [] H5.out.2; have h2 := H5.out.1; simp only [List.length_nil] at this; omega
      have HX := Aside0.mk HO.out
      clear HO hk hlt
      generalize l.foldl doA (List.replicate n ([], []) : List (List TO × List TA)) = sa at HX ST
      generalize l.foldl (addR n) [] = sr at HX ST hBN ⊢
      obtain ⟨m2, hm2⟩ : ∃ r, sr.length = r := ⟨_, rfl⟩
      rw [hm2] at HX hBN ⊢
      have RLEN := Aside0.mk hm2
      have RBND := Aside0.mk (show m2 ≤ 1000000000 by omega)
      clear hm2 hBN
      obtain ⟨wz, hwz⟩ : ∃ z, z = wr := ⟨_, rfl⟩
      rw [← hwz] at HX ⊢
      clear hwz
      go_wp2
      go_loopw [15] (fun v15 wr => ∃ j : Nat, j ≤ n + 2 ∧ v15 = .int .i64 ((j : Int) - 1) ∧ Aside0 (Own w wr [Tr ga sa, Row k58 58 (.slice A1 m2 a1) sr])) (fun v15 _ => ((n : Int) + 1 - RowKit.intOf v15).toNat)
      case atStart => exact ⟨0, Nat.zero_le _, rfl, HX⟩
      case round =>
        obtain ⟨j, hj, rfl, HO⟩ := hrel
        by_cases hjn : (j : Int) - 1 ≤ (n : Int)
        · have dle : decide ((j : Int) - 1 ≤ (n : Int)) = true := decide_eq_true hjn
          go_wp2_with (first
            | (go_at_call 17; ((with_reducible refine (StandsC HO.out RLEN.out RBND.out ((j : Int) - 1) _ _ _ _ _ _ rfl rfl rfl rfl (stood_at ST.out ((j : Int) - 1)).1 (stood_at ST.out ((j : Int) - 1)).2 rfl rfl).mono ?_)); rintro e w9 ⟨rfl, h⟩; have H9 := Aside0.mk h; clear h)
            | (go_at_call 17; ((with_reducible refine (StandsC H9.out RLEN.out RBND.out ((j : Int) - 1) _ _ _ _ _ _ rfl rfl rfl rfl (stood_at ST.out ((j : Int) - 1)).1 (stood_at ST.out ((j : Int) - 1)).2 rfl rfl).mono ?_)); rintro e w10 ⟨rfl, h⟩; have H10 := Aside0.mk h; clear h))
          go_roundw
          case rel => exact ⟨j + 1, by omega, by first | rfl | go_num, H10⟩
          case measure => first | (simp [RowKit.intOf]; done) | (simp [RowKit.intOf]; omega)
        · have dle : decide ((j : Int) - 1 ≤ (n : Int)) = false := decide_eq_false hjn
          go_wp2
          go_ret
          exact ⟨rfl, HO.out.bel⟩
theorem TracePlays_law (m : Int) (A : Option Addr) (c : Nat) (l : List S33) (w : World) (hm : (Lit.int .i64 m).wf = true) (hr : Kd.C k33 w A l.length l) (hc : l.length ≤ c) (hq : l.length ≤ 9223372036854775807 ∧ ∀ x ∈ l, Q33 x) :
    Calls Try.prog 6 #[.int .i64 m, .slice A l.length c] w fun e w' => e = .returned (.bool true) ∧ Below w.heap.size w w' := by
  obtain ⟨r, hg, h5⟩ := great_f l
  cases r with
  | true => exact TracePlays_great m A c l w hr hc hg
  | false =>
    by_cases hb : 1 ≤ m ∧ m ≤ 8
    · obtain ⟨k, rfl⟩ := Int.eq_ofNat_of_zero_le (show 0 ≤ m by omega)
      exact TracePlays_small k A c l w hr hc hg (h5 rfl) (by omega)
    · exact TracePlays_bad m A c l w hr hc hg hb
end Go.Proofs.Ytglccegihffndaa.PTracePlays
