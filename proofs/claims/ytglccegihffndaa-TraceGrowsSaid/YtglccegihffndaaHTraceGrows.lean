/- The law TraceGrows, walked. -/
import Derived.Test.YtglccegihffndaaTrc10
import Derived.Deep.DeepCutAuto
import Derived.Deep.Cut
import Derived.Deep.CutRange
import Derived.Deep.CutBlock
namespace Go.Proofs.Ytglccegihffndaa.PTracePlays
open Go.RowKit Go.Proofs.YtglccegihffndaaW.PrintWords Go.Proofs.YtglccegihffndaaW.PrintLast Go.Proofs.YtglccegihffndaaW.PrintMore
open Go.Proofs.YtglccegihffndaaO
attribute [local go_sem] max2_int min2_int max_two min_two max_three min_three max_four min_four
set_option linter.unusedVariables false
set_option linter.unusedSimpArgs false
theorem snoc_fold' {α β : Type} (f : β → α → β) (b : β) (l : List α) (k : Nat) (x : α) (hx : l[k]? = some x) : (l.take (k + 1)).foldl f b = f ((l.take k).foldl f b) x := by
  rw [List.take_add_one, hx, Option.toList_some, List.foldl_append]
  rfl
/-- What an act puts for a shard stands behind what stood there. -/
theorem grows (ss : List (List TO × List TA)) (x : S33) (q : Int) : ∃ e1 e2, (sAt (doA ss x) q).1 = (sAt ss q).1 ++ e1 ∧ (sAt (doA ss x) q).2 = (sAt ss q).2 ++ e2 ∧ e1.length = (if q = x.f1 ∧ putE ss.length x = 0 ∧ x.f0 = 0 then x.f4.length else 0) ∧ e2.length = if q = x.f1 ∧ putE ss.length x = 0 ∧ x.f0 = 1 then 1 else 0 := by
  rw [sAt_do]
  by_cases h : inB ss.length x.f1 = true ∧ q = x.f1
  · rw [if_pos h]
    unfold upd
    by_cases h0 : x.f0 = 0
    · have hp : putE ss.length x = 0 := by unfold putE errR; rw [if_pos (.inl h0), if_pos h.1]
      rw [if_pos h0]
      exact ⟨_, [], rfl, (List.append_nil _).symm, by rw [if_pos ⟨h.2, hp, h0⟩, List.length_map], by rw [if_neg (fun z => by have := z.2.2; omega)]; rfl⟩
    · rw [if_neg h0]
      by_cases h1 : x.f0 = 1
      · have hp : putE ss.length x = 0 := by unfold putE errR; rw [if_pos (.inr h1), if_pos h.1]
        rw [if_pos h1]
        exact ⟨[], _, (List.append_nil _).symm, rfl, by rw [if_neg (fun z => h0 z.2.2)]; rfl, by rw [if_pos ⟨h.2, hp, h1⟩]; rfl⟩
      · rw [if_neg h1]
        exact ⟨[], [], (List.append_nil _).symm, (List.append_nil _).symm, by rw [if_neg (fun z => h0 z.2.2)]; rfl, by rw [if_neg (fun z => h1 z.2.2)]; rfl⟩
  · rw [if_neg h]
    refine ⟨[], [], (List.append_nil _).symm, (List.append_nil _).symm, ?_, ?_⟩
    · rw [if_neg]
      · rfl
      · rintro ⟨h1, h2, h3⟩
        unfold putE errR at h2
        rw [if_pos (.inl h3)] at h2
        by_cases hb : inB ss.length x.f1 = true
        · exact h ⟨hb, h1⟩
        · rw [if_neg hb] at h2
          exact absurd h2 (by decide)
    · rw [if_neg]
      · rfl
      · rintro ⟨h1, h2, h3⟩
        unfold putE errR at h2
        rw [if_pos (.inr h3)] at h2
        by_cases hb : inB ss.length x.f1 = true
        · exact h ⟨hb, h1⟩
        · rw [if_neg hb] at h2
          exact absurd h2 (by decide)
def gr141_T : Bool × List (List Nat × List Nat) := (true, [([], []), ([], []), ([0, 1], [0, 1]), ([2], [2]), ([], []), ([], []), ([4, 5], [4, 5]), ([6], [6]), ([3, 7], [3, 7])])
def gr141_B : List Nat := [0, 0, 3, 7, 0, 0, 48, 112, 255]
theorem gr141_tab : rtab .any (opsOf Try.f3 31) = gr141_T := by kernel_rfl
theorem gr141_bits : waitsOk gr141_T.2 gr141_B = true := by kernel_rfl
def gr156_T : Bool × List (List Nat × List Nat) := (true, [([], []), ([], []), ([0, 1], [0, 1]), ([2], [2]), ([], []), ([], []), ([4, 5], [4, 5]), ([6], [6]), ([3, 7], [3, 7])])
def gr156_B : List Nat := [0, 0, 3, 7, 0, 0, 48, 112, 255]
theorem gr156_tab : rtab .any (opsOf Try.f3 36) = gr156_T := by kernel_rfl
theorem gr156_bits : waitsOk gr156_T.2 gr156_B = true := by kernel_rfl
set_option maxHeartbeats 8000000 in
set_option maxRecDepth 100000 in
theorem TraceGrows_great (m : Nat) (hm : m < 256) (A : Option Addr) (c : Nat) (l : List S33) (part other : Int) (w : World) (hr : Kd.C k33 w A l.length l) (hc : l.length ≤ c) (hg : meterlaw24_Great.f (2 * min l.length 201 + 2) l = some true) :
    Calls Try.prog 3 #[.int .u8 m, .slice A l.length c, .int .i64 part, .int .i64 other] w fun e w' => e = .returned (.bool true) ∧ Below w.heap.size w w' := by
  have HR := Aside0.mk hr
  have HC := Aside0.mk hc
  have HG := Aside0.mk hg
  clear hr hc hg
  go_enter Try.func3, Try.ntmps3
  go_wp2_with (first
    | (go_at_call 8; ((with_reducible refine (awake_calls w).mono ?_)); rintro e w1 ⟨rfl, hb⟩; have H1 := Aside0.mk ((Own.nil w).below hb); clear hb)
    | (go_at_call 9; ((with_reducible refine (meterlaw24_Great.calls _ A c l true w1 (Kd.C_below HR.out H1.out.bel) HC.out HG.out).mono ?_)); rintro e w2 ⟨rfl, hb⟩; have H2 := Aside0.mk (H1.out.drawn hb); clear hb))
  go_ret
  exact ⟨rfl, H2.out.bel⟩
set_option maxHeartbeats 8000000 in
set_option maxRecDepth 100000 in
theorem TraceGrows_small (m : Nat) (hm : m < 256) (A : Option Addr) (c : Nat) (l : List S33) (part other : Int) (w : World) (hr : Kd.C k33 w A l.length l) (hc : l.length ≤ c) (hg : meterlaw24_Great.f (2 * min l.length 201 + 2) l = some false) (h5 : l.length ≤ 200 ∧ ∀ x ∈ l, x.f4.length ≤ 30) (n : Nat) (hn : n = m % 8 + 1) :
    Calls Try.prog 3 #[.int .u8 m, .slice A l.length c, .int .i64 part, .int .i64 other] w fun e w' => e = .returned (.bool true) ∧ Below w.heap.size w w' := by
  have HR := Aside0.mk hr
  have HC := Aside0.mk hc
  have HG := Aside0.mk hg
  clear hr hc hg
  go_enter Try.func3, Try.ntmps3
  have hM : l.length ≤ 9223372036854775807 := by omega
  have en : (1 + (m : Int) % 8) = (n : Int) := by omega
  have HN1 := Aside0.mk (show 1 ≤ n ∧ n ≤ 8 by omega)
  clear hn
  have HB := Aside0.mk (sAt_len n)
  have H5 := Aside0.mk h5
  have LN := Aside0.mk (show (List.replicate n ([], []) : List (List TO × List TA)).length = n from List.length_replicate)
  go_wp2_with (first
    | (go_at_call 8; ((with_reducible refine (awake_calls w).mono ?_)); rintro e w1 ⟨rfl, hb⟩; have H1 := Aside0.mk ((Own.nil w).below hb); clear hb)
    | (go_at_call 9; ((with_reducible refine (meterlaw24_Great.calls _ A c l false w1 (Kd.C_below HR.out H1.out.bel) HC.out HG.out).mono ?_)); rintro e w2 ⟨rfl, hb⟩; have H2 := Aside0.mk (H1.out.drawn hb); clear hb)
    | (go_at_call 10; ((with_reducible refine (TrNewI H2.out _ n rfl HN1.out.1 HN1.out.2).mono ?_)); rintro e w3 ⟨ga, rfl, h⟩; have H3 := Aside0.mk h; clear h))
  go_loopw [11] (fun v11 wr => ∃ k : Nat, k ≤ l.length ∧ v11 = .int .i64 k ∧ Aside0 (Own w wr [Tr ga ((l.take k).foldl doA (List.replicate n ([], []) : List (List TO × List TA)))])) (fun v11 _ => l.length - (RowKit.intOf v11).toNat)
  case atStart => exact ⟨0, Nat.zero_le _, rfl, H3⟩
  case round =>
    obtain ⟨k, hk, rfl, HO⟩ := hrel
    by_cases hlt : k < l.length
    · have hgk := List.getElem?_eq_getElem hlt
      generalize l[k] = x at hgk
      have HX30 := Aside0.mk (H5.out.2 x (List.mem_of_getElem? hgk))
      have S1 := Lib.hid (snoc_fold' doA (List.replicate n ([], []) : List (List TO × List TA)) l k x hgk)
      have B0 := Aside0.mk (fun q => HB.out (l.take k) (fun y hy => H5.out.2 y (List.mem_of_mem_take hy)) (by rw [List.length_take]; omega) q)
      have HX := Aside0.mk HO.out
      generalize (l.take k).foldl doA (List.replicate n ([], []) : List (List TO × List TA)) = sa at S1 B0 HX
      have GP := Aside0.mk (grows sa x part)
      have GO := Aside0.mk (grows sa x other)
      obtain ⟨fr, hfr⟩ : ∃ r, putE sa.length x = r := ⟨_, rfl⟩
      obtain ⟨ss', hss⟩ : ∃ r, doA sa x = r := ⟨_, rfl⟩
      rw [hfr, hss] at GP GO
      rw [hss] at S1
      obtain ⟨y0, y1, y2, y3, yl, ⟨y5, y6, y7, y8, y9, y10, y11, y12⟩, y13⟩ := x
      obtain ⟨ad, YA, Yc, rfl, c0, c1, c2, c3, c4, c5, c6, c7, c8, c9, c10, c11, c12, c13, hC⟩ := act_at HR.out HX.out.bel k _ hgk
      have HY := Aside0.mk hC
      dsimp only at c0 c1 c2 c3 c4 c5 c6 c7 c8 c9 c10 c11 c12 c13 HX30 HY GP GO
      have B1 := Aside0.mk (show (sAt sa y1).1.length + yl.length ≤ 1000000000 ∧ (sAt sa y1).2.length ≤ 1000000000 by have := B0.out y1; have := HX30.out; omega)
      obtain ⟨la, hla⟩ : ∃ z, (sAt sa part).1 = z := ⟨_, rfl⟩
      obtain ⟨lb, hlb⟩ : ∃ z, (sAt sa part).2 = z := ⟨_, rfl⟩
      obtain ⟨lc, hlc⟩ : ∃ z, (sAt sa other).1 = z := ⟨_, rfl⟩
      obtain ⟨ld, hld⟩ : ∃ z, (sAt sa other).2 = z := ⟨_, rfl⟩
      have EA := Aside0.mk hla
      have EB := Aside0.mk hlb
      have EC := Aside0.mk hlc
      have ED := Aside0.mk hld
      rw [hla, hlb] at GP
      rw [hlc, hld] at GO
      have NA := Aside0.mk (show la.length ≤ 1000000000 by have := B0.out part; rw [hla] at this; omega)
      have NB := Aside0.mk (show lb.length ≤ 1000000000 by have := B0.out part; rw [hlb] at this; omega)
      have NC := Aside0.mk (show lc.length ≤ 1000000000 by have := B0.out other; rw [hlc] at this; omega)
      have ND := Aside0.mk (show ld.length ≤ 1000000000 by have := B0.out other; rw [hld] at this; omega)
      clear hla hlb hlc hld hC
      go_upto_block 2 with (first
        | ((with_reducible refine gate_dst (N := 12) rfl ?_); refine box_event ?hg (N := 12) ?hd (cs := #[.int .i64 0, .int .i64 0, .int .i64 0, .int .i64 0, .slice none 0 0, .int .i64 0, .int .i64 0, .int .i64 0, .int .u8 0, .string ⟨#[]⟩, .int .i64 0, .int .i64 0, .int .i64 0, .int .i64 0]) (t := 33) ?hr ?_; (case hd => rfl); (case hg => rfl); (case hr => first | (go_simp; done) | (go_simp; rfl)); intro gb hg wb hbox hbb; have HX2 := Aside0.mk (HX.out.box hg hbox hbb); have hfr := blk_frozen hbox; have z0 := (blk_cell HX2.out.at0 0).trans rfl; have z1 := (blk_cell HX2.out.at0 1).trans rfl; have z2 := (blk_cell HX2.out.at0 2).trans rfl; have z3 := (blk_cell HX2.out.at0 3).trans rfl; have z4 := (blk_cell HX2.out.at0 4).trans rfl; have z5 := (blk_cell HX2.out.at0 5).trans rfl; have z6 := (blk_cell HX2.out.at0 6).trans rfl; have z7 := (blk_cell HX2.out.at0 7).trans rfl; have z8 := (blk_cell HX2.out.at0 8).trans rfl; have z9 := (blk_cell HX2.out.at0 9).trans rfl; have z10 := (blk_cell HX2.out.at0 10).trans rfl; have z11 := (blk_cell HX2.out.at0 11).trans rfl; have z12 := (blk_cell HX2.out.at0 12).trans rfl; have z13 := (blk_cell HX2.out.at0 13).trans rfl; clear hg hbox hbb)
        | ((with_reducible refine gate_store (t := 33) (p := 12) rfl ?_); refine store_event (t := 33) (p := 12) (v := ?vo) (w1 := ((((((((((((((wb.setCell ⟨gb, 0, none⟩ (.int .i64 y0)).setCell ⟨gb, 1, none⟩ (.int .i64 y1)).setCell ⟨gb, 2, none⟩ (.int .i64 y2)).setCell ⟨gb, 3, none⟩ (.int .i64 y3)).setCell ⟨gb, 4, none⟩ (.slice YA yl.length Yc)).setCell ⟨gb, 5, none⟩ (.int .i64 y5)).setCell ⟨gb, 6, none⟩ (.int .i64 y6)).setCell ⟨gb, 7, none⟩ (.int .i64 y7)).setCell ⟨gb, 8, none⟩ (.int .u8 y8)).setCell ⟨gb, 9, none⟩ (.string y9)).setCell ⟨gb, 10, none⟩ (.int .i64 y10)).setCell ⟨gb, 11, none⟩ (.int .i64 y11)).setCell ⟨gb, 12, none⟩ (.int .i64 y12)).setCell ⟨gb, 13, none⟩ (.int .i64 y13))) ?hg ?ho ?hn ?hr ?_; (case ho => rfl); (case hg => rfl); (case hn => rfl); (case hr => first | (go_simp; done) | (go_simp; rfl)); intro wc hw; have HX3 := Aside0.mk (show Own w wc (Blk gb (.cells #[.int .i64 y0, .int .i64 y1, .int .i64 y2, .int .i64 y3, .slice YA yl.length Yc, .int .i64 y5, .int .i64 y6, .int .i64 y7, .int .u8 y8, .string y9, .int .i64 y10, .int .i64 y11, .int .i64 y12, .int .i64 y13] 33 (0, 0)) :: _) by rw [hw]; exact act_store (.int .i64 y0) (.int .i64 y1) (.int .i64 y2) (.int .i64 y3) (.slice YA yl.length Yc) (.int .i64 y5) (.int .i64 y6) (.int .i64 y7) (.int .u8 y8) (.string y9) (.int .i64 y10) (.int .i64 y11) (.int .i64 y12) (.int .i64 y13) HX2.out); clear hw hfr z0 z1 z2 z3 z4 z5 z6 z7 z8 z9 z10 z11 z12 z13; have z0 := (blk_cell HX3.out.at0 0).trans rfl; have z1 := (blk_cell HX3.out.at0 1).trans rfl; have z2 := (blk_cell HX3.out.at0 2).trans rfl; have z3 := (blk_cell HX3.out.at0 3).trans rfl; have z4 := (blk_cell HX3.out.at0 4).trans rfl; have z5 := (blk_cell HX3.out.at0 5).trans rfl; have z6 := (blk_cell HX3.out.at0 6).trans rfl; have z7 := (blk_cell HX3.out.at0 7).trans rfl; have z8 := (blk_cell HX3.out.at0 8).trans rfl; have z9 := (blk_cell HX3.out.at0 9).trans rfl; have z10 := (blk_cell HX3.out.at0 10).trans rfl; have z11 := (blk_cell HX3.out.at0 11).trans rfl; have z12 := (blk_cell HX3.out.at0 12).trans rfl; have z13 := (blk_cell HX3.out.at0 13).trans rfl)
        | (go_at_call 11; ((with_reducible refine (TrOutsE HX3.out.r1 part la la.length EA.out rfl NA.out).mono ?_)); rintro e w4 ⟨A1, d1, rfl, h⟩; have H4 := Aside0.mk h; clear h z0 z1 z2 z3 z4 z5 z6 z7 z8 z9 z10 z11 z12 z13)
        | (go_at_call 12; ((with_reducible refine (TrItemsE H4.out.r1 part lb lb.length EB.out rfl NB.out).mono ?_)); rintro e w5 ⟨A2, d2, rfl, h⟩; have H5_ := Aside0.mk h; clear h)
        | (go_at_call 11; ((with_reducible refine (TrOutsE H5_.out.r1 other lc lc.length EC.out rfl NC.out).mono ?_)); rintro e w6 ⟨A3, d3, rfl, h⟩; have H6 := Aside0.mk h; clear h)
        | (go_at_call 12; ((with_reducible refine (TrItemsE H6.out.r1 other ld ld.length ED.out rfl ND.out).mono ?_)); rintro e w7 ⟨A4, d4, rfl, h⟩; have H7 := Aside0.mk h.r1; have z0 := (blk_cell h.r5.at0 0).trans rfl; have z1 := (blk_cell h.r5.at0 1).trans rfl; have z2 := (blk_cell h.r5.at0 2).trans rfl; have z3 := (blk_cell h.r5.at0 3).trans rfl; have z4 := (blk_cell h.r5.at0 4).trans rfl; have z5 := (blk_cell h.r5.at0 5).trans rfl; have z6 := (blk_cell h.r5.at0 6).trans rfl; have z7 := (blk_cell h.r5.at0 7).trans rfl; have z8 := (blk_cell h.r5.at0 8).trans rfl; have z9 := (blk_cell h.r5.at0 9).trans rfl; have z10 := (blk_cell h.r5.at0 10).trans rfl; have z11 := (blk_cell h.r5.at0 11).trans rfl; have z12 := (blk_cell h.r5.at0 12).trans rfl; have z13 := (blk_cell h.r5.at0 13).trans rfl; clear h))
      have QR := Aside0.mk (show putE sa.length (⟨y0, y1, y2, y3, yl, ⟨y5, y6, y7, y8, y9, y10, y11, y12⟩, y13⟩ : S33) = fr from hfr)
      have QS := Aside0.mk (show doA sa (⟨y0, y1, y2, y3, yl, ⟨y5, y6, y7, y8, y9, y10, y11, y12⟩, y13⟩ : S33) = ss' from hss)
      go_cut [17] (fun v17 wx => v17 = .int .i64 fr ∧ Aside0 (Own w wx [Tr ga ss', Row k48 48 (.slice A4 ld.length d4) ld, Row k46 46 (.slice A3 lc.length d3) lc, Row k48 48 (.slice A2 lb.length d2) lb, Row k46 46 (.slice A1 la.length d1) la, Blk gb (.cells #[.int .i64 y0, .int .i64 y1, .int .i64 y2, .int .i64 y3, .slice YA yl.length Yc, .int .i64 y5, .int .i64 y6, .int .i64 y7, .int .u8 y8, .string y9, .int .i64 y10, .int .i64 y11, .int .i64 y12, .int .i64 y13] 33 (0, 0))]))
      case first => as_aux_lemma =>
        by_cases h0 : y0 = 0
        · subst h0
          have PR := Aside0.mk (show errR sa.length y1 = fr from (by unfold putE; rw [if_pos (.inl rfl)] : putE sa.length (⟨0, y1, y2, y3, yl, ⟨y5, y6, y7, y8, y9, y10, y11, y12⟩, y13⟩ : S33) = errR sa.length y1).symm.trans QR.out)
          have PS := Aside0.mk (show tellR sa y1 y2 y3 yl = ss' from (by unfold doA; rw [if_pos rfl] : doA sa (⟨0, y1, y2, y3, yl, ⟨y5, y6, y7, y8, y9, y10, y11, y12⟩, y13⟩ : S33) = tellR sa y1 y2 y3 yl).symm.trans QS.out)
          go_wp2_with (first
            | (go_at_call 13; ((with_reducible refine (TrTellE H7.out y1 y2 y3 YA yl.length Yc yl rfl B1.out.1 (fun v h => Kd.C_below HY.out h.bel) fr ss' PR.out PS.out).mono ?_)); rintro e w8 ⟨rfl, h⟩; have H8 := Aside0.mk h; clear h))
          go_meet
          exact ⟨rfl, H8⟩
        · by_cases h1 : y0 = 1
          · subst h1
            have PR := Aside0.mk (show errR sa.length y1 = fr from (by unfold putE; rw [if_pos (.inr rfl)] : putE sa.length (⟨1, y1, y2, y3, yl, ⟨y5, y6, y7, y8, y9, y10, y11, y12⟩, y13⟩ : S33) = errR sa.length y1).symm.trans QR.out)
            have PS := Aside0.mk (show applyR sa y1 ⟨y5, y6, y7, y8, y9, y10, y11, y12⟩ y13 = ss' from (by unfold doA; rw [if_neg (show ¬ ((1 : Int) = 0) by decide), if_pos rfl] : doA sa (⟨1, y1, y2, y3, yl, ⟨y5, y6, y7, y8, y9, y10, y11, y12⟩, y13⟩ : S33) = applyR sa y1 ⟨y5, y6, y7, y8, y9, y10, y11, y12⟩ y13).symm.trans QS.out)
            go_wp2_with (first
              | (go_at_call 14; ((with_reducible refine (TrApplyE H7.out y1 ⟨y5, y6, y7, y8, y9, y10, y11, y12⟩ y13 B1.out.2 fr ss' PR.out PS.out).mono ?_)); rintro e w8 ⟨rfl, h⟩; have H8 := Aside0.mk h; clear h))
            go_meet
            exact ⟨rfl, H8⟩
          · have e0 : fr = 0 := QR.out.symm.trans (by unfold putE; rw [if_neg (fun h => h.elim h0 h1)])
            have e1 : ss' = sa := QS.out.symm.trans (by unfold doA; rw [if_neg h0, if_neg h1])
            subst e0
            subst e1
            have d0 : (y0 == 0) = false := beq_eq_false_iff_ne.mpr h0
            have d1 : (y0 == 1) = false := beq_eq_false_iff_ne.mpr h1
            go_wp2
            go_meet
            exact ⟨rfl, H7⟩
      case rest =>
        obtain ⟨rfl, H8⟩ := hcut
        obtain ⟨x1, x2, g1, g2, n1, n2⟩ := GP.out
        obtain ⟨gl, hgl⟩ : ∃ z, la ++ x1 = z := ⟨_, rfl⟩
        obtain ⟨hl, hhl⟩ : ∃ z, lb ++ x2 = z := ⟨_, rfl⟩
        have EG := Aside0.mk (g1.trans hgl)
        have EH := Aside0.mk (g2.trans hhl)
        have bla : la.length ≤ 4000000 := by have := B0.out part; rw [EA.out] at this; omega
        have blb : lb.length ≤ 4000000 := by have := B0.out part; rw [EB.out] at this; omega
        have bx1 : x1.length ≤ 30 := by have h1 : yl.length ≤ 30 := HX30.out; rw [n1]; split <;> omega
        have bx2 : x2.length ≤ 30 := by rw [n2]; split <;> omega
        have kg : gl.length = la.length + x1.length := by rw [← hgl, List.length_append]
        have kh : hl.length = lb.length + x2.length := by rw [← hhl, List.length_append]
        have NG := Aside0.mk (show gl.length ≤ 1000000000 by omega)
        have NH := Aside0.mk (show hl.length ≤ 1000000000 by omega)
        have LGA := Aside0.mk (fun (i : Nat) y (h : la[i]? = some y) => show gl[i]? = some y by rw [← hgl, List.getElem?_append_left (List.getElem?_eq_some_iff.1 h).1]; exact h)
        have LGB := Aside0.mk (fun (i : Nat) y (h : lb[i]? = some y) => show hl[i]? = some y by rw [← hhl, List.getElem?_append_left (List.getElem?_eq_some_iff.1 h).1]; exact h)
        have sg : (la.length : Int) + (x1.length : Int) = (gl.length : Int) := by omega
        have sh : (lb.length : Int) + (x2.length : Int) = (hl.length : Int) := by omega
        obtain ⟨b1, hb1⟩ : ∃ b, decide (part = y1 ∧ fr = 0 ∧ y0 = 0) = b := ⟨_, rfl⟩
        obtain ⟨b2, hb2⟩ : ∃ b, decide (part = y1 ∧ fr = 0 ∧ y0 = 1) = b := ⟨_, rfl⟩
        have HBb1 := Aside0.mk hb1
        have HBb2 := Aside0.mk hb2
        have V1 := Aside0.mk (show (x1.length : Int) = if b1 = true then (yl.length : Int) else 0 by rw [n1, ← hb1]; by_cases h : part = y1 ∧ fr = 0 ∧ y0 = 0 <;> simp [h])
        have V2 := Aside0.mk (show (x2.length : Int) = if b2 = true then (1 : Int) else 0 by rw [n2, ← hb2]; by_cases h : part = y1 ∧ fr = 0 ∧ y0 = 1 <;> simp [h])
        have SG := Aside0.mk sg
        have SH := Aside0.mk sh
        have KG := Aside0.mk kg
        have KH := Aside0.mk kh
        clear g1 g2 n1 n2 hgl hhl hb1 hb2 sg sh kg kh
        go_upto_region 22 with (first
          | (go_at_call 11; ((with_reducible refine (TrOutsE H8.out part gl gl.length EG.out rfl NG.out).mono ?_)); rintro e w9 ⟨A5, d5, rfl, h⟩; have H9 := Aside0.mk h; clear h)
          | (go_at_call 12; ((with_reducible refine (TrItemsE H9.out.r1 part hl hl.length EH.out rfl NH.out).mono ?_)); rintro e w10 ⟨A6, d6, rfl, h⟩; have H10 := Aside0.mk h; have z0 := (blk_cell (h.get 7 rfl).1 0).trans rfl; have z1 := (blk_cell (h.get 7 rfl).1 1).trans rfl; have z4 := (blk_cell (h.get 7 rfl).1 4).trans rfl; clear h))
        go_upto_region 22 with fail
        go_cut [102] (fun v102 wx => v102 = .bool b1 ∧ w10 = wx)
        case first => as_aux_lemma =>
          by_cases p1 : y1 = part
          · have P1 := Aside0.mk p1
            have q1 : (y1 == part) = true := beq_iff_eq.mpr p1
            clear p1
            by_cases p2 : fr = 0
            · have P2 := Aside0.mk p2
              have q2 : (fr == 0) = true := beq_iff_eq.mpr p2
              clear p2
              by_cases p3 : y0 = 0
              · have P3 := Aside0.mk p3
                have q3 : (y0 == 0) = true := beq_iff_eq.mpr p3
                clear p3
                go_wp2
                go_meet
                exact ⟨by rw [← HBb1.out, decide_eq_true ⟨P1.out.symm, P2.out, P3.out⟩], rfl⟩
              · have P3 := Aside0.mk p3
                have q3 : (y0 == 0) = false := beq_eq_false_iff_ne.mpr p3
                clear p3
                go_wp2
                go_meet
                exact ⟨by rw [← HBb1.out, decide_eq_false (fun h => P3.out h.2.2)], rfl⟩
            · have P2 := Aside0.mk p2
              have q2 : (fr == 0) = false := beq_eq_false_iff_ne.mpr p2
              clear p2
              go_wp2
              go_meet
              exact ⟨by rw [← HBb1.out, decide_eq_false (fun h => P2.out h.2.1)], rfl⟩
          · have P1 := Aside0.mk p1
            have q1 : (y1 == part) = false := beq_eq_false_iff_ne.mpr p1
            clear p1
            go_wp2
            go_meet
            exact ⟨by rw [← HBb1.out, decide_eq_false (fun h => P1.out h.1.symm)], rfl⟩
        case rest =>
          obtain ⟨rfl, rfl⟩ := hcut

          go_upto_if 102 with fail
          go_cut [20] (fun v20 wx => v20 = .int .i64 (x1.length : Int) ∧ w10 = wx)
          case first => as_aux_lemma =>
            cases b1 with
            | true =>
              have v1 := V1.out
              rw [if_pos rfl] at v1
              have V3 := Aside0.mk v1
              clear v1
              go_wp2
              go_meet
              exact ⟨by rw [V3.out], rfl⟩
            | false =>
              have v1 := V1.out
              rw [if_neg (by decide)] at v1
              have V3 := Aside0.mk v1
              clear v1
              go_wp2
              go_meet
              exact ⟨by rw [V3.out], rfl⟩
          case rest =>
            obtain ⟨rfl, rfl⟩ := hcut
            go_upto_region 24 with fail
            go_cut [118] (fun v118 wx => v118 = .bool b2 ∧ w10 = wx)
            case first => as_aux_lemma =>
              by_cases p1 : y1 = part
              · have P1 := Aside0.mk p1
                have q1 : (y1 == part) = true := beq_iff_eq.mpr p1
                clear p1
                by_cases p2 : fr = 0
                · have P2 := Aside0.mk p2
                  have q2 : (fr == 0) = true := beq_iff_eq.mpr p2
                  clear p2
                  by_cases p3 : y0 = 1
                  · have P3 := Aside0.mk p3
                    have q3 : (y0 == 1) = true := beq_iff_eq.mpr p3
                    clear p3
                    go_wp2
                    go_meet
                    exact ⟨by rw [← HBb2.out, decide_eq_true ⟨P1.out.symm, P2.out, P3.out⟩], rfl⟩
                  · have P3 := Aside0.mk p3
                    have q3 : (y0 == 1) = false := beq_eq_false_iff_ne.mpr p3
                    clear p3
                    go_wp2
                    go_meet
                    exact ⟨by rw [← HBb2.out, decide_eq_false (fun h => P3.out h.2.2)], rfl⟩
                · have P2 := Aside0.mk p2
                  have q2 : (fr == 0) = false := beq_eq_false_iff_ne.mpr p2
                  clear p2
                  go_wp2
                  go_meet
                  exact ⟨by rw [← HBb2.out, decide_eq_false (fun h => P2.out h.2.1)], rfl⟩
              · have P1 := Aside0.mk p1
                have q1 : (y1 == part) = false := beq_eq_false_iff_ne.mpr p1
                clear p1
                go_wp2
                go_meet
                exact ⟨by rw [← HBb2.out, decide_eq_false (fun h => P1.out h.1.symm)], rfl⟩
            case rest =>
              obtain ⟨rfl, rfl⟩ := hcut

              go_upto_if 118 with fail
              go_cut [21] (fun v21 wx => v21 = .int .i64 (x2.length : Int) ∧ w10 = wx)
              case first => as_aux_lemma =>
                cases b2 with
                | true =>
                  have v1 := V2.out
                  rw [if_pos rfl] at v1
                  have V3 := Aside0.mk v1
                  clear v1
                  go_wp2
                  go_meet
                  exact ⟨by rw [V3.out], rfl⟩
                | false =>
                  have v1 := V2.out
                  rw [if_neg (by decide)] at v1
                  have V3 := Aside0.mk v1
                  clear v1
                  go_wp2
                  go_meet
                  exact ⟨by rw [V3.out], rfl⟩
              case rest =>
                obtain ⟨rfl, rfl⟩ := hcut
                have sg := SG.out
                have sh := SH.out
                go_wp2
                go_loopw [22] (fun v22 ws => ∃ i : Nat, i ≤ la.length ∧ v22 = .int .i64 i ∧ Aside0 (Own w ws [Row k48 48 (.slice A6 hl.length d6) hl, Tr ga ss', Row k46 46 (.slice A5 gl.length d5) gl, Row k48 48 (.slice A4 ld.length d4) ld, Row k46 46 (.slice A3 lc.length d3) lc, Row k48 48 (.slice A2 lb.length d2) lb, Row k46 46 (.slice A1 la.length d1) la, Blk gb (.cells #[.int .i64 y0, .int .i64 y1, .int .i64 y2, .int .i64 y3, .slice YA yl.length Yc, .int .i64 y5, .int .i64 y6, .int .i64 y7, .int .u8 y8, .string y9, .int .i64 y10, .int .i64 y11, .int .i64 y12, .int .i64 y13] 33 (0, 0))])) (fun v22 _ => la.length - (RowKit.intOf v22).toNat)
                case atStart => exact ⟨0, Nat.zero_le _, rfl, H10⟩
                case round => as_aux_lemma =>
                  obtain ⟨i, hi, rfl, HI⟩ := hrel
                  by_cases hlt2 : i < la.length
                  · have hgi := List.getElem?_eq_getElem hlt2
                    generalize la[i] = y at hgi
                    have HGI := Aside0.mk hgi
                    have HGL := Aside0.mk (LGA.out i y hgi)
                    have hltL : i < gl.length := (List.getElem?_eq_some_iff.1 HGL.out).1
                    have hpos : 0 < la.length := by omega
                    have hposL : 0 < gl.length := by omega
                    obtain ⟨b1, g1, e1⟩ := row_form' (HI.out.pick [2]) hposL
                    cases e1
                    obtain ⟨b2, g2, e2⟩ := row_form' (HI.out.pick [6]) hpos
                    cases e2
                    obtain ⟨⟨x0, x1, ⟨x2, x3, x4, x5, ⟨x6, x7, x8, x9⟩⟩⟩, x10, x11⟩ := y
                    have hf1 := add_at b1
                    have hf2 := add_at b2
                    have hne := neqT x0 x1 x2 x3 x4 x5 x6 x7 x8 x9 x10 x11
                    clear hgi hpos hposL
                    have HW := Aside0.mk HI.out.drew
                    go_wp2
                    refine start_ (n := 9) (S := fun w' => Own w w' [Row k48 48 (.slice A6 hl.length d6) hl, Tr ga ss', Row k46 46 (.slice (some ⟨b1, 0, none⟩) gl.length d5) gl, Row k48 48 (.slice A4 ld.length d4) ld, Row k46 46 (.slice A3 lc.length d3) lc, Row k48 48 (.slice A2 lb.length d2) lb, Row k46 46 (.slice (some ⟨b2, 0, none⟩) la.length d1) la, Blk gb (.cells #[.int .i64 y0, .int .i64 y1, .int .i64 y2, .int .i64 y3, .slice YA yl.length Yc, .int .i64 y5, .int .i64 y6, .int .i64 y7, .int .u8 y8, .string y9, .int .i64 y10, .int .i64 y11, .int .i64 y12, .int .i64 y13] 33 (0, 0))]) (ds := []) #[false, false, false, false, false, false, false, false, false] (by kernel_rfl) rfl rfl HW.out (fun hHeld => ?_); refine with_tabW gr141_tab gr141_bits (fun HT_ HW_ => ?_)
                    have HW2 := Aside0.mk hHeld
                    clear HW
                    refine pure_ (i := 0) (N := some 141) (v := ?_) (a' := ?_) #[true, false, false, false, false, false, false, false, false] rfl rfl (any_of HT_.out (by kernel_rfl)) (fun _ _ _ h => h) (Or.inl ⟨by rfl, ?_⟩) ?_ ?_
                    rotate_left
                    · intro w'
                      go_simp
                      with_reducible rfl
                    rotate_left
                    · simp only [Act.put, List.setIfInBounds_toArray, List.set_cons_zero, List.set_cons_succ, i64_w, i32_w]
                      rfl
                    refine pure_ (i := 1) (N := some 142) (v := ?_) (a' := ?_) #[true, true, false, false, false, false, false, false, false] rfl rfl (any_of HT_.out (by kernel_rfl)) (fun _ _ _ h => h) (Or.inl ⟨by rfl, ?_⟩) ?_ ?_
                    rotate_left
                    · intro w'
                      go_simp
                      with_reducible rfl
                    rotate_left
                    · simp only [Act.put, List.setIfInBounds_toArray, List.set_cons_zero, List.set_cons_succ, i64_w, i32_w]
                      rfl
                    refine pure_ (i := 2) (N := some 143) (v := ?_) (a' := ?_) #[true, true, true, false, false, false, false, false, false] rfl rfl (any_of HT_.out (by kernel_rfl)) (fun _ _ _ h => h) (Or.inl ⟨by rfl, ?_⟩) ?_ ?_
                    rotate_left
                    · intro w'
                      go_simp
                      with_reducible rfl
                    rotate_left
                    · simp only [Act.put, List.setIfInBounds_toArray, List.set_cons_zero, List.set_cons_succ, i64_w, i32_w]
                      rfl
                    refine take_ (i := 3) (N := some 144) (v := ?_) (a' := ?_) #[true, true, true, true, false, false, false, false, false] rfl rfl (take_ofW HT_.out HW_.out (by kernel_rfl)) (fun _ _ _ h => h) (Or.inl ⟨by rfl, ?_⟩) hHeld ?_ ?_
                    rotate_left
                    · rintro w' s0
                      have p0 := told_cell (s0.pick [2]) i _ HGL.out 0 _ rfl; have p1 := told_cell (s0.pick [2]) i _ HGL.out 1 _ rfl; have p2 := told_cell (s0.pick [2]) i _ HGL.out 2 _ rfl; have p3 := told_cell (s0.pick [2]) i _ HGL.out 3 _ rfl; have p4 := told_cell (s0.pick [2]) i _ HGL.out 4 _ rfl; have p5 := told_cell (s0.pick [2]) i _ HGL.out 5 _ rfl; have p6 := told_cell (s0.pick [2]) i _ HGL.out 6 _ rfl; have p7 := told_cell (s0.pick [2]) i _ HGL.out 7 _ rfl; have p8 := told_cell (s0.pick [2]) i _ HGL.out 8 _ rfl; have p9 := told_cell (s0.pick [2]) i _ HGL.out 9 _ rfl; have p10 := told_cell (s0.pick [2]) i _ HGL.out 10 _ rfl; have p11 := told_cell (s0.pick [2]) i _ HGL.out 11 _ rfl; dsimp only at p0 p1 p2 p3 p4 p5 p6 p7 p8 p9 p10 p11; rw [Nat.add_zero] at p0
                      go_simp
                      with_reducible rfl
                    rotate_left
                    · simp only [Act.put, List.setIfInBounds_toArray, List.set_cons_zero, List.set_cons_succ, i64_w, i32_w]
                      rfl
                    refine pure_ (i := 4) (N := some 145) (v := ?_) (a' := ?_) #[true, true, true, true, true, false, false, false, false] rfl rfl (any_of HT_.out (by kernel_rfl)) (fun _ _ _ h => h) (Or.inl ⟨by rfl, ?_⟩) ?_ ?_
                    rotate_left
                    · intro w'
                      go_simp
                      with_reducible rfl
                    rotate_left
                    · simp only [Act.put, List.setIfInBounds_toArray, List.set_cons_zero, List.set_cons_succ, i64_w, i32_w]
                      rfl
                    refine pure_ (i := 5) (N := some 146) (v := ?_) (a' := ?_) #[true, true, true, true, true, true, false, false, false] rfl rfl (any_of HT_.out (by kernel_rfl)) (fun _ _ _ h => h) (Or.inl ⟨by rfl, ?_⟩) ?_ ?_
                    rotate_left
                    · intro w'
                      go_simp
                      with_reducible rfl
                    rotate_left
                    · simp only [Act.put, List.setIfInBounds_toArray, List.set_cons_zero, List.set_cons_succ, i64_w, i32_w]
                      rfl
                    refine pure_ (i := 6) (N := some 147) (v := ?_) (a' := ?_) #[true, true, true, true, true, true, true, false, false] rfl rfl (any_of HT_.out (by kernel_rfl)) (fun _ _ _ h => h) (Or.inl ⟨by rfl, ?_⟩) ?_ ?_
                    rotate_left
                    · intro w'
                      go_simp
                      with_reducible rfl
                    rotate_left
                    · simp only [Act.put, List.setIfInBounds_toArray, List.set_cons_zero, List.set_cons_succ, i64_w, i32_w]
                      rfl
                    refine take_ (i := 7) (N := some 148) (v := ?_) (a' := ?_) #[true, true, true, true, true, true, true, true, false] rfl rfl (take_ofW HT_.out HW_.out (by kernel_rfl)) (fun _ _ _ h => h) (Or.inl ⟨by rfl, ?_⟩) hHeld ?_ ?_
                    rotate_left
                    · rintro w' s0
                      have p0 := told_cell (s0.pick [6]) i _ HGI.out 0 _ rfl; have p1 := told_cell (s0.pick [6]) i _ HGI.out 1 _ rfl; have p2 := told_cell (s0.pick [6]) i _ HGI.out 2 _ rfl; have p3 := told_cell (s0.pick [6]) i _ HGI.out 3 _ rfl; have p4 := told_cell (s0.pick [6]) i _ HGI.out 4 _ rfl; have p5 := told_cell (s0.pick [6]) i _ HGI.out 5 _ rfl; have p6 := told_cell (s0.pick [6]) i _ HGI.out 6 _ rfl; have p7 := told_cell (s0.pick [6]) i _ HGI.out 7 _ rfl; have p8 := told_cell (s0.pick [6]) i _ HGI.out 8 _ rfl; have p9 := told_cell (s0.pick [6]) i _ HGI.out 9 _ rfl; have p10 := told_cell (s0.pick [6]) i _ HGI.out 10 _ rfl; have p11 := told_cell (s0.pick [6]) i _ HGI.out 11 _ rfl; dsimp only at p0 p1 p2 p3 p4 p5 p6 p7 p8 p9 p10 p11; rw [Nat.add_zero] at p0
                      go_simp
                      with_reducible rfl
                    rotate_left
                    · simp only [Act.put, List.setIfInBounds_toArray, List.set_cons_zero, List.set_cons_succ, i64_w, i32_w]
                      rfl
                    refine pure_ (i := 8) (N := some 149) (v := ?_) (a' := ?_) #[true, true, true, true, true, true, true, true, true] rfl rfl (any_of HT_.out (by kernel_rfl)) (fun _ _ _ h => h) (Or.inl ⟨by rfl, ?_⟩) ?_ ?_
                    rotate_left
                    · intro w'
                      go_simp
                      with_reducible rfl
                    rotate_left
                    · simp only [Act.put, List.setIfInBounds_toArray, List.set_cons_zero, List.set_cons_succ, i64_w, i32_w]
                      rfl
                    refine done_ (done_of HT_.out (by kernel_rfl)) ?_
                    go_wp2
                    go_roundw
                    case rel => exact ⟨i + 1, by omega, by first | rfl | go_num, HW2⟩
                    case measure => first | (simp [RowKit.intOf]; done) | (simp [RowKit.intOf]; omega)
                  · have hi2 : i = la.length := by omega
                    subst hi2
                    have HI2 := HI
                    clear HI
                    go_wp2
                    go_loopw [23] (fun v23 ws => ∃ i : Nat, i ≤ lb.length ∧ v23 = .int .i64 i ∧ Aside0 (Own w ws [Row k48 48 (.slice A6 hl.length d6) hl, Tr ga ss', Row k46 46 (.slice A5 gl.length d5) gl, Row k48 48 (.slice A4 ld.length d4) ld, Row k46 46 (.slice A3 lc.length d3) lc, Row k48 48 (.slice A2 lb.length d2) lb, Row k46 46 (.slice A1 la.length d1) la, Blk gb (.cells #[.int .i64 y0, .int .i64 y1, .int .i64 y2, .int .i64 y3, .slice YA yl.length Yc, .int .i64 y5, .int .i64 y6, .int .i64 y7, .int .u8 y8, .string y9, .int .i64 y10, .int .i64 y11, .int .i64 y12, .int .i64 y13] 33 (0, 0))])) (fun v23 _ => lb.length - (RowKit.intOf v23).toNat)
                    case atStart => exact ⟨0, Nat.zero_le _, rfl, HI2⟩
                    case round => as_aux_lemma =>
                      obtain ⟨i, hi, rfl, HI⟩ := hrel
                      by_cases hlt2 : i < lb.length
                      · have hgi := List.getElem?_eq_getElem hlt2
                        generalize lb[i] = y at hgi
                        have HGI := Aside0.mk hgi
                        have HGL := Aside0.mk (LGB.out i y hgi)
                        have hltL : i < hl.length := (List.getElem?_eq_some_iff.1 HGL.out).1
                        have hpos : 0 < lb.length := by omega
                        have hposL : 0 < hl.length := by omega
                        obtain ⟨b1, g1, e1⟩ := row_form' (HI.out.pick [0]) hposL
                        cases e1
                        obtain ⟨b2, g2, e2⟩ := row_form' (HI.out.pick [5]) hpos
                        cases e2
                        obtain ⟨⟨x0, x1, x2, x3, x4, x5, x6, x7⟩, x8⟩ := y
                        have hf1 := add_at b1
                        have hf2 := add_at b2
                        have hne := neqA x0 x1 x2 x3 x4 x5 x6 x7 x8
                        clear hgi hpos hposL
                        have HW := Aside0.mk HI.out.drew
                        go_wp2
                        refine start_ (n := 9) (S := fun w' => Own w w' [Row k48 48 (.slice (some ⟨b1, 0, none⟩) hl.length d6) hl, Tr ga ss', Row k46 46 (.slice A5 gl.length d5) gl, Row k48 48 (.slice A4 ld.length d4) ld, Row k46 46 (.slice A3 lc.length d3) lc, Row k48 48 (.slice (some ⟨b2, 0, none⟩) lb.length d2) lb, Row k46 46 (.slice A1 la.length d1) la, Blk gb (.cells #[.int .i64 y0, .int .i64 y1, .int .i64 y2, .int .i64 y3, .slice YA yl.length Yc, .int .i64 y5, .int .i64 y6, .int .i64 y7, .int .u8 y8, .string y9, .int .i64 y10, .int .i64 y11, .int .i64 y12, .int .i64 y13] 33 (0, 0))]) (ds := []) #[false, false, false, false, false, false, false, false, false] (by kernel_rfl) rfl rfl HW.out (fun hHeld => ?_); refine with_tabW gr156_tab gr156_bits (fun HT_ HW_ => ?_)
                        have HW2 := Aside0.mk hHeld
                        clear HW
                        refine pure_ (i := 0) (N := some 156) (v := ?_) (a' := ?_) #[true, false, false, false, false, false, false, false, false] rfl rfl (any_of HT_.out (by kernel_rfl)) (fun _ _ _ h => h) (Or.inl ⟨by rfl, ?_⟩) ?_ ?_
                        rotate_left
                        · intro w'
                          go_simp
                          with_reducible rfl
                        rotate_left
                        · simp only [Act.put, List.setIfInBounds_toArray, List.set_cons_zero, List.set_cons_succ, i64_w, i32_w]
                          rfl
                        refine pure_ (i := 1) (N := some 157) (v := ?_) (a' := ?_) #[true, true, false, false, false, false, false, false, false] rfl rfl (any_of HT_.out (by kernel_rfl)) (fun _ _ _ h => h) (Or.inl ⟨by rfl, ?_⟩) ?_ ?_
                        rotate_left
                        · intro w'
                          go_simp
                          with_reducible rfl
                        rotate_left
                        · simp only [Act.put, List.setIfInBounds_toArray, List.set_cons_zero, List.set_cons_succ, i64_w, i32_w]
                          rfl
                        refine pure_ (i := 2) (N := some 158) (v := ?_) (a' := ?_) #[true, true, true, false, false, false, false, false, false] rfl rfl (any_of HT_.out (by kernel_rfl)) (fun _ _ _ h => h) (Or.inl ⟨by rfl, ?_⟩) ?_ ?_
                        rotate_left
                        · intro w'
                          go_simp
                          with_reducible rfl
                        rotate_left
                        · simp only [Act.put, List.setIfInBounds_toArray, List.set_cons_zero, List.set_cons_succ, i64_w, i32_w]
                          rfl
                        refine take_ (i := 3) (N := some 159) (v := ?_) (a' := ?_) #[true, true, true, true, false, false, false, false, false] rfl rfl (take_ofW HT_.out HW_.out (by kernel_rfl)) (fun _ _ _ h => h) (Or.inl ⟨by rfl, ?_⟩) hHeld ?_ ?_
                        rotate_left
                        · rintro w' s0
                          have p0 := app_cell (s0.pick [0]) i _ HGL.out 0 _ rfl; have p1 := app_cell (s0.pick [0]) i _ HGL.out 1 _ rfl; have p2 := app_cell (s0.pick [0]) i _ HGL.out 2 _ rfl; have p3 := app_cell (s0.pick [0]) i _ HGL.out 3 _ rfl; have p4 := app_cell (s0.pick [0]) i _ HGL.out 4 _ rfl; have p5 := app_cell (s0.pick [0]) i _ HGL.out 5 _ rfl; have p6 := app_cell (s0.pick [0]) i _ HGL.out 6 _ rfl; have p7 := app_cell (s0.pick [0]) i _ HGL.out 7 _ rfl; have p8 := app_cell (s0.pick [0]) i _ HGL.out 8 _ rfl; dsimp only at p0 p1 p2 p3 p4 p5 p6 p7 p8; rw [Nat.add_zero] at p0
                          go_simp
                          with_reducible rfl
                        rotate_left
                        · simp only [Act.put, List.setIfInBounds_toArray, List.set_cons_zero, List.set_cons_succ, i64_w, i32_w]
                          rfl
                        refine pure_ (i := 4) (N := some 160) (v := ?_) (a' := ?_) #[true, true, true, true, true, false, false, false, false] rfl rfl (any_of HT_.out (by kernel_rfl)) (fun _ _ _ h => h) (Or.inl ⟨by rfl, ?_⟩) ?_ ?_
                        rotate_left
                        · intro w'
                          go_simp
                          with_reducible rfl
                        rotate_left
                        · simp only [Act.put, List.setIfInBounds_toArray, List.set_cons_zero, List.set_cons_succ, i64_w, i32_w]
                          rfl
                        refine pure_ (i := 5) (N := some 161) (v := ?_) (a' := ?_) #[true, true, true, true, true, true, false, false, false] rfl rfl (any_of HT_.out (by kernel_rfl)) (fun _ _ _ h => h) (Or.inl ⟨by rfl, ?_⟩) ?_ ?_
                        rotate_left
                        · intro w'
                          go_simp
                          with_reducible rfl
                        rotate_left
                        · simp only [Act.put, List.setIfInBounds_toArray, List.set_cons_zero, List.set_cons_succ, i64_w, i32_w]
                          rfl
                        refine pure_ (i := 6) (N := some 162) (v := ?_) (a' := ?_) #[true, true, true, true, true, true, true, false, false] rfl rfl (any_of HT_.out (by kernel_rfl)) (fun _ _ _ h => h) (Or.inl ⟨by rfl, ?_⟩) ?_ ?_
                        rotate_left
                        · intro w'
                          go_simp
                          with_reducible rfl
                        rotate_left
                        · simp only [Act.put, List.setIfInBounds_toArray, List.set_cons_zero, List.set_cons_succ, i64_w, i32_w]
                          rfl
                        refine take_ (i := 7) (N := some 163) (v := ?_) (a' := ?_) #[true, true, true, true, true, true, true, true, false] rfl rfl (take_ofW HT_.out HW_.out (by kernel_rfl)) (fun _ _ _ h => h) (Or.inl ⟨by rfl, ?_⟩) hHeld ?_ ?_
                        rotate_left
                        · rintro w' s0
                          have p0 := app_cell (s0.pick [5]) i _ HGI.out 0 _ rfl; have p1 := app_cell (s0.pick [5]) i _ HGI.out 1 _ rfl; have p2 := app_cell (s0.pick [5]) i _ HGI.out 2 _ rfl; have p3 := app_cell (s0.pick [5]) i _ HGI.out 3 _ rfl; have p4 := app_cell (s0.pick [5]) i _ HGI.out 4 _ rfl; have p5 := app_cell (s0.pick [5]) i _ HGI.out 5 _ rfl; have p6 := app_cell (s0.pick [5]) i _ HGI.out 6 _ rfl; have p7 := app_cell (s0.pick [5]) i _ HGI.out 7 _ rfl; have p8 := app_cell (s0.pick [5]) i _ HGI.out 8 _ rfl; dsimp only at p0 p1 p2 p3 p4 p5 p6 p7 p8; rw [Nat.add_zero] at p0
                          go_simp
                          with_reducible rfl
                        rotate_left
                        · simp only [Act.put, List.setIfInBounds_toArray, List.set_cons_zero, List.set_cons_succ, i64_w, i32_w]
                          rfl
                        refine pure_ (i := 8) (N := some 164) (v := ?_) (a' := ?_) #[true, true, true, true, true, true, true, true, true] rfl rfl (any_of HT_.out (by kernel_rfl)) (fun _ _ _ h => h) (Or.inl ⟨by rfl, ?_⟩) ?_ ?_
                        rotate_left
                        · intro w'
                          go_simp
                          with_reducible rfl
                        rotate_left
                        · simp only [Act.put, List.setIfInBounds_toArray, List.set_cons_zero, List.set_cons_succ, i64_w, i32_w]
                          rfl
                        refine done_ (done_of HT_.out (by kernel_rfl)) ?_
                        go_wp2
                        go_roundw
                        case rel => exact ⟨i + 1, by omega, by first | rfl | go_num, HW2⟩
                        case measure => first | (simp [RowKit.intOf]; done) | (simp [RowKit.intOf]; omega)
                      · have hi2 : i = lb.length := by omega
                        subst hi2
                        by_cases po : y1 = other
                        · have qo : (y1 == other) = true := beq_iff_eq.mpr po
                          have qo2 : (y1 != other) = false := by simp [bne, qo]
                          clear po
                          have z1 := (blk_cell (HI.out.get 7 rfl).1 1).trans rfl
                          go_wp2
                          go_roundw
                          case rel => exact ⟨k + 1, by omega, by first | rfl | go_num, ⟨by rw [S1.out]; exact HI.out.pick [1]⟩⟩
                          case measure => first | (simp [RowKit.intOf]; done) | (simp [RowKit.intOf]; omega)
                        · have qo : (y1 == other) = false := beq_eq_false_iff_ne.mpr po
                          have qo2 : (y1 != other) = true := by simp [bne, qo]
                          obtain ⟨o1, o2, p1, p2, k1, k2⟩ := GO.out
                          have r1 : o1 = [] := List.length_eq_zero_iff.1 (by rw [k1, if_neg (fun h => po h.1.symm)])
                          have r2 : o2 = [] := List.length_eq_zero_iff.1 (by rw [k2, if_neg (fun h => po h.1.symm)])
                          rw [r1, List.append_nil] at p1
                          rw [r2, List.append_nil] at p2
                          have EC2 := Aside0.mk p1
                          have ED2 := Aside0.mk p2
                          have z1 := (blk_cell (HI.out.get 7 rfl).1 1).trans rfl
                          clear po p1 p2 k1 k2 r1 r2
                          go_wp2_with (first
                            | (go_at_call 11; ((with_reducible refine (TrOutsE HI.out.r1 other lc lc.length EC2.out rfl NC.out).mono ?_)); rintro e w11 ⟨A7, d7, rfl, h⟩; have H11 := Aside0.mk h; clear h)
                            | (go_at_call 12; ((with_reducible refine (TrItemsE H11.out.r1 other ld ld.length ED2.out rfl ND.out).mono ?_)); rintro e w12 ⟨A8, d8, rfl, h⟩; have H12 := Aside0.mk h; clear h))
                          go_roundw
                          case rel => exact ⟨k + 1, by omega, by first | rfl | go_num, ⟨by rw [S1.out]; exact H12.out.pick [1]⟩⟩
                          case measure => first | (simp [RowKit.intOf]; done) | (simp [RowKit.intOf]; omega)

    · have hk' : k = l.length := by omega
      subst hk'
      go_wp2
      go_ret
      exact ⟨rfl, HO.out.bel⟩
theorem TraceGrows_law (m : Int) (A : Option Addr) (c : Nat) (l : List S33) (part other : Int) (w : World) (hm : (Lit.int .u8 m).wf = true) (hr : Kd.C k33 w A l.length l) (hc : l.length ≤ c) (hq : l.length ≤ 9223372036854775807 ∧ ∀ x ∈ l, Q33 x) (hwp : (Lit.int .i64 part).wf = true) (hwo : (Lit.int .i64 other).wf = true) :
    Calls Try.prog 3 #[.int .u8 m, .slice A l.length c, .int .i64 part, .int .i64 other] w fun e w' => e = .returned (.bool true) ∧ Below w.heap.size w w' := by
  have hm2 : 0 ≤ m ∧ m ≤ 255 := by simpa [Lit.wf, IntKind.min, IntKind.max, IntKind.signed, IntKind.bits] using hm
  obtain ⟨k, rfl⟩ := Int.eq_ofNat_of_zero_le hm2.1
  obtain ⟨r, hg, h5⟩ := great_f l
  cases r with
  | true => exact TraceGrows_great k (by omega) A c l part other w hr hc hg
  | false => exact TraceGrows_small k (by omega) A c l part other w hr hc hg (h5 rfl) _ rfl
end Go.Proofs.Ytglccegihffndaa.PTracePlays
