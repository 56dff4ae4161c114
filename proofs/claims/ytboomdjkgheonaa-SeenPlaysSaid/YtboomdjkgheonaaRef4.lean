/- Items that were seen: the document's Of. -/
import Derived.Test.YtboomdjkgheonaaRef3
namespace Go.Proofs.Ytboomdjkgheonaa.PSeenPlays
open Go.RowKit Go.Proofs.YtboomdjkgheonaaW.PrintWords Go.Proofs.YtboomdjkgheonaaW.PrintLast Go.Proofs.YtboomdjkgheonaaW.PrintMore
open Go.Proofs.YtboomdjkgheonaaO
attribute [local go_sem] max2_int min2_int max_two min_two max_three min_three max_four min_four
set_option linter.unusedVariables false
set_option linter.unusedSimpArgs false
def cvE (x : S71) : S33 := ⟨x.f0, x.f1, x.f2⟩
theorem ref_at {w v : World} {ad : Addr} {n : Nat} {l : List S71} (hr : Kd.C k71 w (some ad) n l) (hb : Below w.heap.size w v) (k : Nat) (hk : k < n) (f0 f1 f2 : Int) (hx : l[k]? = some ⟨f0, f1, f2⟩) :
    v.cell? (ad.add (k * 3)) = some (.int .i64 f0) ∧ v.cell? ⟨(ad.add (k * 3)).block, (ad.add (k * 3)).off + 1, none⟩ = some (.int .i64 f1) ∧ v.cell? ⟨(ad.add (k * 3)).block, (ad.add (k * 3)).off + 2, none⟩ = some (.int .i64 f2) := by
  obtain ⟨ad', e, h0, h1, h2⟩ := at_T71 hr (k : Int) (by omega) (by omega)
  cases e
  have hrd : rd_T71 l (k : Int) = ⟨f0, f1, f2⟩ := by unfold rd_T71; rw [Int.toNat_natCast, List.getD_eq_getElem?_getD, hx]; rfl
  rw [hrd, Int.toNat_natCast] at h0 h1 h2
  have hlt : (ad.add (k * 3)).block < w.heap.size := World.block_lt_of_cell? w _ h0
  exact ⟨(hb.cell hlt).trans h0, (hb.cell (p := ⟨_, _, none⟩) hlt).trans h1, (hb.cell (p := ⟨_, _, none⟩) hlt).trans h2⟩
theorem map_at {l : List S71} {i : Nat} {x : S71} (hx : l[i]? = some x) : (l.map cvE)[i]? = some (cvE x) := by rw [List.getElem?_map, hx]; rfl
theorem ofLoP_step {lows : List Int} (i : Nat) (x : Int) (hx : lows[i]? = some x) : setLo (ofLoP lows i) i x = ofLoP lows (i + 1) := funext fun j => by
  unfold setLo ofLoP
  by_cases e : j = i
  · subst e
    rw [if_pos rfl, if_pos (by omega), List.getD_eq_getElem?_getD, hx]
    rfl
  · rw [if_neg e]
    by_cases e2 : j < i
    · rw [if_pos e2, if_pos (by omega)]
    · rw [if_neg e2, if_neg (by omega)]
section
variable {w0 w w' : World} {R : List Asn}
set_option maxHeartbeats 8000000 in
set_option maxRecDepth 100000 in
theorem RefOf_ne (h : Own w0 w R) (A : Option Addr) (c : Nat) (lows : List Int) (B : Option Addr) (d : Nat) (l : List S71) (hr : Kd.C (Kd.int .i64) w0 A lows.length lows) (hs : Kd.C k71 w0 B l.length l) (hl : l.length ≤ 1000000) (h4 : lows.length ≠ 4) :
    Calls Try.prog 17 #[.slice A lows.length c, .slice B l.length d] w fun e w' => ∃ A' c', e = .returned (.tuple #[.agg #[.int .i64 1, .int .i64 1, .int .i64 1, .int .i64 1, .slice A' 0 c'], .int .i64 1]) ∧ Own w0 w' (Row k71 71 (.slice A' 0 c') [] :: R) := by
  have HR := Aside0.mk hr
  have HS := Aside0.mk hs
  have H := Aside0.mk h
  clear hr hs h
  have e4 : ((lows.length : Int) == 4) = false := beq_eq_false_iff_ne.mpr (by omega)
  go_enter Try.func17, Try.ntmps17
  go_upto_region 2 with (first
    | ((with_reducible refine gate_dst (N := 4) rfl ?_); refine box_event ?hg (N := 4) ?hd (cs := #[.int .i64 0, .int .i64 0, .int .i64 0, .int .i64 0, .slice none 0 0]) (t := 49) ?hr ?_; (case hd => rfl); (case hg => rfl); (case hr => first | (go_simp; done) | (go_simp; rfl)); intro gr hg W1 hbox hbb; have H1 := Aside0.mk (H.out.box hg hbox hbb); clear hg hbb hbox; skip)
    | (go_at_call 30; ((with_reducible refine (meterref11_New.calls 1 1 1 1 [] W1 rfl).mono ?_)); rintro e w2 ⟨v2, rfl, hr2, hb2⟩; have h2 := H1.out.row_new hb2 hr2; obtain ⟨As, cs, e2, _, _⟩ := h2.row_reads; subst e2; have H2 := Aside0.mk h2; clear hr2 hb2 h2)
    | ((with_reducible refine gate_dst (N := 6) rfl ?_); refine box_event ?hg (N := 6) ?hd (cs := #[.int .i64 0, .int .i64 0, .int .i64 0, .int .i64 0, .slice none 0 0]) (t := 49) ?hr ?_; (case hd => rfl); (case hg => rfl); (case hr => first | (go_simp; done) | (go_simp; rfl)); intro gs hg W3 hbox hbb; have H3 := Aside0.mk (H2.out.box hg hbox hbb); clear hg hbb hbox; have s0 := blk_frozen H3.out.at0 0; have s1 := blk_frozen H3.out.at0 1; have s2 := blk_frozen H3.out.at0 2; have s3 := blk_frozen H3.out.at0 3; have s4 := blk_frozen H3.out.at0 4; have t0 := (blk_cell H3.out.at0 0).trans rfl; have t1 := (blk_cell H3.out.at0 1).trans rfl; have t2 := (blk_cell H3.out.at0 2).trans rfl; have t3 := (blk_cell H3.out.at0 3).trans rfl; have t4 := (blk_cell H3.out.at0 4).trans rfl))
  have h4 := (((((H3.out.set 0 (.int .i64 1)).set 1 (.int .i64 1)).set 2 (.int .i64 1)).set 3 (.int .i64 1)).set 4 (.slice As 0 cs)).r2
  generalize World.setCell _ _ _ = W4 at h4 ⊢
  have H4 : Aside0 (Own w0 W4 (Blk gs (.cells #[.int .i64 ((fun _ => (1 : Int)) 0), .int .i64 ((fun _ => (1 : Int)) 1), .int .i64 ((fun _ => (1 : Int)) 2), .int .i64 ((fun _ => (1 : Int)) 3), .slice As 0 cs] 49 (0, 0)) :: Blk gr (.cells #[.int .i64 0, .int .i64 0, .int .i64 0, .int .i64 0, .slice none 0 0] 49 (0, 0)) :: Row k71 71 (.slice As 0 cs) [] :: R)) := ⟨h4.r1⟩
  clear h4 s0 s1 s2 s3 s4 t0 t1 t2 t3 t4
  have y0 := (blk_cell H4.out.at0 0).trans rfl; have y1 := (blk_cell H4.out.at0 1).trans rfl; have y2 := (blk_cell H4.out.at0 2).trans rfl; have y3 := (blk_cell H4.out.at0 3).trans rfl; have y4 := (blk_cell H4.out.at0 4).trans rfl; have f0 := blk_frozen H4.out.at1 0; have q0 := (blk_cell H4.out.at1 0).trans rfl; have f1 := blk_frozen H4.out.at1 1; have q1 := (blk_cell H4.out.at1 1).trans rfl; have f2 := blk_frozen H4.out.at1 2; have q2 := (blk_cell H4.out.at1 2).trans rfl; have f3 := blk_frozen H4.out.at1 3; have q3 := (blk_cell H4.out.at1 3).trans rfl; have f4 := blk_frozen H4.out.at1 4; have q4 := (blk_cell H4.out.at1 4).trans rfl
  go_wp2
  have H5 := Aside0.mk (((((H4.out.r1.set 0 (.int .i64 1)).set 1 (.int .i64 1)).set 2 (.int .i64 1)).set 3 (.int .i64 1)).set 4 (.slice As 0 cs))
  refine bodyPost_ret (v := .tuple #[.agg #[.int .i64 1, .int .i64 1, .int .i64 1, .int .i64 1, .slice As 0 cs], .int .i64 1]) (results_ct rfl _ _ gr 49 #[.int .i64 1, .int .i64 1, .int .i64 1, .int .i64 1, .slice As 0 cs] (0, 0) _ rfl H5.out.at0 Try.underlying49 rfl (by kernel_rfl) _ rfl) rfl ?_
  exact ⟨As, cs, rfl, H5.out.tail.tail⟩
set_option maxHeartbeats 8000000 in
set_option maxRecDepth 100000 in
theorem RefOf_4 (h : Own w0 w R) (A : Option Addr) (c : Nat) (lows : List Int) (B : Option Addr) (d : Nat) (l : List S71) (hr : Kd.C (Kd.int .i64) w0 A lows.length lows) (hs : Kd.C k71 w0 B l.length l) (hl : l.length ≤ 1000000) (hq : ∀ x ∈ l, wfI x.f1) (h4 : lows.length = 4) :
    Calls Try.prog 17 #[.slice A lows.length c, .slice B l.length d] w fun e w' => (OfOk lows (l.map cvE) ∧ ∃ A' c', e = .returned (.tuple #[.agg #[.int .i64 ((lowsF lows) 0), .int .i64 ((lowsF lows) 1), .int .i64 ((lowsF lows) 2), .int .i64 ((lowsF lows) 3), .slice A' l.length c'], .int .i64 0]) ∧ Own w0 w' (Row k71 71 (.slice A' l.length c') l :: R)) ∨ (¬ OfOk lows (l.map cvE) ∧ ∃ A' c', e = .returned (.tuple #[.agg #[.int .i64 1, .int .i64 1, .int .i64 1, .int .i64 1, .slice A' 0 c'], .int .i64 1]) ∧ Own w0 w' (Row k71 71 (.slice A' 0 c') [] :: R)) := by
  have HR := Aside0.mk hr
  have HS := Aside0.mk hs
  have H := Aside0.mk h
  clear hr hs h
  have HH := Aside0.mk h4
  have HQ := Aside0.mk hq
  clear hq
  have e4 : ((lows.length : Int) == 4) = true := by rw [h4]; rfl
  rw [h4]
  clear h4
  go_enter Try.func17, Try.ntmps17
  go_upto_region 2 with (first
    | ((with_reducible refine gate_dst (N := 4) rfl ?_); refine box_event ?hg (N := 4) ?hd (cs := #[.int .i64 0, .int .i64 0, .int .i64 0, .int .i64 0, .slice none 0 0]) (t := 49) ?hr ?_; (case hd => rfl); (case hg => rfl); (case hr => first | (go_simp; done) | (go_simp; rfl)); intro gr hg W1 hbox hbb; have H1 := Aside0.mk (H.out.box hg hbox hbb); clear hg hbb hbox; skip)
    | (go_at_call 30; ((with_reducible refine (meterref11_New.calls 1 1 1 1 [] W1 rfl).mono ?_)); rintro e w2 ⟨v2, rfl, hr2, hb2⟩; have h2 := H1.out.row_new hb2 hr2; obtain ⟨As, cs, e2, _, _⟩ := h2.row_reads; subst e2; have H2 := Aside0.mk h2; clear hr2 hb2 h2)
    | ((with_reducible refine gate_dst (N := 6) rfl ?_); refine box_event ?hg (N := 6) ?hd (cs := #[.int .i64 0, .int .i64 0, .int .i64 0, .int .i64 0, .slice none 0 0]) (t := 49) ?hr ?_; (case hd => rfl); (case hg => rfl); (case hr => first | (go_simp; done) | (go_simp; rfl)); intro gs hg W3 hbox hbb; have H3 := Aside0.mk (H2.out.box hg hbox hbb); clear hg hbb hbox; have s0 := blk_frozen H3.out.at0 0; have s1 := blk_frozen H3.out.at0 1; have s2 := blk_frozen H3.out.at0 2; have s3 := blk_frozen H3.out.at0 3; have s4 := blk_frozen H3.out.at0 4; have t0 := (blk_cell H3.out.at0 0).trans rfl; have t1 := (blk_cell H3.out.at0 1).trans rfl; have t2 := (blk_cell H3.out.at0 2).trans rfl; have t3 := (blk_cell H3.out.at0 3).trans rfl; have t4 := (blk_cell H3.out.at0 4).trans rfl))
  have h4 := (((((H3.out.set 0 (.int .i64 1)).set 1 (.int .i64 1)).set 2 (.int .i64 1)).set 3 (.int .i64 1)).set 4 (.slice As 0 cs)).r2
  generalize World.setCell _ _ _ = W4 at h4 ⊢
  have H4 : Aside0 (Own w0 W4 (Blk gs (.cells #[.int .i64 ((fun _ => (1 : Int)) 0), .int .i64 ((fun _ => (1 : Int)) 1), .int .i64 ((fun _ => (1 : Int)) 2), .int .i64 ((fun _ => (1 : Int)) 3), .slice As 0 cs] 49 (0, 0)) :: Blk gr (.cells #[.int .i64 0, .int .i64 0, .int .i64 0, .int .i64 0, .slice none 0 0] 49 (0, 0)) :: Row k71 71 (.slice As 0 cs) [] :: R)) := ⟨h4.r1⟩
  clear h4 s0 s1 s2 s3 s4 t0 t1 t2 t3 t4

  go_wp2
  clear e4
  go_loopw [7] (fun v7 wr => ∃ i : Nat, i ≤ 4 ∧ v7 = .int .i64 i ∧ Aside0 (∀ j x, j < i → lows[j]? = some x → okLow x) ∧ Aside0 (Own w0 wr (Blk gs (.cells #[.int .i64 ((ofLoP lows i) 0), .int .i64 ((ofLoP lows i) 1), .int .i64 ((ofLoP lows i) 2), .int .i64 ((ofLoP lows i) 3), .slice As 0 cs] 49 (0, 0)) :: Blk gr (.cells #[.int .i64 0, .int .i64 0, .int .i64 0, .int .i64 0, .slice none 0 0] 49 (0, 0)) :: Row k71 71 (.slice As 0 cs) [] :: R))) (fun v7 _ => 4 - (RowKit.intOf v7).toNat)
  case atStart => exact ⟨0, by decide, rfl, ⟨fun j x hj => absurd hj (by omega)⟩, H4⟩
  case round =>
    obtain ⟨i, hi, rfl, HK, HO⟩ := hrel
    by_cases hlt : i < 4
    · have hgx := List.getElem?_eq_getElem (show i < lows.length by rw [HH.out]; exact hlt)
      obtain ⟨x, hx⟩ : ∃ x, lows[i]'(by rw [HH.out]; exact hlt) = x := ⟨_, rfl⟩
      rw [hx] at hgx
      have HGX := Aside0.mk hgx
      obtain ⟨ad, rfl, hcell⟩ := int_at (Kd.C_below HR.out HO.out.bel) i x hgx
      clear hgx hx
      have i1 : (i : Int) < 4 := by omega
      by_cases c0 : x < 1
      · have d0 : decide (x < 1) = true := decide_eq_true c0
        have HNO := Aside0.mk (show ¬ okLow x from fun q => by have := q.1; omega)
        clear c0
        have HF := HO
        go_wp2_with ((go_at_call 30; ((with_reducible refine (meterref11_New.calls 1 1 1 1 [] _ rfl).mono ?_)); rintro e w9 ⟨v9, rfl, hr9, hb9⟩; have h9 := (HF.out.row_new hb9 hr9).r2; obtain ⟨A9, c9, e9, _, _⟩ := h9.r1.row_reads; subst e9; have H9 := Aside0.mk h9; clear hr9 hb9 h9; have f0 := blk_frozen H9.out.at0 0; have q0 := (blk_cell H9.out.at0 0).trans rfl; have f1 := blk_frozen H9.out.at0 1; have q1 := (blk_cell H9.out.at0 1).trans rfl; have f2 := blk_frozen H9.out.at0 2; have q2 := (blk_cell H9.out.at0 2).trans rfl; have f3 := blk_frozen H9.out.at0 3; have q3 := (blk_cell H9.out.at0 3).trans rfl; have f4 := blk_frozen H9.out.at0 4; have q4 := (blk_cell H9.out.at0 4).trans rfl))
        have H10 := Aside0.mk (((((H9.out.set 0 (.int .i64 1)).set 1 (.int .i64 1)).set 2 (.int .i64 1)).set 3 (.int .i64 1)).set 4 (.slice A9 0 c9))
        refine bodyPost_ret (v := .tuple #[.agg #[.int .i64 1, .int .i64 1, .int .i64 1, .int .i64 1, .slice A9 0 c9], .int .i64 1]) (results_ct rfl _ _ gr 49 #[.int .i64 1, .int .i64 1, .int .i64 1, .int .i64 1, .slice A9 0 c9] (0, 0) _ rfl H10.out.at0 Try.underlying49 rfl (by kernel_rfl) _ rfl) rfl ?_
        exact .inr ⟨fun q => HNO.out (q.2.1 x (List.mem_of_getElem? HGX.out)), A9, c9, rfl, H10.out.tail.drop1.drop1⟩
      · have d0 : decide (x < 1) = false := decide_eq_false c0
        by_cases c1 : x > 1099511627776
        · have d1 : decide (x > 1099511627776) = true := decide_eq_true c1
          have d1b : decide (1099511627776 < x) = true := decide_eq_true c1
          have HNO := Aside0.mk (show ¬ okLow x from fun q => by have := q.2; omega)
          clear c1 c0
          have HF := HO
          go_wp2_with ((go_at_call 30; ((with_reducible refine (meterref11_New.calls 1 1 1 1 [] _ rfl).mono ?_)); rintro e w9 ⟨v9, rfl, hr9, hb9⟩; have h9 := (HF.out.row_new hb9 hr9).r2; obtain ⟨A9, c9, e9, _, _⟩ := h9.r1.row_reads; subst e9; have H9 := Aside0.mk h9; clear hr9 hb9 h9; have f0 := blk_frozen H9.out.at0 0; have q0 := (blk_cell H9.out.at0 0).trans rfl; have f1 := blk_frozen H9.out.at0 1; have q1 := (blk_cell H9.out.at0 1).trans rfl; have f2 := blk_frozen H9.out.at0 2; have q2 := (blk_cell H9.out.at0 2).trans rfl; have f3 := blk_frozen H9.out.at0 3; have q3 := (blk_cell H9.out.at0 3).trans rfl; have f4 := blk_frozen H9.out.at0 4; have q4 := (blk_cell H9.out.at0 4).trans rfl))
          have H10 := Aside0.mk (((((H9.out.set 0 (.int .i64 1)).set 1 (.int .i64 1)).set 2 (.int .i64 1)).set 3 (.int .i64 1)).set 4 (.slice A9 0 c9))
          refine bodyPost_ret (v := .tuple #[.agg #[.int .i64 1, .int .i64 1, .int .i64 1, .int .i64 1, .slice A9 0 c9], .int .i64 1]) (results_ct rfl _ _ gr 49 #[.int .i64 1, .int .i64 1, .int .i64 1, .int .i64 1, .slice A9 0 c9] (0, 0) _ rfl H10.out.at0 Try.underlying49 rfl (by kernel_rfl) _ rfl) rfl ?_
          exact .inr ⟨fun q => HNO.out (q.2.1 x (List.mem_of_getElem? HGX.out)), A9, c9, rfl, H10.out.tail.drop1.drop1⟩
        · have d1 : decide (x > 1099511627776) = false := decide_eq_false c1
          have d1b : decide (1099511627776 < x) = false := decide_eq_false c1
          have HKX : Aside0 (okLow x) := ⟨⟨by omega, by omega⟩⟩
          have f := blk_frozen HO.out.at0 i
          have z := four_cell HO.out.at0 i hlt
          have H5 := Aside0.mk (gs_set HO.out i hlt x)
          clear c0 c1
          go_wp2
          go_roundw
          case rel =>
            refine ⟨i + 1, by omega, by first | rfl | go_num, ⟨fun j y hj hy => ?_⟩, ⟨by rw [← ofLoP_step i x HGX.out]; exact H5.out⟩⟩
            by_cases e : j = i
            · subst e
              obtain rfl := Option.some.inj (HGX.out.symm.trans hy)
              exact HKX.out
            · exact HK.out j y (by omega) hy
          case measure => first | (simp [RowKit.intOf]; done) | (simp [RowKit.intOf]; omega)
    · obtain rfl : i = 4 := by omega
      have HLO : Aside0 (∀ x ∈ lows, okLow x) := ⟨fun x hx => by
        obtain ⟨j, hj⟩ := List.getElem?_of_mem hx
        exact HK.out j x (by have := (List.getElem?_eq_some_iff.1 hj).1; have := HH.out; omega) hj⟩
      have HLW : Aside0 (∀ n, n < 4 → okLow (lowsF lows n)) := ⟨fun n hn => by
        unfold lowsF
        rw [List.getD_eq_getElem?_getD, List.getElem?_eq_getElem (show n < lows.length by rw [HH.out]; exact hn)]
        exact HLO.out _ (List.getElem_mem _)⟩
      have h5 : Own w0 wr (Blk gs (.cells #[.int .i64 ((lowsF lows) 0), .int .i64 ((lowsF lows) 1), .int .i64 ((lowsF lows) 2), .int .i64 ((lowsF lows) 3), .slice As 0 cs] 49 (0, 0)) :: Blk gr (.cells #[.int .i64 0, .int .i64 0, .int .i64 0, .int .i64 0, .slice none 0 0] 49 (0, 0)) :: Row k71 71 (.slice As 0 cs) [] :: R) := by have := HO.out; rwa [show ofLoP lows 4 0 = lowsF lows 0 from rfl, show ofLoP lows 4 1 = lowsF lows 1 from rfl, show ofLoP lows 4 2 = lowsF lows 2 from rfl, show ofLoP lows 4 3 = lowsF lows 3 from rfl] at this
      have H2 := Aside0.mk h5
      obtain ⟨lf, hlf⟩ : ∃ lf, lf = lowsF lows := ⟨_, rfl⟩
      rw [← hlf] at H2 HLW
      have HLF := Aside0.mk hlf
      clear hlt hi hlf h5
      go_wp2
      rename World => wo
      go_loopw [8] (fun v8 wr => ∃ i : Nat, i ≤ l.length ∧ v8 = .int .i64 i ∧ Aside0 (∀ j, j < i → okAt lf (l.map cvE) j) ∧ Aside0 (Own w0 wr (Blk gs (.cells #[.int .i64 (lf 0), .int .i64 (lf 1), .int .i64 (lf 2), .int .i64 (lf 3), .slice As 0 cs] 49 (0, 0)) :: Blk gr (.cells #[.int .i64 0, .int .i64 0, .int .i64 0, .int .i64 0, .slice none 0 0] 49 (0, 0)) :: Row k71 71 (.slice As 0 cs) [] :: R))) (fun v8 _ => l.length - (RowKit.intOf v8).toNat)
      case atStart => exact ⟨0, Nat.zero_le _, rfl, ⟨fun j hj => absurd hj (by omega)⟩, H2⟩
      case round =>
        obtain ⟨i, hi, rfl, HK2, HO2⟩ := hrel
        by_cases hlt : i < l.length
        · have hgx := List.getElem?_eq_getElem hlt
          obtain ⟨x, hx⟩ : ∃ x, l[i] = x := ⟨_, rfl⟩
          rw [hx] at hgx
          obtain ⟨f0, f1, f2⟩ := x
          have HGX := Aside0.mk hgx
          rcases B with _ | ad
          · exact absurd (HS.out.2.2 (by omega)) (by rintro ⟨_, h, _⟩; cases h)
          obtain ⟨a0, a1, a2⟩ := ref_at HS.out HO2.out.bel i hlt f0 f1 f2 hgx
          have hq1 : wfI f1 := HQ.out _ (List.mem_of_getElem? hgx)
          have HQ1 := Aside0.mk hq1
          clear hgx hx hq1
          by_cases c0 : f0 < 0
          · have d0 : decide (f0 < 0) = true := decide_eq_true (by omega)
            have HNO := Aside0.mk (show ¬ okE (lowsF lows) (cvE ⟨f0, f1, f2⟩) from fun q => by have q1 : 0 ≤ f0 := q.1; have q2 : f0 < 4 := q.2.1; have q3 := (codeB_iff f2).1 q.2.2.1; have q4 : lowsF lows f0.toNat ≤ f1 := q.2.2.2.1; have q5 : f1 < lowsF lows f0.toNat + 16 := q.2.2.2.2; omega)
            clear c0
            have HF := Aside0.mk (HO2.out.junk (.cells #[.int .i64 f0, .int .i64 f1, .int .i64 f2] 71))
            go_wp2_with ((go_at_call 30; ((with_reducible refine (meterref11_New.calls 1 1 1 1 [] _ rfl).mono ?_)); rintro e w9 ⟨v9, rfl, hr9, hb9⟩; have h9 := (HF.out.row_new hb9 hr9).r2; obtain ⟨A9, c9, e9, _, _⟩ := h9.r1.row_reads; subst e9; have H9 := Aside0.mk h9; clear hr9 hb9 h9; have f0 := blk_frozen H9.out.at0 0; have q0 := (blk_cell H9.out.at0 0).trans rfl; have f1 := blk_frozen H9.out.at0 1; have q1 := (blk_cell H9.out.at0 1).trans rfl; have f2 := blk_frozen H9.out.at0 2; have q2 := (blk_cell H9.out.at0 2).trans rfl; have f3 := blk_frozen H9.out.at0 3; have q3 := (blk_cell H9.out.at0 3).trans rfl; have f4 := blk_frozen H9.out.at0 4; have q4 := (blk_cell H9.out.at0 4).trans rfl))
            have H10 := Aside0.mk (((((H9.out.set 0 (.int .i64 1)).set 1 (.int .i64 1)).set 2 (.int .i64 1)).set 3 (.int .i64 1)).set 4 (.slice A9 0 c9))
            refine bodyPost_ret (v := .tuple #[.agg #[.int .i64 1, .int .i64 1, .int .i64 1, .int .i64 1, .slice A9 0 c9], .int .i64 1]) (results_ct rfl _ _ gr 49 #[.int .i64 1, .int .i64 1, .int .i64 1, .int .i64 1, .slice A9 0 c9] (0, 0) _ rfl H10.out.at0 Try.underlying49 rfl (by kernel_rfl) _ rfl) rfl ?_
            exact .inr ⟨fun q => HNO.out ((q.2.2 i) _ (map_at HGX.out)).1, A9, c9, rfl, H10.out.tail.drop1.drop1⟩
          have d0 : decide (f0 < 0) = false := decide_eq_false (by omega)
          by_cases c1 : f0 > 3
          · have d1 : decide (f0 > 3) = true := decide_eq_true (by omega)
            have d1b : decide (3 < f0) = true := decide_eq_true (by omega)
            have HNO := Aside0.mk (show ¬ okE (lowsF lows) (cvE ⟨f0, f1, f2⟩) from fun q => by have q1 : 0 ≤ f0 := q.1; have q2 : f0 < 4 := q.2.1; have q3 := (codeB_iff f2).1 q.2.2.1; have q4 : lowsF lows f0.toNat ≤ f1 := q.2.2.2.1; have q5 : f1 < lowsF lows f0.toNat + 16 := q.2.2.2.2; omega)
            clear c1
            have HF := Aside0.mk (HO2.out.junk (.cells #[.int .i64 f0, .int .i64 f1, .int .i64 f2] 71))
            go_wp2_with ((go_at_call 30; ((with_reducible refine (meterref11_New.calls 1 1 1 1 [] _ rfl).mono ?_)); rintro e w9 ⟨v9, rfl, hr9, hb9⟩; have h9 := (HF.out.row_new hb9 hr9).r2; obtain ⟨A9, c9, e9, _, _⟩ := h9.r1.row_reads; subst e9; have H9 := Aside0.mk h9; clear hr9 hb9 h9; have f0 := blk_frozen H9.out.at0 0; have q0 := (blk_cell H9.out.at0 0).trans rfl; have f1 := blk_frozen H9.out.at0 1; have q1 := (blk_cell H9.out.at0 1).trans rfl; have f2 := blk_frozen H9.out.at0 2; have q2 := (blk_cell H9.out.at0 2).trans rfl; have f3 := blk_frozen H9.out.at0 3; have q3 := (blk_cell H9.out.at0 3).trans rfl; have f4 := blk_frozen H9.out.at0 4; have q4 := (blk_cell H9.out.at0 4).trans rfl))
            have H10 := Aside0.mk (((((H9.out.set 0 (.int .i64 1)).set 1 (.int .i64 1)).set 2 (.int .i64 1)).set 3 (.int .i64 1)).set 4 (.slice A9 0 c9))
            refine bodyPost_ret (v := .tuple #[.agg #[.int .i64 1, .int .i64 1, .int .i64 1, .int .i64 1, .slice A9 0 c9], .int .i64 1]) (results_ct rfl _ _ gr 49 #[.int .i64 1, .int .i64 1, .int .i64 1, .int .i64 1, .slice A9 0 c9] (0, 0) _ rfl H10.out.at0 Try.underlying49 rfl (by kernel_rfl) _ rfl) rfl ?_
            exact .inr ⟨fun q => HNO.out ((q.2.2 i) _ (map_at HGX.out)).1, A9, c9, rfl, H10.out.tail.drop1.drop1⟩
          have d1 : decide (f0 > 3) = false := decide_eq_false (by omega)
          have d1b : decide (3 < f0) = false := decide_eq_false (by omega)
          by_cases c5 : f2 < 1
          · have d5 : decide (f2 < 1) = true := decide_eq_true (by omega)
            have HNO := Aside0.mk (show ¬ okE (lowsF lows) (cvE ⟨f0, f1, f2⟩) from fun q => by have q1 : 0 ≤ f0 := q.1; have q2 : f0 < 4 := q.2.1; have q3 := (codeB_iff f2).1 q.2.2.1; have q4 : lowsF lows f0.toNat ≤ f1 := q.2.2.2.1; have q5 : f1 < lowsF lows f0.toNat + 16 := q.2.2.2.2; omega)
            clear c5
            have HF := Aside0.mk (HO2.out.junk (.cells #[.int .i64 f0, .int .i64 f1, .int .i64 f2] 71))
            go_wp2_with ((go_at_call 30; ((with_reducible refine (meterref11_New.calls 1 1 1 1 [] _ rfl).mono ?_)); rintro e w9 ⟨v9, rfl, hr9, hb9⟩; have h9 := (HF.out.row_new hb9 hr9).r2; obtain ⟨A9, c9, e9, _, _⟩ := h9.r1.row_reads; subst e9; have H9 := Aside0.mk h9; clear hr9 hb9 h9; have f0 := blk_frozen H9.out.at0 0; have q0 := (blk_cell H9.out.at0 0).trans rfl; have f1 := blk_frozen H9.out.at0 1; have q1 := (blk_cell H9.out.at0 1).trans rfl; have f2 := blk_frozen H9.out.at0 2; have q2 := (blk_cell H9.out.at0 2).trans rfl; have f3 := blk_frozen H9.out.at0 3; have q3 := (blk_cell H9.out.at0 3).trans rfl; have f4 := blk_frozen H9.out.at0 4; have q4 := (blk_cell H9.out.at0 4).trans rfl))
            have H10 := Aside0.mk (((((H9.out.set 0 (.int .i64 1)).set 1 (.int .i64 1)).set 2 (.int .i64 1)).set 3 (.int .i64 1)).set 4 (.slice A9 0 c9))
            refine bodyPost_ret (v := .tuple #[.agg #[.int .i64 1, .int .i64 1, .int .i64 1, .int .i64 1, .slice A9 0 c9], .int .i64 1]) (results_ct rfl _ _ gr 49 #[.int .i64 1, .int .i64 1, .int .i64 1, .int .i64 1, .slice A9 0 c9] (0, 0) _ rfl H10.out.at0 Try.underlying49 rfl (by kernel_rfl) _ rfl) rfl ?_
            exact .inr ⟨fun q => HNO.out ((q.2.2 i) _ (map_at HGX.out)).1, A9, c9, rfl, H10.out.tail.drop1.drop1⟩
          have d5 : decide (f2 < 1) = false := decide_eq_false (by omega)
          by_cases c6 : f2 > 4
          · have d6 : decide (f2 > 4) = true := decide_eq_true (by omega)
            have d6b : decide (4 < f2) = true := decide_eq_true (by omega)
            have HNO := Aside0.mk (show ¬ okE (lowsF lows) (cvE ⟨f0, f1, f2⟩) from fun q => by have q1 : 0 ≤ f0 := q.1; have q2 : f0 < 4 := q.2.1; have q3 := (codeB_iff f2).1 q.2.2.1; have q4 : lowsF lows f0.toNat ≤ f1 := q.2.2.2.1; have q5 : f1 < lowsF lows f0.toNat + 16 := q.2.2.2.2; omega)
            clear c6
            have HF := Aside0.mk (HO2.out.junk (.cells #[.int .i64 f0, .int .i64 f1, .int .i64 f2] 71))
            go_wp2_with ((go_at_call 30; ((with_reducible refine (meterref11_New.calls 1 1 1 1 [] _ rfl).mono ?_)); rintro e w9 ⟨v9, rfl, hr9, hb9⟩; have h9 := (HF.out.row_new hb9 hr9).r2; obtain ⟨A9, c9, e9, _, _⟩ := h9.r1.row_reads; subst e9; have H9 := Aside0.mk h9; clear hr9 hb9 h9; have f0 := blk_frozen H9.out.at0 0; have q0 := (blk_cell H9.out.at0 0).trans rfl; have f1 := blk_frozen H9.out.at0 1; have q1 := (blk_cell H9.out.at0 1).trans rfl; have f2 := blk_frozen H9.out.at0 2; have q2 := (blk_cell H9.out.at0 2).trans rfl; have f3 := blk_frozen H9.out.at0 3; have q3 := (blk_cell H9.out.at0 3).trans rfl; have f4 := blk_frozen H9.out.at0 4; have q4 := (blk_cell H9.out.at0 4).trans rfl))
            have H10 := Aside0.mk (((((H9.out.set 0 (.int .i64 1)).set 1 (.int .i64 1)).set 2 (.int .i64 1)).set 3 (.int .i64 1)).set 4 (.slice A9 0 c9))
            refine bodyPost_ret (v := .tuple #[.agg #[.int .i64 1, .int .i64 1, .int .i64 1, .int .i64 1, .slice A9 0 c9], .int .i64 1]) (results_ct rfl _ _ gr 49 #[.int .i64 1, .int .i64 1, .int .i64 1, .int .i64 1, .slice A9 0 c9] (0, 0) _ rfl H10.out.at0 Try.underlying49 rfl (by kernel_rfl) _ rfl) rfl ?_
            exact .inr ⟨fun q => HNO.out ((q.2.2 i) _ (map_at HGX.out)).1, A9, c9, rfl, H10.out.tail.drop1.drop1⟩
          have d6 : decide (f2 > 4) = false := decide_eq_false (by omega)
          have d6b : decide (4 < f2) = false := decide_eq_false (by omega)
          go_wp2
          clear a0 a1 a2
          rcases i with _ | i
          · have h3 := (HO2.out.alloc (.cells #[.int .i64 f0, .int .i64 f1, .int .i64 f2] 71)).r1
            obtain ⟨W, hW⟩ : ∃ W, W = wr.alloc (.cells #[.int .i64 f0, .int .i64 f1, .int .i64 f2] 71) := ⟨_, rfl⟩
            rw [← hW] at h3 ⊢
            obtain ⟨bx, hbx⟩ : ∃ bx, bx = wr.heap.size := ⟨_, rfl⟩
            rw [← hbx] at h3 ⊢
            have H3 := Aside0.mk h3
            clear h3 hW hbx
            have x0 := (blk_cell H3.out.at1 0).trans rfl
            have x1 := (blk_cell H3.out.at1 1).trans rfl
            have x2 := (blk_cell H3.out.at1 2).trans rfl
            have HN4 := Aside0.mk (show f0.toNat < 4 by omega)
            have z0 := four_cell H3.out.at0 f0.toNat HN4.out
            have hlw := HLW.out f0.toNat HN4.out
            have hlw1 : 1 ≤ lf f0.toNat := hlw.1
            have hlw2 : lf f0.toNat ≤ 1099511627776 := hlw.2
            have hw : wrap64 (f1 - lf f0.toNat) = f1 - lf f0.toNat ∨ f1 < lf f0.toNat := by
              have h0 := HQ1.out
              unfold wfI at h0
              simp [Lit.wf, IntKind.min, IntKind.max, IntKind.signed, IntKind.bits] at h0
              unfold wrap64
              omega
            have j0 : 0 ≤ f0 := by omega
            have j1 : f0 < 4 := by omega
            clear hlw
            by_cases c3 : f1 < lf f0.toNat
            · have d3 : decide (f1 < lf f0.toNat) = true := decide_eq_true (by omega)
              have HNO := Aside0.mk (show ¬ okE (lowsF lows) (cvE ⟨f0, f1, f2⟩) from fun q => by have q1 : 0 ≤ f0 := q.1; have q2 : f0 < 4 := q.2.1; have q3 := (codeB_iff f2).1 q.2.2.1; have q4 : lowsF lows f0.toNat ≤ f1 := q.2.2.2.1; have q5 : f1 < lowsF lows f0.toNat + 16 := q.2.2.2.2; rw [← HLF.out] at q4 q5; omega)
              clear hw
              go_quiet (fail)
              have HF := Aside0.mk ((H3.out.drewN nq).r1.tail)
              go_wp2_with ((go_at_call 30; ((with_reducible refine (meterref11_New.calls 1 1 1 1 [] _ rfl).mono ?_)); rintro e w9 ⟨v9, rfl, hr9, hb9⟩; have h9 := (HF.out.row_new hb9 hr9).r2; obtain ⟨A9, c9, e9, _, _⟩ := h9.r1.row_reads; subst e9; have H9 := Aside0.mk h9; clear hr9 hb9 h9; have f0 := blk_frozen H9.out.at0 0; have q0 := (blk_cell H9.out.at0 0).trans rfl; have f1 := blk_frozen H9.out.at0 1; have q1 := (blk_cell H9.out.at0 1).trans rfl; have f2 := blk_frozen H9.out.at0 2; have q2 := (blk_cell H9.out.at0 2).trans rfl; have f3 := blk_frozen H9.out.at0 3; have q3 := (blk_cell H9.out.at0 3).trans rfl; have f4 := blk_frozen H9.out.at0 4; have q4 := (blk_cell H9.out.at0 4).trans rfl))
              have H10 := Aside0.mk (((((H9.out.set 0 (.int .i64 1)).set 1 (.int .i64 1)).set 2 (.int .i64 1)).set 3 (.int .i64 1)).set 4 (.slice A9 0 c9))
              refine bodyPost_ret (v := .tuple #[.agg #[.int .i64 1, .int .i64 1, .int .i64 1, .int .i64 1, .slice A9 0 c9], .int .i64 1]) (results_ct rfl _ _ gr 49 #[.int .i64 1, .int .i64 1, .int .i64 1, .int .i64 1, .slice A9 0 c9] (0, 0) _ rfl H10.out.at0 Try.underlying49 rfl (by kernel_rfl) _ rfl) rfl ?_
              exact .inr ⟨fun q => HNO.out ((q.2.2 0) _ (map_at HGX.out)).1, A9, c9, rfl, H10.out.tail.drop1.drop1⟩
            have hw2 : wrap64 (f1 - lf f0.toNat) = f1 - lf f0.toNat := by rcases hw with q | q; exact q; exact absurd q c3
            clear hw
            have d3 : decide (f1 < lf f0.toNat) = false := decide_eq_false (by omega)
            by_cases c4 : f1 - lf f0.toNat > 15
            · have d4 : decide (f1 - lf f0.toNat > 15) = true := decide_eq_true (by omega)
              have d4b : decide (15 < f1 - lf f0.toNat) = true := decide_eq_true (by omega)
              have HNO := Aside0.mk (show ¬ okE (lowsF lows) (cvE ⟨f0, f1, f2⟩) from fun q => by have q1 : 0 ≤ f0 := q.1; have q2 : f0 < 4 := q.2.1; have q3 := (codeB_iff f2).1 q.2.2.1; have q4 : lowsF lows f0.toNat ≤ f1 := q.2.2.2.1; have q5 : f1 < lowsF lows f0.toNat + 16 := q.2.2.2.2; rw [← HLF.out] at q4 q5; omega)
              go_quiet (fail)
              have HF := Aside0.mk ((H3.out.drewN nq).r1.tail)
              go_wp2_with ((go_at_call 30; ((with_reducible refine (meterref11_New.calls 1 1 1 1 [] _ rfl).mono ?_)); rintro e w9 ⟨v9, rfl, hr9, hb9⟩; have h9 := (HF.out.row_new hb9 hr9).r2; obtain ⟨A9, c9, e9, _, _⟩ := h9.r1.row_reads; subst e9; have H9 := Aside0.mk h9; clear hr9 hb9 h9; have f0 := blk_frozen H9.out.at0 0; have q0 := (blk_cell H9.out.at0 0).trans rfl; have f1 := blk_frozen H9.out.at0 1; have q1 := (blk_cell H9.out.at0 1).trans rfl; have f2 := blk_frozen H9.out.at0 2; have q2 := (blk_cell H9.out.at0 2).trans rfl; have f3 := blk_frozen H9.out.at0 3; have q3 := (blk_cell H9.out.at0 3).trans rfl; have f4 := blk_frozen H9.out.at0 4; have q4 := (blk_cell H9.out.at0 4).trans rfl))
              have H10 := Aside0.mk (((((H9.out.set 0 (.int .i64 1)).set 1 (.int .i64 1)).set 2 (.int .i64 1)).set 3 (.int .i64 1)).set 4 (.slice A9 0 c9))
              refine bodyPost_ret (v := .tuple #[.agg #[.int .i64 1, .int .i64 1, .int .i64 1, .int .i64 1, .slice A9 0 c9], .int .i64 1]) (results_ct rfl _ _ gr 49 #[.int .i64 1, .int .i64 1, .int .i64 1, .int .i64 1, .slice A9 0 c9] (0, 0) _ rfl H10.out.at0 Try.underlying49 rfl (by kernel_rfl) _ rfl) rfl ?_
              exact .inr ⟨fun q => HNO.out ((q.2.2 0) _ (map_at HGX.out)).1, A9, c9, rfl, H10.out.tail.drop1.drop1⟩
            have d4 : decide (f1 - lf f0.toNat > 15) = false := decide_eq_false (by omega)
            have d4b : decide (15 < f1 - lf f0.toNat) = false := decide_eq_false (by omega)
            have HOK : Aside0 (okE lf (cvE ⟨f0, f1, f2⟩)) := ⟨j0, j1, (codeB_iff f2).2 ⟨show 1 ≤ f2 by omega, show f2 ≤ 4 by omega⟩, (show lf f0.toNat ≤ f1 by omega), (show f1 < lf f0.toNat + 16 by omega)⟩
            go_quiet (fail)
            go_wp2
            clear hw2 hlw1 hlw2 c3 c4 d3 d4 d4b c0 c1 c5 c6
            obtain ⟨W2, hW⟩ : ∃ V : World, V = W.drewN nq := ⟨_, rfl⟩
            rw [← hW]
            have H4 : Aside0 (Own w0 W2 (Blk gs (.cells #[.int .i64 (lf 0), .int .i64 (lf 1), .int .i64 (lf 2), .int .i64 (lf 3), .slice As 0 cs] 49 (0, 0)) :: Blk bx (.cells #[.int .i64 f0, .int .i64 f1, .int .i64 f2] 71 (0, 0)) :: Blk gr (.cells #[.int .i64 0, .int .i64 0, .int .i64 0, .int .i64 0, .slice none 0 0] 49 (0, 0)) :: Row k71 71 (.slice As 0 cs) [] :: R)) := ⟨by rw [hW]; exact H3.out.drewN nq⟩
            clear hW x0 x1 x2 z0
            have x0 := (blk_cell H4.out.at1 0).trans rfl
            have x1 := (blk_cell H4.out.at1 1).trans rfl
            have x2 := (blk_cell H4.out.at1 2).trans rfl
            have HKN : Aside0 (∀ j, j < 0 + 1 → okAt lf (l.map cvE) j) := ⟨fun j hj => by
              by_cases e : j = 0
              · subst e
                intro y hy
                obtain rfl := Option.some.inj ((map_at HGX.out).symm.trans hy)
                exact ⟨HOK.out, fun p hp => absurd hp (by omega)⟩
              · exact HK2.out j (by omega)⟩
            go_quiet (fail)
            go_wp2
            go_roundw
            case rel =>
              have HEND := Aside0.mk ((H4.out.drewN nq).r1.tail)
              first | exact ⟨0 + 1, by omega, by first | rfl | go_num, HKN, HEND⟩ | ((repeat apply Exists.intro); exact ⟨⟨0 + 1, by omega, by first | rfl | go_num, HKN, HEND⟩, rfl⟩)
            case measure => first | (simp [RowKit.intOf]; done) | (simp [RowKit.intOf]; omega)
          · have h3 := (HO2.out.alloc (.cells #[.int .i64 f0, .int .i64 f1, .int .i64 f2] 71)).r1
            obtain ⟨W, hW⟩ : ∃ W, W = wr.alloc (.cells #[.int .i64 f0, .int .i64 f1, .int .i64 f2] 71) := ⟨_, rfl⟩
            rw [← hW] at h3 ⊢
            obtain ⟨bx, hbx⟩ : ∃ bx, bx = wr.heap.size := ⟨_, rfl⟩
            rw [← hbx] at h3 ⊢
            have H3 := Aside0.mk h3
            clear h3 hW hbx
            have x0 := (blk_cell H3.out.at1 0).trans rfl
            have x1 := (blk_cell H3.out.at1 1).trans rfl
            have x2 := (blk_cell H3.out.at1 2).trans rfl
            have HN4 := Aside0.mk (show f0.toNat < 4 by omega)
            have z0 := four_cell H3.out.at0 f0.toNat HN4.out
            have hlw := HLW.out f0.toNat HN4.out
            have hlw1 : 1 ≤ lf f0.toNat := hlw.1
            have hlw2 : lf f0.toNat ≤ 1099511627776 := hlw.2
            have hw : wrap64 (f1 - lf f0.toNat) = f1 - lf f0.toNat ∨ f1 < lf f0.toNat := by
              have h0 := HQ1.out
              unfold wfI at h0
              simp [Lit.wf, IntKind.min, IntKind.max, IntKind.signed, IntKind.bits] at h0
              unfold wrap64
              omega
            have j0 : 0 ≤ f0 := by omega
            have j1 : f0 < 4 := by omega
            clear hlw
            by_cases c3 : f1 < lf f0.toNat
            · have d3 : decide (f1 < lf f0.toNat) = true := decide_eq_true (by omega)
              have HNO := Aside0.mk (show ¬ okE (lowsF lows) (cvE ⟨f0, f1, f2⟩) from fun q => by have q1 : 0 ≤ f0 := q.1; have q2 : f0 < 4 := q.2.1; have q3 := (codeB_iff f2).1 q.2.2.1; have q4 : lowsF lows f0.toNat ≤ f1 := q.2.2.2.1; have q5 : f1 < lowsF lows f0.toNat + 16 := q.2.2.2.2; rw [← HLF.out] at q4 q5; omega)
              clear hw
              go_quiet (fail)
              have HF := Aside0.mk ((H3.out.drewN nq).r1.tail)
              go_wp2_with ((go_at_call 30; ((with_reducible refine (meterref11_New.calls 1 1 1 1 [] _ rfl).mono ?_)); rintro e w9 ⟨v9, rfl, hr9, hb9⟩; have h9 := (HF.out.row_new hb9 hr9).r2; obtain ⟨A9, c9, e9, _, _⟩ := h9.r1.row_reads; subst e9; have H9 := Aside0.mk h9; clear hr9 hb9 h9; have f0 := blk_frozen H9.out.at0 0; have q0 := (blk_cell H9.out.at0 0).trans rfl; have f1 := blk_frozen H9.out.at0 1; have q1 := (blk_cell H9.out.at0 1).trans rfl; have f2 := blk_frozen H9.out.at0 2; have q2 := (blk_cell H9.out.at0 2).trans rfl; have f3 := blk_frozen H9.out.at0 3; have q3 := (blk_cell H9.out.at0 3).trans rfl; have f4 := blk_frozen H9.out.at0 4; have q4 := (blk_cell H9.out.at0 4).trans rfl))
              have H10 := Aside0.mk (((((H9.out.set 0 (.int .i64 1)).set 1 (.int .i64 1)).set 2 (.int .i64 1)).set 3 (.int .i64 1)).set 4 (.slice A9 0 c9))
              refine bodyPost_ret (v := .tuple #[.agg #[.int .i64 1, .int .i64 1, .int .i64 1, .int .i64 1, .slice A9 0 c9], .int .i64 1]) (results_ct rfl _ _ gr 49 #[.int .i64 1, .int .i64 1, .int .i64 1, .int .i64 1, .slice A9 0 c9] (0, 0) _ rfl H10.out.at0 Try.underlying49 rfl (by kernel_rfl) _ rfl) rfl ?_
              exact .inr ⟨fun q => HNO.out ((q.2.2 (i + 1)) _ (map_at HGX.out)).1, A9, c9, rfl, H10.out.tail.drop1.drop1⟩
            have hw2 : wrap64 (f1 - lf f0.toNat) = f1 - lf f0.toNat := by rcases hw with q | q; exact q; exact absurd q c3
            clear hw
            have d3 : decide (f1 < lf f0.toNat) = false := decide_eq_false (by omega)
            by_cases c4 : f1 - lf f0.toNat > 15
            · have d4 : decide (f1 - lf f0.toNat > 15) = true := decide_eq_true (by omega)
              have d4b : decide (15 < f1 - lf f0.toNat) = true := decide_eq_true (by omega)
              have HNO := Aside0.mk (show ¬ okE (lowsF lows) (cvE ⟨f0, f1, f2⟩) from fun q => by have q1 : 0 ≤ f0 := q.1; have q2 : f0 < 4 := q.2.1; have q3 := (codeB_iff f2).1 q.2.2.1; have q4 : lowsF lows f0.toNat ≤ f1 := q.2.2.2.1; have q5 : f1 < lowsF lows f0.toNat + 16 := q.2.2.2.2; rw [← HLF.out] at q4 q5; omega)
              go_quiet (fail)
              have HF := Aside0.mk ((H3.out.drewN nq).r1.tail)
              go_wp2_with ((go_at_call 30; ((with_reducible refine (meterref11_New.calls 1 1 1 1 [] _ rfl).mono ?_)); rintro e w9 ⟨v9, rfl, hr9, hb9⟩; have h9 := (HF.out.row_new hb9 hr9).r2; obtain ⟨A9, c9, e9, _, _⟩ := h9.r1.row_reads; subst e9; have H9 := Aside0.mk h9; clear hr9 hb9 h9; have f0 := blk_frozen H9.out.at0 0; have q0 := (blk_cell H9.out.at0 0).trans rfl; have f1 := blk_frozen H9.out.at0 1; have q1 := (blk_cell H9.out.at0 1).trans rfl; have f2 := blk_frozen H9.out.at0 2; have q2 := (blk_cell H9.out.at0 2).trans rfl; have f3 := blk_frozen H9.out.at0 3; have q3 := (blk_cell H9.out.at0 3).trans rfl; have f4 := blk_frozen H9.out.at0 4; have q4 := (blk_cell H9.out.at0 4).trans rfl))
              have H10 := Aside0.mk (((((H9.out.set 0 (.int .i64 1)).set 1 (.int .i64 1)).set 2 (.int .i64 1)).set 3 (.int .i64 1)).set 4 (.slice A9 0 c9))
              refine bodyPost_ret (v := .tuple #[.agg #[.int .i64 1, .int .i64 1, .int .i64 1, .int .i64 1, .slice A9 0 c9], .int .i64 1]) (results_ct rfl _ _ gr 49 #[.int .i64 1, .int .i64 1, .int .i64 1, .int .i64 1, .slice A9 0 c9] (0, 0) _ rfl H10.out.at0 Try.underlying49 rfl (by kernel_rfl) _ rfl) rfl ?_
              exact .inr ⟨fun q => HNO.out ((q.2.2 (i + 1)) _ (map_at HGX.out)).1, A9, c9, rfl, H10.out.tail.drop1.drop1⟩
            have d4 : decide (f1 - lf f0.toNat > 15) = false := decide_eq_false (by omega)
            have d4b : decide (15 < f1 - lf f0.toNat) = false := decide_eq_false (by omega)
            have HOK : Aside0 (okE lf (cvE ⟨f0, f1, f2⟩)) := ⟨j0, j1, (codeB_iff f2).2 ⟨show 1 ≤ f2 by omega, show f2 ≤ 4 by omega⟩, (show lf f0.toNat ≤ f1 by omega), (show f1 < lf f0.toNat + 16 by omega)⟩
            go_quiet (fail)
            go_wp2
            clear hw2 hlw1 hlw2 c3 c4 d3 d4 d4b c0 c1 c5 c6
            obtain ⟨W2, hW⟩ : ∃ V : World, V = W.drewN nq := ⟨_, rfl⟩
            rw [← hW]
            have H4 : Aside0 (Own w0 W2 (Blk gs (.cells #[.int .i64 (lf 0), .int .i64 (lf 1), .int .i64 (lf 2), .int .i64 (lf 3), .slice As 0 cs] 49 (0, 0)) :: Blk bx (.cells #[.int .i64 f0, .int .i64 f1, .int .i64 f2] 71 (0, 0)) :: Blk gr (.cells #[.int .i64 0, .int .i64 0, .int .i64 0, .int .i64 0, .slice none 0 0] 49 (0, 0)) :: Row k71 71 (.slice As 0 cs) [] :: R)) := ⟨by rw [hW]; exact H3.out.drewN nq⟩
            clear hW x0 x1 x2 z0
            have x0 := (blk_cell H4.out.at1 0).trans rfl
            have x1 := (blk_cell H4.out.at1 1).trans rfl
            have x2 := (blk_cell H4.out.at1 2).trans rfl
            have hgp := List.getElem?_eq_getElem (show i < l.length by omega)
            obtain ⟨p, hp⟩ : ∃ p, l[i] = p := ⟨_, rfl⟩
            rw [hp] at hgp
            obtain ⟨p0, p1, p2⟩ := p
            have HGP := Aside0.mk hgp
            obtain ⟨e0, e1, e2⟩ := ref_at HS.out H4.out.bel i (by omega) p0 p1 p2 hgp
            have i0 : decide ((i : Int) + 1 > 0) = true := decide_eq_true (by omega)
            have i1 : decide (0 < (i : Int) + 1) = true := decide_eq_true (by omega)
            have i2 : wrap64 ((i : Int) + 1 - 1) = (i : Int) := by unfold wrap64; omega
            have i3 : (i : Int) + 1 - 1 = (i : Int) := by omega
            have i4 : wrap64 (i : Int) = (i : Int) := by unfold wrap64; omega
            have i5 : (i : Int) < (l.length : Int) := by omega
            clear hgp hp
            try rw [show ((i + 1 : Nat) : Int) = (i : Int) + 1 from rfl]
            by_cases g0 : f0 < p0
            · have g0a : decide (f0 < p0) = true := decide_eq_true g0
              have HNX : ¬ (p0 < f0 ∨ p0 = f0 ∧ p1 < f1) := by omega
              have HNL := Aside0.mk (show ¬ ltE (cvE ⟨p0, p1, p2⟩) (cvE ⟨f0, f1, f2⟩) from fun q => HNX (by have q1 : p0 < f0 ∨ p0 = f0 ∧ p1 < f1 := q; omega))
              clear HNX
              go_quiet (fail)
              have HF := Aside0.mk ((H4.out.drewN nq).r1.tail)
              go_wp2_with ((go_at_call 30; ((with_reducible refine (meterref11_New.calls 1 1 1 1 [] _ rfl).mono ?_)); rintro e w9 ⟨v9, rfl, hr9, hb9⟩; have h9 := (HF.out.row_new hb9 hr9).r2; obtain ⟨A9, c9, e9, _, _⟩ := h9.r1.row_reads; subst e9; have H9 := Aside0.mk h9; clear hr9 hb9 h9; have f0 := blk_frozen H9.out.at0 0; have q0 := (blk_cell H9.out.at0 0).trans rfl; have f1 := blk_frozen H9.out.at0 1; have q1 := (blk_cell H9.out.at0 1).trans rfl; have f2 := blk_frozen H9.out.at0 2; have q2 := (blk_cell H9.out.at0 2).trans rfl; have f3 := blk_frozen H9.out.at0 3; have q3 := (blk_cell H9.out.at0 3).trans rfl; have f4 := blk_frozen H9.out.at0 4; have q4 := (blk_cell H9.out.at0 4).trans rfl))
              have H10 := Aside0.mk (((((H9.out.set 0 (.int .i64 1)).set 1 (.int .i64 1)).set 2 (.int .i64 1)).set 3 (.int .i64 1)).set 4 (.slice A9 0 c9))
              refine bodyPost_ret (v := .tuple #[.agg #[.int .i64 1, .int .i64 1, .int .i64 1, .int .i64 1, .slice A9 0 c9], .int .i64 1]) (results_ct rfl _ _ gr 49 #[.int .i64 1, .int .i64 1, .int .i64 1, .int .i64 1, .slice A9 0 c9] (0, 0) _ rfl H10.out.at0 Try.underlying49 rfl (by kernel_rfl) _ rfl) rfl ?_
              exact .inr ⟨fun q => HNL.out (((q.2.2 (i + 1)) _ (map_at HGX.out)).2 _ (by omega) (map_at HGP.out)), A9, c9, rfl, H10.out.tail.drop1.drop1⟩
            have g0a : decide (f0 < p0) = false := decide_eq_false g0
            by_cases g1 : f0 = p0
            · have g1a : (f0 == p0) = true := beq_iff_eq.2 g1
              by_cases g2 : f1 ≤ p1
              · have g2a : decide (f1 ≤ p1) = true := decide_eq_true g2
                have HNX : ¬ (p0 < f0 ∨ p0 = f0 ∧ p1 < f1) := by omega
                have HNL := Aside0.mk (show ¬ ltE (cvE ⟨p0, p1, p2⟩) (cvE ⟨f0, f1, f2⟩) from fun q => HNX (by have q1 : p0 < f0 ∨ p0 = f0 ∧ p1 < f1 := q; omega))
                clear g1 g2
                clear HNX
                go_quiet (fail)
                have HF := Aside0.mk ((H4.out.drewN nq).r1.tail)
                go_wp2_with ((go_at_call 30; ((with_reducible refine (meterref11_New.calls 1 1 1 1 [] _ rfl).mono ?_)); rintro e w9 ⟨v9, rfl, hr9, hb9⟩; have h9 := (HF.out.row_new hb9 hr9).r2; obtain ⟨A9, c9, e9, _, _⟩ := h9.r1.row_reads; subst e9; have H9 := Aside0.mk h9; clear hr9 hb9 h9; have f0 := blk_frozen H9.out.at0 0; have q0 := (blk_cell H9.out.at0 0).trans rfl; have f1 := blk_frozen H9.out.at0 1; have q1 := (blk_cell H9.out.at0 1).trans rfl; have f2 := blk_frozen H9.out.at0 2; have q2 := (blk_cell H9.out.at0 2).trans rfl; have f3 := blk_frozen H9.out.at0 3; have q3 := (blk_cell H9.out.at0 3).trans rfl; have f4 := blk_frozen H9.out.at0 4; have q4 := (blk_cell H9.out.at0 4).trans rfl))
                have H10 := Aside0.mk (((((H9.out.set 0 (.int .i64 1)).set 1 (.int .i64 1)).set 2 (.int .i64 1)).set 3 (.int .i64 1)).set 4 (.slice A9 0 c9))
                refine bodyPost_ret (v := .tuple #[.agg #[.int .i64 1, .int .i64 1, .int .i64 1, .int .i64 1, .slice A9 0 c9], .int .i64 1]) (results_ct rfl _ _ gr 49 #[.int .i64 1, .int .i64 1, .int .i64 1, .int .i64 1, .slice A9 0 c9] (0, 0) _ rfl H10.out.at0 Try.underlying49 rfl (by kernel_rfl) _ rfl) rfl ?_
                exact .inr ⟨fun q => HNL.out (((q.2.2 (i + 1)) _ (map_at HGX.out)).2 _ (by omega) (map_at HGP.out)), A9, c9, rfl, H10.out.tail.drop1.drop1⟩
              have g2a : decide (f1 ≤ p1) = false := decide_eq_false g2
              have HKN : Aside0 (∀ j, j < (i + 1) + 1 → okAt lf (l.map cvE) j) := ⟨fun j hj => by
                by_cases e : j = (i + 1)
                · subst e
                  intro y hy
                  obtain rfl := Option.some.inj ((map_at HGX.out).symm.trans hy)
                  exact ⟨HOK.out, fun p hp1 hp2 => by obtain rfl := Option.some.inj ((map_at HGP.out).symm.trans hp2); exact .inr ⟨g1.symm, show p1 < f1 by omega⟩⟩
                · exact HK2.out j (by omega)⟩
              clear g1 g2
              go_quiet (fail)
              go_wp2
              go_roundw
              case rel =>
                have HEND := Aside0.mk ((H4.out.drewN nq).r1.tail)
                first | exact ⟨(i + 1) + 1, by omega, by first | rfl | go_num, HKN, HEND⟩ | ((repeat apply Exists.intro); exact ⟨⟨(i + 1) + 1, by omega, by first | rfl | go_num, HKN, HEND⟩, rfl⟩)
              case measure => first | (simp [RowKit.intOf]; done) | (simp [RowKit.intOf]; omega)
            · have g1a : (f0 == p0) = false := beq_eq_false_iff_ne.2 g1
              have HKN : Aside0 (∀ j, j < (i + 1) + 1 → okAt lf (l.map cvE) j) := ⟨fun j hj => by
                by_cases e : j = (i + 1)
                · subst e
                  intro y hy
                  obtain rfl := Option.some.inj ((map_at HGX.out).symm.trans hy)
                  exact ⟨HOK.out, fun p hp1 hp2 => by obtain rfl := Option.some.inj ((map_at HGP.out).symm.trans hp2); exact .inl (show p0 < f0 by omega)⟩
                · exact HK2.out j (by omega)⟩
              clear g1
              go_quiet (fail)
              go_wp2
              go_roundw
              case rel =>
                have HEND := Aside0.mk ((H4.out.drewN nq).r1.tail)
                first | exact ⟨(i + 1) + 1, by omega, by first | rfl | go_num, HKN, HEND⟩ | ((repeat apply Exists.intro); exact ⟨⟨(i + 1) + 1, by omega, by first | rfl | go_num, HKN, HEND⟩, rfl⟩)
              case measure => first | (simp [RowKit.intOf]; done) | (simp [RowKit.intOf]; omega)
        · obtain rfl : i = l.length := by omega
          have y4 := (blk_cell HO2.out.at0 4).trans rfl
          have fs := blk_frozen HO2.out.at0 4
          have hls : l.length ≤ 1000000000 := by omega
          go_upto_region 21 with ((with_reducible refine gate_dst (N := 127) rfl ?_); go_loud (refine Own.appendRows k71 rfl (.tmp 125) (.tmp 126) 45 71 (.agg #[.int .i64 0, .int .i64 0, .int .i64 0]) 24 rfl Try.underlying45 infoR rfl (by decide) (by omega) (.slice As 0 cs) [] l B l.length d rfl rfl (Kd.C_below HS.out HO2.out.bel) (fun x cs h => by rw [k71_open h]; exact k71_mkM _ _ _ x) HO2.out.r2 (by simp; omega) ?_); intro A8 c8 w8 h8; have H8 := Aside0.mk h8; clear h8; rw [List.nil_append] at H8; rw [List.nil_append]; have y4 := (blk_cell H8.out.at1 4).trans rfl; have fs := blk_frozen H8.out.at1 4)
          have h9 := H8.out.r1.set 4 (.slice A8 l.length c8)
          generalize World.setCell _ _ _ = W9 at h9 ⊢
          have H9 : Aside0 (Own w0 W9 (Blk gs (.cells #[.int .i64 (lf 0), .int .i64 (lf 1), .int .i64 (lf 2), .int .i64 (lf 3), .slice A8 l.length c8] 49 (0, 0)) :: Row k71 71 (.slice A8 l.length c8) l :: Blk gr (.cells #[.int .i64 0, .int .i64 0, .int .i64 0, .int .i64 0, .slice none 0 0] 49 (0, 0)) :: R)) := ⟨h9⟩
          clear h9 y4 fs
          have y0 := (blk_cell H9.out.at0 0).trans rfl; have y1 := (blk_cell H9.out.at0 1).trans rfl; have y2 := (blk_cell H9.out.at0 2).trans rfl; have y3 := (blk_cell H9.out.at0 3).trans rfl; have y4 := (blk_cell H9.out.at0 4).trans rfl; have f0 := blk_frozen H9.out.at2 0; have q0 := (blk_cell H9.out.at2 0).trans rfl; have f1 := blk_frozen H9.out.at2 1; have q1 := (blk_cell H9.out.at2 1).trans rfl; have f2 := blk_frozen H9.out.at2 2; have q2 := (blk_cell H9.out.at2 2).trans rfl; have f3 := blk_frozen H9.out.at2 3; have q3 := (blk_cell H9.out.at2 3).trans rfl; have f4 := blk_frozen H9.out.at2 4; have q4 := (blk_cell H9.out.at2 4).trans rfl
          go_wp2
          have H10 := Aside0.mk (((((H9.out.r2.set 0 (.int .i64 (lf 0))).set 1 (.int .i64 (lf 1))).set 2 (.int .i64 (lf 2))).set 3 (.int .i64 (lf 3))).set 4 (.slice A8 l.length c8))
          refine bodyPost_ret (v := .tuple #[.agg #[.int .i64 (lf 0), .int .i64 (lf 1), .int .i64 (lf 2), .int .i64 (lf 3), .slice A8 l.length c8], .int .i64 0]) (results_ct rfl _ _ gr 49 #[.int .i64 (lf 0), .int .i64 (lf 1), .int .i64 (lf 2), .int .i64 (lf 3), .slice A8 l.length c8] (0, 0) _ rfl H10.out.at0 Try.underlying49 rfl (by kernel_rfl) _ rfl) rfl ?_
          refine .inl ⟨⟨HH.out, HLO.out, fun j x hx => ?_⟩, A8, c8, by rw [HLF.out], H10.out.tail.tail⟩
          have := HK2.out j (by have := (List.getElem?_eq_some_iff.1 hx).1; rw [List.length_map] at this; omega) x hx
          rwa [HLF.out] at this
end
end Go.Proofs.Ytboomdjkgheonaa.PSeenPlays
