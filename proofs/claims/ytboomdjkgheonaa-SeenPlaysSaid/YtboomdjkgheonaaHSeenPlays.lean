/- The law SeenPlays, walked. -/
import Derived.Test.YtboomdjkgheonaaRef5
namespace Go.Proofs.Ytboomdjkgheonaa.PSeenPlays
open Go.RowKit Go.Proofs.YtboomdjkgheonaaW.PrintWords Go.Proofs.YtboomdjkgheonaaW.PrintLast Go.Proofs.YtboomdjkgheonaaW.PrintMore
open Go.Proofs.YtboomdjkgheonaaO
attribute [local go_sem] max2_int min2_int max_two min_two max_three min_three max_four min_four
set_option linter.unusedVariables false
set_option linter.unusedSimpArgs false
set_option maxHeartbeats 8000000 in
set_option maxRecDepth 100000 in
theorem SeenPlays_g0 (A : Option Addr) (c : Nat) (lows : List Int) (B : Option Addr) (d : Nat) (l : List S71) (C : Option Addr) (e : Nat) (acts : List S39) (w : World) (hr : Kd.C (Kd.int .i64) w A lows.length lows) (hc : lows.length ≤ c) (hs : Kd.C k71 w B l.length l) (hd : l.length ≤ d) (ha : Kd.C k39 w C acts.length acts) (he : acts.length ≤ e)  (h0 : lows.length > 20) :
    Calls Try.prog 6 #[.slice A lows.length c, .slice B l.length d, .slice C acts.length e] w fun e w' => e = .returned (.bool true) ∧ Below w.heap.size w w' := by
  have HPRE := Aside0.mk (Own.nil w)
  have d0a : decide ((lows.length : Int) > 20) = true := decide_eq_true (by omega)
  have d0b : decide (20 < (lows.length : Int)) = true := decide_eq_true (by omega)
  clear hr hc hs hd ha he h0
  go_enter Try.func6, Try.ntmps6
  go_wp2_with ((go_at_call 13; ((with_reducible refine (wakes_calls _).mono ?_)); rintro e w99 ⟨rfl, hb⟩; have HW := Aside0.mk (HPRE.out.below hb); clear hb))
  go_ret
  exact ⟨rfl, HW.out.bel⟩
set_option maxHeartbeats 8000000 in
set_option maxRecDepth 100000 in
theorem SeenPlays_g1 (A : Option Addr) (c : Nat) (lows : List Int) (B : Option Addr) (d : Nat) (l : List S71) (C : Option Addr) (e : Nat) (acts : List S39) (w : World) (hr : Kd.C (Kd.int .i64) w A lows.length lows) (hc : lows.length ≤ c) (hs : Kd.C k71 w B l.length l) (hd : l.length ≤ d) (ha : Kd.C k39 w C acts.length acts) (he : acts.length ≤ e) (h0 : ¬ lows.length > 20) (h1 : l.length > 100) :
    Calls Try.prog 6 #[.slice A lows.length c, .slice B l.length d, .slice C acts.length e] w fun e w' => e = .returned (.bool true) ∧ Below w.heap.size w w' := by
  have HPRE := Aside0.mk (Own.nil w)
  have d0a : decide ((lows.length : Int) > 20) = false := decide_eq_false (by omega)
  have d0b : decide (20 < (lows.length : Int)) = false := decide_eq_false (by omega)
  have d1a : decide ((l.length : Int) > 100) = true := decide_eq_true (by omega)
  have d1b : decide (100 < (l.length : Int)) = true := decide_eq_true (by omega)
  clear hr hc hs hd ha he h0 h1
  go_enter Try.func6, Try.ntmps6
  go_wp2_with ((go_at_call 13; ((with_reducible refine (wakes_calls _).mono ?_)); rintro e w99 ⟨rfl, hb⟩; have HW := Aside0.mk (HPRE.out.below hb); clear hb))
  go_ret
  exact ⟨rfl, HW.out.bel⟩
set_option maxHeartbeats 8000000 in
set_option maxRecDepth 100000 in
theorem SeenPlays_g2 (A : Option Addr) (c : Nat) (lows : List Int) (B : Option Addr) (d : Nat) (l : List S71) (C : Option Addr) (e : Nat) (acts : List S39) (w : World) (hr : Kd.C (Kd.int .i64) w A lows.length lows) (hc : lows.length ≤ c) (hs : Kd.C k71 w B l.length l) (hd : l.length ≤ d) (ha : Kd.C k39 w C acts.length acts) (he : acts.length ≤ e) (h0 : ¬ lows.length > 20) (h1 : ¬ l.length > 100) (h2 : acts.length > 300) :
    Calls Try.prog 6 #[.slice A lows.length c, .slice B l.length d, .slice C acts.length e] w fun e w' => e = .returned (.bool true) ∧ Below w.heap.size w w' := by
  have HPRE := Aside0.mk (Own.nil w)
  have d0a : decide ((lows.length : Int) > 20) = false := decide_eq_false (by omega)
  have d0b : decide (20 < (lows.length : Int)) = false := decide_eq_false (by omega)
  have d1a : decide ((l.length : Int) > 100) = false := decide_eq_false (by omega)
  have d1b : decide (100 < (l.length : Int)) = false := decide_eq_false (by omega)
  have d2a : decide ((acts.length : Int) > 300) = true := decide_eq_true (by omega)
  have d2b : decide (300 < (acts.length : Int)) = true := decide_eq_true (by omega)
  clear hr hc hs hd ha he h0 h1 h2
  go_enter Try.func6, Try.ntmps6
  go_wp2_with ((go_at_call 13; ((with_reducible refine (wakes_calls _).mono ?_)); rintro e w99 ⟨rfl, hb⟩; have HW := Aside0.mk (HPRE.out.below hb); clear hb))
  go_ret
  exact ⟨rfl, HW.out.bel⟩
section
variable {w0 w w' : World} {R : List Asn} {A : Option Addr} {n c : Nat} {L : List S71} {lo : Nat → Int}
theorem RefAskE (h : Own w0 w (Row k71 71 (.slice A n c) L :: R)) (src seq low : Int) (hq : wfI seq) (hl : wfI low) (hL : L.length ≤ 1000000000) (st cv : Int) (he : raskR lo L src seq low = (st, cv)) : Calls Try.prog 19 #[.agg #[.int .i64 (lo 0), .int .i64 (lo 1), .int .i64 (lo 2), .int .i64 (lo 3), .slice A n c], .int .i64 src, .int .i64 seq, .int .i64 low] w fun e w' => e = .returned (.tuple #[.int .i64 st, .int .i64 cv]) ∧ Own w0 w' (Row k71 71 (.slice A n c) L :: R) := by
  have := RefAsk (lo := lo) h src seq low hq hl hL
  rwa [he] at this
theorem alike_0 {g : Nat} {co : Nat → Int → Option Int} (h : Own w0 w (SeenA g 0 lo co :: Row k71 71 (.slice A 0 c) [] :: R)) (hok : RefOk lo co []) :
    Calls Try.prog 18 #[.pointer (some ⟨g, 0, none⟩), .agg #[.int .i64 (lo 0), .int .i64 (lo 1), .int .i64 (lo 2), .int .i64 (lo 3), .slice A 0 c]] w fun e w' => e = .returned (.bool true) ∧ Own w0 w' (SeenA g 0 lo co :: Row k71 71 (.slice A 0 c) [] :: R) := alike_calls (L := []) h (by decide) (by decide) hok
theorem RefOf_good (h : Own w0 w R) (A : Option Addr) (c : Nat) (lows : List Int) (B : Option Addr) (d : Nat) (l : List S71) (hr : Kd.C (Kd.int .i64) w0 A lows.length lows) (hs : Kd.C k71 w0 B l.length l) (hl : l.length ≤ 1000000) (hq : ∀ x ∈ l, wfI x.f1) (hok : OfOk lows (l.map cvE)) :
    Calls Try.prog 17 #[.slice A lows.length c, .slice B l.length d] w fun e w' => ∃ A' c', e = .returned (.tuple #[.agg #[.int .i64 ((lowsF lows) 0), .int .i64 ((lowsF lows) 1), .int .i64 ((lowsF lows) 2), .int .i64 ((lowsF lows) 3), .slice A' l.length c'], .int .i64 0]) ∧ Own w0 w' (Row k71 71 (.slice A' l.length c') l :: R) := by
  refine (RefOf_4 h A c lows B d l hr hs hl hq hok.1).mono fun e w' q => ?_
  rcases q with q | q
  · exact q.2
  · exact absurd hok q.1
theorem RefOf_bad (h : Own w0 w R) (A : Option Addr) (c : Nat) (lows : List Int) (B : Option Addr) (d : Nat) (l : List S71) (hr : Kd.C (Kd.int .i64) w0 A lows.length lows) (hs : Kd.C k71 w0 B l.length l) (hl : l.length ≤ 1000000) (hq : ∀ x ∈ l, wfI x.f1) (hno : ¬ OfOk lows (l.map cvE)) :
    Calls Try.prog 17 #[.slice A lows.length c, .slice B l.length d] w fun e w' => ∃ A' c', e = .returned (.tuple #[.agg #[.int .i64 1, .int .i64 1, .int .i64 1, .int .i64 1, .slice A' 0 c'], .int .i64 1]) ∧ Own w0 w' (Row k71 71 (.slice A' 0 c') [] :: R) := by
  by_cases h4 : lows.length = 4
  · refine (RefOf_4 h A c lows B d l hr hs hl hq h4).mono fun e w' q => ?_
    rcases q with q | q
    · exact absurd q.1 hno
    · exact q.2
  · exact RefOf_ne h A c lows B d l hr hs hl h4
theorem RefNoteE (h : Own w0 w (Row k71 71 (.slice A L.length c) L :: R)) (src seq low cd : Int) (hq : wfI seq) (hl : wfI low) (hL : L.length ≤ 1000000) (er : Int) (lo2 : Nat → Int) (L2 : List S71) (he : rnoteE lo L src seq low cd = er ∧ ((er = 0 → upLo lo src.toNat low = lo2 ∧ L ++ [⟨src, seq, cd⟩] = L2) ∧ (er ≠ 0 → lo = lo2 ∧ L = L2))) :
    Calls Try.prog 20 #[.agg #[.int .i64 (lo 0), .int .i64 (lo 1), .int .i64 (lo 2), .int .i64 (lo 3), .slice A L.length c], .int .i64 src, .int .i64 seq, .int .i64 low, .int .i64 cd] w fun e w' => ∃ A' c', e = .returned (.tuple #[.agg #[.int .i64 (lo2 0), .int .i64 (lo2 1), .int .i64 (lo2 2), .int .i64 (lo2 3), .slice A' L2.length c'], .int .i64 er]) ∧ Own w0 w' (Row k71 71 (.slice A' L2.length c') L2 :: R) := by
  obtain ⟨he, hy, hn⟩ := he
  obtain ⟨hst, hin⟩ := raskR_st lo L src seq low
  obtain ⟨st, cv, ha⟩ : ∃ st cv, raskR lo L src seq low = (st, cv) := ⟨_, _, rfl⟩
  unfold rnoteE at he
  rw [ha] at hst hin he
  simp only at hst hin he
  by_cases h0 : st = 0
  · subst h0
    rw [if_pos (.inl rfl)] at he
    subst he
    obtain ⟨rfl, rfl⟩ := hn (by decide)
    exact RefNote_bad h src seq low cd hq hl hL cv ha
  · by_cases h1 : cd < 1
    · rw [if_pos (.inr (decide_eq_false (by omega)))] at he
      subst he
      obtain ⟨rfl, rfl⟩ := hn (by decide)
      exact RefNote_c1 h src seq low cd hq hl hL cv st h0 h1 ha
    · by_cases h4 : cd > 4
      · rw [if_pos (.inr (decide_eq_false (by omega)))] at he
        subst he
        obtain ⟨rfl, rfl⟩ := hn (by decide)
        exact RefNote_c4 h src seq low cd hq hl hL cv st h0 h1 h4 ha
      · have hcb : codeB cd = true := decide_eq_true ⟨by omega, by omega⟩
        rw [if_neg (by rintro (q | q); exact h0 q; rw [hcb] at q; cases q)] at he
        rcases hst with rfl | rfl | rfl | rfl
        · exact absurd rfl h0
        · rw [if_pos rfl] at he
          subst he
          obtain ⟨rfl, rfl⟩ := hn (by decide)
          exact RefNote_old h src seq low cd hq hl hL cv h1 h4 ha
        · rw [if_neg (by decide), if_pos rfl] at he
          subst he
          obtain ⟨rfl, rfl⟩ := hn (by decide)
          exact RefNote_there h src seq low cd hq hl hL cv h1 h4 ha
        · rw [if_neg (by decide), if_neg (by decide)] at he
          subst he
          obtain ⟨h5, rfl⟩ := hy rfl
          obtain ⟨i0, i1, _⟩ := hin (by decide)
          exact RefNote_yes h src seq low cd hq hl hL cv h1 h4 ha i0 i1 lo2 h5
end
set_option maxHeartbeats 8000000 in
set_option maxRecDepth 100000 in
theorem SeenPlays_ok (A : Option Addr) (c : Nat) (lows : List Int) (B : Option Addr) (d : Nat) (l : List S71) (C : Option Addr) (e : Nat) (acts : List S39) (w : World) (hr : Kd.C (Kd.int .i64) w A lows.length lows) (hc : lows.length ≤ c) (hs : Kd.C k71 w B l.length l) (hd : l.length ≤ d) (ha : Kd.C k39 w C acts.length acts) (he : acts.length ≤ e) (h0 : lows.length ≤ 20) (h1 : l.length ≤ 100) (h2 : acts.length ≤ 300) (hq1 : ∀ x ∈ l, Q71 x) (hq2 : ∀ x ∈ acts, Q39 x) (hok : OfOk lows (l.map cvE)) :
    Calls Try.prog 6 #[.slice A lows.length c, .slice B l.length d, .slice C acts.length e] w fun e w' => e = .returned (.bool true) ∧ Below w.heap.size w w' := by
  have HR := Aside0.mk hr
  have HC := Aside0.mk hc
  have HS := Aside0.mk hs
  have HD := Aside0.mk hd
  have HA := Aside0.mk ha
  have HQ1 : Aside0 (∀ x ∈ l, wfI x.f1) := ⟨fun x hx => (hq1 x hx).2.1⟩
  have HQ2 := Aside0.mk hq2
  have HL6 := Aside0.mk (show l.length ≤ 1000000 by omega)
  have HL9 := Aside0.mk (show l.length < 1000000000 by omega)
  have HGF := Aside0.mk (given_f l (by omega))
  have HLM := Aside0.mk (fun (W : World) {A : Option Addr} (h : Kd.C k33 W A (l.map cvE).length (l.map cvE)) => show Kd.C k33 W A l.length (l.map cvE) from by rwa [List.length_map] at h)
  have d0a : decide ((lows.length : Int) > 20) = false := decide_eq_false (by omega)
  have d0b : decide (20 < (lows.length : Int)) = false := decide_eq_false (by omega)
  have d1a : decide ((l.length : Int) > 100) = false := decide_eq_false (by omega)
  have d1b : decide (100 < (l.length : Int)) = false := decide_eq_false (by omega)
  have d2a : decide ((acts.length : Int) > 300) = false := decide_eq_false (by omega)
  have d2b : decide (300 < (acts.length : Int)) = false := decide_eq_false (by omega)
  clear hr hc hs hd ha he hq1 hq2
  have HOK := Aside0.mk hok
  have HRK := Aside0.mk (ref_of hok)
  clear hok
  go_enter Try.func6, Try.ntmps6
  go_wp2_with (first
    | (go_at_call 16; ((with_reducible refine (meterlaw11_given.calls (l.length + 1) B d l (l.map cvE) w HS.out HD.out HGF.out).mono ?_)); rintro e w1 ⟨v1, rfl, hr1, hb1⟩; have h1 := (Own.nil w).row_new hb1 hr1; obtain ⟨Ag, cg, e1, hcg, hCg⟩ := h1.row_reads; subst e1; rw [List.length_map]; rw [List.length_map] at hcg; have H1 := Aside0.mk h1; have HCG := Aside0.mk (And.intro hcg hCg); clear hr1 hb1 h1 hcg hCg)
    | (go_at_call 12; ((with_reducible refine (SeenOf_good (w0 := w) (R := []) (H1.out.tail) A lows.length c lows Ag l.length cg (l.map cvE) rfl (List.length_map ..) (Kd.C_below HR.out H1.out.bel) HC.out (HLM.out _ HCG.out.2) HCG.out.1 HL9.out HOK.out).mono ?_)); rintro e w2 ⟨g, rfl, h⟩; have H2 := Aside0.mk h; clear h)
    | (go_at_call 17; ((with_reducible refine (RefOf_good H2.out A c lows B d l HR.out HS.out HL6.out HQ1.out HOK.out).mono ?_)); rintro e w3 ⟨A9, c9, rfl, h⟩; have H3 := Aside0.mk h; clear h)
    | (go_at_call 18; done))
  have h4 := (H3.out.alloc (.cells #[.int .i64 ((lowsF lows) 0), .int .i64 ((lowsF lows) 1), .int .i64 ((lowsF lows) 2), .int .i64 ((lowsF lows) 3), .slice A9 l.length c9] 49))
  obtain ⟨W4, hW4⟩ : ∃ W4, W4 = w3.alloc (.cells #[.int .i64 ((lowsF lows) 0), .int .i64 ((lowsF lows) 1), .int .i64 ((lowsF lows) 2), .int .i64 ((lowsF lows) 3), .slice A9 l.length c9] 49) := ⟨_, rfl⟩
  rw [← hW4] at h4 ⊢
  obtain ⟨gw, hgw⟩ : ∃ gw, gw = w3.heap.size := ⟨_, rfl⟩
  rw [← hgw] at h4 ⊢
  have H4 := Aside0.mk (h4.pick [2, 1, 0])
  have HNN := Aside0.mk (show l.length ≤ 1000000 by omega)
  have HLL := HNN
  clear h4 hW4 hgw
  go_wp2_with ((go_at_call 18; ((with_reducible refine (alike_calls H4.out HNN.out HLL.out HRK.out).mono ?_)); rintro e w6 ⟨rfl, h⟩; have H6 := Aside0.mk h; clear h))
  rename World => wo
  go_loopw [11] (fun v11 wr => ∃ (i N : Nat) (lo : Nat → Int) (co : Nat → Int → Option Int) (L : List S71) (A9 : Option Addr) (c9 : Nat), i ≤ acts.length ∧ v11 = .int .i64 i ∧ N ≤ 100 + i ∧ L.length ≤ 100 + i ∧ Aside0 (RefOk lo co L) ∧ Aside0 (Own w wr [SeenA g N lo co, Row k71 71 (.slice A9 L.length c9) L, Blk gw (.cells #[.int .i64 (lo 0), .int .i64 (lo 1), .int .i64 (lo 2), .int .i64 (lo 3), .slice A9 L.length c9] 49 (0, 0))])) (fun v11 _ => acts.length - (RowKit.intOf v11).toNat)
  case atStart => exact ⟨0, l.length, (lowsF lows), (ofCo (l.map cvE)), l, A9, c9, Nat.zero_le _, rfl, by omega, by omega, HRK, ⟨H6.out.pick [0, 1, 2]⟩⟩
  case round =>
    obtain ⟨i, N, lo, co, L, A9, c9, hi, rfl, hN, hLl, HOKL, HO⟩ := hrel
    by_cases hlt : i < acts.length
    · have hgx := List.getElem?_eq_getElem hlt
      obtain ⟨x, hx⟩ : ∃ x, acts[i] = x := ⟨_, rfl⟩
      rw [hx] at hgx
      have hq := HQ2.out x (List.mem_of_getElem? hgx)
      obtain ⟨f0, f1, f2, f3, f4⟩ := x
      have HW2 : Aside0 (wfI f2) := ⟨hq.2.2.1⟩
      have HW3 : Aside0 (wfI f3) := ⟨hq.2.2.2.1⟩
      have HW4 : Aside0 (wfI f4) := ⟨hq.2.2.2.2⟩
      rcases C with _ | ad
      · exact absurd (HA.out.2.2 (by omega)) (by rintro ⟨_, h, _⟩; cases h)
      obtain ⟨a0, a1, a2, a3, a4⟩ := act_at HA.out HO.out.bel i hlt f0 f1 f2 f3 f4 hgx
      have HI8 := Aside0.mk (show N < 1000000000 by omega)
      have HI6 := Aside0.mk (show N + 1 ≤ 1000000 by omega)
      have HL8 := Aside0.mk (show L.length ≤ 1000000000 by omega)
      have HL7 := Aside0.mk (show L.length ≤ 1000000 by omega)
      clear hgx hx hq
      go_wp2_with (go_at_call 9; done)
      have h2 := HO.out.alloc (.cells #[.bool f0, .int .i64 f1, .int .i64 f2, .int .i64 f3, .int .i64 f4] 39)
      obtain ⟨W, hW⟩ : ∃ W, W = wr.alloc (.cells #[.bool f0, .int .i64 f1, .int .i64 f2, .int .i64 f3, .int .i64 f4] 39) := ⟨_, rfl⟩
      rw [← hW] at h2 ⊢
      obtain ⟨k7, hk7⟩ : ∃ k7, k7 = wr.heap.size := ⟨_, rfl⟩
      rw [← hk7] at h2 ⊢
      have H2 := Aside0.mk h2
      clear h2 hW hk7 a0 a1 a2 a3 a4
      have x0 := (blk_cell H2.out.at0 0).trans rfl
      have x1 := (blk_cell H2.out.at0 1).trans rfl
      have x2 := (blk_cell H2.out.at0 2).trans rfl
      have x3 := (blk_cell H2.out.at0 3).trans rfl
      have x4 := (blk_cell H2.out.at0 4).trans rfl
      obtain ⟨st, cv, hst⟩ : ∃ st cv, askR lo co f1 f2 f3 = (st, cv) := ⟨_, _, rfl⟩
      have HST := Aside0.mk hst
      have HRA := Aside0.mk (show raskR lo L f1 f2 f3 = (st, cv) from (ref_ask HOKL.out f1 f2 f3).trans hst)
      clear hst
      cases f0 with
      | true =>
        go_wp2_with (first
          | (go_at_call 9; ((with_reducible refine (SeenAskE H2.out.r1 f1 f2 f3 HW2.out st cv HST.out).mono ?_)); rintro e w5 ⟨rfl, rfl⟩; have y0 := (blk_cell H2.out.at3 0).trans rfl; have y1 := (blk_cell H2.out.at3 1).trans rfl; have y2 := (blk_cell H2.out.at3 2).trans rfl; have y3 := (blk_cell H2.out.at3 3).trans rfl; have y4 := (blk_cell H2.out.at3 4).trans rfl)
          | (go_at_call 19; ((with_reducible refine (RefAskE H2.out.r2 f1 f2 f3 HW2.out HW3.out HL8.out st cv HRA.out).mono ?_)); rintro e w6 ⟨rfl, h⟩; have HR4 := Aside0.mk h.r1.tail; have HR5 := Aside0.mk h; clear h y0 y1 y2 y3 y4 x0 x1 x2 x3 x4; have x0 := (blk_cell HR5.out.at1 0).trans rfl; have x1 := (blk_cell HR5.out.at1 1).trans rfl; have x2 := (blk_cell HR5.out.at1 2).trans rfl; have x3 := (blk_cell HR5.out.at1 3).trans rfl; have x4 := (blk_cell HR5.out.at1 4).trans rfl))
        go_roundw
        case rel => exact ⟨i + 1, N, lo, co, L, A9, c9, by omega, by first | rfl | go_num, by omega, by omega, HOKL, ⟨HR4.out.pick [1, 0, 2]⟩⟩
        case measure => first | (simp [RowKit.intOf]; done) | (simp [RowKit.intOf]; omega)
      | false =>
        by_cases hne : noteE lo co f1 f2 f3 f4 = 0
        · obtain ⟨er, her⟩ : ∃ er, noteE lo co f1 f2 f3 f4 = er := ⟨_, rfl⟩
          obtain ⟨lo2, hlo2⟩ : ∃ lo2, upLo lo f1.toNat f3 = lo2 := ⟨_, rfl⟩
          obtain ⟨co2, hco2⟩ : ∃ co2, upCo lo co f1.toNat f2 f3 f4 = co2 := ⟨_, rfl⟩
          obtain ⟨L2, hL2⟩ : ∃ L2, L ++ [(⟨f1, f2, f4⟩ : S71)] = L2 := ⟨_, rfl⟩
          have HNE : Aside0 (noteE lo co f1 f2 f3 f4 = er ∧ noteLo lo co f1 f2 f3 f4 = lo2 ∧ noteCo lo co f1 f2 f3 f4 = co2) := ⟨her, (if_pos hne).trans hlo2, (if_pos hne).trans hco2⟩
          have HRE : Aside0 (rnoteE lo L f1 f2 f3 f4 = er ∧ ((er = 0 → upLo lo f1.toNat f3 = lo2 ∧ L ++ [⟨f1, f2, f4⟩] = L2) ∧ (er ≠ 0 → lo = lo2 ∧ L = L2))) := ⟨(ref_note HOKL.out f1 f2 f3 f4).trans her, ⟨fun q => ⟨hlo2, hL2⟩, fun q => absurd (her.symm.trans hne) q⟩⟩
          have HOK2 : Aside0 (RefOk lo2 co2 L2) := ⟨by rw [← hlo2, ← hco2, ← hL2]; exact ref_step HOKL.out hne⟩
          have hL2l : L2.length ≤ L.length + 1 := by rw [← hL2]; rw [List.length_append]; exact Nat.le_refl _
          have HLB := Aside0.mk (show L2.length ≤ 1000000 by omega)
          clear hlo2 hco2 hL2 her hne
          go_wp2_with (first
            | (go_at_call 9; ((with_reducible refine (SeenAskE H2.out.r1 f1 f2 f3 HW2.out st cv HST.out).mono ?_)); rintro e w5 ⟨rfl, rfl⟩; have y0 := (blk_cell H2.out.at3 0).trans rfl; have y1 := (blk_cell H2.out.at3 1).trans rfl; have y2 := (blk_cell H2.out.at3 2).trans rfl; have y3 := (blk_cell H2.out.at3 3).trans rfl; have y4 := (blk_cell H2.out.at3 4).trans rfl)
            | (go_at_call 19; ((with_reducible refine (RefAskE H2.out.r2 f1 f2 f3 HW2.out HW3.out HL8.out st cv HRA.out).mono ?_)); rintro e w6 ⟨rfl, h⟩; have HR4 := Aside0.mk h.r1.tail; have HR5 := Aside0.mk h; clear h y0 y1 y2 y3 y4 x0 x1 x2 x3 x4; have x0 := (blk_cell HR5.out.at1 0).trans rfl; have x1 := (blk_cell HR5.out.at1 1).trans rfl; have x2 := (blk_cell HR5.out.at1 2).trans rfl; have x3 := (blk_cell HR5.out.at1 3).trans rfl; have x4 := (blk_cell HR5.out.at1 4).trans rfl)
            | (go_at_call 10; ((with_reducible refine (SeenNoteE HR5.out.r2 f1 f2 f3 f4 HW2.out HW4.out HI8.out er lo2 co2 HNE.out).mono ?_)); rintro e w7 ⟨rfl, h⟩; have H7 := Aside0.mk h; clear h x0 x1 x2 x3 x4; have x0 := (blk_cell H7.out.at2 0).trans rfl; have x1 := (blk_cell H7.out.at2 1).trans rfl; have x2 := (blk_cell H7.out.at2 2).trans rfl; have x3 := (blk_cell H7.out.at2 3).trans rfl; have x4 := (blk_cell H7.out.at2 4).trans rfl; have y0 := (blk_cell H7.out.at3 0).trans rfl; have y1 := (blk_cell H7.out.at3 1).trans rfl; have y2 := (blk_cell H7.out.at3 2).trans rfl; have y3 := (blk_cell H7.out.at3 3).trans rfl; have y4 := (blk_cell H7.out.at3 4).trans rfl)
            | (go_at_call 20; ((with_reducible refine (RefNoteE H7.out.r1 f1 f2 f3 f4 HW2.out HW3.out HL7.out er lo2 (L2) HRE.out).mono ?_)); rintro e w8 ⟨A10, c10, rfl, h⟩; have H8 := Aside0.mk h; clear h x0 x1 x2 x3 x4 y0 y1 y2 y3 y4; have f0 := blk_frozen H8.out.at3 0; have q0 := (blk_cell H8.out.at3 0).trans rfl; have f1 := blk_frozen H8.out.at3 1; have q1 := (blk_cell H8.out.at3 1).trans rfl; have f2 := blk_frozen H8.out.at3 2; have q2 := (blk_cell H8.out.at3 2).trans rfl; have f3 := blk_frozen H8.out.at3 3; have q3 := (blk_cell H8.out.at3 3).trans rfl; have f4 := blk_frozen H8.out.at3 4; have q4 := (blk_cell H8.out.at3 4).trans rfl; have H9 := Aside0.mk ((((((H8.out.r3.set 0 (.int .i64 (lo2 0))).set 1 (.int .i64 (lo2 1))).set 2 (.int .i64 (lo2 2))).set 3 (.int .i64 (lo2 3))).set 4 (.slice A10 L2.length c10)).r1.r2); have y0 := (blk_cell H9.out.at2 0).trans rfl; have y1 := (blk_cell H9.out.at2 1).trans rfl; have y2 := (blk_cell H9.out.at2 2).trans rfl; have y3 := (blk_cell H9.out.at2 3).trans rfl; have y4 := (blk_cell H9.out.at2 4).trans rfl)
            | (go_at_call 18; ((with_reducible refine (alike_calls H9.out HI6.out HLB.out HOK2.out).mono ?_)); rintro e w10 ⟨rfl, h⟩; have H10 := Aside0.mk h; clear h))
          go_roundw
          case rel => exact ⟨i + 1, N + 1, lo2, co2, L2, A10, c10, by omega, by first | rfl | go_num, by omega, by omega, HOK2, ⟨H10.out.pick [0, 1, 2]⟩⟩
          case measure => first | (simp [RowKit.intOf]; done) | (simp [RowKit.intOf]; omega)
        · obtain ⟨er, her⟩ : ∃ er, noteE lo co f1 f2 f3 f4 = er := ⟨_, rfl⟩
          obtain ⟨lo2, hlo2⟩ : ∃ lo2, lo = lo2 := ⟨_, rfl⟩
          obtain ⟨co2, hco2⟩ : ∃ co2, co = co2 := ⟨_, rfl⟩
          obtain ⟨L2, hL2⟩ : ∃ L2, L = L2 := ⟨_, rfl⟩
          have HNE : Aside0 (noteE lo co f1 f2 f3 f4 = er ∧ noteLo lo co f1 f2 f3 f4 = lo2 ∧ noteCo lo co f1 f2 f3 f4 = co2) := ⟨her, (if_neg hne).trans hlo2, (if_neg hne).trans hco2⟩
          have HRE : Aside0 (rnoteE lo L f1 f2 f3 f4 = er ∧ ((er = 0 → upLo lo f1.toNat f3 = lo2 ∧ L ++ [⟨f1, f2, f4⟩] = L2) ∧ (er ≠ 0 → lo = lo2 ∧ L = L2))) := ⟨(ref_note HOKL.out f1 f2 f3 f4).trans her, ⟨fun q => absurd (her.trans q) hne, fun q => ⟨hlo2, hL2⟩⟩⟩
          have HOK2 : Aside0 (RefOk lo2 co2 L2) := ⟨by rw [← hlo2, ← hco2, ← hL2]; exact HOKL.out⟩
          have hL2l : L2.length ≤ L.length + 1 := by rw [← hL2]; exact Nat.le_succ _
          have HLB := Aside0.mk (show L2.length ≤ 1000000 by omega)
          clear hlo2 hco2 hL2 her hne
          go_wp2_with (first
            | (go_at_call 9; ((with_reducible refine (SeenAskE H2.out.r1 f1 f2 f3 HW2.out st cv HST.out).mono ?_)); rintro e w5 ⟨rfl, rfl⟩; have y0 := (blk_cell H2.out.at3 0).trans rfl; have y1 := (blk_cell H2.out.at3 1).trans rfl; have y2 := (blk_cell H2.out.at3 2).trans rfl; have y3 := (blk_cell H2.out.at3 3).trans rfl; have y4 := (blk_cell H2.out.at3 4).trans rfl)
            | (go_at_call 19; ((with_reducible refine (RefAskE H2.out.r2 f1 f2 f3 HW2.out HW3.out HL8.out st cv HRA.out).mono ?_)); rintro e w6 ⟨rfl, h⟩; have HR4 := Aside0.mk h.r1.tail; have HR5 := Aside0.mk h; clear h y0 y1 y2 y3 y4 x0 x1 x2 x3 x4; have x0 := (blk_cell HR5.out.at1 0).trans rfl; have x1 := (blk_cell HR5.out.at1 1).trans rfl; have x2 := (blk_cell HR5.out.at1 2).trans rfl; have x3 := (blk_cell HR5.out.at1 3).trans rfl; have x4 := (blk_cell HR5.out.at1 4).trans rfl)
            | (go_at_call 10; ((with_reducible refine (SeenNoteE HR5.out.r2 f1 f2 f3 f4 HW2.out HW4.out HI8.out er lo2 co2 HNE.out).mono ?_)); rintro e w7 ⟨rfl, h⟩; have H7 := Aside0.mk h; clear h x0 x1 x2 x3 x4; have x0 := (blk_cell H7.out.at2 0).trans rfl; have x1 := (blk_cell H7.out.at2 1).trans rfl; have x2 := (blk_cell H7.out.at2 2).trans rfl; have x3 := (blk_cell H7.out.at2 3).trans rfl; have x4 := (blk_cell H7.out.at2 4).trans rfl; have y0 := (blk_cell H7.out.at3 0).trans rfl; have y1 := (blk_cell H7.out.at3 1).trans rfl; have y2 := (blk_cell H7.out.at3 2).trans rfl; have y3 := (blk_cell H7.out.at3 3).trans rfl; have y4 := (blk_cell H7.out.at3 4).trans rfl)
            | (go_at_call 20; ((with_reducible refine (RefNoteE H7.out.r1 f1 f2 f3 f4 HW2.out HW3.out HL7.out er lo2 (L2) HRE.out).mono ?_)); rintro e w8 ⟨A10, c10, rfl, h⟩; have H8 := Aside0.mk h; clear h x0 x1 x2 x3 x4 y0 y1 y2 y3 y4; have f0 := blk_frozen H8.out.at3 0; have q0 := (blk_cell H8.out.at3 0).trans rfl; have f1 := blk_frozen H8.out.at3 1; have q1 := (blk_cell H8.out.at3 1).trans rfl; have f2 := blk_frozen H8.out.at3 2; have q2 := (blk_cell H8.out.at3 2).trans rfl; have f3 := blk_frozen H8.out.at3 3; have q3 := (blk_cell H8.out.at3 3).trans rfl; have f4 := blk_frozen H8.out.at3 4; have q4 := (blk_cell H8.out.at3 4).trans rfl; have H9 := Aside0.mk ((((((H8.out.r3.set 0 (.int .i64 (lo2 0))).set 1 (.int .i64 (lo2 1))).set 2 (.int .i64 (lo2 2))).set 3 (.int .i64 (lo2 3))).set 4 (.slice A10 L2.length c10)).r1.r2); have y0 := (blk_cell H9.out.at2 0).trans rfl; have y1 := (blk_cell H9.out.at2 1).trans rfl; have y2 := (blk_cell H9.out.at2 2).trans rfl; have y3 := (blk_cell H9.out.at2 3).trans rfl; have y4 := (blk_cell H9.out.at2 4).trans rfl)
            | (go_at_call 18; ((with_reducible refine (alike_calls H9.out HI6.out HLB.out HOK2.out).mono ?_)); rintro e w10 ⟨rfl, h⟩; have H10 := Aside0.mk h; clear h))
          go_roundw
          case rel => exact ⟨i + 1, N + 1, lo2, co2, L2, A10, c10, by omega, by first | rfl | go_num, by omega, by omega, HOK2, ⟨H10.out.pick [0, 1, 2]⟩⟩
          case measure => first | (simp [RowKit.intOf]; done) | (simp [RowKit.intOf]; omega)
    · have hi' : i = acts.length := by omega
      clear hlt hi
      go_wp2_with ((go_at_call 13; ((with_reducible refine (wakes_calls _).mono ?_)); rintro e w99 ⟨rfl, hb⟩; have HW := Aside0.mk (HO.out.below hb); clear hb))
      go_ret
      exact ⟨rfl, HW.out.bel⟩
set_option maxHeartbeats 8000000 in
set_option maxRecDepth 100000 in
theorem SeenPlays_no (A : Option Addr) (c : Nat) (lows : List Int) (B : Option Addr) (d : Nat) (l : List S71) (C : Option Addr) (e : Nat) (acts : List S39) (w : World) (hr : Kd.C (Kd.int .i64) w A lows.length lows) (hc : lows.length ≤ c) (hs : Kd.C k71 w B l.length l) (hd : l.length ≤ d) (ha : Kd.C k39 w C acts.length acts) (he : acts.length ≤ e) (h0 : lows.length ≤ 20) (h1 : l.length ≤ 100) (h2 : acts.length ≤ 300) (hq1 : ∀ x ∈ l, Q71 x) (hq2 : ∀ x ∈ acts, Q39 x) (hok : ¬ OfOk lows (l.map cvE)) :
    Calls Try.prog 6 #[.slice A lows.length c, .slice B l.length d, .slice C acts.length e] w fun e w' => e = .returned (.bool true) ∧ Below w.heap.size w w' := by
  have HR := Aside0.mk hr
  have HC := Aside0.mk hc
  have HS := Aside0.mk hs
  have HD := Aside0.mk hd
  have HA := Aside0.mk ha
  have HQ1 : Aside0 (∀ x ∈ l, wfI x.f1) := ⟨fun x hx => (hq1 x hx).2.1⟩
  have HQ2 := Aside0.mk hq2
  have HL6 := Aside0.mk (show l.length ≤ 1000000 by omega)
  have HL9 := Aside0.mk (show l.length < 1000000000 by omega)
  have HGF := Aside0.mk (given_f l (by omega))
  have HLM := Aside0.mk (fun (W : World) {A : Option Addr} (h : Kd.C k33 W A (l.map cvE).length (l.map cvE)) => show Kd.C k33 W A l.length (l.map cvE) from by rwa [List.length_map] at h)
  have d0a : decide ((lows.length : Int) > 20) = false := decide_eq_false (by omega)
  have d0b : decide (20 < (lows.length : Int)) = false := decide_eq_false (by omega)
  have d1a : decide ((l.length : Int) > 100) = false := decide_eq_false (by omega)
  have d1b : decide (100 < (l.length : Int)) = false := decide_eq_false (by omega)
  have d2a : decide ((acts.length : Int) > 300) = false := decide_eq_false (by omega)
  have d2b : decide (300 < (acts.length : Int)) = false := decide_eq_false (by omega)
  clear hr hc hs hd ha he hq1 hq2
  have HOK := Aside0.mk hok
  have HRK := Aside0.mk refok_new
  clear hok
  go_enter Try.func6, Try.ntmps6
  go_wp2_with (first
    | (go_at_call 16; ((with_reducible refine (meterlaw11_given.calls (l.length + 1) B d l (l.map cvE) w HS.out HD.out HGF.out).mono ?_)); rintro e w1 ⟨v1, rfl, hr1, hb1⟩; have h1 := (Own.nil w).row_new hb1 hr1; obtain ⟨Ag, cg, e1, hcg, hCg⟩ := h1.row_reads; subst e1; rw [List.length_map]; rw [List.length_map] at hcg; have H1 := Aside0.mk h1; have HCG := Aside0.mk (And.intro hcg hCg); clear hr1 hb1 h1 hcg hCg)
    | (go_at_call 12; ((with_reducible refine (SeenOf_bad A lows.length c lows Ag l.length cg (l.map cvE) w1 rfl (List.length_map ..) (Kd.C_below HR.out H1.out.bel) HC.out (HLM.out _ HCG.out.2) HCG.out.1 HL9.out HOK.out).mono ?_)); rintro e w2 ⟨rfl, hb⟩; have H2 := Aside0.mk (H1.out.tail.below hb); clear hb)
    | (go_at_call 17; ((with_reducible refine (RefOf_bad H2.out A c lows B d l HR.out HS.out HL6.out HQ1.out HOK.out).mono ?_)); rintro e w3 ⟨A9, c9, rfl, h⟩; have H3 := Aside0.mk h; clear h)
    | (go_at_call 8; done))
  have h4 := H3.out.alloc (.cells #[.int .i64 1, .int .i64 1, .int .i64 1, .int .i64 1, .slice A9 0 c9] 49)
  obtain ⟨W4, hW4⟩ : ∃ W4, W4 = w3.alloc (.cells #[.int .i64 1, .int .i64 1, .int .i64 1, .int .i64 1, .slice A9 0 c9] 49) := ⟨_, rfl⟩
  rw [← hW4] at h4 ⊢
  obtain ⟨gw, hgw⟩ : ∃ gw, gw = w3.heap.size := ⟨_, rfl⟩
  rw [← hgw] at h4 ⊢
  have H4 : Aside0 (Own w W4 [Row k71 71 (.slice A9 0 c9) [], Blk gw (.cells #[.int .i64 1, .int .i64 1, .int .i64 1, .int .i64 1, .slice A9 0 c9] 49 (0, 0))]) := ⟨h4.r1⟩
  clear h4 hW4 hgw
  go_wp2_with (first
    | (go_at_call 8; ((with_reducible refine (SeenNew H4.out).mono ?_)); rintro e w5 ⟨g, rfl, h⟩; have H5 := Aside0.mk (h.pick [0, 1, 2]); have y0 := (blk_cell (H5.out.at2) 0).trans rfl; have y1 := (blk_cell (H5.out.at2) 1).trans rfl; have y2 := (blk_cell (H5.out.at2) 2).trans rfl; have y3 := (blk_cell (H5.out.at2) 3).trans rfl; have y4 := (blk_cell (H5.out.at2) 4).trans rfl; clear h)
    | (go_at_call 18; ((with_reducible refine (alike_0 H5.out HRK.out).mono ?_)); rintro e w6 ⟨rfl, h⟩; have H6 := Aside0.mk h; clear h))
  rename World => wo
  go_loopw [11] (fun v11 wr => ∃ (i N : Nat) (lo : Nat → Int) (co : Nat → Int → Option Int) (L : List S71) (A9 : Option Addr) (c9 : Nat), i ≤ acts.length ∧ v11 = .int .i64 i ∧ N ≤ 100 + i ∧ L.length ≤ 100 + i ∧ Aside0 (RefOk lo co L) ∧ Aside0 (Own w wr [SeenA g N lo co, Row k71 71 (.slice A9 L.length c9) L, Blk gw (.cells #[.int .i64 (lo 0), .int .i64 (lo 1), .int .i64 (lo 2), .int .i64 (lo 3), .slice A9 L.length c9] 49 (0, 0))])) (fun v11 _ => acts.length - (RowKit.intOf v11).toNat)
  case atStart => exact ⟨0, 0, (fun _ => 1), (fun _ _ => none), [], A9, c9, Nat.zero_le _, rfl, by omega, by simp, HRK, ⟨H6.out.pick [0, 1, 2]⟩⟩
  case round =>
    obtain ⟨i, N, lo, co, L, A9, c9, hi, rfl, hN, hLl, HOKL, HO⟩ := hrel
    by_cases hlt : i < acts.length
    · have hgx := List.getElem?_eq_getElem hlt
      obtain ⟨x, hx⟩ : ∃ x, acts[i] = x := ⟨_, rfl⟩
      rw [hx] at hgx
      have hq := HQ2.out x (List.mem_of_getElem? hgx)
      obtain ⟨f0, f1, f2, f3, f4⟩ := x
      have HW2 : Aside0 (wfI f2) := ⟨hq.2.2.1⟩
      have HW3 : Aside0 (wfI f3) := ⟨hq.2.2.2.1⟩
      have HW4 : Aside0 (wfI f4) := ⟨hq.2.2.2.2⟩
      rcases C with _ | ad
      · exact absurd (HA.out.2.2 (by omega)) (by rintro ⟨_, h, _⟩; cases h)
      obtain ⟨a0, a1, a2, a3, a4⟩ := act_at HA.out HO.out.bel i hlt f0 f1 f2 f3 f4 hgx
      have HI8 := Aside0.mk (show N < 1000000000 by omega)
      have HI6 := Aside0.mk (show N + 1 ≤ 1000000 by omega)
      have HL8 := Aside0.mk (show L.length ≤ 1000000000 by omega)
      have HL7 := Aside0.mk (show L.length ≤ 1000000 by omega)
      clear hgx hx hq
      go_wp2_with (go_at_call 9; done)
      have h2 := HO.out.alloc (.cells #[.bool f0, .int .i64 f1, .int .i64 f2, .int .i64 f3, .int .i64 f4] 39)
      obtain ⟨W, hW⟩ : ∃ W, W = wr.alloc (.cells #[.bool f0, .int .i64 f1, .int .i64 f2, .int .i64 f3, .int .i64 f4] 39) := ⟨_, rfl⟩
      rw [← hW] at h2 ⊢
      obtain ⟨k7, hk7⟩ : ∃ k7, k7 = wr.heap.size := ⟨_, rfl⟩
      rw [← hk7] at h2 ⊢
      have H2 := Aside0.mk h2
      clear h2 hW hk7 a0 a1 a2 a3 a4
      have x0 := (blk_cell H2.out.at0 0).trans rfl
      have x1 := (blk_cell H2.out.at0 1).trans rfl
      have x2 := (blk_cell H2.out.at0 2).trans rfl
      have x3 := (blk_cell H2.out.at0 3).trans rfl
      have x4 := (blk_cell H2.out.at0 4).trans rfl
      obtain ⟨st, cv, hst⟩ : ∃ st cv, askR lo co f1 f2 f3 = (st, cv) := ⟨_, _, rfl⟩
      have HST := Aside0.mk hst
      have HRA := Aside0.mk (show raskR lo L f1 f2 f3 = (st, cv) from (ref_ask HOKL.out f1 f2 f3).trans hst)
      clear hst
      cases f0 with
      | true =>
        go_wp2_with (first
          | (go_at_call 9; ((with_reducible refine (SeenAskE H2.out.r1 f1 f2 f3 HW2.out st cv HST.out).mono ?_)); rintro e w5 ⟨rfl, rfl⟩; have y0 := (blk_cell H2.out.at3 0).trans rfl; have y1 := (blk_cell H2.out.at3 1).trans rfl; have y2 := (blk_cell H2.out.at3 2).trans rfl; have y3 := (blk_cell H2.out.at3 3).trans rfl; have y4 := (blk_cell H2.out.at3 4).trans rfl)
          | (go_at_call 19; ((with_reducible refine (RefAskE H2.out.r2 f1 f2 f3 HW2.out HW3.out HL8.out st cv HRA.out).mono ?_)); rintro e w6 ⟨rfl, h⟩; have HR4 := Aside0.mk h.r1.tail; have HR5 := Aside0.mk h; clear h y0 y1 y2 y3 y4 x0 x1 x2 x3 x4; have x0 := (blk_cell HR5.out.at1 0).trans rfl; have x1 := (blk_cell HR5.out.at1 1).trans rfl; have x2 := (blk_cell HR5.out.at1 2).trans rfl; have x3 := (blk_cell HR5.out.at1 3).trans rfl; have x4 := (blk_cell HR5.out.at1 4).trans rfl))
        go_roundw
        case rel => exact ⟨i + 1, N, lo, co, L, A9, c9, by omega, by first | rfl | go_num, by omega, by omega, HOKL, ⟨HR4.out.pick [1, 0, 2]⟩⟩
        case measure => first | (simp [RowKit.intOf]; done) | (simp [RowKit.intOf]; omega)
      | false =>
        by_cases hne : noteE lo co f1 f2 f3 f4 = 0
        · obtain ⟨er, her⟩ : ∃ er, noteE lo co f1 f2 f3 f4 = er := ⟨_, rfl⟩
          obtain ⟨lo2, hlo2⟩ : ∃ lo2, upLo lo f1.toNat f3 = lo2 := ⟨_, rfl⟩
          obtain ⟨co2, hco2⟩ : ∃ co2, upCo lo co f1.toNat f2 f3 f4 = co2 := ⟨_, rfl⟩
          obtain ⟨L2, hL2⟩ : ∃ L2, L ++ [(⟨f1, f2, f4⟩ : S71)] = L2 := ⟨_, rfl⟩
          have HNE : Aside0 (noteE lo co f1 f2 f3 f4 = er ∧ noteLo lo co f1 f2 f3 f4 = lo2 ∧ noteCo lo co f1 f2 f3 f4 = co2) := ⟨her, (if_pos hne).trans hlo2, (if_pos hne).trans hco2⟩
          have HRE : Aside0 (rnoteE lo L f1 f2 f3 f4 = er ∧ ((er = 0 → upLo lo f1.toNat f3 = lo2 ∧ L ++ [⟨f1, f2, f4⟩] = L2) ∧ (er ≠ 0 → lo = lo2 ∧ L = L2))) := ⟨(ref_note HOKL.out f1 f2 f3 f4).trans her, ⟨fun q => ⟨hlo2, hL2⟩, fun q => absurd (her.symm.trans hne) q⟩⟩
          have HOK2 : Aside0 (RefOk lo2 co2 L2) := ⟨by rw [← hlo2, ← hco2, ← hL2]; exact ref_step HOKL.out hne⟩
          have hL2l : L2.length ≤ L.length + 1 := by rw [← hL2]; rw [List.length_append]; exact Nat.le_refl _
          have HLB := Aside0.mk (show L2.length ≤ 1000000 by omega)
          clear hlo2 hco2 hL2 her hne
          go_wp2_with (first
            | (go_at_call 9; ((with_reducible refine (SeenAskE H2.out.r1 f1 f2 f3 HW2.out st cv HST.out).mono ?_)); rintro e w5 ⟨rfl, rfl⟩; have y0 := (blk_cell H2.out.at3 0).trans rfl; have y1 := (blk_cell H2.out.at3 1).trans rfl; have y2 := (blk_cell H2.out.at3 2).trans rfl; have y3 := (blk_cell H2.out.at3 3).trans rfl; have y4 := (blk_cell H2.out.at3 4).trans rfl)
            | (go_at_call 19; ((with_reducible refine (RefAskE H2.out.r2 f1 f2 f3 HW2.out HW3.out HL8.out st cv HRA.out).mono ?_)); rintro e w6 ⟨rfl, h⟩; have HR4 := Aside0.mk h.r1.tail; have HR5 := Aside0.mk h; clear h y0 y1 y2 y3 y4 x0 x1 x2 x3 x4; have x0 := (blk_cell HR5.out.at1 0).trans rfl; have x1 := (blk_cell HR5.out.at1 1).trans rfl; have x2 := (blk_cell HR5.out.at1 2).trans rfl; have x3 := (blk_cell HR5.out.at1 3).trans rfl; have x4 := (blk_cell HR5.out.at1 4).trans rfl)
            | (go_at_call 10; ((with_reducible refine (SeenNoteE HR5.out.r2 f1 f2 f3 f4 HW2.out HW4.out HI8.out er lo2 co2 HNE.out).mono ?_)); rintro e w7 ⟨rfl, h⟩; have H7 := Aside0.mk h; clear h x0 x1 x2 x3 x4; have x0 := (blk_cell H7.out.at2 0).trans rfl; have x1 := (blk_cell H7.out.at2 1).trans rfl; have x2 := (blk_cell H7.out.at2 2).trans rfl; have x3 := (blk_cell H7.out.at2 3).trans rfl; have x4 := (blk_cell H7.out.at2 4).trans rfl; have y0 := (blk_cell H7.out.at3 0).trans rfl; have y1 := (blk_cell H7.out.at3 1).trans rfl; have y2 := (blk_cell H7.out.at3 2).trans rfl; have y3 := (blk_cell H7.out.at3 3).trans rfl; have y4 := (blk_cell H7.out.at3 4).trans rfl)
            | (go_at_call 20; ((with_reducible refine (RefNoteE H7.out.r1 f1 f2 f3 f4 HW2.out HW3.out HL7.out er lo2 (L2) HRE.out).mono ?_)); rintro e w8 ⟨A10, c10, rfl, h⟩; have H8 := Aside0.mk h; clear h x0 x1 x2 x3 x4 y0 y1 y2 y3 y4; have f0 := blk_frozen H8.out.at3 0; have q0 := (blk_cell H8.out.at3 0).trans rfl; have f1 := blk_frozen H8.out.at3 1; have q1 := (blk_cell H8.out.at3 1).trans rfl; have f2 := blk_frozen H8.out.at3 2; have q2 := (blk_cell H8.out.at3 2).trans rfl; have f3 := blk_frozen H8.out.at3 3; have q3 := (blk_cell H8.out.at3 3).trans rfl; have f4 := blk_frozen H8.out.at3 4; have q4 := (blk_cell H8.out.at3 4).trans rfl; have H9 := Aside0.mk ((((((H8.out.r3.set 0 (.int .i64 (lo2 0))).set 1 (.int .i64 (lo2 1))).set 2 (.int .i64 (lo2 2))).set 3 (.int .i64 (lo2 3))).set 4 (.slice A10 L2.length c10)).r1.r2); have y0 := (blk_cell H9.out.at2 0).trans rfl; have y1 := (blk_cell H9.out.at2 1).trans rfl; have y2 := (blk_cell H9.out.at2 2).trans rfl; have y3 := (blk_cell H9.out.at2 3).trans rfl; have y4 := (blk_cell H9.out.at2 4).trans rfl)
            | (go_at_call 18; ((with_reducible refine (alike_calls H9.out HI6.out HLB.out HOK2.out).mono ?_)); rintro e w10 ⟨rfl, h⟩; have H10 := Aside0.mk h; clear h))
          go_roundw
          case rel => exact ⟨i + 1, N + 1, lo2, co2, L2, A10, c10, by omega, by first | rfl | go_num, by omega, by omega, HOK2, ⟨H10.out.pick [0, 1, 2]⟩⟩
          case measure => first | (simp [RowKit.intOf]; done) | (simp [RowKit.intOf]; omega)
        · obtain ⟨er, her⟩ : ∃ er, noteE lo co f1 f2 f3 f4 = er := ⟨_, rfl⟩
          obtain ⟨lo2, hlo2⟩ : ∃ lo2, lo = lo2 := ⟨_, rfl⟩
          obtain ⟨co2, hco2⟩ : ∃ co2, co = co2 := ⟨_, rfl⟩
          obtain ⟨L2, hL2⟩ : ∃ L2, L = L2 := ⟨_, rfl⟩
          have HNE : Aside0 (noteE lo co f1 f2 f3 f4 = er ∧ noteLo lo co f1 f2 f3 f4 = lo2 ∧ noteCo lo co f1 f2 f3 f4 = co2) := ⟨her, (if_neg hne).trans hlo2, (if_neg hne).trans hco2⟩
          have HRE : Aside0 (rnoteE lo L f1 f2 f3 f4 = er ∧ ((er = 0 → upLo lo f1.toNat f3 = lo2 ∧ L ++ [⟨f1, f2, f4⟩] = L2) ∧ (er ≠ 0 → lo = lo2 ∧ L = L2))) := ⟨(ref_note HOKL.out f1 f2 f3 f4).trans her, ⟨fun q => absurd (her.trans q) hne, fun q => ⟨hlo2, hL2⟩⟩⟩
          have HOK2 : Aside0 (RefOk lo2 co2 L2) := ⟨by rw [← hlo2, ← hco2, ← hL2]; exact HOKL.out⟩
          have hL2l : L2.length ≤ L.length + 1 := by rw [← hL2]; exact Nat.le_succ _
          have HLB := Aside0.mk (show L2.length ≤ 1000000 by omega)
          clear hlo2 hco2 hL2 her hne
          go_wp2_with (first
            | (go_at_call 9; ((with_reducible refine (SeenAskE H2.out.r1 f1 f2 f3 HW2.out st cv HST.out).mono ?_)); rintro e w5 ⟨rfl, rfl⟩; have y0 := (blk_cell H2.out.at3 0).trans rfl; have y1 := (blk_cell H2.out.at3 1).trans rfl; have y2 := (blk_cell H2.out.at3 2).trans rfl; have y3 := (blk_cell H2.out.at3 3).trans rfl; have y4 := (blk_cell H2.out.at3 4).trans rfl)
            | (go_at_call 19; ((with_reducible refine (RefAskE H2.out.r2 f1 f2 f3 HW2.out HW3.out HL8.out st cv HRA.out).mono ?_)); rintro e w6 ⟨rfl, h⟩; have HR4 := Aside0.mk h.r1.tail; have HR5 := Aside0.mk h; clear h y0 y1 y2 y3 y4 x0 x1 x2 x3 x4; have x0 := (blk_cell HR5.out.at1 0).trans rfl; have x1 := (blk_cell HR5.out.at1 1).trans rfl; have x2 := (blk_cell HR5.out.at1 2).trans rfl; have x3 := (blk_cell HR5.out.at1 3).trans rfl; have x4 := (blk_cell HR5.out.at1 4).trans rfl)
            | (go_at_call 10; ((with_reducible refine (SeenNoteE HR5.out.r2 f1 f2 f3 f4 HW2.out HW4.out HI8.out er lo2 co2 HNE.out).mono ?_)); rintro e w7 ⟨rfl, h⟩; have H7 := Aside0.mk h; clear h x0 x1 x2 x3 x4; have x0 := (blk_cell H7.out.at2 0).trans rfl; have x1 := (blk_cell H7.out.at2 1).trans rfl; have x2 := (blk_cell H7.out.at2 2).trans rfl; have x3 := (blk_cell H7.out.at2 3).trans rfl; have x4 := (blk_cell H7.out.at2 4).trans rfl; have y0 := (blk_cell H7.out.at3 0).trans rfl; have y1 := (blk_cell H7.out.at3 1).trans rfl; have y2 := (blk_cell H7.out.at3 2).trans rfl; have y3 := (blk_cell H7.out.at3 3).trans rfl; have y4 := (blk_cell H7.out.at3 4).trans rfl)
            | (go_at_call 20; ((with_reducible refine (RefNoteE H7.out.r1 f1 f2 f3 f4 HW2.out HW3.out HL7.out er lo2 (L2) HRE.out).mono ?_)); rintro e w8 ⟨A10, c10, rfl, h⟩; have H8 := Aside0.mk h; clear h x0 x1 x2 x3 x4 y0 y1 y2 y3 y4; have f0 := blk_frozen H8.out.at3 0; have q0 := (blk_cell H8.out.at3 0).trans rfl; have f1 := blk_frozen H8.out.at3 1; have q1 := (blk_cell H8.out.at3 1).trans rfl; have f2 := blk_frozen H8.out.at3 2; have q2 := (blk_cell H8.out.at3 2).trans rfl; have f3 := blk_frozen H8.out.at3 3; have q3 := (blk_cell H8.out.at3 3).trans rfl; have f4 := blk_frozen H8.out.at3 4; have q4 := (blk_cell H8.out.at3 4).trans rfl; have H9 := Aside0.mk ((((((H8.out.r3.set 0 (.int .i64 (lo2 0))).set 1 (.int .i64 (lo2 1))).set 2 (.int .i64 (lo2 2))).set 3 (.int .i64 (lo2 3))).set 4 (.slice A10 L2.length c10)).r1.r2); have y0 := (blk_cell H9.out.at2 0).trans rfl; have y1 := (blk_cell H9.out.at2 1).trans rfl; have y2 := (blk_cell H9.out.at2 2).trans rfl; have y3 := (blk_cell H9.out.at2 3).trans rfl; have y4 := (blk_cell H9.out.at2 4).trans rfl)
            | (go_at_call 18; ((with_reducible refine (alike_calls H9.out HI6.out HLB.out HOK2.out).mono ?_)); rintro e w10 ⟨rfl, h⟩; have H10 := Aside0.mk h; clear h))
          go_roundw
          case rel => exact ⟨i + 1, N + 1, lo2, co2, L2, A10, c10, by omega, by first | rfl | go_num, by omega, by omega, HOK2, ⟨H10.out.pick [0, 1, 2]⟩⟩
          case measure => first | (simp [RowKit.intOf]; done) | (simp [RowKit.intOf]; omega)
    · have hi' : i = acts.length := by omega
      clear hlt hi
      go_wp2_with ((go_at_call 13; ((with_reducible refine (wakes_calls _).mono ?_)); rintro e w99 ⟨rfl, hb⟩; have HW := Aside0.mk (HO.out.below hb); clear hb))
      go_ret
      exact ⟨rfl, HW.out.bel⟩
theorem SeenPlays_law (A : Option Addr) (c : Nat) (lows : List Int) (B : Option Addr) (d : Nat) (l : List S71) (C : Option Addr) (e : Nat) (acts : List S39) (w : World) (hr : Kd.C (Kd.int .i64) w A lows.length lows) (hc : lows.length ≤ c) (hq0 : lows.length ≤ 9223372036854775807 ∧ ∀ x ∈ lows, (Lit.int .i64 x).wf = true) (hs : Kd.C k71 w B l.length l) (hd : l.length ≤ d) (hq1 : l.length ≤ 9223372036854775807 ∧ ∀ x ∈ l, Q71 x) (ha : Kd.C k39 w C acts.length acts) (he : acts.length ≤ e) (hq2 : acts.length ≤ 9223372036854775807 ∧ ∀ x ∈ acts, Q39 x) :
    Calls Try.prog 6 #[.slice A lows.length c, .slice B l.length d, .slice C acts.length e] w fun e w' => e = .returned (.bool true) ∧ Below w.heap.size w w' := by
  by_cases h0 : lows.length > 20
  · exact SeenPlays_g0 A c lows B d l C e acts w hr hc hs hd ha he h0
  by_cases h1 : l.length > 100
  · exact SeenPlays_g1 A c lows B d l C e acts w hr hc hs hd ha he h0 h1
  by_cases h2 : acts.length > 300
  · exact SeenPlays_g2 A c lows B d l C e acts w hr hc hs hd ha he h0 h1 h2
  by_cases hok : OfOk lows (l.map cvE)
  · exact SeenPlays_ok A c lows B d l C e acts w hr hc hs hd ha he (by omega) (by omega) (by omega) hq1.2 hq2.2 hok
  · exact SeenPlays_no A c lows B d l C e acts w hr hc hs hd ha he (by omega) (by omega) (by omega) hq1.2 hq2.2 hok
end Go.Proofs.Ytboomdjkgheonaa.PSeenPlays
