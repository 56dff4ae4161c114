/- The law ChunksPlays, walked. -/
import Derived.Test.YtdjcndcleaffkaaChkR4
import Derived.Test.YtdjcndcleaffkaaQ
import Derived.Deep.DeepCutAuto
import Derived.Deep.Cut
import Derived.Deep.CutRange
import Derived.Deep.CutBlock
namespace Go.Proofs.Ytdjcndcleaffkaa.PChunksPlays
open Go.RowKit Go.Proofs.YtdjcndcleaffkaaW.PrintWords Go.Proofs.YtdjcndcleaffkaaW.PrintLast Go.Proofs.YtdjcndcleaffkaaW.PrintMore
open Go.Proofs.YtdjcndcleaffkaaO
attribute [local go_sem] max2_int min2_int max_two min_two max_three min_three max_four min_four
set_option linter.unusedVariables false
set_option linter.unusedSimpArgs false
set_option maxHeartbeats 8000000 in
set_option maxRecDepth 100000 in
theorem ChunksPlays_long (s : ByteArray) (A : Option Addr) (cp : Nat) (l : List S40) (w : World) (hr : Kd.C k40 w A l.length l) (hcp : l.length ≤ cp) (hs : 40000 < s.size) : Calls Try.prog 6 #[.string s, .slice A l.length cp] w fun e w' => e = .returned (.bool true) ∧ Below w.heap.size w w' := by
  have d1 : decide ((s.size : Int) > 40000) = true := decide_eq_true (by omega)
  clear hs hr
  go_enter Try.func6, Try.ntmps6
  go_wp2_with (go_at_call 8; ((with_reducible refine (awake_calls w).mono ?_)); rintro e w1 ⟨rfl, hb⟩; have H1 := Aside0.mk ((Own.nil w).below hb); clear hb)
  go_ret
  exact ⟨rfl, H1.out.bel⟩
set_option maxHeartbeats 8000000 in
set_option maxRecDepth 100000 in
theorem ChunksPlays_great (s : ByteArray) (A : Option Addr) (cp : Nat) (l : List S40) (w : World) (hr : Kd.C k40 w A l.length l) (hcp : l.length ≤ cp) (hs : s.size ≤ 40000) (hg : meterlaw16_Great.f (min l.length 201 + 1) l = some true) : Calls Try.prog 6 #[.string s, .slice A l.length cp] w fun e w' => e = .returned (.bool true) ∧ Below w.heap.size w w' := by
  have HR := Aside0.mk hr
  have HC := Aside0.mk hcp
  have HG := Aside0.mk hg
  clear hr hcp hg
  have d1 : decide ((s.size : Int) > 40000) = false := decide_eq_false (by omega)
  clear hs
  go_enter Try.func6, Try.ntmps6
  go_wp2_with (first
    | (go_at_call 8; ((with_reducible refine (awake_calls w).mono ?_)); rintro e w1 ⟨rfl, hb⟩; have H1 := Aside0.mk ((Own.nil w).below hb); clear hb)
    | (go_at_call 10; ((with_reducible refine (meterlaw16_Great.calls _ A cp l true w1 (Kd.C_below HR.out H1.out.bel) HC.out HG.out).mono ?_)); rintro e w2 ⟨rfl, hb⟩; have H2 := Aside0.mk (H1.out.below hb); clear hb))
  go_ret
  exact ⟨rfl, H2.out.bel⟩
set_option maxHeartbeats 8000000 in
set_option maxRecDepth 100000 in
theorem ChunksPlays_small (s : ByteArray) (A : Option Addr) (cp : Nat) (l : List S40) (w : World) (hr : Kd.C k40 w A l.length l) (hcp : l.length ≤ cp) (hs : s.size ≤ 40000) (hmax : l.length ≤ 9223372036854775807) (hg : meterlaw16_Great.f (min l.length 201 + 1) l = some false) : Calls Try.prog 6 #[.string s, .slice A l.length cp] w fun e w' => e = .returned (.bool true) ∧ Below w.heap.size w w' := by
  have HR := Aside0.mk hr
  have HC := Aside0.mk hcp
  have HG := Aside0.mk hg
  clear hr hcp hg
  have d1 : decide ((s.size : Int) > 40000) = false := decide_eq_false (by omega)
  obtain ⟨c, er0, f1, f2, hcl, hc64⟩ := both_cuts s
  have F1 := Lib.hid f1
  have F2 := Lib.hid f2
  have WN := Aside0.mk (show WholeIs none ⟨#[]⟩ false from ⟨rfl, rfl⟩)
  clear hs f1 f2
  go_enter Try.func6, Try.ntmps6
  go_wp2_with (first
    | (go_at_call 8; ((with_reducible refine (awake_calls w).mono ?_)); rintro e w1 ⟨rfl, hb⟩; have H1 := Aside0.mk ((Own.nil w).below hb); clear hb)
    | (go_at_call 10; ((with_reducible refine (meterlaw16_Great.calls _ A cp l false w1 (Kd.C_below HR.out H1.out.bel) HC.out HG.out).mono ?_)); rintro e w2 ⟨rfl, hb⟩; have H2 := Aside0.mk (H1.out.below hb); clear hb)
    | (go_at_call 9; ((with_reducible refine (chunks_Cut.calls 513 s c er0 w2 F1.out).mono ?_)); rintro e w3 ⟨u, rfl, hr, hb⟩; have H3 := Aside0.mk (H2.out.row_new hb hr); obtain ⟨A3, c3, rfl, _, _⟩ := H3.out.row_reads; clear hr hb)
    | (go_at_call 16; ((with_reducible refine (meterref16_Cut.calls 1030 s c er0 w3 F2.out).mono ?_)); rintro e w4 ⟨u, rfl, hr, hb⟩; have H4 := Aside0.mk (H3.out.row_new hb hr); obtain ⟨A4, c4, rfl, _, _⟩ := H4.out.row_reads; clear hr hb)
    | (go_at_call 17; ((with_reducible refine (sames c (by omega) (row_CS H4.out.r1) (row_CS H4.out)).mono ?_)); rintro e w5 ⟨rfl, hb⟩; have H5 := Aside0.mk (H4.out.drawn hb); clear hb)
    | (go_at_call 11; ((with_reducible refine (RowsNewA H5.out).mono ?_)); rintro e w6 ⟨g, rfl, h⟩; have H6 := Aside0.mk h; clear h)
    | ((with_reducible refine gate_dst (N := 10) rfl ?_); refine box_event ?hg (N := 10) ?hd (cs := #[.slice none 0 0]) (t := 48) ?hr ?_; (case hd => rfl); (case hg => rfl); (case hr => first | (go_simp; done) | (go_simp; rfl)); intro gw hg w7 hbox hbb; have H7 := Aside0.mk (H6.out.box hg hbox hbb); clear hg hbox hbb; have hfr := blk_frozen H7.out.at0; have x0 := (blk_cell H7.out.at0 0).trans rfl)
    | ((with_reducible refine gate_store (t := 48) (p := 10) rfl ?_); refine store_event (t := 48) (p := 10) (v := ?vo10) (w1 := (w7.setCell ⟨gw, 0, none⟩ (.slice none 0 0))) ?hg ?ho ?hn ?hr ?_; (case ho => rfl); (case hg => rfl); (case hn => rfl); (case hr => first | (go_simp; done) | (go_simp; rfl)); intro w8 hw; have H8 := Aside0.mk (show Own w w8 (Blk gw (.cells #[.slice none 0 0] 48 (0, 0)) :: _) by rw [hw]; exact store1 _ _ H7.out); clear hw; clear hfr x0))
  have H9 := Aside0.mk (Own.r2 (H8.out.row_nil k66 66))
  go_loopw [12] (fun v12 wr => ∃ (i : Nat) (st : Option (List ByteArray × List Int)) (ps : List PC) (v : Value), i ≤ l.length ∧ v12 = .int .i64 i ∧ Aside0 (RefRel st ps) ∧ Aside0 (Own w wr [RowsA g st, Row k66 66 v ps, Blk gw (.cells #[v] 48 (0, 0)), Row Kd.string 9 (.slice A4 c.length c4) c, Row Kd.string 9 (.slice A3 c.length c3) c])) (fun v12 _ => l.length - (RowKit.intOf v12).toNat)
  case atStart => exact ⟨0, none, [], .slice none 0 0, Nat.zero_le _, rfl, ⟨.inl ⟨rfl, rfl⟩⟩, H9⟩
  case round =>
    obtain ⟨i, st, ps, v, hi, rfl, HRel, HO⟩ := hrel
    by_cases hlt : i < l.length
    · have hgk := List.getElem?_eq_getElem hlt
      generalize l[i] = x at hgk
      obtain ⟨y0, y1, y2, y3⟩ := x
      obtain ⟨ad, rfl, c0_, c1_, c2_, c3_⟩ := elem_at HR.out HO.out.bel i y0 y1 y2 y3 hgk
      clear hgk
      obtain ⟨A0, c0x, rfl, _, _⟩ := HO.out.tail.row_reads
      obtain ⟨bo, hbo⟩ : ∃ b, (y3 && decide (0 < c.length)) = b := ⟨_, rfl⟩
      have HBO := Lib.hid hbo
      clear hbo
      go_upto_region 16 with (first
        | ((with_reducible refine gate_dst (N := 13) rfl ?_); refine box_event ?hg (N := 13) ?hd (cs := #[.int .i64 0, .int .i64 0, .string ⟨#[]⟩, .bool false]) (t := 40) ?hr ?_; (case hd => rfl); (case hg => rfl); (case hr => first | (go_simp; done) | (go_simp; rfl)); intro gb hg wb hbox hbb; have HX := Aside0.mk (HO.out.box hg hbox hbb); clear hg hbox hbb; have hfr := blk_frozen HX.out.at0; have z0 := (blk_cell HX.out.at0 0).trans rfl; have z1 := (blk_cell HX.out.at0 1).trans rfl; have z2 := (blk_cell HX.out.at0 2).trans rfl; have z3 := (blk_cell HX.out.at0 3).trans rfl)
        | ((with_reducible refine gate_store (t := 40) (p := 13) rfl ?_); refine store_event (t := 40) (p := 13) (v := ?vo13) (w1 := ((((wb.setCell ⟨gb, 0, none⟩ (.int .i64 y0)).setCell ⟨gb, 1, none⟩ (.int .i64 y1)).setCell ⟨gb, 2, none⟩ (.string y2)).setCell ⟨gb, 3, none⟩ (.bool y3))) ?hg ?ho ?hn ?hr ?_; (case ho => rfl); (case hg => rfl); (case hn => rfl); (case hr => first | (go_simp; done) | (go_simp; rfl)); intro wq hw; have HY := Aside0.mk (show Own w wq (Blk gb (.cells #[.int .i64 y0, .int .i64 y1, .string y2, .bool y3] 40 (0, 0)) :: RowsA g st :: Row k66 66 (.slice A0 ps.length c0x) ps :: Blk gw (.cells #[.slice A0 ps.length c0x] 48 (0, 0)) :: Row Kd.string 9 (.slice A4 c.length c4) c :: Row Kd.string 9 (.slice A3 c.length c3) c :: []) by rw [hw]; exact store4 _ _ _ _ _ _ _ _ HX.out); clear hw; clear z0 z1 z2 z3; clear hfr; have z0 := (blk_cell HY.out.at0 0).trans rfl; have z1 := (blk_cell HY.out.at0 1).trans rfl; have z2 := (blk_cell HY.out.at0 2).trans rfl; have z3 := (blk_cell HY.out.at0 3).trans rfl))
      simp only [Act.put, List.setIfInBounds_toArray, List.set_cons_zero, List.set_cons_succ]
      go_cut [82] (fun v82 wx => v82 = .bool bo ∧ wq = wx)
      case first =>
        cases hy3 : y3 with
        | false =>
          rw [hy3] at z3 HBO
          clear hy3
          go_wp2
          go_meet
          exact ⟨by rw [← HBO.out]; rfl, rfl⟩
        | true =>
          rw [hy3] at z3 HBO
          clear hy3
          by_cases hc0 : 0 < c.length
          · have dc : decide ((c.length : Int) > 0) = true := decide_eq_true (by omega)
            have dc2 : decide (0 < c.length) = true := decide_eq_true hc0
            have HB0 := Aside0.mk (show bo = true by rw [← HBO.out, dc2]; rfl)
            clear hc0
            go_wp2
            go_meet
            exact ⟨by rw [HB0.out], rfl⟩
          · have dc : decide ((c.length : Int) > 0) = false := decide_eq_false (by omega)
            have dc2 : decide (0 < c.length) = false := decide_eq_false hc0
            have HB0 := Aside0.mk (show bo = false by rw [← HBO.out, dc2]; rfl)
            clear hc0
            go_wp2
            go_meet
            exact ⟨by rw [HB0.out], rfl⟩
      case rest =>
        obtain ⟨rfl, rfl⟩ := hcut
        go_upto_if 82 with fail
        go_cut [14] (fun v14 wx => ∃ (n' cnt' : Int) (d' : ByteArray) (o' : Bool), Aside0 (Own w wx [Blk gb (.cells #[.int .i64 n', .int .i64 cnt', .string d', .bool o'] 40 (0, 0)), RowsA g st, Row k66 66 (.slice A0 ps.length c0x) ps, Blk gw (.cells #[(.slice A0 ps.length c0x)] 48 (0, 0)), Row Kd.string 9 (.slice A4 c.length c4) c, Row Kd.string 9 (.slice A3 c.length c3) c]))
        case first =>
          cases bo with
          | false =>
            go_wp2
            go_meet
            exact ⟨_, _, _, _, HY⟩
          | true =>
            have hc0 : 0 < c.length := by
              have := HBO.out
              rw [Bool.and_eq_true, decide_eq_true_eq] at this
              exact this.2
            obtain ⟨b4, g4, e4⟩ := Own.row_form HY.out.r4 hc0
            cases e4
            have hf4 := add_one b4
            have dz : ((c.length : Int) == 0) = false := beq_eq_false_iff_ne.mpr (by omega)
            have dz2 : (c.length == 0) = false := beq_eq_false_iff_ne.mpr (by omega)
            have hcn : c.length ≤ 512 := hcl
            obtain ⟨km, hkm⟩ : ∃ z, y0.tmod (c.length : Int) = z := ⟨_, rfl⟩
            have hbnd : -(c.length : Int) < km ∧ km < (c.length : Int) := by
              rw [← hkm]
              have h1 := Int.natAbs_tmod y0 (c.length : Int)
              have h2 : y0.natAbs % (c.length : Int).natAbs < c.length := by
                rw [Int.natAbs_natCast]
                exact Nat.mod_lt _ hc0
              omega
            obtain ⟨kk, hkk⟩ : ∃ k : Nat, km.natAbs = k := ⟨_, rfl⟩
            have hkl : kk < c.length := by omega
            have hdk := List.getElem?_eq_getElem hkl
            generalize c[kk] = dk at hdk
            have HDK := Aside0.mk hdk
            have dk1 : decide ((kk : Int) < (c.length : Int)) = true := decide_eq_true (by omega)
            have dk2 : decide (kk < c.length) = true := decide_eq_true hkl
            clear hdk
            by_cases hneg : km < 0
            · have dn : decide (km < 0) = true := decide_eq_true hneg
              have ek : -km = (kk : Int) := by omega
              have ew : wrap64 (kk : Int) = (kk : Int) := by unfold wrap64; omega
              clear hneg hkk hbnd
              go_upto_region 18 with fail
              clear hkm
              go_upto_region 20 with fail
              have hcell : wq.cell? ⟨b4, kk, none⟩ = some (.string dk) := by have := row_cells (HY.out.r4) kk dk HDK.out; rwa [Nat.zero_add] at this
              have hfr := blk_frozen HY.out.at0
              go_wp2
              go_meet
              exact ⟨_, _, _, _, ⟨store4 _ _ _ _ _ _ _ _ HY.out⟩⟩
            · have e5 : km = (kk : Int) := by omega
              rw [e5] at hkm
              have dn : decide ((kk : Int) < 0) = false := decide_eq_false (by omega)
              clear hneg hkk hbnd e5
              go_upto_region 18 with fail
              clear hkm
              go_upto_region 20 with fail
              have hcell : wq.cell? ⟨b4, kk, none⟩ = some (.string dk) := by have := row_cells (HY.out.r4) kk dk HDK.out; rwa [Nat.zero_add] at this
              have hfr := blk_frozen HY.out.at0
              go_wp2
              go_meet
              exact ⟨_, _, _, _, ⟨store4 _ _ _ _ _ _ _ _ HY.out⟩⟩
        case rest =>
          obtain ⟨n', cnt', d', o', HB⟩ := hcut
          rcases hpr : putR st n' cnt' d' with ⟨b, er, st'⟩
          obtain ⟨ps', hpf, hrel'⟩ := ref_put HRel.out n' cnt' d'
          rw [hpr] at hpf hrel'
          obtain ⟨low, M, ra1, ra2, ra3⟩ := ref_acks hrel'
          obtain ⟨t, ok, rw1, rw2⟩ := ref_whole hrel'
          have PF := Lib.hid hpf
          have PU := Lib.hid hpr
          have RF := Lib.hid ra1
          have FA := Aside0.mk ra2
          have WF := Lib.hid rw1
          have FW := Aside0.mk rw2
          have HRel2 := Aside0.mk hrel'
          have HML := Aside0.mk (show M.length ≤ 100000000 by omega)
          clear hpr hpf ra1 ra2 rw1 rw2 hrel'
          clear z0 z1 z2 z3
          have z0 := (blk_cell HB.out.at0 0).trans rfl; have z1 := (blk_cell HB.out.at0 1).trans rfl; have z2 := (blk_cell HB.out.at0 2).trans rfl
          have y0_ := (blk_cell HB.out.at3 0).trans rfl
          go_wp2_with (first
            | (go_at_call 18; ((with_reducible refine (RefPut HB.out.r2 n' cnt' d' ps' b er PF.out).mono ?_)); rintro e w5 ⟨v', rfl, h⟩; obtain ⟨A5, c5, rfl, _, _⟩ := h.row_reads; have HP1 := Aside0.mk h; clear h z0 z1 z2 y0_)
            | ((with_reducible refine gate_dst (N := 15) rfl ?_); refine box_event ?hg (N := 15) ?hd (cs := #[.slice none 0 0]) (t := 48) ?hr ?_; (case hd => rfl); (case hg => rfl); (case hr => first | (go_simp; done) | (go_simp; rfl)); intro g5 hg w6 hbox hbb; have HX5 := Aside0.mk (HP1.out.box hg hbox hbb); clear hg hbox hbb; have hfr := blk_frozen HX5.out.at0; have x0 := (blk_cell HX5.out.at0 0).trans rfl)
            | ((with_reducible refine gate_store (t := 48) (p := 15) rfl ?_); refine store_event (t := 48) (p := 15) (v := ?vo15) (w1 := (w6.setCell ⟨g5, 0, none⟩ (.slice A5 ps'.length c5))) ?hg ?ho ?hn ?hr ?_; (case ho => rfl); (case hg => rfl); (case hn => rfl); (case hr => first | (go_simp; done) | (go_simp; rfl)); intro w7 hw; have HY5 := Aside0.mk (show Own w w7 (Blk g5 (.cells #[.slice A5 ps'.length c5] 48 (0, 0)) :: _) by rw [hw]; exact store1 _ _ HX5.out); clear hw; clear hfr x0; have z0 := (blk_cell HY5.out.at2 0).trans rfl; have z1 := (blk_cell HY5.out.at2 1).trans rfl; have z2 := (blk_cell HY5.out.at2 2).trans rfl; have x0 := (blk_cell HY5.out.at0 0).trans rfl)
            | (go_at_call 14; ((with_reducible refine (RowsPut HY5.out.r3 n' cnt' d' b er st' PU.out).mono ?_)); rintro e w8 ⟨rfl, h⟩; have HP2 := Aside0.mk h; clear h z0 z1 z2 x0; have x0 := (blk_cell HP2.out.at1 0).trans rfl; have hfr := blk_frozen (HP2.out.get 4 rfl).1; have y0_ := (blk_cell (HP2.out.get 4 rfl).1 0).trans rfl)
            | (go_at_call 12; ((with_reducible refine (RowsAcksA (Own.r1 (store1 _ (.slice A5 ps'.length c5) HP2.out.r4)) low M FA.out).mono ?_)); rintro e w10 ⟨B1, e1, rfl, _, h⟩; have HA := Aside0.mk h; clear h; have x0 := (blk_cell HA.out.at2 0).trans rfl)
            | (go_at_call 19; ((with_reducible refine (RefAcks HA.out.r4 _ low M RF.out).mono ?_)); rintro e w11 ⟨B2, e2, rfl, h⟩; have HA2 := Aside0.mk h; clear h x0)
            | (go_at_call 13; ((with_reducible refine (RowsWholeA HA2.out.r3 t ok FW.out).mono ?_)); rintro e w12 ⟨rfl, h⟩; have HW := Aside0.mk h; clear h; have x0 := (blk_cell (HW.out.get 4 rfl).1 0).trans rfl)
            | (go_at_call 20; ((with_reducible refine (RefWhole HW.out.r2 _ t ok WF.out).mono ?_)); rintro e w13 ⟨rfl, hb⟩; have HW2 := Aside0.mk (HW.out.below hb); clear hb x0)
            | (go_at_call 15; ((with_reducible refine (same_N B1 e1 B2 e2 M.length M rfl HML.out (row_C HW2.out.r3) (row_C HW2.out.r1)).mono ?_)); rintro e w14 ⟨rfl, hb⟩; have HI := Aside0.mk (HW2.out.drawn hb); clear hb; have z0 := (blk_cell (HI.out.get 6 rfl).1 0).trans rfl; have z1 := (blk_cell (HI.out.get 6 rfl).1 1).trans rfl; have z2 := (blk_cell (HI.out.get 6 rfl).1 2).trans rfl)
            | (go_at_call 14; ((with_reducible refine (RowsPut_nil n' cnt' d' w14).mono ?_)); rintro e w15 ⟨rfl, rfl⟩))
          go_roundw
          case rel => exact ⟨i + 1, st', ps', .slice A5 ps'.length c5, by omega, by first | rfl | go_num, HRel2, ⟨HI.out.pick [0, 2, 4, 7, 8]⟩⟩
          case measure => first | (simp [RowKit.intOf]; done) | (simp [RowKit.intOf]; omega)
    · have hi2 : i = l.length := by omega
      subst hi2
      go_wp2_with (first
        | (go_at_call 12; ((with_reducible refine (RowsAcks_nil wr).mono ?_)); rintro e w4 ⟨rfl, rfl⟩)
        | (go_at_call 13; ((with_reducible refine (RowsWhole_nil wr).mono ?_)); rintro e w5 ⟨rfl, hb⟩; have H8 := Aside0.mk (HO.out.below hb); clear hb)
        | (go_at_call 11; ((with_reducible refine (RowsNewA H8.out).mono ?_)); rintro e w6 ⟨g2, rfl, h⟩; have H9 := Aside0.mk h; clear h)
        | (go_at_call 13; ((with_reducible refine (RowsWholeA H9.out ⟨#[]⟩ false WN.out).mono ?_)); rintro e w7 ⟨rfl, h⟩; have H10 := Aside0.mk h; clear h))
      go_ret
      exact ⟨rfl, H10.out.bel⟩
theorem ChunksPlays_law (s : ByteArray) (A : Option Addr) (cp : Nat) (l : List S40) (w : World) (hs : s.size ≤ 140737488351232) (hr : Kd.C k40 w A l.length l) (hcp : l.length ≤ cp) (hq : l.length ≤ 9223372036854775807 ∧ ∀ x ∈ l, Q40 x) : Calls Try.prog 6 #[.string s, .slice A l.length cp] w fun e w' => e = .returned (.bool true) ∧ Below w.heap.size w w' := by
  by_cases h1 : 40000 < s.size
  · exact ChunksPlays_long s A cp l w hr hcp h1
  · obtain ⟨r, hg⟩ := great_f l
    cases r with
    | true => exact ChunksPlays_great s A cp l w hr hcp (by omega) hg
    | false => exact ChunksPlays_small s A cp l w hr hcp (by omega) hq.1 hg
end Go.Proofs.Ytdjcndcleaffkaa.PChunksPlays
