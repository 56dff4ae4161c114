/- The law ChunksBack, walked. -/
import Derived.Test.YtdjcndcleaffkaaChkB
namespace Go.Proofs.Ytdjcndcleaffkaa.PChunksPlays
open Go.RowKit Go.Proofs.YtdjcndcleaffkaaW.PrintWords Go.Proofs.YtdjcndcleaffkaaW.PrintLast Go.Proofs.YtdjcndcleaffkaaW.PrintMore
open Go.Proofs.YtdjcndcleaffkaaO
attribute [local go_sem] max2_int min2_int max_two min_two max_three min_three max_four min_four
set_option linter.unusedVariables false
set_option linter.unusedSimpArgs false
set_option maxHeartbeats 8000000 in
set_option maxRecDepth 100000 in
theorem ChunksBack_great (s : ByteArray) (A : Option Addr) (cp : Nat) (l : List Int) (w : World) (hr : Kd.C (Kd.int .u16) w A l.length l) (hcp : l.length ≤ cp) (hg : 32768 < s.size ∨ 400 < l.length) : Calls Try.prog 7 #[.string s, .slice A l.length cp] w fun e w' => e = .returned (.bool true) ∧ Below w.heap.size w w' := by
  by_cases h1 : 32768 < s.size
  · have d1 : decide ((s.size : Int) > 32768) = true := decide_eq_true (by omega)
    clear hg h1 hr
    go_enter Try.func7, Try.ntmps7
    go_wp2_with (go_at_call 8; ((with_reducible refine (awake_calls w).mono ?_)); rintro e w1 ⟨rfl, hb⟩; have H1 := Aside0.mk ((Own.nil w).below hb); clear hb)
    go_ret
    exact ⟨rfl, H1.out.bel⟩
  · have d1 : decide ((s.size : Int) > 32768) = false := decide_eq_false (by omega)
    have d2 : decide ((l.length : Int) > 400) = true := decide_eq_true (by omega)
    clear hg h1 hr
    go_enter Try.func7, Try.ntmps7
    go_wp2_with (go_at_call 8; ((with_reducible refine (awake_calls w).mono ?_)); rintro e w1 ⟨rfl, hb⟩; have H1 := Aside0.mk ((Own.nil w).below hb); clear hb)
    go_ret
    exact ⟨rfl, H1.out.bel⟩
set_option maxHeartbeats 8000000 in
set_option maxRecDepth 100000 in
theorem ChunksBack_small (s : ByteArray) (A : Option Addr) (cp : Nat) (l : List Int) (w : World) (hr : Kd.C (Kd.int .u16) w A l.length l) (hcp : l.length ≤ cp) (hs : s.size ≤ 32768) (hl4 : l.length ≤ 400) (hq : ∀ x ∈ l, 0 ≤ x ∧ x ≤ 65535) : Calls Try.prog 7 #[.string s, .slice A l.length cp] w fun e w' => e = .returned (.bool true) ∧ Below w.heap.size w w' := by
  obtain ⟨c, hf, hc⟩ := cut_f s hs
  have hln := hc.len
  have hcl : c.length ≤ 512 := by omega
  have hc1 : 1 ≤ c.length := hln.1
  have HF := Lib.hid hf
  have HC := Aside0.mk hc
  have HR := Aside0.mk hr
  have HQ := Aside0.mk hq
  have d1 : decide ((s.size : Int) > 32768) = false := decide_eq_false (by omega)
  have d2 : decide ((l.length : Int) > 400) = false := decide_eq_false (by omega)
  have d3 : ((c.length : Int) == 0) = false := beq_eq_false_iff_ne.mpr (by omega)
  have d4 : (c.length == 0) = false := beq_eq_false_iff_ne.mpr (by omega)
  have hmk := print_make_of (P := Try.prog) 53 4 (.bool false) 1 Try.underlying53 (by kernel_rfl) rfl (by decide) c.length (by omega)
  have HS := Lib.hid hs
  clear hf hc hr hq hln hs
  go_enter Try.func7, Try.ntmps7
  go_wp2_with (first
    | (go_at_call 8; ((with_reducible refine (awake_calls w).mono ?_)); rintro e w1 ⟨rfl, hb⟩; have H1 := Aside0.mk ((Own.nil w).below hb); clear hb)
    | (go_at_call 9; ((with_reducible refine (chunks_Cut.calls 513 s c 0 w1 HF.out).mono ?_)); rintro e w2 ⟨v, rfl, hr, hb⟩; have H2 := Aside0.mk (H1.out.row_new hb hr); obtain ⟨bs, c1, rfl⟩ := H2.out.row_form (by omega); clear hr hb)
    | (go_at_call 11; ((with_reducible refine (RowsNewA H2.out).mono ?_)); rintro e w3 ⟨g, rfl, h⟩; have H3 := Aside0.mk h; clear h))
  have H4 := bool_made H3.out 4 c.length (by omega)
  obtain ⟨bc, hbc⟩ : ∃ b, w3.heap.size = b := ⟨_, rfl⟩
  rw [hbc] at H4
  simp only [hbc]
  have hfc := add_one bc
  have hfs := add_one bs
  have H5 := Aside0.mk H4.r1
  clear hmk hbc H4
  go_loopw [9, 10] (fun v9 v10 wr => ∃ (i : Nat) (st : Option (List ByteArray × List Int)) (B : List Bool), i ≤ l.length + c.length ∧ v9 = .int .i64 (B.count false : Int) ∧ v10 = .int .i64 i ∧ Aside0 (BackInv c st B ∧ ∀ j, l.length + j < i → B[j]? = some true) ∧ Aside0 (Own w wr [RowsA g st, Row Kd.bool 4 (.slice (some ⟨bc, 0, none⟩) c.length c.length) B, Row Kd.string 9 (.slice (some ⟨bs, 0, none⟩) c.length c1) c])) (fun _ v10 _ => l.length + c.length - (RowKit.intOf v10).toNat)
  case atStart =>
    refine ⟨0, none, List.replicate c.length false, Nat.zero_le _, ?_, rfl, ⟨⟨by rw [List.length_replicate], .inl ⟨rfl, fun j hj => by rw [List.getElem?_replicate, if_pos hj]⟩⟩, fun j hj => absurd hj (by omega)⟩, H5⟩
    rw [List.count_replicate_self]
  case round => as_aux_lemma =>
    obtain ⟨i, st, B, hi, rfl, rfl, HI, HO⟩ := hrel
    by_cases hlt : i < l.length + c.length
    · have hk : ∃ k : Nat, k < c.length ∧ (if i < l.length then ∃ p : Nat, l[i]? = some (p : Int) ∧ p ≤ 65535 ∧ k = p % c.length else i = l.length + k) := by
        by_cases h : i < l.length
        · have hx := List.getElem?_eq_getElem h
          have hb := HQ.out _ (List.getElem_mem h)
          refine ⟨(l[i]).toNat % c.length, Nat.mod_lt _ (by omega), ?_⟩
          rw [if_pos h]
          exact ⟨(l[i]).toNat, by rw [hx]; congr 1; omega, by omega, rfl⟩
        · exact ⟨i - l.length, by omega, by rw [if_neg h]; omega⟩
      obtain ⟨k, hkc, hk⟩ := hk
      have hd := List.getElem?_eq_getElem hkc
      generalize c[k] = d at hd
      have hkB : k < B.length := by rw [HI.out.1.1]; exact hkc
      have hb := List.getElem?_eq_getElem hkB
      generalize B[k] = b at hb
      obtain ⟨t, W1, W2⟩ := back_whole HC.out HI.out.1
      obtain ⟨st', hp, HV⟩ := back_put HC.out hcl HI.out.1 k d b hd hb
      have HW := Aside0.mk W1
      have HT := Aside0.mk W2
      have HP := Lib.hid hp
      have HVV := Aside0.mk HV
      have HD := Aside0.mk hd
      have HBB := Aside0.mk hb
      have HCS := Aside0.mk (count_set hb)
      have HND := Aside0.mk (show ∀ j, l.length + j < i + 1 → (B.set k true)[j]? = some true by
        intro j hj
        rw [List.getElem?_set]
        by_cases q : k = j
        · rw [if_pos q, if_pos (by omega)]
        · rw [if_neg q]
          refine HI.out.2 j ?_
          by_cases h : i < l.length
          · omega
          · rw [if_neg h] at hk
            omega)
      have hbl : B.count false ≤ c.length := by have := List.count_le_length (a := false) (l := B); rw [HI.out.1.1] at this; exact this
      have HZ0 := Aside0.mk (fun (q : B.count false = 0) => show b = true by have := count_zero q k hkB; rw [hb] at this; exact Option.some.inj this)
      clear hd hb W1 W2 hp HV
      obtain ⟨cn, hcn⟩ : ∃ n, B.count false = n := ⟨_, rfl⟩
      rw [hcn] at hbl HCS HW HT HZ0
      rw [hcn]
      clear hcn
      have dlt : decide ((i : Int) < (l.length : Int) + (c.length : Int)) = true := decide_eq_true (by omega)
      have dk : decide ((k : Int) < (c.length : Int)) = true := decide_eq_true (by omega)
      have dk2 : decide (k < c.length) = true := decide_eq_true hkc
      by_cases hil : i < l.length
      · rw [if_pos hil] at hk
        obtain ⟨p, hpx, hp5, hpk⟩ := hk
        have HPX := Aside0.mk hpx
        have ek : (p : Int).tmod (c.length : Int) = (k : Int) := by rw [hpk]; exact (Int.ofNat_tmod p c.length).symm
        have ek2 : (p : Int) % (c.length : Int) = (k : Int) := by rw [hpk]; exact (Int.natCast_emod p c.length).symm
        have dil : decide ((i : Int) < (l.length : Int)) = true := decide_eq_true (by omega)
        have dil2 : decide (i < l.length) = true := decide_eq_true hil
        clear hpx hpk
        by_cases h0 : cn = 0
        · have hbt : b = true := HZ0.out h0
          subst hbt
          subst h0
          have ht := HT.out rfl
          subst ht
          rw [decide_eq_true rfl] at HW
          rw [if_pos rfl] at HCS
          as_aux_lemma =>
            have H9_ := HO.out
            obtain ⟨ad, rfl, cx⟩ := u16_at (Kd.C_below HR.out HO.out.bel) i _ HPX.out
            have hcc : wr.cell? ⟨bs, k, none⟩ = some (.string d) := by have := row_cells HO.out.r2 k d HD.out; rwa [Nat.zero_add] at this
            have HPC := Aside0.mk hcc
            clear hcc H9_
            go_wp2_with (first
              | (go_at_call 13; ((with_reducible refine (RowsWholeA HO.out t _ HW.out).mono ?_)); rintro e w5 ⟨rfl, h⟩; have H6 := Aside0.mk h; have hcc : w5.cell? ⟨bs, k, none⟩ = some (.string d) := (by have := row_cells h.r2 k d HD.out; rwa [Nat.zero_add] at this); clear h)
              | (go_at_call 14; ((with_reducible refine (RowsPut H6.out ((k : Int) + 1) (c.length : Int) d _ _ _ HP.out).mono ?_)); rintro e w6 ⟨rfl, h⟩; have H7 := Aside0.mk h; have hbc1 := (bool_cell h.r1 k _ HBB.out).1; have hbf1 := (bool_cell h.r1 k _ HBB.out).2; clear h))
            go_roundw
            case rel => exact ⟨i + 1, st', B.set k true, by omega, (by rw [HCS.out]; try rfl), by first | rfl | go_num, ⟨HVV.out, HND.out⟩, ⟨(bool_put H7.out.r1 k true).r1⟩⟩
            case measure => first | (simp [RowKit.intOf]; done) | (simp [RowKit.intOf]; omega)
        · have e0 : ((cn : Int) == 0) = false := beq_eq_false_iff_ne.mpr (by omega)
          have e1 : (cn == 0) = false := beq_eq_false_iff_ne.mpr h0
          rw [decide_eq_false h0] at HW
          cases b with
          | true =>
            rw [if_pos rfl] at HCS
            as_aux_lemma =>
              have H9_ := HO.out
              obtain ⟨ad, rfl, cx⟩ := u16_at (Kd.C_below HR.out HO.out.bel) i _ HPX.out
              have hcc : wr.cell? ⟨bs, k, none⟩ = some (.string d) := by have := row_cells HO.out.r2 k d HD.out; rwa [Nat.zero_add] at this
              have HPC := Aside0.mk hcc
              clear hcc H9_
              go_wp2_with (first
                | (go_at_call 13; ((with_reducible refine (RowsWholeA HO.out t _ HW.out).mono ?_)); rintro e w5 ⟨rfl, h⟩; have H6 := Aside0.mk h; have hcc : w5.cell? ⟨bs, k, none⟩ = some (.string d) := (by have := row_cells h.r2 k d HD.out; rwa [Nat.zero_add] at this); clear h)
                | (go_at_call 14; ((with_reducible refine (RowsPut H6.out ((k : Int) + 1) (c.length : Int) d _ _ _ HP.out).mono ?_)); rintro e w6 ⟨rfl, h⟩; have H7 := Aside0.mk h; have hbc1 := (bool_cell h.r1 k _ HBB.out).1; have hbf1 := (bool_cell h.r1 k _ HBB.out).2; clear h))
              go_roundw
              case rel => exact ⟨i + 1, st', B.set k true, by omega, (by rw [HCS.out]; try rfl), by first | rfl | go_num, ⟨HVV.out, HND.out⟩, ⟨(bool_put H7.out.r1 k true).r1⟩⟩
              case measure => first | (simp [RowKit.intOf]; done) | (simp [RowKit.intOf]; omega)
          | false =>
            rw [if_neg (by decide)] at HCS
            as_aux_lemma =>
              have H9_ := HO.out
              obtain ⟨ad, rfl, cx⟩ := u16_at (Kd.C_below HR.out HO.out.bel) i _ HPX.out
              have hcc : wr.cell? ⟨bs, k, none⟩ = some (.string d) := by have := row_cells HO.out.r2 k d HD.out; rwa [Nat.zero_add] at this
              have HPC := Aside0.mk hcc
              clear hcc H9_
              go_wp2_with (first
                | (go_at_call 13; ((with_reducible refine (RowsWholeA HO.out t _ HW.out).mono ?_)); rintro e w5 ⟨rfl, h⟩; have H6 := Aside0.mk h; have hcc : w5.cell? ⟨bs, k, none⟩ = some (.string d) := (by have := row_cells h.r2 k d HD.out; rwa [Nat.zero_add] at this); clear h)
                | (go_at_call 14; ((with_reducible refine (RowsPut H6.out ((k : Int) + 1) (c.length : Int) d _ _ _ HP.out).mono ?_)); rintro e w6 ⟨rfl, h⟩; have H7 := Aside0.mk h; have hbc1 := (bool_cell h.r1 k _ HBB.out).1; have hbf1 := (bool_cell h.r1 k _ HBB.out).2; clear h))
              go_roundw
              case rel => exact ⟨i + 1, st', B.set k true, by omega, (by rw [HCS.out]; congr 1; omega), by first | rfl | go_num, ⟨HVV.out, HND.out⟩, ⟨(bool_put H7.out.r1 k true).r1⟩⟩
              case measure => first | (simp [RowKit.intOf]; done) | (simp [RowKit.intOf]; omega)
      · rw [if_neg hil] at hk
        have ek : (i : Int) - (l.length : Int) = (k : Int) := by omega
        clear hk
        have dil : decide ((i : Int) < (l.length : Int)) = false := decide_eq_false (by omega)
        have dil2 : decide (i < l.length) = false := decide_eq_false hil
        by_cases h0 : cn = 0
        · have hbt : b = true := HZ0.out h0
          subst hbt
          subst h0
          have ht := HT.out rfl
          subst ht
          rw [decide_eq_true rfl] at HW
          rw [if_pos rfl] at HCS
          as_aux_lemma =>
            have H9_ := HO.out
            have hcc : wr.cell? ⟨bs, k, none⟩ = some (.string d) := by have := row_cells HO.out.r2 k d HD.out; rwa [Nat.zero_add] at this
            have HPC := Aside0.mk hcc
            clear hcc H9_
            go_wp2_with (first
              | (go_at_call 13; ((with_reducible refine (RowsWholeA HO.out t _ HW.out).mono ?_)); rintro e w5 ⟨rfl, h⟩; have H6 := Aside0.mk h; have hcc : w5.cell? ⟨bs, k, none⟩ = some (.string d) := (by have := row_cells h.r2 k d HD.out; rwa [Nat.zero_add] at this); clear h)
              | (go_at_call 14; ((with_reducible refine (RowsPut H6.out ((k : Int) + 1) (c.length : Int) d _ _ _ HP.out).mono ?_)); rintro e w6 ⟨rfl, h⟩; have H7 := Aside0.mk h; have hbc1 := (bool_cell h.r1 k _ HBB.out).1; have hbf1 := (bool_cell h.r1 k _ HBB.out).2; clear h))
            go_roundw
            case rel => exact ⟨i + 1, st', B.set k true, by omega, (by rw [HCS.out]; try rfl), by first | rfl | go_num, ⟨HVV.out, HND.out⟩, ⟨(bool_put H7.out.r1 k true).r1⟩⟩
            case measure => first | (simp [RowKit.intOf]; done) | (simp [RowKit.intOf]; omega)
        · have e0 : ((cn : Int) == 0) = false := beq_eq_false_iff_ne.mpr (by omega)
          have e1 : (cn == 0) = false := beq_eq_false_iff_ne.mpr h0
          rw [decide_eq_false h0] at HW
          cases b with
          | true =>
            rw [if_pos rfl] at HCS
            as_aux_lemma =>
              have H9_ := HO.out
              have hcc : wr.cell? ⟨bs, k, none⟩ = some (.string d) := by have := row_cells HO.out.r2 k d HD.out; rwa [Nat.zero_add] at this
              have HPC := Aside0.mk hcc
              clear hcc H9_
              go_wp2_with (first
                | (go_at_call 13; ((with_reducible refine (RowsWholeA HO.out t _ HW.out).mono ?_)); rintro e w5 ⟨rfl, h⟩; have H6 := Aside0.mk h; have hcc : w5.cell? ⟨bs, k, none⟩ = some (.string d) := (by have := row_cells h.r2 k d HD.out; rwa [Nat.zero_add] at this); clear h)
                | (go_at_call 14; ((with_reducible refine (RowsPut H6.out ((k : Int) + 1) (c.length : Int) d _ _ _ HP.out).mono ?_)); rintro e w6 ⟨rfl, h⟩; have H7 := Aside0.mk h; have hbc1 := (bool_cell h.r1 k _ HBB.out).1; have hbf1 := (bool_cell h.r1 k _ HBB.out).2; clear h))
              go_roundw
              case rel => exact ⟨i + 1, st', B.set k true, by omega, (by rw [HCS.out]; try rfl), by first | rfl | go_num, ⟨HVV.out, HND.out⟩, ⟨(bool_put H7.out.r1 k true).r1⟩⟩
              case measure => first | (simp [RowKit.intOf]; done) | (simp [RowKit.intOf]; omega)
          | false =>
            rw [if_neg (by decide)] at HCS
            as_aux_lemma =>
              have H9_ := HO.out
              have hcc : wr.cell? ⟨bs, k, none⟩ = some (.string d) := by have := row_cells HO.out.r2 k d HD.out; rwa [Nat.zero_add] at this
              have HPC := Aside0.mk hcc
              clear hcc H9_
              go_wp2_with (first
                | (go_at_call 13; ((with_reducible refine (RowsWholeA HO.out t _ HW.out).mono ?_)); rintro e w5 ⟨rfl, h⟩; have H6 := Aside0.mk h; have hcc : w5.cell? ⟨bs, k, none⟩ = some (.string d) := (by have := row_cells h.r2 k d HD.out; rwa [Nat.zero_add] at this); clear h)
                | (go_at_call 14; ((with_reducible refine (RowsPut H6.out ((k : Int) + 1) (c.length : Int) d _ _ _ HP.out).mono ?_)); rintro e w6 ⟨rfl, h⟩; have H7 := Aside0.mk h; have hbc1 := (bool_cell h.r1 k _ HBB.out).1; have hbf1 := (bool_cell h.r1 k _ HBB.out).2; clear h))
              go_roundw
              case rel => exact ⟨i + 1, st', B.set k true, by omega, (by rw [HCS.out]; congr 1; omega), by first | rfl | go_num, ⟨HVV.out, HND.out⟩, ⟨(bool_put H7.out.r1 k true).r1⟩⟩
              case measure => first | (simp [RowKit.intOf]; done) | (simp [RowKit.intOf]; omega)
    · have hi2 : i = l.length + c.length := by omega
      subst hi2
      have h0 : B.count false = 0 := by
        rcases Nat.eq_zero_or_pos (B.count false) with q | q
        · exact q
        · obtain ⟨j, hj⟩ := count_pos (by omega : B.count false ≠ 0)
          have hjl : j < B.length := (List.getElem?_eq_some_iff.1 hj).1
          have := HI.out.2 j (by have := HI.out.1.1; omega)
          rw [hj] at this
          cases this
      obtain ⟨t, W1, W2⟩ := back_whole HC.out HI.out.1
      have ht := W2 h0
      subst ht
      rw [decide_eq_true h0] at W1
      have HW := Aside0.mk W1
      have HA := Aside0.mk (back_acks hc1 HI.out.1 h0)
      have dlt : decide (((l.length + c.length : Nat) : Int) < (l.length : Int) + (c.length : Int)) = false := decide_eq_false (by omega)
      clear W1 W2 h0
      go_wp2_with (first
        | (go_at_call 13; ((with_reducible refine (RowsWholeA HO.out t _ HW.out).mono ?_)); rintro e w4 ⟨rfl, h⟩; have H6 := Aside0.mk h; clear h)
        | (go_at_call 12; ((with_reducible refine (RowsAcksA H6.out c.length [] HA.out).mono ?_)); rintro e w5 ⟨B1, e1, rfl, _, h⟩; have H7 := Aside0.mk h; clear h)
        | (go_at_call 9; ((with_reducible refine (chunks_Cut.calls 513 t c 0 w5 HF.out).mono ?_)); rintro e w6 ⟨v, rfl, hr, hb⟩; have H8 := Aside0.mk (H7.out.row_new hb hr); obtain ⟨b2, c2, rfl⟩ := H8.out.row_form (by omega); clear hr hb)
        | (go_at_call 17; ((with_reducible refine (sames c (by omega) (row_CS H8.out.r4) (row_CS H8.out)).mono ?_)); rintro e w7 ⟨rfl, hb⟩; have H9 := Aside0.mk (H8.out.drawn hb); clear hb))
      go_ret
      exact ⟨rfl, H9.out.bel⟩
theorem ChunksBack_law (s : ByteArray) (A : Option Addr) (cp : Nat) (l : List Int) (w : World) (hs : s.size ≤ 140737488351232) (hr : Kd.C (Kd.int .u16) w A l.length l) (hcp : l.length ≤ cp) (hq : l.length ≤ 9223372036854775807 ∧ ∀ x ∈ l, (Lit.int .u16 x).wf = true) : Calls Try.prog 7 #[.string s, .slice A l.length cp] w fun e w' => e = .returned (.bool true) ∧ Below w.heap.size w w' := by
  by_cases hg : 32768 < s.size ∨ 400 < l.length
  · exact ChunksBack_great s A cp l w hr hcp hg
  · exact ChunksBack_small s A cp l w hr hcp (by omega) (by omega) fun x hx => by simpa [Lit.wf, IntKind.min, IntKind.max, IntKind.signed, IntKind.bits] using hq.2 x hx
end Go.Proofs.Ytdjcndcleaffkaa.PChunksPlays
