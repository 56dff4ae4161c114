/- The law SeenOnce, walked. -/
import Derived.Test.YtboomdjkgheonaaSeen11
import Derived.Test.YtboomdjkgheonaaHSeenTwin
namespace Go.Proofs.Ytboomdjkgheonaa.PSeenPlays
open Go.RowKit Go.Proofs.YtboomdjkgheonaaW.PrintWords Go.Proofs.YtboomdjkgheonaaW.PrintLast Go.Proofs.YtboomdjkgheonaaW.PrintMore
open Go.Proofs.YtboomdjkgheonaaO
attribute [local go_sem] max2_int min2_int max_two min_two max_three min_three max_four min_four
set_option linter.unusedVariables false
set_option linter.unusedSimpArgs false
theorem q4_of {k0 : Nat} (h : k0 + 1 ≤ 16) : decide ((k0 : Int) + 1 > 16) = false ∧ decide (16 < (k0 : Int) + 1) = false := ⟨decide_eq_false (by omega), decide_eq_false (by omega)⟩
theorem four_at (lo : Nat → Int) (n : Nat) (hn : n < 4) : [lo 0, lo 1, lo 2, lo 3][n]? = some (lo n) := by
  rcases (show n = 0 ∨ n = 1 ∨ n = 2 ∨ n = 3 by omega) with rfl | rfl | rfl | rfl <;> rfl
set_option maxHeartbeats 8000000 in
set_option maxRecDepth 100000 in
theorem SeenOnce_great (A : Option Addr) (c : Nat) (l : List S39) (w : World) (hr : Kd.C k39 w A l.length l) (hc : l.length ≤ c) (hg : l.length > 300) :
    Calls Try.prog 4 #[.slice A l.length c] w fun e w' => e = .returned (.bool true) ∧ Below w.heap.size w w' := by
  have HPRE := Aside0.mk (Own.nil w)
  have d1 : decide ((l.length : Int) > 300) = true := decide_eq_true (by omega)
  have d2 : decide (300 < (l.length : Int)) = true := decide_eq_true (by omega)
  clear hr hc hg
  go_enter Try.func4, Try.ntmps4
  go_wp2_with ((go_at_call 13; ((with_reducible refine (wakes_calls _).mono ?_)); rintro e w99 ⟨rfl, hb⟩; have HW := Aside0.mk (HPRE.out.below hb); clear hb))
  go_ret
  exact ⟨rfl, HW.out.bel⟩
set_option maxHeartbeats 8000000 in
set_option maxRecDepth 100000 in
theorem SeenOnce_small (A : Option Addr) (c : Nat) (l : List S39) (w : World) (hr : Kd.C k39 w A l.length l) (hc : l.length ≤ c) (hl : l.length ≤ 300) (hq : ∀ x ∈ l, Q39 x) :
    Calls Try.prog 4 #[.slice A l.length c] w fun e w' => e = .returned (.bool true) ∧ Below w.heap.size w w' := by
  have HR := Aside0.mk hr
  have HQ := Aside0.mk hq
  have H0 := Aside0.mk (Own.nil w)
  have d1 : decide ((l.length : Int) > 300) = false := decide_eq_false (by omega)
  have d2 : decide (300 < (l.length : Int)) = false := decide_eq_false (by omega)
  have hmm := @run_makeMap Try.prog
  clear hr hc hq
  go_enter Try.func4, Try.ntmps4
  go_wp2_with (go_at_call 8; ((with_reducible refine (SeenNew H0.out).mono ?_)); rintro e w1 ⟨g, rfl, h⟩; have H1 := Aside0.mk h; clear h)
  have h2 := rd_lit [1, 1, 1, 1] ((arr_new H1.out).alloc (.cells #[.int .i64 1, .int .i64 1, .int .i64 1, .int .i64 1] 3))
  simp only [alloc_size] at h2
  obtain ⟨bc, hbc⟩ : ∃ bc, bc = w1.heap.size := ⟨_, rfl⟩
  rw [← hbc] at h2 ⊢
  have H2 : Aside0 (Own w _ [SeenA g 0 (fun _ => 1) (fun _ _ => none), ArrM bc 0 (fun _ _ => 0), RdI (some ⟨bc + 1, 0, none⟩) [1, 1, 1, 1]]) := ⟨h2.pick [2, 1, 0]⟩
  clear h2 hbc hmm
  rename World => wo
  go_loopw [5, 6] (fun v5 v6 wr => ∃ (i : Nat) (A : Option Addr) (c : Nat) (lo : Nat → Int) (co : Nat → Int → Option Int) (cd : Int → Int → Int), i ≤ l.length ∧ v6 = .int .i64 i ∧ v5 = .slice A 4 c ∧ Aside0 (TOk lo co) ∧ Aside0 (CodesOk lo co cd) ∧ Aside0 (Own w wr [SeenA g i lo co, ArrM bc i cd, RdI A [lo 0, lo 1, lo 2, lo 3]])) (fun _ v6 _ => l.length - (RowKit.intOf v6).toNat)
  case atStart => exact ⟨0, some ⟨bc + 1, 0, none⟩, 4, (fun _ => 1), (fun _ _ => none), (fun _ _ => 0), Nat.zero_le _, rfl, rfl, ⟨tok_new⟩, ⟨codes_new⟩, H2⟩
  case round =>
    obtain ⟨i, A1, c1, lo, co, cd, hi, rfl, rfl, HTOK, HCD, HO⟩ := hrel
    by_cases hlt : i < l.length
    · have hgx := List.getElem?_eq_getElem hlt
      obtain ⟨x, hx⟩ : ∃ x, l[i] = x := ⟨_, rfl⟩
      rw [hx] at hgx
      have hq := HQ.out x (List.mem_of_getElem? hgx)
      obtain ⟨f0, f1, f2, f3, f4⟩ := x
      have HW1 : Aside0 (wfI f1) := ⟨hq.2.1⟩
      have HW2 : Aside0 (wfI f2) := ⟨hq.2.2.1⟩
      have HW4 : Aside0 (wfI f4) := ⟨hq.2.2.2.2⟩
      rcases A with _ | ad
      · exact absurd (HR.out.2.2 (by omega)) (by rintro ⟨_, h, _⟩; cases h)
      obtain ⟨a0, a1, a2, a3, a4⟩ := act_at HR.out HO.out.bel i hlt f0 f1 f2 f3 f4 hgx
      have HI8 := Aside0.mk (show i < 1000000000 by omega)
      have h2 := (HO.out.alloc (.cells #[.bool f0, .int .i64 f1, .int .i64 f2, .int .i64 f3, .int .i64 f4] 39)).alloc (.cells #[.int .i64 f1, .int .i64 f2] 40)
      simp only [alloc_size] at h2
      clear hgx hx hq
      -- up to the first call
      go_wp2_with (go_at_call 9; done)
      obtain ⟨W, hW⟩ : ∃ W, W = (wr.alloc (.cells #[.bool f0, .int .i64 f1, .int .i64 f2, .int .i64 f3, .int .i64 f4] 39)).alloc (.cells #[.int .i64 f1, .int .i64 f2] 40) := ⟨_, rfl⟩
      rw [← hW] at h2 ⊢
      obtain ⟨k8, hk8⟩ : ∃ k8, k8 = wr.heap.size + 1 := ⟨_, rfl⟩
      rw [← hk8] at h2 ⊢
      obtain ⟨k7, hk7⟩ : ∃ k7, k7 = wr.heap.size := ⟨_, rfl⟩
      rw [← hk7] at h2 ⊢
      have H2 := Aside0.mk h2
      have x0 : W.cell? ⟨k7, 0, none⟩ = some (.bool f0) := (blk_cell h2.at1 0).trans rfl
      have x1 : W.cell? ⟨k7, 1, none⟩ = some (.int .i64 f1) := (blk_cell h2.at1 1).trans rfl
      have x2 : W.cell? ⟨k7, 2, none⟩ = some (.int .i64 f2) := (blk_cell h2.at1 2).trans rfl
      have x3 : W.cell? ⟨k7, 3, none⟩ = some (.int .i64 f3) := (blk_cell h2.at1 3).trans rfl
      have x4 : W.cell? ⟨k7, 4, none⟩ = some (.int .i64 f4) := (blk_cell h2.at1 4).trans rfl
      have u0 : W.cell? ⟨k8, 0, none⟩ = some (.int .i64 f1) := (blk_cell h2.at0 0).trans rfl
      have u1 : W.cell? ⟨k8, 1, none⟩ = some (.int .i64 f2) := (blk_cell h2.at0 1).trans rfl
      clear h2 hW hk8 hk7 a0 a1 a2 a3 a4
      obtain ⟨hst, _⟩ := askR_st lo co f1 f2 f3
      obtain ⟨st, cv, hae⟩ : ∃ st cv, askR lo co f1 f2 f3 = (st, cv) := ⟨_, _, rfl⟩
      by_cases hne : noteE lo co f1 f2 f3 f4 = 0
      · have h3 := (note_zero hne).2.2
        rw [hae] at h3
        obtain rfl : st = 3 := h3
        clear hst
        have hlk : (Instr.lookup 37 (.map (some bc)) (.agg #[.int .i64 f1, .int .i64 f2]) false).run Try.prog W = .ok (.int .i64 0) W := by have := arr_look H2.out.r3 f1 f2 HW1.out HW2.out; rwa [codes_fresh HCD.out (by rw [hae])] at this
        have HAE := Aside0.mk hae
        have HNE := Aside0.mk hne
        have HTOK2 : Aside0 (TOk (upLo lo f1.toNat f3) (upCo lo co f1.toNat f2 f3 f4)) := ⟨by
          have := tok_note HTOK.out f1 f2 f3 f4
          unfold noteLo noteCo at this
          rwa [if_pos hne, if_pos hne] at this⟩
        have HCD2 := Aside0.mk (codes_step HCD.out hne)
        have HUP : Aside0 (∀ n : Nat, lo n ≤ upLo lo f1.toNat f3 n) := ⟨fun n => by
          have := low_up (lo := lo) (co := co) f1 f2 f3 f4 n
          unfold noteLo at this
          rwa [if_pos hne] at this⟩
        clear hae
        go_wp2_with (first
          | (go_at_call 9; ((with_reducible refine (SeenAskE H2.out.r2 f1 f2 f3 HW2.out 3 cv HAE.out).mono ?_)); rintro e w5 ⟨rfl, rfl⟩)
          | (go_at_call 10; ((with_reducible refine (SeenNote H2.out.r2 f1 f2 f3 f4 HW2.out HW4.out HI8.out).mono ?_)); rintro e w6 ⟨rfl, h⟩; rw [HNE.out]; unfold noteLo noteCo at h; rw [if_pos HNE.out, if_pos HNE.out] at h; have H6 := Aside0.mk h; obtain ⟨w7, hrun7, h7⟩ := arr_put h.r3 f1 f2 f4 HW1.out HW2.out HW4.out HI8.out; have H7 := Aside0.mk h7; have v0 : w6.cell? ⟨k8, 0, none⟩ = some (.int .i64 f1) := (blk_cell h.at1 0).trans rfl; have v1 : w6.cell? ⟨k8, 1, none⟩ = some (.int .i64 f2) := (blk_cell h.at1 1).trans rfl; have v4 : w6.cell? ⟨k7, 4, none⟩ = some (.int .i64 f4) := (blk_cell h.at2 4).trans rfl; clear h h7))
        have HR0 : Aside0 (Own w w7 [SeenA g (i + 1) (upLo lo f1.toNat f3) (upCo lo co f1.toNat f2 f3 f4), ArrM bc (i + 1) (upd2 cd f1 f2 f4), RdI A1 [lo 0, lo 1, lo 2, lo 3]]) := ⟨H7.out.pick [1, 0, 4]⟩
        obtain ⟨lo2, hlo2⟩ : ∃ lo2, lo2 = upLo lo f1.toNat f3 := ⟨_, rfl⟩
        obtain ⟨co2, hco2⟩ : ∃ co2, co2 = upCo lo co f1.toNat f2 f3 f4 := ⟨_, rfl⟩
        obtain ⟨cd2, hcd2⟩ : ∃ cd2, cd2 = upd2 cd f1 f2 f4 := ⟨_, rfl⟩
        rw [← hlo2, ← hco2] at HR0 HTOK2 HCD2
        rw [← hlo2] at HUP
        rw [← hcd2] at HR0 HCD2
        clear hlo2 hco2 hcd2 hrun7 v0 v1 v4 x0 x1 x2 x3 x4 u0 u1 hlk hne
        go_wp2_with (go_at_call 11; ((with_reducible refine (SeenLows HR0.out).mono ?_)); rintro e w20 ⟨A2, c2, rfl, h⟩; have HR1 := Aside0.mk (rd_row h (by show 0 < 4; omega)); clear h)
        go_loopw [12] (fun v12 wr => ∃ n : Nat, n ≤ 4 ∧ v12 = .int .i64 n ∧ Aside0 (Own w wr [RdI A2 [lo2 0, lo2 1, lo2 2, lo2 3], SeenA g (i + 1) lo2 co2, ArrM bc (i + 1) cd2, RdI A1 [lo 0, lo 1, lo 2, lo 3]])) (fun v12 _ => 4 - (RowKit.intOf v12).toNat)
        case atStart => exact ⟨0, by decide, rfl, HR1⟩
        case round =>
          obtain ⟨n, hn, rfl, HO3⟩ := hrel
          by_cases hn4 : n < 4
          · obtain ⟨ad2, rfl, y2⟩ := rd_at HO3.out
            obtain ⟨ad1, rfl, y1⟩ := rd_at HO3.out.r3
            replace y2 := y2 n _ (four_at lo2 n hn4)
            replace y1 := y1 n _ (four_at lo n hn4)
            have hup := HUP.out n
            have q0 : decide (lo2 n < lo n) = false := decide_eq_false (by omega)
            have q1 : (n : Int) < 4 := by omega
            clear hup
            go_wp2
            go_quiet (fail)
            go_wp2
            go_roundw
            case rel => exact ⟨n + 1, by omega, by first | rfl | go_num, ⟨HO3.out.drewN _⟩⟩
            case measure => first | (simp [RowKit.intOf]; done) | (simp [RowKit.intOf]; omega)
          · obtain rfl : n = 4 := by omega
            clear hn4 hn
            obtain ⟨Ms, hMs, hms⟩ := seen_keys HO3.out.r1
            have HMS := Aside0.mk hMs
            have HI9 := Aside0.mk (show i + 1 ≤ 1000000000 by omega)
            have HCO := Aside0.mk (fun x hx => allP_co hMs x hx)
            have HSN := Aside0.mk (fun j => srcN_le HTOK2.out hMs j)
            obtain ⟨L, hL⟩ : ∃ L, allP co2 Ms 4 = L := ⟨_, rfl⟩
            rw [hL] at hms HCO HSN
            have HL := Aside0.mk hL
            have hmm := @run_makeMap Try.prog
            clear hMs hL
            go_wp2_with (go_at_call 14; ((with_reducible refine (SeenAll HO3.out.r1 HI9.out Ms HMS.out).mono ?_)); rintro e w21 ⟨A3, c3, rfl, h⟩; rw [HL.out] at h; rw [HL.out]; have HR2 := Aside0.mk h; clear h)
            have HR3 := Aside0.mk ((int_new HR2.out).pick [0, 1, 2, 3, 4])
            obtain ⟨bm, hbm⟩ : ∃ bm, bm = w21.heap.size := ⟨_, rfl⟩
            rw [← hbm] at HR3 ⊢
            clear hbm hmm
            rename World => wo3
            go_loopw [15] (fun v15 wr => ∃ (n : Nat) (mm : Int → Option Int), n ≤ L.length ∧ v15 = .int .i64 n ∧ Aside0 (cntI L n mm) ∧ Aside0 (Own w wr [IntM bm n mm, Row k33 33 (.slice A3 L.length c3) L, SeenA g (i + 1) lo2 co2, RdI A2 [lo2 0, lo2 1, lo2 2, lo2 3], ArrM bc (i + 1) cd2])) (fun v15 _ => L.length - (RowKit.intOf v15).toNat)
            case atStart => exact ⟨0, _, Nat.zero_le _, rfl, ⟨fun j => by simp [srcN]⟩, HR3⟩
            case round =>
              obtain ⟨n, mm, hn, rfl, HCI, HO4⟩ := hrel
              by_cases hnl : n < L.length
              · have hgy := List.getElem?_eq_getElem hnl
                obtain ⟨y, hy⟩ : ∃ y, L[n] = y := ⟨_, rfl⟩
                rw [hy] at hgy
                obtain ⟨x0, x1, x2⟩ := y
                obtain ⟨j, hj4, hj, hjc⟩ := HCO.out _ (List.mem_of_getElem? hgy)
                simp only at hj hjc
                have hlw := HTOK2.out.low j hj4
                have hcd := HTOK2.out.cod j hj4 _ _ hjc
                have hcc := HCD2.out.has j hj4 _ _ hjc
                have hsn := HSN.out x0
                have hst := srcN_take L n _ hgy
                have hsb := srcN_sub L (n + 1) x0
                have hcnt := HCI.out x0
                have hst0 := hst x0
                rw [if_pos rfl] at hst0
                obtain ⟨k0, hk0⟩ : ∃ k0, srcN (L.take n) x0 = k0 := ⟨_, rfl⟩
                rw [hk0] at hst0 hcnt
                have hk16 : k0 + 1 ≤ 16 := by omega
                have hjn : x0.toNat = j := by omega
                rw [← hj] at hcc
                rw [← hjn] at hlw hcd
                have hw0 : wfI x0 := wfi (by omega) (by omega)
                have hw1 : wfI x1 := wfi (by omega) (by omega)
                have hwk : wfI ((k0 : Int) + 1) := wfi (by omega) (by omega)
                obtain ⟨ad3, rfl, z0, z1, z2⟩ := own_entry_at HO4.out.r1 n x0 x1 x2 hgy
                obtain ⟨ad2, rfl, y2⟩ := rd_at HO4.out.r3
                clear y2
                have hlk1 := int_look (HO4.out.alloc (.cells #[.int .i64 x0, .int .i64 x1, .int .i64 x2] 33)).r1 x0 hw0
                rw [hcnt] at hlk1
                obtain ⟨w30, hrun, h30⟩ := int_put (HO4.out.alloc (.cells #[.int .i64 x0, .int .i64 x1, .int .i64 x2] 33)).r1 x0 ((k0 : Int) + 1) hw0 hwk (by omega)
                have hwr : wrap64 ((k0 : Int) + 1) = (k0 : Int) + 1 := by unfold wrap64; omega
                have HEND := Aside0.mk (h30.r1.tail)
                have HCI2 : Aside0 (cntI L (n + 1) (updI mm x0 ((k0 : Int) + 1))) := ⟨fun j => by
                  rw [hst j]
                  unfold updI
                  by_cases e : j = x0
                  · subst e; rw [if_pos rfl, if_pos rfl, hk0]; rfl
                  · rw [if_neg e, if_neg (fun q => e q.symm), HCI.out j]; rfl⟩
                have b0 : w30.cell? ⟨wr.heap.size, 0, none⟩ = some (.int .i64 x0) := (blk_cell h30.at1 0).trans rfl
                have b1 : w30.cell? ⟨wr.heap.size, 1, none⟩ = some (.int .i64 x1) := (blk_cell h30.at1 1).trans rfl
                have b2 : w30.cell? ⟨wr.heap.size, 2, none⟩ = some (.int .i64 x2) := (blk_cell h30.at1 2).trans rfl
                obtain ⟨ad9, e9, y3⟩ := rd_at h30.r4
                cases e9
                replace y3 := y3 x0.toNat _ (four_at lo2 x0.toNat (by omega))
                have hlkm : ∀ m : Nat, (Instr.lookup 42 (.map (some bm)) (.int .i64 x0) false).run Try.prog (w30.drewN m) = .ok (.int .i64 ((k0 : Int) + 1)) (w30.drewN m) := fun m => by
                  have := int_look (h30.drewN m) x0 hw0
                  rwa [show (updI mm x0 ((k0 : Int) + 1) x0).getD 0 = (k0 : Int) + 1 by unfold updI; rw [if_pos rfl]; rfl] at this
                have hlka : ∀ m : Nat, (Instr.lookup 37 (.map (some bc)) (.agg #[.int .i64 x0, .int .i64 x1]) false).run Try.prog (w30.drewN m) = .ok (.int .i64 x2) (w30.drewN m) := fun m => by
                  have := arr_look (h30.drewN m).r5 x0 x1 hw0 hw1
                  rwa [hcc] at this
                have q0 : decide (x0 < 0) = false := decide_eq_false (by omega)
                have q1 : decide (x0 ≥ 4) = false := decide_eq_false (by omega)
                have q1b : decide (4 ≤ x0) = false := decide_eq_false (by omega)
                have q2 : decide (x1 < lo2 x0.toNat) = false := decide_eq_false (by omega)
                have q3 : decide (x1 - lo2 x0.toNat ≥ 16) = false := decide_eq_false (by omega)
                have q3b : decide (16 ≤ x1 - lo2 x0.toNat) = false := decide_eq_false (by omega)
                obtain ⟨q4, q4b⟩ := q4_of hk16
                have q5 : wrap64 (x1 - lo2 x0.toNat) = x1 - lo2 x0.toNat := by unfold wrap64; omega
                have q6 : 0 ≤ x0 := by omega
                have q7 : x0 < 4 := by omega
                have hnn : (n : Int) < (L.length : Int) := by omega
                have hLb : L.length ≤ 10000 := by omega
                clear hgy hy hj hjc hlw hcd hcc hsn hst hsb hcnt hst0 hk0 hk16 hjn hw0 hw1 hwk h30 hms
                go_wp2
                go_quiet (fail)
                go_wp2
                go_roundw
                case rel => exact ⟨n + 1, _, by omega, by first | rfl | go_num, HCI2, ⟨(HEND.out.drewN _)⟩⟩
                case measure => first | (simp [RowKit.intOf]; done) | (simp [RowKit.intOf]; omega)
              · obtain rfl : n = L.length := by omega
                clear hnl
                go_wp2
                go_roundw
                case rel => exact ⟨i + 1, A2, c2, lo2, co2, cd2, by omega, by first | rfl | go_num, rfl, HTOK2, HCD2, ⟨HO4.out.pick [2, 4, 3]⟩⟩
                case measure => first | (simp [RowKit.intOf]; done) | (simp [RowKit.intOf]; omega)
      · by_cases s3 : st = 3
        · subst s3
          clear hst
          have hlk : (Instr.lookup 37 (.map (some bc)) (.agg #[.int .i64 f1, .int .i64 f2]) false).run Try.prog W = .ok (.int .i64 0) W := by have := arr_look H2.out.r3 f1 f2 HW1.out HW2.out; rwa [codes_fresh HCD.out (by rw [hae])] at this
          have HAE := Aside0.mk hae
          obtain ⟨er, her⟩ : ∃ er, noteE lo co f1 f2 f3 f4 = er := ⟨_, rfl⟩
          have HNE := Aside0.mk her
          have HN0 := Aside0.mk hne
          have e0 : (er == 0) = false := beq_eq_false_iff_ne.2 (by rw [← her]; exact hne)
          clear hae her
          go_wp2_with (first
            | (go_at_call 9; ((with_reducible refine (SeenAskE H2.out.r2 f1 f2 f3 HW2.out 3 cv HAE.out).mono ?_)); rintro e w5 ⟨rfl, rfl⟩)
            | (go_at_call 10; ((with_reducible refine (SeenNote H2.out.r2 f1 f2 f3 f4 HW2.out HW4.out HI8.out).mono ?_)); rintro e w6 ⟨rfl, h⟩; rw [HNE.out]; unfold noteLo noteCo at h; rw [if_neg HN0.out, if_neg HN0.out] at h; have H6 := Aside0.mk h; clear h))
          have HR0 : Aside0 (Own w w6 [SeenA g (i + 1) lo co, ArrM bc (i + 1) cd, RdI A1 [lo 0, lo 1, lo 2, lo 3]]) := ⟨(arr_mono H6.out.r3 (Nat.le_succ i)).pick [1, 0, 4]⟩
          obtain ⟨lo2, hlo2⟩ : ∃ lo2, lo2 = lo := ⟨_, rfl⟩
          obtain ⟨co2, hco2⟩ : ∃ co2, co2 = co := ⟨_, rfl⟩
          obtain ⟨cd2, hcd2⟩ : ∃ cd2, cd2 = cd := ⟨_, rfl⟩
          have HUP : Aside0 (∀ n : Nat, lo n ≤ lo2 n) := ⟨fun n => by rw [hlo2]; exact Int.le_refl _⟩
          have HTOK2 : Aside0 (TOk lo2 co2) := ⟨by rw [hlo2, hco2]; exact HTOK.out⟩
          have HCD2 : Aside0 (CodesOk lo2 co2 cd2) := ⟨by rw [hlo2, hco2, hcd2]; exact HCD.out⟩
          replace HR0 : Aside0 (Own w w6 [SeenA g (i + 1) lo2 co2, ArrM bc (i + 1) cd2, RdI A1 [lo 0, lo 1, lo 2, lo 3]]) := ⟨by rw [hlo2, hco2, hcd2]; exact HR0.out⟩
          clear hlo2 hco2 hcd2 x0 x1 x2 x3 x4 u0 u1 e0 hne hlk
          go_wp2_with (go_at_call 11; ((with_reducible refine (SeenLows HR0.out).mono ?_)); rintro e w20 ⟨A2, c2, rfl, h⟩; have HR1 := Aside0.mk (rd_row h (by show 0 < 4; omega)); clear h)
          go_loopw [12] (fun v12 wr => ∃ n : Nat, n ≤ 4 ∧ v12 = .int .i64 n ∧ Aside0 (Own w wr [RdI A2 [lo2 0, lo2 1, lo2 2, lo2 3], SeenA g (i + 1) lo2 co2, ArrM bc (i + 1) cd2, RdI A1 [lo 0, lo 1, lo 2, lo 3]])) (fun v12 _ => 4 - (RowKit.intOf v12).toNat)
          case atStart => exact ⟨0, by decide, rfl, HR1⟩
          case round =>
            obtain ⟨n, hn, rfl, HO3⟩ := hrel
            by_cases hn4 : n < 4
            · obtain ⟨ad2, rfl, y2⟩ := rd_at HO3.out
              obtain ⟨ad1, rfl, y1⟩ := rd_at HO3.out.r3
              replace y2 := y2 n _ (four_at lo2 n hn4)
              replace y1 := y1 n _ (four_at lo n hn4)
              have hup := HUP.out n
              have q0 : decide (lo2 n < lo n) = false := decide_eq_false (by omega)
              have q1 : (n : Int) < 4 := by omega
              clear hup
              go_wp2
              go_quiet (fail)
              go_wp2
              go_roundw
              case rel => exact ⟨n + 1, by omega, by first | rfl | go_num, ⟨HO3.out.drewN _⟩⟩
              case measure => first | (simp [RowKit.intOf]; done) | (simp [RowKit.intOf]; omega)
            · obtain rfl : n = 4 := by omega
              clear hn4 hn
              obtain ⟨Ms, hMs, hms⟩ := seen_keys HO3.out.r1
              have HMS := Aside0.mk hMs
              have HI9 := Aside0.mk (show i + 1 ≤ 1000000000 by omega)
              have HCO := Aside0.mk (fun x hx => allP_co hMs x hx)
              have HSN := Aside0.mk (fun j => srcN_le HTOK2.out hMs j)
              obtain ⟨L, hL⟩ : ∃ L, allP co2 Ms 4 = L := ⟨_, rfl⟩
              rw [hL] at hms HCO HSN
              have HL := Aside0.mk hL
              have hmm := @run_makeMap Try.prog
              clear hMs hL
              go_wp2_with (go_at_call 14; ((with_reducible refine (SeenAll HO3.out.r1 HI9.out Ms HMS.out).mono ?_)); rintro e w21 ⟨A3, c3, rfl, h⟩; rw [HL.out] at h; rw [HL.out]; have HR2 := Aside0.mk h; clear h)
              have HR3 := Aside0.mk ((int_new HR2.out).pick [0, 1, 2, 3, 4])
              obtain ⟨bm, hbm⟩ : ∃ bm, bm = w21.heap.size := ⟨_, rfl⟩
              rw [← hbm] at HR3 ⊢
              clear hbm hmm
              rename World => wo3
              go_loopw [15] (fun v15 wr => ∃ (n : Nat) (mm : Int → Option Int), n ≤ L.length ∧ v15 = .int .i64 n ∧ Aside0 (cntI L n mm) ∧ Aside0 (Own w wr [IntM bm n mm, Row k33 33 (.slice A3 L.length c3) L, SeenA g (i + 1) lo2 co2, RdI A2 [lo2 0, lo2 1, lo2 2, lo2 3], ArrM bc (i + 1) cd2])) (fun v15 _ => L.length - (RowKit.intOf v15).toNat)
              case atStart => exact ⟨0, _, Nat.zero_le _, rfl, ⟨fun j => by simp [srcN]⟩, HR3⟩
              case round =>
                obtain ⟨n, mm, hn, rfl, HCI, HO4⟩ := hrel
                by_cases hnl : n < L.length
                · have hgy := List.getElem?_eq_getElem hnl
                  obtain ⟨y, hy⟩ : ∃ y, L[n] = y := ⟨_, rfl⟩
                  rw [hy] at hgy
                  obtain ⟨x0, x1, x2⟩ := y
                  obtain ⟨j, hj4, hj, hjc⟩ := HCO.out _ (List.mem_of_getElem? hgy)
                  simp only at hj hjc
                  have hlw := HTOK2.out.low j hj4
                  have hcd := HTOK2.out.cod j hj4 _ _ hjc
                  have hcc := HCD2.out.has j hj4 _ _ hjc
                  have hsn := HSN.out x0
                  have hst := srcN_take L n _ hgy
                  have hsb := srcN_sub L (n + 1) x0
                  have hcnt := HCI.out x0
                  have hst0 := hst x0
                  rw [if_pos rfl] at hst0
                  obtain ⟨k0, hk0⟩ : ∃ k0, srcN (L.take n) x0 = k0 := ⟨_, rfl⟩
                  rw [hk0] at hst0 hcnt
                  have hk16 : k0 + 1 ≤ 16 := by omega
                  have hjn : x0.toNat = j := by omega
                  rw [← hj] at hcc
                  rw [← hjn] at hlw hcd
                  have hw0 : wfI x0 := wfi (by omega) (by omega)
                  have hw1 : wfI x1 := wfi (by omega) (by omega)
                  have hwk : wfI ((k0 : Int) + 1) := wfi (by omega) (by omega)
                  obtain ⟨ad3, rfl, z0, z1, z2⟩ := own_entry_at HO4.out.r1 n x0 x1 x2 hgy
                  obtain ⟨ad2, rfl, y2⟩ := rd_at HO4.out.r3
                  clear y2
                  have hlk1 := int_look (HO4.out.alloc (.cells #[.int .i64 x0, .int .i64 x1, .int .i64 x2] 33)).r1 x0 hw0
                  rw [hcnt] at hlk1
                  obtain ⟨w30, hrun, h30⟩ := int_put (HO4.out.alloc (.cells #[.int .i64 x0, .int .i64 x1, .int .i64 x2] 33)).r1 x0 ((k0 : Int) + 1) hw0 hwk (by omega)
                  have hwr : wrap64 ((k0 : Int) + 1) = (k0 : Int) + 1 := by unfold wrap64; omega
                  have HEND := Aside0.mk (h30.r1.tail)
                  have HCI2 : Aside0 (cntI L (n + 1) (updI mm x0 ((k0 : Int) + 1))) := ⟨fun j => by
                    rw [hst j]
                    unfold updI
                    by_cases e : j = x0
                    · subst e; rw [if_pos rfl, if_pos rfl, hk0]; rfl
                    · rw [if_neg e, if_neg (fun q => e q.symm), HCI.out j]; rfl⟩
                  have b0 : w30.cell? ⟨wr.heap.size, 0, none⟩ = some (.int .i64 x0) := (blk_cell h30.at1 0).trans rfl
                  have b1 : w30.cell? ⟨wr.heap.size, 1, none⟩ = some (.int .i64 x1) := (blk_cell h30.at1 1).trans rfl
                  have b2 : w30.cell? ⟨wr.heap.size, 2, none⟩ = some (.int .i64 x2) := (blk_cell h30.at1 2).trans rfl
                  obtain ⟨ad9, e9, y3⟩ := rd_at h30.r4
                  cases e9
                  replace y3 := y3 x0.toNat _ (four_at lo2 x0.toNat (by omega))
                  have hlkm : ∀ m : Nat, (Instr.lookup 42 (.map (some bm)) (.int .i64 x0) false).run Try.prog (w30.drewN m) = .ok (.int .i64 ((k0 : Int) + 1)) (w30.drewN m) := fun m => by
                    have := int_look (h30.drewN m) x0 hw0
                    rwa [show (updI mm x0 ((k0 : Int) + 1) x0).getD 0 = (k0 : Int) + 1 by unfold updI; rw [if_pos rfl]; rfl] at this
                  have hlka : ∀ m : Nat, (Instr.lookup 37 (.map (some bc)) (.agg #[.int .i64 x0, .int .i64 x1]) false).run Try.prog (w30.drewN m) = .ok (.int .i64 x2) (w30.drewN m) := fun m => by
                    have := arr_look (h30.drewN m).r5 x0 x1 hw0 hw1
                    rwa [hcc] at this
                  have q0 : decide (x0 < 0) = false := decide_eq_false (by omega)
                  have q1 : decide (x0 ≥ 4) = false := decide_eq_false (by omega)
                  have q1b : decide (4 ≤ x0) = false := decide_eq_false (by omega)
                  have q2 : decide (x1 < lo2 x0.toNat) = false := decide_eq_false (by omega)
                  have q3 : decide (x1 - lo2 x0.toNat ≥ 16) = false := decide_eq_false (by omega)
                  have q3b : decide (16 ≤ x1 - lo2 x0.toNat) = false := decide_eq_false (by omega)
                  obtain ⟨q4, q4b⟩ := q4_of hk16
                  have q5 : wrap64 (x1 - lo2 x0.toNat) = x1 - lo2 x0.toNat := by unfold wrap64; omega
                  have q6 : 0 ≤ x0 := by omega
                  have q7 : x0 < 4 := by omega
                  have hnn : (n : Int) < (L.length : Int) := by omega
                  have hLb : L.length ≤ 10000 := by omega
                  clear hgy hy hj hjc hlw hcd hcc hsn hst hsb hcnt hst0 hk0 hk16 hjn hw0 hw1 hwk h30 hms
                  go_wp2
                  go_quiet (fail)
                  go_wp2
                  go_roundw
                  case rel => exact ⟨n + 1, _, by omega, by first | rfl | go_num, HCI2, ⟨(HEND.out.drewN _)⟩⟩
                  case measure => first | (simp [RowKit.intOf]; done) | (simp [RowKit.intOf]; omega)
                · obtain rfl : n = L.length := by omega
                  clear hnl
                  go_wp2
                  go_roundw
                  case rel => exact ⟨i + 1, A2, c2, lo2, co2, cd2, by omega, by first | rfl | go_num, rfl, HTOK2, HCD2, ⟨HO4.out.pick [2, 4, 3]⟩⟩
                  case measure => first | (simp [RowKit.intOf]; done) | (simp [RowKit.intOf]; omega)
        · by_cases s2 : st = 2
          · subst s2
            clear hst s3
            have hlk : (Instr.lookup 37 (.map (some bc)) (.agg #[.int .i64 f1, .int .i64 f2]) false).run Try.prog W = .ok (.int .i64 cv) W := by have := arr_look H2.out.r3 f1 f2 HW1.out HW2.out; rwa [codes_known HCD.out hae] at this
            have HAE := Aside0.mk hae
            obtain ⟨er, her⟩ : ∃ er, noteE lo co f1 f2 f3 f4 = er := ⟨_, rfl⟩
            have HNE := Aside0.mk her
            have HN0 := Aside0.mk hne
            have e0 : (er == 0) = false := beq_eq_false_iff_ne.2 (by rw [← her]; exact hne)
            clear hae her
            go_wp2_with (first
              | (go_at_call 9; ((with_reducible refine (SeenAskE H2.out.r2 f1 f2 f3 HW2.out 2 cv HAE.out).mono ?_)); rintro e w5 ⟨rfl, rfl⟩)
              | (go_at_call 10; ((with_reducible refine (SeenNote H2.out.r2 f1 f2 f3 f4 HW2.out HW4.out HI8.out).mono ?_)); rintro e w6 ⟨rfl, h⟩; rw [HNE.out]; unfold noteLo noteCo at h; rw [if_neg HN0.out, if_neg HN0.out] at h; have H6 := Aside0.mk h; clear h))
            have HR0 : Aside0 (Own w w6 [SeenA g (i + 1) lo co, ArrM bc (i + 1) cd, RdI A1 [lo 0, lo 1, lo 2, lo 3]]) := ⟨(arr_mono H6.out.r3 (Nat.le_succ i)).pick [1, 0, 4]⟩
            obtain ⟨lo2, hlo2⟩ : ∃ lo2, lo2 = lo := ⟨_, rfl⟩
            obtain ⟨co2, hco2⟩ : ∃ co2, co2 = co := ⟨_, rfl⟩
            obtain ⟨cd2, hcd2⟩ : ∃ cd2, cd2 = cd := ⟨_, rfl⟩
            have HUP : Aside0 (∀ n : Nat, lo n ≤ lo2 n) := ⟨fun n => by rw [hlo2]; exact Int.le_refl _⟩
            have HTOK2 : Aside0 (TOk lo2 co2) := ⟨by rw [hlo2, hco2]; exact HTOK.out⟩
            have HCD2 : Aside0 (CodesOk lo2 co2 cd2) := ⟨by rw [hlo2, hco2, hcd2]; exact HCD.out⟩
            replace HR0 : Aside0 (Own w w6 [SeenA g (i + 1) lo2 co2, ArrM bc (i + 1) cd2, RdI A1 [lo 0, lo 1, lo 2, lo 3]]) := ⟨by rw [hlo2, hco2, hcd2]; exact HR0.out⟩
            clear hlo2 hco2 hcd2 x0 x1 x2 x3 x4 u0 u1 e0 hne hlk
            go_wp2_with (go_at_call 11; ((with_reducible refine (SeenLows HR0.out).mono ?_)); rintro e w20 ⟨A2, c2, rfl, h⟩; have HR1 := Aside0.mk (rd_row h (by show 0 < 4; omega)); clear h)
            go_loopw [12] (fun v12 wr => ∃ n : Nat, n ≤ 4 ∧ v12 = .int .i64 n ∧ Aside0 (Own w wr [RdI A2 [lo2 0, lo2 1, lo2 2, lo2 3], SeenA g (i + 1) lo2 co2, ArrM bc (i + 1) cd2, RdI A1 [lo 0, lo 1, lo 2, lo 3]])) (fun v12 _ => 4 - (RowKit.intOf v12).toNat)
            case atStart => exact ⟨0, by decide, rfl, HR1⟩
            case round =>
              obtain ⟨n, hn, rfl, HO3⟩ := hrel
              by_cases hn4 : n < 4
              · obtain ⟨ad2, rfl, y2⟩ := rd_at HO3.out
                obtain ⟨ad1, rfl, y1⟩ := rd_at HO3.out.r3
                replace y2 := y2 n _ (four_at lo2 n hn4)
                replace y1 := y1 n _ (four_at lo n hn4)
                have hup := HUP.out n
                have q0 : decide (lo2 n < lo n) = false := decide_eq_false (by omega)
                have q1 : (n : Int) < 4 := by omega
                clear hup
                go_wp2
                go_quiet (fail)
                go_wp2
                go_roundw
                case rel => exact ⟨n + 1, by omega, by first | rfl | go_num, ⟨HO3.out.drewN _⟩⟩
                case measure => first | (simp [RowKit.intOf]; done) | (simp [RowKit.intOf]; omega)
              · obtain rfl : n = 4 := by omega
                clear hn4 hn
                obtain ⟨Ms, hMs, hms⟩ := seen_keys HO3.out.r1
                have HMS := Aside0.mk hMs
                have HI9 := Aside0.mk (show i + 1 ≤ 1000000000 by omega)
                have HCO := Aside0.mk (fun x hx => allP_co hMs x hx)
                have HSN := Aside0.mk (fun j => srcN_le HTOK2.out hMs j)
                obtain ⟨L, hL⟩ : ∃ L, allP co2 Ms 4 = L := ⟨_, rfl⟩
                rw [hL] at hms HCO HSN
                have HL := Aside0.mk hL
                have hmm := @run_makeMap Try.prog
                clear hMs hL
                go_wp2_with (go_at_call 14; ((with_reducible refine (SeenAll HO3.out.r1 HI9.out Ms HMS.out).mono ?_)); rintro e w21 ⟨A3, c3, rfl, h⟩; rw [HL.out] at h; rw [HL.out]; have HR2 := Aside0.mk h; clear h)
                have HR3 := Aside0.mk ((int_new HR2.out).pick [0, 1, 2, 3, 4])
                obtain ⟨bm, hbm⟩ : ∃ bm, bm = w21.heap.size := ⟨_, rfl⟩
                rw [← hbm] at HR3 ⊢
                clear hbm hmm
                rename World => wo3
                go_loopw [15] (fun v15 wr => ∃ (n : Nat) (mm : Int → Option Int), n ≤ L.length ∧ v15 = .int .i64 n ∧ Aside0 (cntI L n mm) ∧ Aside0 (Own w wr [IntM bm n mm, Row k33 33 (.slice A3 L.length c3) L, SeenA g (i + 1) lo2 co2, RdI A2 [lo2 0, lo2 1, lo2 2, lo2 3], ArrM bc (i + 1) cd2])) (fun v15 _ => L.length - (RowKit.intOf v15).toNat)
                case atStart => exact ⟨0, _, Nat.zero_le _, rfl, ⟨fun j => by simp [srcN]⟩, HR3⟩
                case round =>
                  obtain ⟨n, mm, hn, rfl, HCI, HO4⟩ := hrel
                  by_cases hnl : n < L.length
                  · have hgy := List.getElem?_eq_getElem hnl
                    obtain ⟨y, hy⟩ : ∃ y, L[n] = y := ⟨_, rfl⟩
                    rw [hy] at hgy
                    obtain ⟨x0, x1, x2⟩ := y
                    obtain ⟨j, hj4, hj, hjc⟩ := HCO.out _ (List.mem_of_getElem? hgy)
                    simp only at hj hjc
                    have hlw := HTOK2.out.low j hj4
                    have hcd := HTOK2.out.cod j hj4 _ _ hjc
                    have hcc := HCD2.out.has j hj4 _ _ hjc
                    have hsn := HSN.out x0
                    have hst := srcN_take L n _ hgy
                    have hsb := srcN_sub L (n + 1) x0
                    have hcnt := HCI.out x0
                    have hst0 := hst x0
                    rw [if_pos rfl] at hst0
                    obtain ⟨k0, hk0⟩ : ∃ k0, srcN (L.take n) x0 = k0 := ⟨_, rfl⟩
                    rw [hk0] at hst0 hcnt
                    have hk16 : k0 + 1 ≤ 16 := by omega
                    have hjn : x0.toNat = j := by omega
                    rw [← hj] at hcc
                    rw [← hjn] at hlw hcd
                    have hw0 : wfI x0 := wfi (by omega) (by omega)
                    have hw1 : wfI x1 := wfi (by omega) (by omega)
                    have hwk : wfI ((k0 : Int) + 1) := wfi (by omega) (by omega)
                    obtain ⟨ad3, rfl, z0, z1, z2⟩ := own_entry_at HO4.out.r1 n x0 x1 x2 hgy
                    obtain ⟨ad2, rfl, y2⟩ := rd_at HO4.out.r3
                    clear y2
                    have hlk1 := int_look (HO4.out.alloc (.cells #[.int .i64 x0, .int .i64 x1, .int .i64 x2] 33)).r1 x0 hw0
                    rw [hcnt] at hlk1
                    obtain ⟨w30, hrun, h30⟩ := int_put (HO4.out.alloc (.cells #[.int .i64 x0, .int .i64 x1, .int .i64 x2] 33)).r1 x0 ((k0 : Int) + 1) hw0 hwk (by omega)
                    have hwr : wrap64 ((k0 : Int) + 1) = (k0 : Int) + 1 := by unfold wrap64; omega
                    have HEND := Aside0.mk (h30.r1.tail)
                    have HCI2 : Aside0 (cntI L (n + 1) (updI mm x0 ((k0 : Int) + 1))) := ⟨fun j => by
                      rw [hst j]
                      unfold updI
                      by_cases e : j = x0
                      · subst e; rw [if_pos rfl, if_pos rfl, hk0]; rfl
                      · rw [if_neg e, if_neg (fun q => e q.symm), HCI.out j]; rfl⟩
                    have b0 : w30.cell? ⟨wr.heap.size, 0, none⟩ = some (.int .i64 x0) := (blk_cell h30.at1 0).trans rfl
                    have b1 : w30.cell? ⟨wr.heap.size, 1, none⟩ = some (.int .i64 x1) := (blk_cell h30.at1 1).trans rfl
                    have b2 : w30.cell? ⟨wr.heap.size, 2, none⟩ = some (.int .i64 x2) := (blk_cell h30.at1 2).trans rfl
                    obtain ⟨ad9, e9, y3⟩ := rd_at h30.r4
                    cases e9
                    replace y3 := y3 x0.toNat _ (four_at lo2 x0.toNat (by omega))
                    have hlkm : ∀ m : Nat, (Instr.lookup 42 (.map (some bm)) (.int .i64 x0) false).run Try.prog (w30.drewN m) = .ok (.int .i64 ((k0 : Int) + 1)) (w30.drewN m) := fun m => by
                      have := int_look (h30.drewN m) x0 hw0
                      rwa [show (updI mm x0 ((k0 : Int) + 1) x0).getD 0 = (k0 : Int) + 1 by unfold updI; rw [if_pos rfl]; rfl] at this
                    have hlka : ∀ m : Nat, (Instr.lookup 37 (.map (some bc)) (.agg #[.int .i64 x0, .int .i64 x1]) false).run Try.prog (w30.drewN m) = .ok (.int .i64 x2) (w30.drewN m) := fun m => by
                      have := arr_look (h30.drewN m).r5 x0 x1 hw0 hw1
                      rwa [hcc] at this
                    have q0 : decide (x0 < 0) = false := decide_eq_false (by omega)
                    have q1 : decide (x0 ≥ 4) = false := decide_eq_false (by omega)
                    have q1b : decide (4 ≤ x0) = false := decide_eq_false (by omega)
                    have q2 : decide (x1 < lo2 x0.toNat) = false := decide_eq_false (by omega)
                    have q3 : decide (x1 - lo2 x0.toNat ≥ 16) = false := decide_eq_false (by omega)
                    have q3b : decide (16 ≤ x1 - lo2 x0.toNat) = false := decide_eq_false (by omega)
                    obtain ⟨q4, q4b⟩ := q4_of hk16
                    have q5 : wrap64 (x1 - lo2 x0.toNat) = x1 - lo2 x0.toNat := by unfold wrap64; omega
                    have q6 : 0 ≤ x0 := by omega
                    have q7 : x0 < 4 := by omega
                    have hnn : (n : Int) < (L.length : Int) := by omega
                    have hLb : L.length ≤ 10000 := by omega
                    clear hgy hy hj hjc hlw hcd hcc hsn hst hsb hcnt hst0 hk0 hk16 hjn hw0 hw1 hwk h30 hms
                    go_wp2
                    go_quiet (fail)
                    go_wp2
                    go_roundw
                    case rel => exact ⟨n + 1, _, by omega, by first | rfl | go_num, HCI2, ⟨(HEND.out.drewN _)⟩⟩
                    case measure => first | (simp [RowKit.intOf]; done) | (simp [RowKit.intOf]; omega)
                  · obtain rfl : n = L.length := by omega
                    clear hnl
                    go_wp2
                    go_roundw
                    case rel => exact ⟨i + 1, A2, c2, lo2, co2, cd2, by omega, by first | rfl | go_num, rfl, HTOK2, HCD2, ⟨HO4.out.pick [2, 4, 3]⟩⟩
                    case measure => first | (simp [RowKit.intOf]; done) | (simp [RowKit.intOf]; omega)
          · replace s3 : (st == 3) = false := beq_eq_false_iff_ne.2 s3
            replace s2 : (st == 2) = false := beq_eq_false_iff_ne.2 s2
            clear hst
            have HAE := Aside0.mk hae
            obtain ⟨er, her⟩ : ∃ er, noteE lo co f1 f2 f3 f4 = er := ⟨_, rfl⟩
            have HNE := Aside0.mk her
            have HN0 := Aside0.mk hne
            have e0 : (er == 0) = false := beq_eq_false_iff_ne.2 (by rw [← her]; exact hne)
            clear hae her
            go_wp2_with (first
              | (go_at_call 9; ((with_reducible refine (SeenAskE H2.out.r2 f1 f2 f3 HW2.out st cv HAE.out).mono ?_)); rintro e w5 ⟨rfl, rfl⟩)
              | (go_at_call 10; ((with_reducible refine (SeenNote H2.out.r2 f1 f2 f3 f4 HW2.out HW4.out HI8.out).mono ?_)); rintro e w6 ⟨rfl, h⟩; rw [HNE.out]; unfold noteLo noteCo at h; rw [if_neg HN0.out, if_neg HN0.out] at h; have H6 := Aside0.mk h; clear h))
            have HR0 : Aside0 (Own w w6 [SeenA g (i + 1) lo co, ArrM bc (i + 1) cd, RdI A1 [lo 0, lo 1, lo 2, lo 3]]) := ⟨(arr_mono H6.out.r3 (Nat.le_succ i)).pick [1, 0, 4]⟩
            obtain ⟨lo2, hlo2⟩ : ∃ lo2, lo2 = lo := ⟨_, rfl⟩
            obtain ⟨co2, hco2⟩ : ∃ co2, co2 = co := ⟨_, rfl⟩
            obtain ⟨cd2, hcd2⟩ : ∃ cd2, cd2 = cd := ⟨_, rfl⟩
            have HUP : Aside0 (∀ n : Nat, lo n ≤ lo2 n) := ⟨fun n => by rw [hlo2]; exact Int.le_refl _⟩
            have HTOK2 : Aside0 (TOk lo2 co2) := ⟨by rw [hlo2, hco2]; exact HTOK.out⟩
            have HCD2 : Aside0 (CodesOk lo2 co2 cd2) := ⟨by rw [hlo2, hco2, hcd2]; exact HCD.out⟩
            replace HR0 : Aside0 (Own w w6 [SeenA g (i + 1) lo2 co2, ArrM bc (i + 1) cd2, RdI A1 [lo 0, lo 1, lo 2, lo 3]]) := ⟨by rw [hlo2, hco2, hcd2]; exact HR0.out⟩
            clear hlo2 hco2 hcd2 x0 x1 x2 x3 x4 u0 u1 e0 hne s3 s2
            go_wp2_with (go_at_call 11; ((with_reducible refine (SeenLows HR0.out).mono ?_)); rintro e w20 ⟨A2, c2, rfl, h⟩; have HR1 := Aside0.mk (rd_row h (by show 0 < 4; omega)); clear h)
            go_loopw [12] (fun v12 wr => ∃ n : Nat, n ≤ 4 ∧ v12 = .int .i64 n ∧ Aside0 (Own w wr [RdI A2 [lo2 0, lo2 1, lo2 2, lo2 3], SeenA g (i + 1) lo2 co2, ArrM bc (i + 1) cd2, RdI A1 [lo 0, lo 1, lo 2, lo 3]])) (fun v12 _ => 4 - (RowKit.intOf v12).toNat)
            case atStart => exact ⟨0, by decide, rfl, HR1⟩
            case round =>
              obtain ⟨n, hn, rfl, HO3⟩ := hrel
              by_cases hn4 : n < 4
              · obtain ⟨ad2, rfl, y2⟩ := rd_at HO3.out
                obtain ⟨ad1, rfl, y1⟩ := rd_at HO3.out.r3
                replace y2 := y2 n _ (four_at lo2 n hn4)
                replace y1 := y1 n _ (four_at lo n hn4)
                have hup := HUP.out n
                have q0 : decide (lo2 n < lo n) = false := decide_eq_false (by omega)
                have q1 : (n : Int) < 4 := by omega
                clear hup
                go_wp2
                go_quiet (fail)
                go_wp2
                go_roundw
                case rel => exact ⟨n + 1, by omega, by first | rfl | go_num, ⟨HO3.out.drewN _⟩⟩
                case measure => first | (simp [RowKit.intOf]; done) | (simp [RowKit.intOf]; omega)
              · obtain rfl : n = 4 := by omega
                clear hn4 hn
                obtain ⟨Ms, hMs, hms⟩ := seen_keys HO3.out.r1
                have HMS := Aside0.mk hMs
                have HI9 := Aside0.mk (show i + 1 ≤ 1000000000 by omega)
                have HCO := Aside0.mk (fun x hx => allP_co hMs x hx)
                have HSN := Aside0.mk (fun j => srcN_le HTOK2.out hMs j)
                obtain ⟨L, hL⟩ : ∃ L, allP co2 Ms 4 = L := ⟨_, rfl⟩
                rw [hL] at hms HCO HSN
                have HL := Aside0.mk hL
                have hmm := @run_makeMap Try.prog
                clear hMs hL
                go_wp2_with (go_at_call 14; ((with_reducible refine (SeenAll HO3.out.r1 HI9.out Ms HMS.out).mono ?_)); rintro e w21 ⟨A3, c3, rfl, h⟩; rw [HL.out] at h; rw [HL.out]; have HR2 := Aside0.mk h; clear h)
                have HR3 := Aside0.mk ((int_new HR2.out).pick [0, 1, 2, 3, 4])
                obtain ⟨bm, hbm⟩ : ∃ bm, bm = w21.heap.size := ⟨_, rfl⟩
                rw [← hbm] at HR3 ⊢
                clear hbm hmm
                rename World => wo3
                go_loopw [15] (fun v15 wr => ∃ (n : Nat) (mm : Int → Option Int), n ≤ L.length ∧ v15 = .int .i64 n ∧ Aside0 (cntI L n mm) ∧ Aside0 (Own w wr [IntM bm n mm, Row k33 33 (.slice A3 L.length c3) L, SeenA g (i + 1) lo2 co2, RdI A2 [lo2 0, lo2 1, lo2 2, lo2 3], ArrM bc (i + 1) cd2])) (fun v15 _ => L.length - (RowKit.intOf v15).toNat)
                case atStart => exact ⟨0, _, Nat.zero_le _, rfl, ⟨fun j => by simp [srcN]⟩, HR3⟩
                case round =>
                  obtain ⟨n, mm, hn, rfl, HCI, HO4⟩ := hrel
                  by_cases hnl : n < L.length
                  · have hgy := List.getElem?_eq_getElem hnl
                    obtain ⟨y, hy⟩ : ∃ y, L[n] = y := ⟨_, rfl⟩
                    rw [hy] at hgy
                    obtain ⟨x0, x1, x2⟩ := y
                    obtain ⟨j, hj4, hj, hjc⟩ := HCO.out _ (List.mem_of_getElem? hgy)
                    simp only at hj hjc
                    have hlw := HTOK2.out.low j hj4
                    have hcd := HTOK2.out.cod j hj4 _ _ hjc
                    have hcc := HCD2.out.has j hj4 _ _ hjc
                    have hsn := HSN.out x0
                    have hst := srcN_take L n _ hgy
                    have hsb := srcN_sub L (n + 1) x0
                    have hcnt := HCI.out x0
                    have hst0 := hst x0
                    rw [if_pos rfl] at hst0
                    obtain ⟨k0, hk0⟩ : ∃ k0, srcN (L.take n) x0 = k0 := ⟨_, rfl⟩
                    rw [hk0] at hst0 hcnt
                    have hk16 : k0 + 1 ≤ 16 := by omega
                    have hjn : x0.toNat = j := by omega
                    rw [← hj] at hcc
                    rw [← hjn] at hlw hcd
                    have hw0 : wfI x0 := wfi (by omega) (by omega)
                    have hw1 : wfI x1 := wfi (by omega) (by omega)
                    have hwk : wfI ((k0 : Int) + 1) := wfi (by omega) (by omega)
                    obtain ⟨ad3, rfl, z0, z1, z2⟩ := own_entry_at HO4.out.r1 n x0 x1 x2 hgy
                    obtain ⟨ad2, rfl, y2⟩ := rd_at HO4.out.r3
                    clear y2
                    have hlk1 := int_look (HO4.out.alloc (.cells #[.int .i64 x0, .int .i64 x1, .int .i64 x2] 33)).r1 x0 hw0
                    rw [hcnt] at hlk1
                    obtain ⟨w30, hrun, h30⟩ := int_put (HO4.out.alloc (.cells #[.int .i64 x0, .int .i64 x1, .int .i64 x2] 33)).r1 x0 ((k0 : Int) + 1) hw0 hwk (by omega)
                    have hwr : wrap64 ((k0 : Int) + 1) = (k0 : Int) + 1 := by unfold wrap64; omega
                    have HEND := Aside0.mk (h30.r1.tail)
                    have HCI2 : Aside0 (cntI L (n + 1) (updI mm x0 ((k0 : Int) + 1))) := ⟨fun j => by
                      rw [hst j]
                      unfold updI
                      by_cases e : j = x0
                      · subst e; rw [if_pos rfl, if_pos rfl, hk0]; rfl
                      · rw [if_neg e, if_neg (fun q => e q.symm), HCI.out j]; rfl⟩
                    have b0 : w30.cell? ⟨wr.heap.size, 0, none⟩ = some (.int .i64 x0) := (blk_cell h30.at1 0).trans rfl
                    have b1 : w30.cell? ⟨wr.heap.size, 1, none⟩ = some (.int .i64 x1) := (blk_cell h30.at1 1).trans rfl
                    have b2 : w30.cell? ⟨wr.heap.size, 2, none⟩ = some (.int .i64 x2) := (blk_cell h30.at1 2).trans rfl
                    obtain ⟨ad9, e9, y3⟩ := rd_at h30.r4
                    cases e9
                    replace y3 := y3 x0.toNat _ (four_at lo2 x0.toNat (by omega))
                    have hlkm : ∀ m : Nat, (Instr.lookup 42 (.map (some bm)) (.int .i64 x0) false).run Try.prog (w30.drewN m) = .ok (.int .i64 ((k0 : Int) + 1)) (w30.drewN m) := fun m => by
                      have := int_look (h30.drewN m) x0 hw0
                      rwa [show (updI mm x0 ((k0 : Int) + 1) x0).getD 0 = (k0 : Int) + 1 by unfold updI; rw [if_pos rfl]; rfl] at this
                    have hlka : ∀ m : Nat, (Instr.lookup 37 (.map (some bc)) (.agg #[.int .i64 x0, .int .i64 x1]) false).run Try.prog (w30.drewN m) = .ok (.int .i64 x2) (w30.drewN m) := fun m => by
                      have := arr_look (h30.drewN m).r5 x0 x1 hw0 hw1
                      rwa [hcc] at this
                    have q0 : decide (x0 < 0) = false := decide_eq_false (by omega)
                    have q1 : decide (x0 ≥ 4) = false := decide_eq_false (by omega)
                    have q1b : decide (4 ≤ x0) = false := decide_eq_false (by omega)
                    have q2 : decide (x1 < lo2 x0.toNat) = false := decide_eq_false (by omega)
                    have q3 : decide (x1 - lo2 x0.toNat ≥ 16) = false := decide_eq_false (by omega)
                    have q3b : decide (16 ≤ x1 - lo2 x0.toNat) = false := decide_eq_false (by omega)
                    obtain ⟨q4, q4b⟩ := q4_of hk16
                    have q5 : wrap64 (x1 - lo2 x0.toNat) = x1 - lo2 x0.toNat := by unfold wrap64; omega
                    have q6 : 0 ≤ x0 := by omega
                    have q7 : x0 < 4 := by omega
                    have hnn : (n : Int) < (L.length : Int) := by omega
                    have hLb : L.length ≤ 10000 := by omega
                    clear hgy hy hj hjc hlw hcd hcc hsn hst hsb hcnt hst0 hk0 hk16 hjn hw0 hw1 hwk h30 hms
                    go_wp2
                    go_quiet (fail)
                    go_wp2
                    go_roundw
                    case rel => exact ⟨n + 1, _, by omega, by first | rfl | go_num, HCI2, ⟨(HEND.out.drewN _)⟩⟩
                    case measure => first | (simp [RowKit.intOf]; done) | (simp [RowKit.intOf]; omega)
                  · obtain rfl : n = L.length := by omega
                    clear hnl
                    go_wp2
                    go_roundw
                    case rel => exact ⟨i + 1, A2, c2, lo2, co2, cd2, by omega, by first | rfl | go_num, rfl, HTOK2, HCD2, ⟨HO4.out.pick [2, 4, 3]⟩⟩
                    case measure => first | (simp [RowKit.intOf]; done) | (simp [RowKit.intOf]; omega)
    · have hi' : i = l.length := by omega
      clear hlt hi
      go_wp2_with ((go_at_call 13; ((with_reducible refine (wakes_calls _).mono ?_)); rintro e w99 ⟨rfl, hb⟩; have HW := Aside0.mk (HO.out.below hb); clear hb))
      go_ret
      exact ⟨rfl, HW.out.bel⟩
theorem SeenOnce_law (A : Option Addr) (c : Nat) (l : List S39) (w : World) (hr : Kd.C k39 w A l.length l) (hc : l.length ≤ c) (hq : l.length ≤ 9223372036854775807 ∧ ∀ x ∈ l, Q39 x) :
    Calls Try.prog 4 #[.slice A l.length c] w fun e w' => e = .returned (.bool true) ∧ Below w.heap.size w w' := by
  by_cases h1 : l.length > 300
  · exact SeenOnce_great A c l w hr hc h1
  · exact SeenOnce_small A c l w hr hc (by omega) hq.2
end Go.Proofs.Ytboomdjkgheonaa.PSeenPlays
